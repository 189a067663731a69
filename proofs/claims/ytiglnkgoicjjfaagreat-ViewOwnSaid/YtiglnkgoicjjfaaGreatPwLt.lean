import Derived.Test.YtiglnkgoicjjfaaGreatPwLp
set_option linter.all false
namespace Go.PW
open Go.RowKit
theorem Z36{k i:Nat}{es:List (List Zb)}(hk:∀ el,el∈es->el.length=k)(hi:i < es.length):((es.take i).flatten.map PV.t).length=i*k:=by
 rw [List.length_map,Zca (k:=k) (fun el hel=>hk el (List.mem_of_mem_take hel)),List.length_take,Nat.min_eq_left (Nat.le_of_lt hi)]
theorem Zaw5{k i j:Nat}{es:List (List Zb)}{cs:List PV}(hk:∀ el,el∈es->el.length=k)(hi:i < es.length)(hj:j < cs.length):(Zg8 i es cs)[i*k+j]?=cs[j]?:=by
 unfold Zg8
 rw [List.getElem?_append_right (by rw [Z36 hk hi];omega),Z36 hk hi,Nat.add_sub_cancel_left,List.getElem?_append_left hj]
theorem Zaja{k i:Nat}{es:List (List Zb)}{cs:List PV}(hk:∀ el,el∈es->el.length=k)(hi:i < es.length):i*k+cs.length<=(Zg8 i es cs).length:=by
 unfold Zg8
 rw [List.length_append,Z36 hk hi,List.length_append];omega
theorem Zaw6{c:Ctx}{k i:Nat}{es:List (List Zb)}{cs:List PV}{vs:List Value}(hk:∀ el,el∈es->el.length=k)(hi:i < es.length)(h:VRs c (Zg8 i es cs) vs) :
 ∃ us,VRs c cs us/\∀ j v,us[j]?=some v->vs[i*k+j]?=some v:=by
 have hl:=h.length
 have hp:=Zaja (cs:=cs) hk hi
 have hg:∀ j,j < cs.length->((vs.drop (i*k)).take cs.length)[j]?=vs[i*k+j]?:=fun j hj=>by
  rw [List.getElem?_take,if_pos hj,List.getElem?_drop]
 refine⟨(vs.drop (i*k)).take cs.length,VRs.of_get (by simp;omega) (fun j p v hp' hv=>?_),fun j v hv=>?_⟩
 .have hj:=(List.getElem?_eq_some_iff.1 hp').1
  obtain⟨v',h1,h2⟩:=h.get (i*k+j) p ((Zaw5 hk hi hj).trans hp')
  rw [hg j hj,h1] at hv;cases hv;exact h2
 .have hj:j < cs.length:=by have:=(List.getElem?_eq_some_iff.1 hv).1;simp at this;omega
  rwa [hg j hj] at hv
theorem Zaqp{k i off:Nat}{es:List (List Zb)}{cs qs:List PV}(hk:∀ el,el∈es->el.length=k)(hi:i < es.length)(hq:off+qs.length<=cs.length):splice (Zg8 i es cs) (i*k+off) qs=Zg8 i es (splice cs off qs):=by
 have hA:=Z36 hk hi
 unfold Zg8 splice
 rw [List.take_append,hA,List.take_of_length_le (by rw [hA];omega),Nat.add_sub_cancel_left,List.take_append_of_le_length (by omega),
  List.drop_append,hA,List.drop_eq_nil_of_le (by rw [hA];omega),List.nil_append,show i*k+off+qs.length - i*k=off+qs.length by omega,List.drop_append_of_le_length hq]
 simp only [List.append_assoc]
section
variable {P:Program} {o:Oper} {ρ:List (Nat×PV)} {σ:List (Nat×Blk)}
theorem Zau5{s:TypeId}{x:Operand}{f l m q off size k i:Nat}{es:List (List Zb)}{cs:List PV}(ho:o.op = .fieldAddr s x f)(hf:fieldInfo P s f=some (off,size))(hs:size≠0)(hx:Zi ρ x=some (.own l (.pp m q)))
 (hg:get σ l=some (.prow k i es cs)) (hm:es.length=m):Za3 P o ρ σ [l] (.own l (.pp m (q+off))) []:=
 Zb9 fun G β n tm σ' A w hop hneed _=>by
  have h1:=hop x _ (by simp [ho,Op.operands]) hx
  simp only [VR] at h1⊢
  have hgl:get σ' l=some (.prow k i es cs):=(hneed l (by simp)).trans hg
  obtain⟨b,hb,hv⟩:=(h1.1 k i es cs hgl).2 hm.symm
  refine⟨.pointer (some ⟨b,i*k+q+off,none⟩),?_,fun k' i' es' cs' hes'=>?_,rfl⟩
  .simp only [execOp,ho,hv,Sem.run_bind,Zi3 w hf hs,Result.andThen_ok,Sem.run_pure]
  .have:some (Blk.prow k' i' es' cs')=some (.prow k i es cs):=Eq.trans (Eq.symm hes') hgl
   cases this
   exact⟨by omega,fun _=>⟨b,hb,by rw [Nat.add_assoc]⟩⟩
theorem Zamc{x:Operand}{l m q k i:Nat}{es:List (List Zb)}{cs:List PV}(ho:o.op = .nilCheck x)(hx:Zi ρ x=some (.own l (.pp m q)))(hg:get σ l=some (.prow k i es cs))(hm:es.length=m):Za3 P o ρ σ [l] (.own l (.pp m q)) []:=
 Zb9 fun G β n tm σ' A w hop hn _=>by
  have h1:=hop x _ (by simp [ho,Op.operands]) hx
  have h2:=h1
  simp only [VR] at h1
  obtain⟨b,_,hv⟩:=(h1.1 k i es cs ((hn l (by simp)).trans hg)).2 hm.symm
  exact⟨.pointer (some ⟨b,i*k+q,none⟩),by simp [execOp,ho,hv],by rw [<- hv];exact h2⟩
theorem Zaw7{t:TypeId}{x:Operand}{l m q size k i:Nat}{agg:Bool}{es:List (List Zb)}{cs:List PV}{p:PV}(ho:o.op = .load t x)(hT:TyF P t agg size)(hx:Zi ρ x=some (.own l (.pp m q)))(hg:get σ l=some (.prow k i es cs))(hm:es.length=m)
 (hp:Zec agg size q cs=some p):Za3 P o ρ σ [l] p []:=
 Zb9 fun G β n tm σ' A w hop hneed hr=>by
  have e1:=hop x _ (by simp [ho,Op.operands]) hx
  simp only [VR] at e1
  have hgl:get σ' l=some (.prow k i es cs):=(hneed l (by simp)).trans hg
  obtain⟨b,hb,hv⟩:=(e1.1 k i es cs hgl).2 hm.symm
  obtain⟨_,hkl,hi,_,_,b',sz,vs,hb',hrow,hsz,hc,hvs⟩:=hr.blk l _ hgl
  have:b'=b:=by have:=hb'.symm.trans hb;simpa using this
  subst this
  obtain⟨us,h1,h2⟩:=Zaw6 hkl hi hvs
  obtain⟨v,hrun,hpv⟩:=Zkf (q:=i*k) hT w h1 (fun j v hj=>hc _ v (h2 j v hj)) hp
  exact⟨v,by simp only [execOp,ho,hv,Sem.run_bind,hrun,Result.andThen_ok,Sem.run_pure],hpv⟩
theorem Zaw8{σ0:List (Nat×Blk)}{t:TypeId}{x y:Operand}{l m0 off size k i:Nat}{agg:Bool}{es:List (List Zb)}{cs:List PV}{p:PV}(ho:o.op = .store t x y)(hd:o.dst=none)(hT:TyF P t agg size)(hx:Zi ρ x=some (.own l (.pp m0 off)))(hy:Zi ρ y=some p)
 (hg0:get σ0 l=some (.prow k i es cs)) (hm0:es.length=m0) (hs:(Zz p).length=size) (h1:(Zz p).all PV.one=true) (hq:off+size<=cs.length):OpF P o ρ σ0 [l] [l] (.tup []) [(l,.prow k i es (splice cs off (Zz p)))]:=by
 rintro G n tm σ a w K Q hag hneed _ ⟨β,hr⟩ hK
 have hg:get σ l=some (.prow k i es cs):=by rw [hneed l (by simp)];exact hg0
 have hop:∀ x q,x∈o.op.operands->Zi ρ x=some q->VR (ctx G β w σ) q (a.eval x):=fun x q hx hq=>Zh1 hr hq (fun t r ht hr'=>hag t r (ht▸hx) hr')
 have e1:=hop x _ (by simp [ho,Op.operands]) hx
 have e2:=hop y _ (by simp [ho,Op.operands]) hy
 simp only [VR] at e1
 obtain⟨b,hb,hv⟩:=(e1.1 k i es cs hg).2 hm0.symm
 obtain⟨hk0,hkl,hi,hcl,hone,b',sz,vs,hb',hrow,hsz,hc,hvs⟩:=hr.blk l _ hg
 have:b'=b:=by have:=hb'.symm.trans hb;simpa using this
 subst this
 have hik:i*k+k<=sz:=by
  have h2:(i+1)*k<=es.length*k:=Nat.mul_le_mul_right _ hi
  rw [Nat.add_mul,Nat.one_mul] at h2
  omega
 have hrun:=Zhq hT w e2 hs h1 hrow (q:=i*k+off) (by omega)
 have hcells:=e2.cells
 have hul:(a.eval y).cells.toList.length=size:=by rw [hcells.length,hs]
 have hvl:i*k+off+size<=vs.length:=by rw [hvs.length];have:=Zaja (cs:=cs) hkl hi;omega
 obtain⟨hr',hI,hL⟩:=Zkg hr (off:=i*k+off) (blk' := .prow k i es (splice cs off (Zz p))) (a.eval y).cells.toList hg hb (.inr (.inr (.inl ⟨k,i,es,cs,_,rfl,rfl⟩))) (fun hI hL=>by
  refine⟨hk0,hkl,hi,by rw [Zj4 _ _ _ (by rw [hs];exact hq)];exact hcl,?_,b',sz,splice vs (i*k+off) (a.eval y).cells.toList,hb,Zb0 _ _ _ _ hrow,hsz,Zix hc (by rw [hul];exact hvl),?_⟩
  .unfold splice
   simp only [List.all_append,Bool.and_eq_true]
   exact⟨⟨List.all_eq_true.2 fun z hz=>List.all_eq_true.1 hone z (List.mem_of_mem_take hz),h1⟩,List.all_eq_true.2 fun z hz=>List.all_eq_true.1 hone z (List.mem_of_mem_drop hz)⟩
  .rw [<- Zaqp hkl hi (by rw [hs];exact hq)]
   exact (VRs.step hI _ _ (fun m _=>hL m) hvs).splice _ (VRs.step hI _ _ (fun m _=>hL m) hcells))
 have hrun2:(execOp a.eval o).run P w = .ok .skip (w.setCells b' (i*k+off) (a.eval y).cells.toList):=by
  simp only [execOp,ho,hv,Sem.run_bind,hrun,Result.andThen_ok,Sem.run_pure]
 unfold Oper.wp
 rw [hrun2,Oper.upon_skip,hd]
 have:=hK (.tuple #[]) (w.setCells b' (i*k+off) (a.eval y).cells.toList) ⟨β,hr',by simp [VR,VRs]⟩
 rw [hd] at this
 exact this
end
theorem Zarz{G:Frm}{β:Nat->Option Nat}{n:Nat}{tm tm':List (Nat×PV)}{σ σ':List (Nat×Blk)}{a:Act}{w:World}(h:Zaw G β ⟨n,tm,σ⟩ a w){l:Nat}{B B':Blk}(hl:1000<=l)
 (hg:get σ l=some B) (hg':get σ' l=some B') (hown:∀ b,Z3 β w l B' b->Z3 β w l B b)
 {Tn:List PV->List PV->Prop} (hσ:∀ m o',m≠l->get σ' m=some o'->∃ o,get σ m=some o/\((o'=o/\o.has l=false)\/∃ cs cs',o = .box cs/\o' = .box cs'/\cs'.length=cs.length/\cs'.all PV.one=true/\Tn cs cs'))
 (hT:(∀ b,(ctx G β w σ).I b->(ctx G β w σ').I b/\(ctx G β w σ').w.heap[b]?=(ctx G β w σ).w.heap[b]?)->(∀ m,m≠l->Zac (ctx G β w σ) (ctx G β w σ') m)->∀ cs cs',Tn cs cs'->∀ vs,VRs (ctx G β w σ) cs vs->VRs (ctx G β w σ') cs' vs)
 (hbr:(∀ b,(ctx G β w σ).I b->(ctx G β w σ').I b/\(ctx G β w σ').w.heap[b]?=(ctx G β w σ).w.heap[b]?)->(∀ m,m≠l->Zac (ctx G β w σ) (ctx G β w σ') m)->BR (ctx G β w σ) l B->BR (ctx G β w σ') l B')
 (ht:(∀ b,(ctx G β w σ).I b->(ctx G β w σ').I b/\(ctx G β w σ').w.heap[b]?=(ctx G β w σ).w.heap[b]?)->(∀ m,m≠l->Zac (ctx G β w σ) (ctx G β w σ') m)->∀ i q,get tm' i=some q->∃ p,get tm i=some p/\∀ v,VR (ctx G β w σ) p v->VR (ctx G β w σ') q v) :
 Zaw G β ⟨n,tm',σ'⟩ a w:=by
 have hO:∀ m o' b,get σ' m=some o'->Z3 β w m o' b->∃ o,get σ m=some o/\Z3 β w m o b:=fun m o' b hm ho=>by
  by_cases e:m=l
  .subst e
   rw [hg'] at hm;cases hm
   exact⟨B,hg,hown b ho⟩
  .obtain⟨o,h1,h2⟩:=hσ m o' e hm
   rcases h2 with ⟨rfl,_⟩ | ⟨cs,cs',rfl,rfl,_⟩
   .exact⟨_,h1,ho⟩
   .exact⟨_,h1,.inl (Z3.flat (o := .box cs') trivial ho)⟩
 have hI:∀ b,(ctx G β w σ).I b->(ctx G β w σ').I b/\(ctx G β w σ').w.heap[b]?=(ctx G β w σ).w.heap[b]?:=fun b hb=>
  ⟨⟨hb.1,hb.2.1,fun m o hm ho=>by obtain⟨o2,h1,h2⟩:=hO m o b hm ho;exact hb.2.2 m o2 h1 h2⟩,rfl⟩
 have hL:∀ m,m≠l->Zac (ctx G β w σ) (ctx G β w σ') m:=fun m e=>by
  refine⟨fun k es' hm=>?_,fun cs' hm=>?_,fun k q es' hm=>?_,fun ag es' hm=>?_,fun k i es' cs' hm=>?_,fun h' hm=>?_,fun k i r es' hm=>?_⟩
  all_goals obtain⟨o,h1,h2⟩:=hσ m _ e hm
  .rcases h2 with ⟨h2,_⟩ | ⟨_,_,_,h2,_⟩
   .subst h2;exact⟨es',h1,Nat.le_refl _,fun _=>⟨rfl,fun _ _ _ h=>h⟩⟩
   .cases h2
  .rcases h2 with ⟨h2,_⟩ | ⟨cs,cs2,h3,h2,_⟩
   .subst h2;exact⟨cs',h1,rfl⟩
   .subst h3;exact⟨cs,h1,rfl⟩
  .rcases h2 with ⟨h2,_⟩ | ⟨_,_,_,h2,_⟩
   .subst h2;exact⟨es',h1,Nat.le_refl _,fun _=>⟨rfl,fun _ _=>⟨fun _ h=>h,fun _ _=>rfl⟩⟩⟩
   .cases h2
  .rcases h2 with ⟨h2,_⟩ | ⟨_,_,_,h2,_⟩
   .subst h2;exact⟨_,es',h1,rfl⟩
   .cases h2
  .rcases h2 with ⟨h2,_⟩ | ⟨_,_,_,h2,_⟩
   .subst h2;exact⟨es',cs',h1,rfl,rfl,fun _ _ _ h=>h⟩
   .cases h2
  .rcases h2 with ⟨h2,_⟩ | ⟨_,_,_,h2,_⟩
   .subst h2;exact⟨h1,fun n hn=>⟨n,hn,fun _ hb=>⟨hb,ShB.same rfl⟩⟩⟩
   .cases h2
  .rcases h2 with ⟨h2,_⟩ | ⟨_,_,_,h2,_⟩
   .subst h2;exact⟨i,es',h1,Nat.le_refl _,fun _=>⟨rfl,fun _ _ _ h=>h⟩⟩
   .cases h2
 exact { defers := h.defers, sz := h.sz, base := h.base, os := h.os, tape := h.tape, output := h.output, old := h.old, A := h.A, gl := h.gl,
         inj:=fun m m' o o' b hm hm' hb hb'=>by
          obtain⟨o1,h1,h2⟩:=hO m o b hm hb
          obtain⟨o2,h3,h4⟩:=hO m' o' b hm' hb'
          exact h.inj m m' o1 o2 b h1 h3 h2 h4,
         sep:=fun m o b hm hb=>by obtain⟨o1,h1,h2⟩:=hO m o b hm hb;exact h.sep m o1 b h1 h2,
         fix:=fun m cs hm1 hm=>by
          have e:m≠l:=by omega
          obtain⟨o,h1,h2⟩:=hσ m _ e hm
          rcases h2 with ⟨h2,_⟩ | ⟨cs0,cs2,h3,h2,_⟩
          .subst h2;exact h.fix m cs hm1 h1
          .subst h3;exact h.fix m cs0 hm1 h1,
         row0:=h.row0.step (fun m hm=>hL m (by omega)),
         blk:=fun m o hm=>by
          by_cases e:m=l
          .subst e
           have:some o=some B':=Eq.trans (Eq.symm hm) hg'
           cases this
           exact hbr hI hL (h.blk m _ hg)
          .obtain⟨o0,h1,h2⟩:=hσ m o e hm
           have hb:=h.blk m o0 h1
           rcases h2 with ⟨rfl,h3⟩ | ⟨cs,cs',rfl,rfl,h3,h4,h5⟩
           .exact BR.step hI rfl (fun _ _=>rfl) (fun q hq=>hL q (fun e2=>by subst e2;rw [h3] at hq;cases hq)) hb
           .obtain⟨b,vs,f1,f2,f3,f4,f5⟩:=hb
            exact⟨b,vs,f1,by rw [h3];exact f2,f3,hT hI hL cs cs' h5 vs f4,h4⟩,
         tm:=fun i q hq=>by
          obtain⟨p,hp,hv⟩:=ht hI hL i q hq
          exact⟨(h.tm i p hp).1,hv _ (h.tm i p hp).2⟩ }
def opnV(l i:Nat):PV->Option (List Prop×PV)
 | .osl m n=>bif Nat.beq m l then some ([],.own l (.pw n)) else some ([],.osl m n)
 | .rptr m n j off=>bif Nat.beq m l then some ([j=i],.own l (.pp n off)) else some ([],.rptr m n j off)
 | p=>bif p.has l then none else some ([],p)
def Z6p(l i len:Nat):PV->Option (List Prop×PV)
 | .own m (.pw n)=>bif Nat.beq m l then some ([n=len],.osl l n) else some ([],.own m (.pw n))
 | .own m (.pp n off)=>bif Nat.beq m l then some ([n=len],.rptr l n i off) else some ([],.own m (.pp n off))
 | p=>bif p.has l then none else some ([],p)
def Zpy(f:PV->Option (List Prop×PV)):List PV->Option (List Prop×List PV)
 | []=>some ([],[])
 | p::ps=>
  match f p,Zpy f ps with
  | some (q,p'),some (qs,ps')=>some (q++qs,p'::ps')
  | _,_=>none
def Zrm(f:PV->Option (List Prop×PV)):List (Nat×PV)->Option (List Prop×List (Nat×PV))
 | []=>some ([],[])
 | (i,p)::r=>
  match f p,Zrm f r with
  | some (q,p'),some (qs,r')=>some (q++qs,(i,p')::r')
  | _,_=>none
def Zx2(l:Nat)(B':Blk)(f:PV->Option (List Prop×PV)):List (Nat×Blk)->Option (List Prop×List (Nat×Blk))
 | []=>some ([],[])
 | (m,b)::r=>
  match Zx2 l B' f r with
  | none=>none
  | some (qs,r')=>
   bif Nat.beq m l then some (qs,(m,B')::r') else
   match b with
   | .box cs=>match Zpy f cs with | some (q,cs')=>bif cs'.all PV.one then some (q++qs,(m,.box cs')::r') else none | none=>none
   | b=>bif b.has l then none else some (qs,(m,b)::r')
theorem Zamd{f:PV->Option (List Prop×PV)}{c c':Ctx}(hf:∀ p qs p',f p=some (qs,p')->Zaj qs->∀ v,VR c p v->VR c' p' v):∀ {ps:List PV} {qs:List Prop} {ps':List PV},Zpy f ps=some (qs,ps')->Zaj qs->ps'.length=ps.length/\∀ vs,VRs c ps vs->VRs c' ps' vs
 | [],qs,ps',h,_=>by simp only [Zpy,Option.some.injEq,Prod.mk.injEq] at h;obtain⟨_,rfl⟩:=h;exact⟨rfl,fun vs h=>h⟩
 | p::ps,qs,ps',h,hc=>by
  simp only [Zpy] at h
  split at h
  .rename_i q p' qs' ps2 h1 h2
   cases h
   obtain⟨c1,c2⟩:=Zw.1 hc
   obtain⟨g1,g2⟩:=Zamd hf h2 c2
   refine⟨by simp [g1],fun vs hv=>?_⟩
   simp only [VRs] at hv⊢
   obtain⟨v,rest,rfl,hv,hr⟩:=hv
   exact⟨v,rest,rfl,hf p q p' h1 c1 v hv,g2 rest hr⟩
  .cases h
theorem Zame{f:PV->Option (List Prop×PV)}:∀ {tm tm':List (Nat×PV)} {qs:List Prop},Zrm f tm=some (qs,tm')->Zaj qs->∀ i q,get tm' i=some q->∃ p r,get tm i=some p/\f p=some (r,q)/\Zaj r
 | [],tm',qs,h,_,i,q,hq=>by simp only [Zrm,Option.some.injEq,Prod.mk.injEq] at h;obtain⟨_,rfl⟩:=h;cases hq
 | (j,p)::r,tm',qs,h,hc,i,q,hq=>by
  simp only [Zrm] at h
  split at h
  .rename_i q1 p' qs' r' h1 h2
   cases h
   obtain⟨c1,c2⟩:=Zw.1 hc
   simp only [PW.get] at hq⊢
   cases hb:Nat.beq j i with
   | true=>simp only [hb,cond_true,Option.some.injEq] at hq⊢;subst hq;exact⟨p,q1,rfl,h1,c1⟩
   | false=>simp only [hb,cond_false] at hq⊢;exact Zame h2 c2 i q hq
  .cases h
theorem Zajb{f:PV->Option (List Prop×PV)}:∀ {ps:List PV} {qs:List Prop} {ps':List PV},Zpy f ps=some (qs,ps')->ps'.length=ps.length
 | [],qs,ps',h=>by simp only [Zpy,Option.some.injEq,Prod.mk.injEq] at h;obtain⟨_,rfl⟩:=h;rfl
 | p::ps,qs,ps',h=>by
  simp only [Zpy] at h
  split at h
  .rename_i q p' qs' ps2 h1 h2
   cases h
   simp [Zajb h2]
  .cases h
theorem Zahn{l:Nat}{B':Blk}{f:PV->Option (List Prop×PV)}:∀ {σ σ':List (Nat×Blk)} {qs:List Prop},Zx2 l B' f σ=some (qs,σ')->Zaj qs ->
 (∀ m o',m≠l->get σ' m=some o'->∃ o,get σ m=some o/\((o'=o/\o.has l=false)\/∃ cs cs',o = .box cs/\o' = .box cs'/\cs'.length=cs.length/\cs'.all PV.one=true/\∃ q,Zpy f cs=some (q,cs')/\Zaj q)) /\
 ((∃ o,get σ l=some o)->get σ' l=some B')
 | [],σ',qs,h,_=>by
  simp only [Zx2,Option.some.injEq,Prod.mk.injEq] at h
  obtain⟨_,rfl⟩:=h
  exact⟨fun m o' _ h=>(by cases h),fun⟨o,h⟩=>(by cases h)⟩
 | (j,b)::r,σ',qs,h,hc=>by
  simp only [Zx2] at h
  split at h
  .cases h
  .rename_i qs' r' h1
   cases hb:Nat.beq j l with
   | true=>
    simp only [hb,cond_true,Option.some.injEq,Prod.mk.injEq] at h
    obtain⟨rfl,rfl⟩:=h
    obtain⟨g1,_⟩:=Zahn h1 hc
    have hjl:j=l:=(Zu _ _).1 hb
    subst hjl
    refine⟨fun m o' hm ho=>?_,fun _=>by simp [PW.get]⟩
    simp only [PW.get,Zdi (Ne.symm hm),cond_false] at ho⊢
    exact g1 m o' hm ho
   | false=>
    simp only [hb,cond_false] at h
    have hjl:j≠l:=fun e=>by subst e;simp at hb
    have key:∀ (b':Blk) (q:List Prop),σ'=(j,b')::r'->(Zaj qs')->((b'=b/\b.has l=false)\/∃ cs cs',b = .box cs/\b' = .box cs'/\cs'.length=cs.length/\cs'.all PV.one=true/\∃ q,Zpy f cs=some (q,cs')/\Zaj q) ->
     (∀ m o',m≠l->get σ' m=some o'->∃ o,get ((j,b)::r) m=some o/\((o'=o/\o.has l=false)\/∃ cs cs',o = .box cs/\o' = .box cs'/\cs'.length=cs.length/\cs'.all PV.one=true/\∃ q,Zpy f cs=some (q,cs')/\Zaj q)) /\
     ((∃ o,get ((j,b)::r) l=some o)->get σ' l=some B'):=by
     intro b' q hσ hcq hbb
     subst hσ
     obtain⟨g1,g2⟩:=Zahn h1 hcq
     refine⟨fun m o' hm ho=>?_,fun ho=>?_⟩
     .simp only [PW.get] at ho⊢
      cases hm2:Nat.beq j m with
      | true=>simp only [hm2,cond_true,Option.some.injEq] at ho⊢;subst ho;exact⟨b,rfl,hbb⟩
      | false=>simp only [hm2,cond_false] at ho⊢;exact g1 m o' hm ho
     .simp only [PW.get,Zdi hjl,cond_false] at ho⊢
      exact g2 ho
    split at h
    .rename_i cs
     split at h
     .rename_i q cs' h2
      cases ho:cs'.all PV.one with
      | false=>simp [ho] at h
      | true=>
       simp only [ho,cond_true,Option.some.injEq,Prod.mk.injEq] at h
       obtain⟨rfl,rfl⟩:=h
       obtain⟨c1,c2⟩:=Zw.1 hc
       exact key _ q rfl c2 (.inr ⟨cs,cs',rfl,rfl,Zajb h2,ho,q,h2,c1⟩)
     .cases h
    .cases hh:b.has l with
     | true=>simp [hh] at h
     | false=>
      simp only [hh,cond_false,Option.some.injEq,Prod.mk.injEq] at h
      obtain⟨rfl,rfl⟩:=h
      exact key b [] rfl hc (.inl ⟨rfl,hh⟩)
section
variable {G:Frm} {β:Nat->Option Nat} {w:World} {σ σ':List (Nat×Blk)} {l i k:Nat} {es:List (List Zb)}
theorem Zaby{n:Nat}{tm tm':List (Nat×PV)}{a:Act}{f:PV->Option (List Prop×PV)}{B B':Blk}{qs rs:List Prop}(h:Zaw G β ⟨n,tm,σ⟩ a w)(hl:1000<=l)(hg:get σ l=some B)(hown:∀ b,Z3 β w l B' b->Z3 β w l B b)
 (htm:Zrm f tm=some (qs,tm')) (hσ:Zx2 l B' f σ=some (rs,σ')) (cq:Zaj qs) (cr:Zaj rs)
 (hf:(∀ b,(ctx G β w σ).I b->(ctx G β w σ').I b/\(ctx G β w σ').w.heap[b]?=(ctx G β w σ).w.heap[b]?)->(∀ m,m≠l->Zac (ctx G β w σ) (ctx G β w σ') m)->get σ' l=some B'->∀ p qs p',f p=some (qs,p')->Zaj qs->∀ v,VR (ctx G β w σ) p v->VR (ctx G β w σ') p' v)
 (hbr:(∀ b,(ctx G β w σ).I b->(ctx G β w σ').I b/\(ctx G β w σ').w.heap[b]?=(ctx G β w σ).w.heap[b]?)->(∀ m,m≠l->Zac (ctx G β w σ) (ctx G β w σ') m)->BR (ctx G β w σ) l B->BR (ctx G β w σ') l B'):Zaw G β ⟨n,tm',σ'⟩ a w:=by
 obtain⟨g1,g2⟩:=Zahn hσ cr
 have hg':=g2 ⟨_,hg⟩
 refine Zarz h hl hg hg' hown (Tn:=fun cs cs'=>∃ q,Zpy f cs=some (q,cs')/\Zaj q) g1 (fun hI hL cs cs' ⟨q,h1,h2⟩ vs hv=>(Zamd (hf hI hL hg') h1 h2).2 vs hv) hbr (fun hI hL j q hq=>?_)
 obtain⟨p,r,h1,h2,h3⟩:=Zame htm cq j q hq
 exact⟨p,h1,fun v hv=>hf hI hL hg' p r q h2 h3 v hv⟩
theorem Zasw{p p':PV}{qs:List Prop}(hI:∀ b,(ctx G β w σ).I b->(ctx G β w σ').I b/\(ctx G β w σ').w.heap[b]?=(ctx G β w σ).w.heap[b]?)(hL:∀ m,m≠l->Zac (ctx G β w σ) (ctx G β w σ') m)
 (h:(bif p.has l then none else some (([]:List Prop),p))=some (qs,p')) (v:Value) (hv:VR (ctx G β w σ) p v):VR (ctx G β w σ') p' v:=by
 cases hh:p.has l with
 | true=>simp [hh] at h
 | false=>
  simp only [hh,cond_false,Option.some.injEq,Prod.mk.injEq] at h
  obtain⟨_,rfl⟩:=h
  exact VR.step hI p v (fun m hm=>hL m (fun e=>by subst e;rw [hh] at hm;cases hm)) hv
theorem Wk.opn{n:Nat}{tm tm':List (Nat×PV)}{e:List Zb}{qs rs:List Prop}(hl:1000<=l)(hg:get σ l=some (.row k es))(he:es[i]?=some e)(htm:Zrm (opnV l i) tm=some (qs,tm'))(hσ:Zx2 l (.prow k i es (e.map .t)) (opnV l i) σ=some (rs,σ'))(cq:Zaj qs)(cr:Zaj rs) :
 Wk ⟨n,tm,σ⟩ ⟨n,tm',σ'⟩:=by
 rintro G a w ⟨β,h⟩
 have hi:i < es.length:=(List.getElem?_eq_some_iff.1 he).1
 obtain⟨hk0,hkl,hb⟩:=h.blk l _ hg
 rcases hb with ⟨_,hb⟩ | ⟨b,m,hb,hrow,hsz,hel⟩
 .subst hb;simp at hi
 refine⟨β,Zaby h hl hg (B' := .prow k i es (e.map .t)) (fun b hb => .inl (Z3.flat (o := .prow k i es (e.map .t)) trivial hb)) htm hσ cq cr (fun hI hL hg' p qs p' hp hq v hv=>?_) (fun hI hL _=>?_)⟩
 .cases p
  case osl m0 n0=>
   simp only [opnV] at hp
   cases hb2:Nat.beq m0 l with
   | false=>
    simp only [hb2,cond_false,Option.some.injEq,Prod.mk.injEq] at hp
    obtain⟨_,rfl⟩:=hp
    exact VR.step hI _ v (fun q hq2=>hL q (fun e2=>by subst e2;simp only [PV.has] at hq2;rw [hq2] at hb2;cases hb2)) hv
   | true=>
    simp only [hb2,cond_true,Option.some.injEq,Prod.mk.injEq] at hp
    obtain⟨_,rfl⟩:=hp
    have:=(Zu _ _).1 hb2
    subst this
    simp only [VR] at hv⊢
    obtain⟨ho,a0,m1,cap1,rfl⟩:=hv
    refine⟨fun k' i' es' cs' hes'=>?_,rfl⟩
    have:some (Blk.prow k' i' es' cs')=some (.prow k i es (e.map .t)):=Eq.trans (Eq.symm hes') hg'
    cases this
    obtain⟨g1,g2⟩:=ho k es hg
    refine⟨g1,fun hn=>?_⟩
    obtain⟨a2,cap,hv2,hc1,hc2,h3⟩:=g2 hn
    rcases h3 with ⟨h3,_⟩ | ⟨b2,m2,h3,h4,h5,h6⟩
    .omega
    .exact⟨b2,m2,cap,by rw [hv2,h3],hc1,hc2,h4,h5,h6⟩
  case rptr m0 n0 j off=>
   simp only [opnV] at hp
   cases hb2:Nat.beq m0 l with
   | false=>
    simp only [hb2,cond_false,Option.some.injEq,Prod.mk.injEq] at hp
    obtain⟨_,rfl⟩:=hp
    exact VR.step hI _ v (fun q hq2=>hL q (fun e2=>by subst e2;simp only [PV.has] at hq2;rw [hq2] at hb2;cases hb2)) hv
   | true=>
    simp only [hb2,cond_true,Option.some.injEq,Prod.mk.injEq] at hp
    obtain⟨rfl,rfl⟩:=hp
    have:=(Zu _ _).1 hb2
    subst this
    obtain⟨rfl,_⟩:=hq
    simp only [VR] at hv⊢
    obtain⟨ho,a0,rfl⟩:=hv
    refine⟨fun k' i' es' cs' hes'=>?_,rfl⟩
    have:some (Blk.prow k' i' es' cs')=some (.prow k j es (e.map .t)):=Eq.trans (Eq.symm hes') hg'
    cases this
    obtain⟨g1,g2⟩:=ho k es hg
    exact⟨g1,fun hn=>g2 hn⟩
  all_goals (simp only [opnV] at hp;exact Zasw hI hL hp v hv)
 .have hflat:=Zm.flat.1 hel
  obtain⟨vs,hvs,hcs⟩:=Z1.vals (c:=ctx G β w σ) hflat
  refine⟨hk0,hkl,hi,by rw [List.length_map];exact hkl e (List.mem_of_getElem? he),by rw [List.all_map];exact List.all_eq_true.2 fun _ _=>rfl,b,m,vs,hb,hrow,hsz,fun j v hj=>by have:=hcs j v hj;rwa [Nat.zero_add] at this,?_⟩
  have hsplit:es.flatten.map PV.t=Zg8 i es (e.map .t):=by
   have h1:es=es.take i++e::es.drop (i+1):=by
    have h2:=List.getElem_cons_drop hi
    have h3:es[i]=e:=by rw [List.getElem?_eq_getElem hi] at he;exact Option.some.inj he
    rw [h3] at h2
    rw [h2,List.take_append_drop]
   unfold Zg8
   conv=>lhs;rw [h1]
   rw [List.flatten_append,List.flatten_cons,List.map_append,List.map_append]
  rw [<- hsplit]
  exact VRs.step hI _ _ (fun q hq=>by rw [Zif] at hq;cases hq) hvs
theorem Wk.cls{n:Nat}{tm tm':List (Nat×PV)}{cs:List PV}{ts:List Zb}{es':List (List Zb)}{qs rs:List Prop}(hl:1000<=l)(hg:get σ l=some (.prow k i es cs))(ht:Zmn cs=some ts)(he:es.set i ts=es')(htm:Zrm (Z6p l i es.length) tm=some (qs,tm'))(hσ:Zx2 l (.row k es') (Z6p l i es.length) σ=some (rs,σ'))(cq:Zaj qs)(cr:Zaj rs) :
 Wk ⟨n,tm,σ⟩ ⟨n,tm',σ'⟩:=by
 rintro G a w ⟨β,h⟩
 obtain⟨hk0,hkl,hi,hcl,hone,b,m,vs,hb,hrow,hsz,hcs,hvs⟩:=h.blk l _ hg
 have hlen:es'.length=es.length:=by rw [<- he,List.length_set]
 have hcs':=Zoc ht
 subst hcs'
 refine⟨β,Zaby h hl hg (B' := .row k es') (fun b hb => .inl (Z3.flat (o := .row k es') trivial hb)) htm hσ cq cr (fun hI hL hg' p qs p' hp hq v hv=>?_) (fun hI hL _=>?_)⟩
 .cases p
  case own m0 d=>
   cases d
   case pw n0=>
    simp only [Z6p] at hp
    cases hb2:Nat.beq m0 l with
    | false=>
     simp only [hb2,cond_false,Option.some.injEq,Prod.mk.injEq] at hp
     obtain⟨_,rfl⟩:=hp
     exact VR.step hI _ v (fun q hq2=>hL q (fun e2=>by subst e2;simp only [PV.has] at hq2;rw [hq2] at hb2;cases hb2)) hv
    | true=>
     simp only [hb2,cond_true,Option.some.injEq,Prod.mk.injEq] at hp
     obtain⟨rfl,rfl⟩:=hp
     obtain⟨hq,_⟩:=hq
     have:=(Zu _ _).1 hb2
     subst this
     simp only [VR] at hv⊢
     obtain⟨ho,h1⟩:=hv
     obtain⟨g1,g2⟩:=ho k i es _ hg
     obtain⟨b2,m2,cap,hv2,hc1,hc2,h4,h5,h6⟩:=g2 hq
     refine⟨fun k' es2 hes2=>?_,_,_,_,hv2⟩
     have:some (Blk.row k' es2)=some (.row k es'):=Eq.trans (Eq.symm hes2) hg'
     cases this
     exact⟨by omega,fun _=>⟨_,cap,hv2,hc1,hc2,.inr ⟨b2,m2,rfl,h4,h5,h6⟩⟩⟩
   case pp n0 off=>
    simp only [Z6p] at hp
    cases hb2:Nat.beq m0 l with
    | false=>
     simp only [hb2,cond_false,Option.some.injEq,Prod.mk.injEq] at hp
     obtain⟨_,rfl⟩:=hp
     exact VR.step hI _ v (fun q hq2=>hL q (fun e2=>by subst e2;simp only [PV.has] at hq2;rw [hq2] at hb2;cases hb2)) hv
    | true=>
     simp only [hb2,cond_true,Option.some.injEq,Prod.mk.injEq] at hp
     obtain⟨rfl,rfl⟩:=hp
     obtain⟨hq,_⟩:=hq
     have:=(Zu _ _).1 hb2
     subst this
     simp only [VR] at hv⊢
     obtain⟨ho,h1⟩:=hv
     obtain⟨g1,g2⟩:=ho k i es _ hg
     obtain⟨b2,h4,hv2⟩:=g2 hq
     refine⟨fun k' es2 hes2=>?_,_,hv2⟩
     have:some (Blk.row k' es2)=some (.row k es'):=Eq.trans (Eq.symm hes2) hg'
     cases this
     exact⟨by omega,fun _=>⟨b2,h4,hv2⟩⟩
   all_goals (simp only [Z6p] at hp;exact Zasw hI hL hp v hv)
  all_goals (simp only [Z6p] at hp;exact Zasw hI hL hp v hv)
 .refine⟨hk0,fun el hel=>?_,.inr ⟨b,m,hb,hrow,by rw [hlen];exact hsz,Zm.flat.2 ?_⟩⟩
  .rw [<- he] at hel
   rcases List.mem_or_eq_of_mem_set hel with h1 | h1
   .exact hkl el h1
   .subst h1;rw [List.length_map] at hcl;exact hcl
  .have hsplit:es'.flatten.map PV.t=Zg8 i es (ts.map .t):=by
    rw [<- he]
    unfold Zg8
    rw [List.set_eq_take_append_cons_drop,if_pos hi,List.flatten_append,List.flatten_cons,List.map_append,List.map_append]
   rw [<- hsplit] at hvs
   exact Zgb (c:=ctx G β w σ') (VRs.step hI _ _ (fun q hq=>by rw [Zif] at hq;cases hq) hvs) (fun j v hj=>by rw [Nat.zero_add];exact hcs j v hj)
end
end Go.PW
namespace Go.PW
open Go.RowKit
def rlk(xs:List (Int×List Zb))(n:Int):List (List Zb):=match Zs1 xs n with | some [.sl r]=>r | _=>[]
theorem Zamf{α:Type}(n:Int)(y:α):∀ xs:List (Int×α),(∃ x,x∈xs/\x.1=n)->(Zhf xs n y).map Prod.fst=xs.map Prod.fst
 | [],h=>by obtain⟨_,h,_⟩:=h;cases h
 | (j,x)::xs,h=>by
  simp only [Zhf]
  cases hb:j==n with
  | true=>rfl
  | false=>
   simp only [cond_false,List.map_cons]
   rw [Zamf n y xs (by
    obtain⟨z,hz,hn⟩:=h
    rcases List.mem_cons.1 hz with h | h
    .subst h;simp only at hn;subst hn;simp at hb
    .exact⟨z,h,hn⟩)]
theorem Zaho{n:Int}:∀ {es:List MapEntry} {xs:List (Int×List Zb)} (i:Nat),es.length=xs.length->(∀ (i:Nat) e x,es[i]?=some e->xs[i]?=some x->e.key = .int .i64 x.1) ->
 (Zs1 xs n=none/\Instr.findNow (.int .i64) (.int .i64 n) es i=some none/\(∀ y,Zhf xs n y=xs++[(n,y)])/\∀ x,x∈xs->x.1≠n) \/
 ∃ (j:Nat) (e:MapEntry) (ts:List Zb),xs[j]?=some (n,ts)/\es[j]?=some e/\Zs1 xs n=some ts/\Instr.findNow (.int .i64) (.int .i64 n) es i=some (some (i+j,e.val))/\∀ y,Zhf xs n y=xs.set j (n,y)
 | [],[],i,_,_ => .inl ⟨rfl,rfl,fun _=>rfl,fun x h=>by cases h⟩
 | [],_::_,_,hl,_=>by simp at hl
 | _::_,[],_,hl,_=>by simp at hl
 | e::es,(m,ts)::xs,i,hl,hk=>by
  have hk0:e.key = .int .i64 m:=hk 0 e (m,ts) rfl rfl
  by_cases hmn:m=n
  .subst hmn
   exact .inr ⟨0,e,ts,rfl,rfl,by simp [Zs1],by simp [Instr.findNow,Instr.sameNow,hk0],fun y=>by simp [Zhf]⟩
  .have hb:(m==n)=false:=by simpa using hmn
   have hs:Instr.findNow (.int .i64) (.int .i64 n) (e::es) i=Instr.findNow (.int .i64) (.int .i64 n) es (i+1):=by
    simp only [Instr.findNow,hk0,Instr.sameNow,if_true]
    rw [show (n==m)=false by simpa using fun e=>hmn e.symm]
   rcases Zaho (n:=n) (i+1) (by simpa using hl) (fun i e x h1 h2=>hk (i+1) e x (by simpa using h1) (by simpa using h2)) with ⟨h1,h2,h3,h4⟩ | ⟨j,e2,t2,h1,h2,h3,h4,h5⟩
   .refine .inl ⟨by simp only [Zs1,hb,cond_false];exact h1,hs.trans h2,fun y=>by simp only [Zhf,hb,cond_false,h3,List.cons_append],fun x hx=>?_⟩
    rcases List.mem_cons.1 hx with h | h
    .subst h;exact hmn
    .exact h4 x h
   .refine .inr ⟨j+1,e2,t2,by simpa using h1,by simpa using h2,by simp only [Zs1,hb,cond_false];exact h3,?_,fun y=>by simp only [Zhf,hb,cond_false,h5,List.set_cons_succ]⟩
    rw [hs,h4];congr 3;omega
theorem Zaw9{G:Frm}{β:Nat->Option Nat}{n:Nat}{tm:List (Nat×PV)}{σ:List (Nat×Blk)}{a:Act}{w:World}(h:Zaw G β ⟨n,tm,σ⟩ a w){l L:Nat}{B B1 B2:Blk}(bL:Option Nat)(hL:L≠l)(h1000:1000<=L)(hl1000:(∀ k es,B1 ≠ .row k es)/\∀ cs,B1 ≠ .box cs)(hB2:∀ cs,B2 ≠ .box cs)
 (hg:get σ l=some B) (hf1:∀ i q,get tm i=some q->q.has L=false) (hf2:∀ m y,get σ m=some y->m≠L/\y.has L=false)
 (hown1:∀ b,Z3 (Zbh β L bL) w l B1 b->Z3 β w l B b) (hown2:∀ b,Z3 (Zbh β L bL) w L B2 b->Z3 β w l B b/\¬ Z3 (Zbh β L bL) w l B1 b)
 (hls:Zac (ctx G β w σ) (ctx G (Zbh β L bL) w ((l,B1)::(L,B2)::Za5 [l] σ)) l)
 (hbr:(∀ b,(ctx G β w σ).I b->(ctx G (Zbh β L bL) w ((l,B1)::(L,B2)::Za5 [l] σ)).I b/\w.heap[b]?=w.heap[b]?)->BR (ctx G (Zbh β L bL) w ((l,B1)::(L,B2)::Za5 [l] σ)) l B1/\BR (ctx G (Zbh β L bL) w ((l,B1)::(L,B2)::Za5 [l] σ)) L B2) :
 Zaw G (Zbh β L bL) ⟨n,tm,(l,B1)::(L,B2)::Za5 [l] σ⟩ a w:=by
 have hget:∀ m o,get ((l,B1)::(L,B2)::Za5 [l] σ) m=some o->(m=l/\o=B1)\/(m=L/\o=B2)\/(m≠l/\m≠L/\get σ m=some o):=fun m o hm=>by
  simp only [PW.get] at hm
  cases hb:Nat.beq l m with
  | true=>
   simp only [hb,cond_true,Option.some.injEq] at hm
   exact .inl ⟨((Zu _ _).1 hb).symm,hm.symm⟩
  | false=>
   simp only [hb,cond_false] at hm
   cases hb2:Nat.beq L m with
   | true=>
    simp only [hb2,cond_true,Option.some.injEq] at hm
    exact .inr (.inl ⟨((Zu _ _).1 hb2).symm,hm.symm⟩)
   | false=>
    simp only [hb2,cond_false] at hm
    exact .inr (.inr ⟨fun e=>by subst e;simp at hb,fun e=>by subst e;simp at hb2,(Zjr hm).2⟩)
 have hgo:∀ m,m≠l->m≠L->get ((l,B1)::(L,B2)::Za5 [l] σ) m=get σ m:=fun m h1 h2=>by
  simp only [PW.get,Zdi (Ne.symm h1),Zdi (Ne.symm h2),cond_false]
  exact Zlf (by simpa using h1)
 have hO:∀ m o,get ((l,B1)::(L,B2)::Za5 [l] σ) m=some o->∀ b,Z3 (Zbh β L bL) w m o b->∃ m0 o0,get σ m0=some o0/\Z3 β w m0 o0 b:=fun m o hm b ho=>by
  rcases hget m o hm with ⟨rfl,rfl⟩ | ⟨rfl,rfl⟩ | ⟨_,h2,h3⟩
  .exact⟨_,_,hg,hown1 b ho⟩
  .exact⟨_,_,hg,(hown2 b ho).1⟩
  .exact⟨_,_,h3,ho.of (Zci β bL h2) (fun _ _=>rfl)⟩
 have hI:∀ b,(ctx G β w σ).I b->(ctx G (Zbh β L bL) w ((l,B1)::(L,B2)::Za5 [l] σ)).I b/\w.heap[b]?=w.heap[b]?:=fun b hb=>
  ⟨⟨hb.1,hb.2.1,fun m o hm ho=>by obtain⟨m0,o0,h1,h2⟩:=hO m o hm b ho;exact hb.2.2 m0 o0 h1 h2⟩,rfl⟩
 have hS:∀ m,m≠L->Zac (ctx G β w σ) (ctx G (Zbh β L bL) w ((l,B1)::(L,B2)::Za5 [l] σ)) m:=fun m hm=>by
  by_cases e:m=l
  .subst e;exact hls
  .exact Zac.same (hgo m e hm) (Zci β bL hm) (fun _ _ _ _=>rfl)
 obtain⟨hb1,hb2⟩:=hbr hI
 exact { defers := h.defers, sz := h.sz, base := h.base, os := h.os, tape := h.tape, output := h.output, old := h.old, A := h.A, gl := h.gl,
         inj:=fun m m' o o' b hm hm' hb hb'=>by
          rcases hget m o hm with ⟨rfl,rfl⟩ | ⟨rfl,rfl⟩ | ⟨h1,h2,h3⟩<;>rcases hget m' o' hm' with ⟨rfl,rfl⟩ | ⟨rfl,rfl⟩ | ⟨h1',h2',h3'⟩
          .rfl
          .exact absurd hb (hown2 b hb').2
          .exact absurd (h.inj _ _ _ _ b hg h3' (hown1 b hb) (hb'.of (Zci β bL h2') (fun _ _=>rfl))).symm h1'
          .exact absurd hb' (hown2 b hb).2
          .rfl
          .exact absurd (h.inj _ _ _ _ b hg h3' (hown2 b hb).1 (hb'.of (Zci β bL h2') (fun _ _=>rfl))).symm h1'
          .exact absurd (h.inj _ _ _ _ b h3 hg (hb.of (Zci β bL h2) (fun _ _=>rfl)) (hown1 b hb')) h1
          .exact absurd (h.inj _ _ _ _ b h3 hg (hb.of (Zci β bL h2) (fun _ _=>rfl)) (hown2 b hb').1) h1
          .exact h.inj _ _ _ _ b h3 h3' (hb.of (Zci β bL h2) (fun _ _=>rfl)) (hb'.of (Zci β bL h2') (fun _ _=>rfl)),
         sep:=fun m o b hm hb=>by obtain⟨m0,o0,h1,h2⟩:=hO m o hm b hb;exact h.sep m0 o0 b h1 h2,
         fix:=fun m cs h1 hm=>by
          rcases hget m _ hm with ⟨_,h2⟩ | ⟨h2,_⟩ | ⟨_,h2,h3⟩
          .exact absurd h2.symm (hl1000.2 cs)
          .omega
          .rw [Zci β bL h2];exact h.fix m cs h1 h3,
         row0:=fun m k es' hm hgm=>by
          rcases hget m _ hgm with ⟨_,h2⟩ | ⟨h2,_⟩ | ⟨h2,h3,_⟩
          .exact absurd h2.symm (hl1000.1 k es')
          .omega
          .exact h.row0.one (hS m h3) hm hgm,
         blk:=fun m o hm=>by
          rcases hget m o hm with ⟨rfl,rfl⟩ | ⟨rfl,rfl⟩ | ⟨h1,h2,h3⟩
          .exact hb1
          .exact hb2
          .exact BR.step hI (Zci β bL h2) (fun _ _=>rfl) (fun q hq=>hS q (fun e=>by subst e;rw [(hf2 m o h3).2] at hq;cases hq)) (h.blk m o h3),
         tm:=fun i p hp=>⟨(h.tm i p hp).1,VR.step hI p _ (fun q hq=>hS q (fun e=>by subst e;rw [hf1 i p hp] at hq;cases hq)) (h.tm i p hp).2⟩ }
theorem Zabz{c:Ctx}{l k:Nat}{hole:Option Int}{es:List (Int×List Zb)}(h:BR c l (.map (.rows k hole) es)) :
 ∃ b ents clock,c.β l=some b/\c.w.heap[b]?=some (.map ents clock)/\Z3w c (.rows k hole) ents.toList es:=h
theorem Zlc{w:World}{b k:Nat}{hole:Option Int}{es:List (Int×List Zb)}{ents:Array MapEntry}{clock:Nat}(hm:w.heap[b]?=some (.map ents clock)){d:Nat} :
 Blk.subs w b d (.map (.rows k hole) es)↔∃ e len cap,e∈ents.toList/\MapEntry.inn hole e/\cap≠0/\e.val = .slice (some ⟨d,0,none⟩) len cap:=by
 constructor
 .rintro ⟨ents',clock',e,len,cap,h1,h2⟩
  rw [hm] at h1;cases h1
  exact⟨e,len,cap,h2⟩
 .rintro ⟨e,len,cap,h⟩
  exact⟨ents,clock,e,len,cap,hm,h⟩
theorem Za7.not_map{w:World}{d m:Nat}{ents:Array MapEntry}{clock:Nat}(h:Za7 w d m):w.heap[d]?≠some (.map ents clock):=by
 obtain⟨cs,e,fr,h1,_⟩:=h
 rw [h1];intro h;cases h
theorem Zqe(e:MapEntry):MapEntry.inn none e:=fun _ _ h=>by cases h
theorem Zasx{z:Value}(h:∀ cs,z ≠ .agg cs):z.cells.toList=[z]:=by
 cases z<;>first | rfl | exact absurd rfl (h _)
theorem Zaxa{P:Program}{e:TypeId}(hz:Zge P e=some [.nils])(hz':(Zt7 P false e).isSome=true)(w:World):∃ a,(zeroValue e).run P w = .ok (.slice a 0 0) w:=by
 unfold Zge at hz
 obtain⟨z,hz1,hz2⟩:=Option.bind_eq_some_iff.1 hz
 have hna:∀ cs,z ≠ .agg cs:=fun cs h=>by
  subst h
  unfold Zt7 at hz'
  rw [hz1] at hz'
  simp at hz'
 rw [Zasx hna] at hz2
 have hvs:=Zgo (c:=⟨fun _=>none,fun _=>True,w,[]⟩) hz2
 simp only [VRs,VR] at hvs
 obtain⟨v,rest,hc,⟨a,rfl⟩,rfl⟩:=hvs
 cases hc
 obtain⟨i,h1,h3⟩:=Option.bind_eq_some_iff.1 hz1
 exact⟨a,by simp [zeroValue,typeInfo,h1,h3]⟩
section
variable {P:Program} {o:Oper} {ρ:List (Nat×PV)} {σ0:List (Nat×Blk)}
theorem Zau6{t kT e:TypeId}{x y:Operand}{l L k:Nat}{es:List (Int×List Zb)}{n:Int}(ho:o.op = .lookup t x y false)(ht:P.underlying t=some (.map kT e))(hk:P.underlying kT=some (.int .i64))(hz:Zge P e=some [.nils])(hz':(Zt7 P false e).isSome=true)
 (hx:Zi ρ x=some (.own l .map)) (hy:Zi ρ y=some (.t (.int .i64 n))) (hL:L≠l) (h1000:1000<=L) (hg0:get σ0 l=some (.map (.rows k none) es)) :
 OpF P o ρ σ0 [l] [l] (.osl L (rlk es n).length) [(l,.map (.rows k (some n)) es),(L,.row k (rlk es n))]:=
 opFn fun G β n' tm σ A w hop hnd hfr hr=>by
  have hg:get σ l=some (.map (.rows k none) es):=(hnd l (by simp)).trans hg0
  have e1:=hop x _ (by simp [ho,Op.operands]) hx
  have e2:=hop y _ (by simp [ho,Op.operands]) hy
  obtain⟨hf1,hf2⟩:=hfr L (.row k (rlk es n)) (by simp) (by simpa using hL)
  simp only [VR,Zx] at e1 e2
  obtain⟨b0,hb0,hv⟩:=e1.1 _ es hg
  obtain⟨b,ents,clock,hb,hm,hk0,hE,hnd2,huq⟩:=Zabz (hr.blk l _ hg)
  have:b0=b:=by have:=hb0.symm.trans hb;simpa using this
  subst this
  have hm:w.heap[b0]?=some (.map ents clock):=hm
  have hb:β l=some b0:=hb
  have hkey:MapKept.IsKey (.int .i64) (.int .i64 n):=rfl
  have key:∃ v,(Instr.lookup t (.map (some b0)) (.int .i64 n) false).run P w = .ok v w/\RowV (ctx G β w σ) k (rlk es n) v /\
   ∀ d len cap,cap≠0->v = .slice (some ⟨d,0,none⟩) len cap->∃ (j:Nat) (e:MapEntry),ents.toList[j]?=some e/\e.key = .int .i64 n/\e.val=v:=by
   rcases Zaho (n:=n) 0 hE.1 (fun i e x h1 h2=>(hE.2 i e x h1 h2).1) with ⟨h1,h2,_,_⟩ | ⟨j,e2,ts,h1,h2,h3,h4,_⟩
   .obtain⟨a,hz1⟩:=Zaxa hz hz' w
    refine⟨.slice a 0 0,?_,?_,fun d len cap h0 hs=>by cases hs;exact absurd rfl h0⟩
    .simp only [Instr.lookup,Sem.run_bind,run_underlying ht,Result.andThen_ok,MapKept.run_getObj_map hm,Sem.run_pure,MapKept.run_checkKey hk hkey,MapKept.run_findKey hk h2,hz1]
     rfl
    .have:rlk es n=[]:=by simp [rlk,h1]
     rw [this]
     exact⟨fun _ h=>(nomatch h),a,0,rfl,Nat.le_refl _,Nat.zero_le _,.inl rfl⟩
   .obtain⟨hkj,rows,hts,hrow⟩:=hE.2 j e2 _ h2 h1
    simp only at hkj hts
    subst hts
    refine⟨e2.val,?_,?_,fun _ _ _ _ _=>⟨j,e2,h2,hkj,rfl⟩⟩
    .simp only [Instr.lookup,Sem.run_bind,run_underlying ht,Result.andThen_ok,MapKept.run_getObj_map hm,Sem.run_pure,MapKept.run_checkKey hk hkey,MapKept.run_findKey hk h4]
     rfl
    .have:rlk es n=rows:=by simp [rlk,h3]
     rw [this];exact hrow (by simp)
  obtain⟨v,hrun,⟨hlen,a,cap,hv2,hc1,hc2,hcell⟩,hent⟩:=key
  obtain⟨bL,hbL⟩:∃ bL:Option Nat,(cap=0/\bL=none/\rlk es n=[])\/∃ d m,cap≠0/\bL=some d/\a=some ⟨d,0,none⟩/\Za7 w d m/\cap*k<=m/\Zm (ctx G β w σ).I w d (rlk es n) 0:=by
   by_cases h0:cap=0
   .exact⟨none,.inl ⟨h0,rfl,List.eq_nil_of_length_eq_zero (by omega)⟩⟩
   .rcases hcell with h | ⟨d,m,h1,h2,h3,h4⟩
    .exact absurd h h0
    .exact⟨some d,.inr ⟨d,m,h0,rfl,h1,h2,h3,h4⟩⟩
  have hβl:Zbh β L bL l=some b0:=by rw [Zci β bL (Ne.symm hL)];exact hb
  have hown1:∀ c,Z3 (Zbh β L bL) w l (.map (.rows k (some n)) es) c->Z3 β w l (.map (.rows k none) es) c:=fun c hc=>by
   rcases hc with hc | ⟨b1,h1,h2⟩
   .rw [hβl] at hc;exact .inl (hb.trans hc)
   .rw [hβl] at h1;cases h1
    obtain⟨e3,len,cap3,h3,h4,h5⟩:=(Zlc hm).1 h2
    exact .inr ⟨b0,hb,(Zlc hm).2 ⟨e3,len,cap3,h3,Zqe _,h5⟩⟩
  have hrel:=Zaw9 hr (L:=L) (B1 := .map (.rows k (some n)) es) (B2 := .row k (rlk es n)) bL hL h1000 ⟨fun _ _ h=>(nomatch h),fun _ h=>(nomatch h)⟩ (fun _ h=>(nomatch h)) hg hf1 hf2 hown1
   (fun c hc=>by
    have hc:=Z3.flat (o := .row k (rlk es n)) trivial hc
    rw [Z4] at hc
    rcases hbL with ⟨_,h,_⟩ | ⟨d,m,h0,h1,h2,h3,_⟩
    .rw [h] at hc;cases hc
    .obtain rfl:d=c:=by simpa [h1] using hc
     obtain⟨j,e2,hj,hkj,hval⟩:=hent d _ cap h0 (by rw [hv2,h2])
     have hval2:e2.val = .slice (some ⟨d,0,none⟩) (rlk es n).length cap:=by rw [hval,hv2,h2]
     refine⟨.inr ⟨b0,hb,(Zlc hm).2 ⟨e2,_,cap,List.mem_of_getElem? hj,Zqe _,h0,hval2⟩⟩,fun hc=>?_⟩
     rcases hc with hc | ⟨b1,g1,g2⟩
     .rw [hβl] at hc;cases hc
      exact h3.not_map hm
     .rw [hβl] at g1;cases g1
      obtain⟨e3,len,cap3,g3,g4,g5,g6⟩:=(Zlc hm).1 g2
      obtain⟨q,hq,he3⟩:=List.getElem_of_mem g3
      have hq2:ents.toList[q]?=some e3:=by rw [List.getElem?_eq_getElem hq,he3]
      have:=huq j q e2 e3 d _ _ cap cap3 hj hq2 (Zqe _) (Zqe _) h0 g5 hval2 g6
      subst this
      rw [hj] at hq2;cases hq2
      exact g4 n hkj rfl)
   ⟨fun k' es' h=>by simp [ctx,PW.get] at h,fun cs' h=>by simp [ctx,PW.get] at h,fun k' q' es' h=>by simp [ctx,PW.get] at h,fun mk' es' h=>⟨_,es,hg,Zci β bL (Ne.symm hL)⟩,fun k' i' es' cs' h=>by simp [ctx,PW.get] at h,fun h' h=>by simp [ctx,PW.get] at h,fun k' i' r' es' h=>by simp [ctx,PW.get] at h⟩
   (fun hI=>⟨⟨b0,ents,clock,hβl,hm,hk0,⟨hE.1,fun i e x h1 h2=>by
    obtain⟨g1,rows,g2,g3⟩:=hE.2 i e x h1 h2
    exact⟨g1,rows,g2,fun _=>(g3 (by simp)).step hI (fun _ _ _ _ _=>rfl)⟩⟩,hnd2,fun i j ei ej d l1 l2 c1 c2 h1 h2 h3 h4=>huq i j ei ej d l1 l2 c1 c2 h1 h2 (Zqe _) (Zqe _)⟩,
    hk0,hlen,by
     rcases hbL with ⟨_,h,h2⟩ | ⟨d,m,h0,h1,h2,h3,h4,h5⟩
     .exact .inl ⟨(Z4 β L bL).trans h,h2⟩
     .refine .inr ⟨d,m,(Z4 β L bL).trans h1,h3,Nat.le_trans (Nat.mul_le_mul_right k hc1) h4,Zm.mono hI rfl _ _ h5⟩⟩)
  refine⟨v,w,?_,Zbh β L bL,hrel,?_⟩
  .simp only [execOp,ho,hv,e2,Sem.run_bind,hrun,Result.andThen_ok,Sem.run_pure]
  .simp only [VR]
   refine⟨fun k' es' hg'=>?_,a,_,cap,hv2⟩
   have hgL:get (ctx G (Zbh β L bL) w ([(l,Blk.map (.rows k (some n)) es),(L,.row k (rlk es n))]++Za5 [l] σ)).σ L=some (.row k (rlk es n)):=by simp [ctx,PW.get,Zdi (Ne.symm hL)]
   rw [hgL] at hg';cases hg'
   refine⟨Nat.le_refl _,fun _=>⟨a,cap,hv2,hc1,hc2,?_⟩⟩
   rcases hbL with ⟨h0,h,_⟩ | ⟨d,m,h0,h1,h2,h3,h4,h5⟩
   .exact .inl ⟨h0,(Z4 β L bL).trans h⟩
   .exact .inr ⟨d,m,h2,(Z4 β L bL).trans h1,h3,h4⟩
theorem Zau7{t kT e:TypeId}{x y z:Operand}{l L k m:Nat}{es:List (Int×List Zb)}{rows:List (List Zb)}{i:Int}(ho:o.op = .mapUpdate t x y z)(hd:o.dst=none)(ht:P.underlying t=some (.map kT e))(hk:P.underlying kT=some (.int .i64))
 (hx:Zi ρ x=some (.own l .map)) (hy:Zi ρ y=some (.t (.int .i64 i))) (hz:Zi ρ z=some (.osl L m)) (hL:L≠l) (hg0:get σ0 l=some (.map (.rows k (some i)) es)) (hgL0:get σ0 L=some (.row k rows)) (hm0:rows.length=m) :
 OpF P o ρ σ0 [l,L] [l,L] (.tup []) [(l,.map (.rows k none) (Zhf es i [.sl rows]))]:=by
 rintro G n tm σ a w K Q hag hneed _ ⟨β,hr⟩ hK
 have hg:get σ l=some (.map (.rows k (some i)) es):=(hneed l (by simp)).trans hg0
 have hgL:get σ L=some (.row k rows):=(hneed L (by simp)).trans hgL0
 have hop:∀ x q,x∈o.op.operands->Zi ρ x=some q->VR (ctx G β w σ) q (a.eval x):=fun x q hx hq=>Zh1 hr hq (fun t r ht hr'=>hag t r (ht▸hx) hr')
 have e1:=hop x _ (by simp [ho,Op.operands]) hx
 have e2:=hop y _ (by simp [ho,Op.operands]) hy
 have e3:=hop z _ (by simp [ho,Op.operands]) hz
 simp only [VR,Zx] at e1 e2 e3
 obtain⟨b0,hb0,hv⟩:=e1.1 _ es hg
 obtain⟨b,ents,clock,hb,hm,hk0,hE,hnd2,huq⟩:=Zabz (hr.blk l _ hg)
 have:b0=b:=by have:=hb0.symm.trans hb;simpa using this
 subst this
 have hm:w.heap[b0]?=some (.map ents clock):=hm
 have hb:β l=some b0:=hb
 obtain⟨_,h3⟩:=e3.1 k rows hgL
 obtain⟨ad,cap,hvz,hc1,hc2,hc3⟩:=h3 hm0.symm
 obtain⟨_,hlen,hrowL⟩:=hr.blk L _ hgL
 have hOL:∀ d len cap,cap≠0->a.eval z = .slice (some ⟨d,0,none⟩) len cap->β L=some d:=fun d len cap' h0 hs=>by
  rw [hvz] at hs;cases hs
  rcases hc3 with ⟨h,_⟩ | ⟨b,m,h,h2,_⟩
  .exact absurd h h0
  .cases h;exact h2
 have hnb:∀ m o,get σ m=some o->m≠l->∀ d,Z3 β w m o d->d≠b0:=fun m o h1 h2 d h3 h4=>h2 (hr.inj m l o _ d h1 hg h3 (.inl (h4▸hb)))
 have hkey:MapKept.IsKey (.int .i64) (.int .i64 i):=rfl
 have hsubO:∀ e3 d len cap,e3∈ents.toList->MapEntry.inn (some i) e3->cap≠0->e3.val = .slice (some ⟨d,0,none⟩) len cap->Z3 β w l (.map (.rows k (some i)) es) d:=fun e3 d len cap h1 h2 h3 h4 => .inr ⟨b0,hb,(Zlc hm).2 ⟨e3,len,cap,h1,h2,h3,h4⟩⟩
 have hne0:∀ d m,Za7 w d m->d≠b0:=fun d m h e=>by subst e;exact h.not_map hm
 have main:∀ (ents':Array MapEntry) (clock':Nat),ents'.toList.length=(Zhf es i [Zb.sl rows]).length->((Zhf es i [Zb.sl rows]).map Prod.fst).Nodup ->
  (∀ (q:Nat) e,ents'.toList[q]?=some e->(∃ x,(Zhf es i [Zb.sl rows])[q]?=some x/\e.key = .int .i64 x.1/\((e.key = .int .i64 i/\e.val=a.eval z/\x=(i,[.sl rows]))\/(x.1≠i/\ents.toList[q]?=some e/\es[q]?=some x)))) ->
  (Instr.mapUpdate t (.map (some b0)) (.int .i64 i) (a.eval z)).run P w = .ok () { w with heap:=w.heap.setIfInBounds b0 (.map ents' clock') }->o.wp P a w K Q:=by
  intro ents' clock' hlen' hnod hent hrun
  obtain⟨hs1,hs2⟩:=MapKept.heap_set (o':=Obj.map ents' clock') hm
  have hinn:∀ (q:Nat) e x,ents'.toList[q]?=some e->es[q]?=some x->x.1≠i->e.key = .int .i64 x.1->MapEntry.inn (some i) e:=fun q e x _ _ h1 h2 n hn h3=>by
   rw [h2] at hn;cases hn;cases h3;exact h1 rfl
  have hnk:∀ (q:Nat) e x,ents.toList[q]?=some e->es[q]?=some x->e.key = .int .i64 x.1:=fun q e x h1 h2=>(hE.2 q e x h1 h2).1
  have hOW:∀ (q:Nat) e d len cap,ents'.toList[q]?=some e->cap≠0->e.val = .slice (some ⟨d,0,none⟩) len cap->∃ m o,m∈[l,L]/\get σ m=some o/\Z3 β w m o d:=fun q e d len cap h1 h2 h3=>by
   obtain⟨x,hx1,hx2,hx3⟩:=hent q e h1
   rcases hx3 with ⟨_,h5,_⟩ | ⟨h4,h5,h6⟩
   .exact⟨L,_,by simp,hgL,.inl (hOL d len cap h2 (h5▸h3))⟩
   .exact⟨l,_,by simp,hg,hsubO e d len cap (List.mem_of_getElem? h5) (hinn q e x h1 h6 h4 hx2) h2 h3⟩
  have habs:=Ziz hr { w with heap:=w.heap.setIfInBounds b0 (.map ents' clock') } (some b0) l (.map (.rows k none) (Zhf es i [.sl rows])) [l,L] (by simp) rfl rfl rfl (by simp)
   (fun b2 _ hn=>hs2 b2 (fun e=>hn l _ (by simp) hg (by rw [e];exact .inl hb))) (fun c hc => .inr ?_) (.inl ?_) (fun hI=>⟨b0,ents',clock',Z4 _ _ _,hs1,hk0,⟨hlen',fun q e x h1 h2=>?_⟩,hnod,?_⟩)
  .unfold Oper.wp
   have hrun2:(execOp a.eval o).run P w = .ok .skip { w with heap:=w.heap.setIfInBounds b0 (.map ents' clock') }:=by
    simp only [execOp,ho,hv,e2,Sem.run_bind,hrun,Result.andThen_ok,Sem.run_pure]
   rw [hrun2,Oper.upon_skip,hd]
   have:=hK (.tuple #[]) { w with heap:=w.heap.setIfInBounds b0 (.map ents' clock') } ⟨_,habs,by simp [VR,VRs]⟩
   rw [hd] at this
   exact this
  .rcases hc with hc | ⟨b1,h1,h2⟩
   .rw [Z4] at hc;cases hc
    exact⟨l,_,by simp,hg,.inl hb⟩
   .rw [Z4] at h1;cases h1
    obtain⟨e,len,cap,h3,_,h4,h5⟩:=(Zlc hs1).1 h2
    obtain⟨q,hq,he⟩:=List.getElem_of_mem h3
    exact hOW q e c len cap (by rw [List.getElem?_eq_getElem hq,he]) h4 h5
  .have hgs:get (ctx G (Zbh β l (some b0)) { w with heap:=w.heap.setIfInBounds b0 (.map ents' clock') } ((l,.map (.rows k none) (Zhf es i [.sl rows]))::Za5 [l,L] σ)).σ l=some (.map (.rows k none) (Zhf es i [.sl rows])):=by simp [ctx,PW.get]
   refine⟨fun k' es' h=>?_,fun cs' h=>?_,fun k' q' es' h=>?_,fun k' es' h=>?_,fun k' i' es' cs' h=>?_,fun h' h=>?_,fun k' i' r' es' h=>?_⟩
   .rw [hgs] at h;cases h
   .rw [hgs] at h;cases h
   .rw [hgs] at h;cases h
   .exact⟨_,es,hg,by show Zbh β l (some b0) l=β l;rw [Z4];exact hb.symm⟩
   .rw [hgs] at h;cases h
   .rw [hgs] at h;cases h
   .rw [hgs] at h;cases h
  .obtain⟨x',hx1,hx2,hx3⟩:=hent q e h1
   rw [h2] at hx1;cases hx1
   refine⟨hx2,?_⟩
   rcases hx3 with ⟨_,h5,h6⟩ | ⟨h4,h5,h6⟩
   .subst h6
    refine⟨rows,rfl,fun _=>⟨hlen,ad,cap,by rw [h5,hvz,hm0],by omega,hc2,?_⟩⟩
    rcases hc3 with ⟨h,_⟩ | ⟨b,mm,h,h2,h3,h4⟩
    .exact .inl h
    .refine .inr ⟨b,mm,h,h3.of_heap (hs2 b (hne0 b mm h3)),h4,?_⟩
     rcases hrowL with ⟨g1,g2⟩ | ⟨b',m',g1,g2,g3,g4⟩
     .rw [g2];trivial
     .have:b'=b:=by have:=g1.symm.trans h2;simpa using this
      subst this
      exact Zm.mono hI (hs2 b' (hne0 b' m' g2)) _ _ g4
   .obtain⟨g1,rows2,g2,g3⟩:=hE.2 q e x h5 h6
    refine⟨rows2,g2,fun _=>(g3 (by intro h;cases h;exact h4 rfl)).step hI (fun d len cap h7 h8=>hs2 d ?_)⟩
    intro hdb
    have:=hsubO e d len cap (List.mem_of_getElem? h5) (hinn q e x h1 h6 h4 hx2) h7 h8
    subst hdb
    obtain⟨_,a2,cap2,k1,_,_,k4⟩:=g3 (by intro h;cases h;exact h4 rfl)
    rw [h8] at k1;cases k1
    rcases k4 with k4 | ⟨d2,m2,k5,k6,_⟩
    .exact h7 k4
    .cases k5;exact hne0 _ _ k6 rfl
  .intro p q ep eq d l1 l2 c1 c2 h1 h2 _ _ h3 h4 h5 h6
   obtain⟨xp,hp1,hp2,hp3⟩:=hent p ep h1
   obtain⟨xq,hq1,hq2,hq3⟩:=hent q eq h2
   rcases hp3 with ⟨_,hp4,hp5⟩ | ⟨hp4,hp5,hp6⟩<;>rcases hq3 with ⟨_,hq4,hq5⟩ | ⟨hq4,hq5,hq6⟩
   .subst hp5;subst hq5
    have hpl:=(List.getElem?_eq_some_iff.1 hp1).1
    have hql:=(List.getElem?_eq_some_iff.1 hq1).1
    have f1:((Zhf es i [Zb.sl rows]).map Prod.fst)[p]?=some i:=by rw [List.getElem?_map,hp1];rfl
    have f2:((Zhf es i [Zb.sl rows]).map Prod.fst)[q]?=some i:=by rw [List.getElem?_map,hq1];rfl
    exact (List.getElem?_inj (by simpa using hpl) hnod).1 (f1.trans f2.symm)
   .exact absurd (hr.inj L l _ _ d hgL hg (.inl (hOL d l1 c1 h3 (hp4▸h5))) (hsubO eq d l2 c2 (List.mem_of_getElem? hq5) (hinn q eq xq h2 hq6 hq4 hq2) h4 h6)) hL
   .exact absurd (hr.inj L l _ _ d hgL hg (.inl (hOL d l2 c2 h4 (hq4▸h6))) (hsubO ep d l1 c1 (List.mem_of_getElem? hp5) (hinn p ep xp h1 hp6 hp4 hp2) h3 h5)) hL
   .exact huq p q ep eq d l1 l2 c1 c2 hp5 hq5 (hinn p ep xp h1 hp6 hp4 hp2) (hinn q eq xq h2 hq6 hq4 hq2) h3 h4 h5 h6
 rcases Zaho (n:=i) 0 hE.1 (fun i e x h1 h2=>(hE.2 i e x h1 h2).1) with ⟨h1,h2,h3,h4⟩ | ⟨j,e2',ts,h1,h2,h3,h4,h5⟩
 .refine main (ents.push { key := .int .i64 i,val:=a.eval z,born:=clock }) (clock+1) ?_ ?_ (fun q e he=>?_) ?_
  .rw [Array.toList_push,h3];simpa using hE.1
  .rw [h3,List.map_append,List.nodup_append]
   refine⟨hnd2,by simp,fun x hx y hy=>?_⟩
   obtain⟨p,hp,rfl⟩:=List.mem_map.1 hx
   simp only [List.map_cons,List.map_nil,List.mem_singleton] at hy
   rw [hy];exact h4 p hp
  .rw [Array.toList_push] at he
   rw [h3]
   rcases Nat.lt_or_ge q ents.toList.length with hq | hq
   .rw [List.getElem?_append_left hq] at he
    obtain⟨x,hx⟩:∃ x,es[q]?=some x:=⟨_,List.getElem?_eq_getElem (by rw [<- hE.1];exact hq)⟩
    exact⟨x,by rw [List.getElem?_append_left (by rw [<- hE.1];exact hq)];exact hx,(hE.2 q e x he hx).1,.inr ⟨h4 x (List.mem_of_getElem? hx),he,hx⟩⟩
   .rw [List.getElem?_append_right hq] at he
    have hq0:q - ents.toList.length=0:=by have:=(List.getElem?_eq_some_iff.1 he).1;simp at this;omega
    rw [hq0] at he
    simp only [List.getElem?_cons_zero,Option.some.injEq] at he
    subst he
    exact⟨(i,[.sl rows]),by rw [List.getElem?_append_right (by rw [<- hE.1];exact hq),<- hE.1,hq0];rfl,rfl,.inl ⟨rfl,rfl,rfl⟩⟩
  .simp only [Instr.mapUpdate,Sem.run_bind,run_underlying ht,Result.andThen_ok,MapKept.run_getObj_map hm,MapKept.run_checkKey hk hkey,MapKept.run_findKey hk h2,MapKept.run_setObj_map _ hm]
 .have hke:e2'.key = .int .i64 i:=(hE.2 j e2' _ h2 h1).1
  refine main (ents.modify j fun x=>{ x with key := .int .i64 i,val:=a.eval z }) clock ?_ ?_ (fun q e he=>?_) ?_
  .rw [Array.toList_modify,h5];simpa using hE.1
  .rw [Zamf i _ es ⟨_,List.mem_of_getElem? h1,rfl⟩];exact hnd2
  .rw [Array.toList_modify,List.getElem?_modify] at he
   rw [h5]
   by_cases hqj:j=q
   .subst hqj
    rw [h2] at he
    simp only [if_true,Option.map_eq_map,Option.map_some,Option.some.injEq] at he
    subst he
    exact⟨(i,[.sl rows]),List.getElem?_set_self (List.getElem?_eq_some_iff.1 h1).1,rfl,.inl ⟨rfl,rfl,rfl⟩⟩
   .have he2:ents.toList[q]?=some e:=by
     simpa [hqj] using he
    have hq:=(List.getElem?_eq_some_iff.1 he2).1
    obtain⟨x,hx⟩:∃ x,es[q]?=some x:=⟨_,List.getElem?_eq_getElem (by rw [<- hE.1];exact hq)⟩
    refine⟨x,by rw [List.getElem?_set_ne hqj];exact hx,(hE.2 q e x he2 hx).1,.inr ⟨fun hxi=>hqj ?_,he2,hx⟩⟩
    have f1:(es.map Prod.fst)[q]?=some i:=by rw [List.getElem?_map,hx,Option.map_some,hxi]
    have f2:(es.map Prod.fst)[j]?=some i:=by rw [List.getElem?_map,h1];rfl
    exact (List.getElem?_inj (by simpa using (List.getElem?_eq_some_iff.1 h1).1) hnd2).1 (f2.trans f1.symm)
  .have hej:((ents[j]?).map (·.key)).getD (.int .i64 i) = .int .i64 i:=by
    rw [<- Array.getElem?_toList,h2,Option.map_some,Option.getD_some,hke]
   rw [Nat.zero_add] at h4
   simp only [Instr.mapUpdate,Sem.run_bind,run_underlying ht,Result.andThen_ok,MapKept.run_getObj_map hm,MapKept.run_checkKey hk hkey,MapKept.run_findKey hk h4,hej,MapKept.run_keyThatStays hkey,MapKept.run_setObj_map _ hm]
end
theorem Wk.tomr{st:St}{l k:Nat}{mk:MK}(hk:0 < k)(hmk:∃ ag,mk = .v ag)(hg:get st.σ l=some (.map mk [])):Wk st ⟨st.n,st.tm,(l,.map (.rows k none) [])::Za5 [l] st.σ⟩:=by
 rintro G a w ⟨β,hr⟩
 obtain⟨n,tm,σ⟩:=st
 have hg:get σ l=some (.map mk []):=hg
 obtain⟨ag,rfl⟩:=hmk
 obtain⟨b,ents,clock,hb,hm,he⟩:=hr.blk l _ hg
 have hm:w.heap[b]?=some (.map ents clock):=hm
 have hb:β l=some b:=hb
 have h0:ents.toList=[]:=List.eq_nil_of_length_eq_zero (by rw [Zho.length (show Zho _ ag ents.toList [] from he)];rfl)
 have:=Ziz hr w (some b) l (.map (.rows k none) []) [l] (Nat.le_refl _) rfl rfl rfl (by simp) (fun _ _ _=>rfl) (fun c hc => .inr ⟨l,_,by simp,hg,?_⟩) (.inl ?_) (fun hI=>⟨b,ents,clock,Z4 _ _ _,hm,hk,⟨by rw [h0];rfl,fun i e x h1=>by rw [h0] at h1;simp at h1⟩,List.nodup_nil,fun i j ei ej d l1 l2 c1 c2 h1=>by rw [h0] at h1;simp at h1⟩)
 .exact⟨_,this⟩
 .rcases hc with hc | ⟨b1,h1,h2⟩
  .rw [Z4] at hc;exact .inl (hb.trans hc)
  .rw [Z4] at h1;cases h1
   obtain⟨e,_,_,h3,_⟩:=(Zlc hm).1 h2
   rw [h0] at h3;cases h3
 .refine⟨fun k' es' h=>by simp [ctx,PW.get] at h,fun cs' h=>by simp [ctx,PW.get] at h,fun k' q' es' h=>by simp [ctx,PW.get] at h,fun mk' es' h=>⟨_,_,hg,by show Zbh β l (some b) l=β l;rw [Z4,hb]⟩,fun k' i' es' cs' h=>by simp [ctx,PW.get] at h,fun h' h=>by simp [ctx,PW.get] at h,fun k' i' r' es' h=>by simp [ctx,PW.get] at h⟩
theorem Wk.frzm{st:St}{l k:Nat}{es:List (Int×List Zb)}(hg:get st.σ l=some (.map (.rows k none) es)):Wk st ⟨st.n,st.tm,(l,.map (.v false) es)::Za5 [l] st.σ⟩:=by
 rintro G a w ⟨β,hr⟩
 obtain⟨n,tm,σ⟩:=st
 have hg:get σ l=some (.map (.rows k none) es):=hg
 obtain⟨b,ents,clock,hb,hm,hk0,hE,hnd,huq⟩:=Zabz (hr.blk l _ hg)
 have hm:w.heap[b]?=some (.map ents clock):=hm
 have hb:β l=some b:=hb
 have key:∀ {es':List MapEntry} {xs:List (Int×List Zb)} {c:Ctx},es'.length=xs.length->(∀ (i:Nat) e x,es'[i]?=some e->xs[i]?=some x->e.key = .int .i64 x.1/\VR c (mvP false x.2) e.val)->Zho c false es' xs:=by
  intro es'
  induction es' with
  | nil=>intro xs c hl _;exact List.eq_nil_of_length_eq_zero hl.symm
  | cons e es' ih=>
   intro xs c hl h
   match xs,hl with
   | (n,ts)::r,hl=>
    obtain⟨h1,h2⟩:=h 0 e (n,ts) rfl rfl
    exact⟨n,ts,r,rfl,h1,h2,ih (by simpa using hl) (fun i e x h3 h4=>h (i+1) e x (by simpa using h3) (by simpa using h4))⟩
 have:=Ziz hr w (some b) l (.map (.v false) es) [l] (Nat.le_refl _) rfl rfl rfl (by simp) (fun _ _ _=>rfl) (fun c hc => .inr ⟨l,_,by simp,hg,?_⟩) (.inl ?_) (fun hI=>⟨b,ents,clock,Z4 _ _ _,hm,key hE.1 fun i e x h1 h2=>?_⟩)
 .exact⟨_,this⟩
 .have hc:=Z3.flat (o := .map (.v false) es) trivial hc
  rw [Z4] at hc;exact .inl (hb.trans hc)
 .refine⟨fun k' es' h=>by simp [ctx,PW.get] at h,fun cs' h=>by simp [ctx,PW.get] at h,fun k' q' es' h=>by simp [ctx,PW.get] at h,fun mk' es' h=>⟨_,_,hg,by show Zbh β l (some b) l=β l;rw [Z4,hb]⟩,fun k' i' es' cs' h=>by simp [ctx,PW.get] at h,fun h' h=>by simp [ctx,PW.get] at h,fun k' i' r' es' h=>by simp [ctx,PW.get] at h⟩
 .obtain⟨g1,rows,g2,g3⟩:=hE.2 i e x h1 h2
  refine⟨g1,?_⟩
  obtain⟨_,ad,cap,g4,g5,g6,g7⟩:=g3 (by simp)
  rw [g2]
  show VR _ (.t (.sl rows)) _
  simp only [VR,Zx]
  refine⟨ad,cap,g4,g5,g6,?_⟩
  by_cases h0:cap=0
  .exact .inl (List.eq_nil_of_length_eq_zero (by omega))
  .rcases g7 with g7 | ⟨d,m,k1,k2,k3,k4⟩
   .exact absurd g7 h0
   .have hO:Z3 β w l (.map (.rows k none) es) d := .inr ⟨b,hb,(Zlc hm).2 ⟨e,_,cap,List.mem_of_getElem? h1,Zqe _,h0,by rw [g4,k1]⟩⟩
    have hsep:=hr.sep l _ d hg hO
    refine .inr ⟨d,0,k1,⟨hsep.1,by rcases hsep.2 with h | h;exact .inl h;exact .inr (.inr h),fun m o hm2 ho=>?_⟩,Zm.mono hI rfl _ _ k4⟩
    have hm2:get ((l,Blk.map (.v false) es)::Za5 [l] σ) m=some o:=hm2
    simp only [PW.get] at hm2
    cases hbq:Nat.beq l m with
    | true=>
     have:l=m:=(Zu _ _).1 hbq
     subst this
     simp only [hbq,cond_true,Option.some.injEq] at hm2
     subst hm2
     have ho:=Z3.flat (o := .map (.v false) es) trivial ho
     rw [Z4] at ho;cases ho
     exact k2.not_map hm
    | false=>
     simp only [hbq,cond_false] at hm2
     have hml:m≠l:=fun e=>by subst e;simp at hbq
     exact hml (hr.inj m l o _ d (Zjr hm2).2 hg (ho.of (Zci β _ hml) (fun _ _=>rfl)) hO)
end Go.PW
namespace Go.PW
open Go.RowKit
def rgL(h:Bool)(l:Nat)(t:Zb):PV:=bif h then .own l (.rg t) else rgP l t
theorem Zko.oneCell{I:Nat->Prop}{w:World}{t:Zb}{v:Value}(h:Zko I w t v):v.oneCell'=true:=by
 cases t<;>simp only [Zko] at h
 case con c=>exact h.1▸h.2.1
 case sl es=>obtain⟨a,cap,rfl,_⟩:=h;rfl
 all_goals (obtain⟨_,rfl⟩:=h;rfl)
theorem Z09.vr{c:Ctx}{l n:Nat}{h:Bool}(hg:get c.σ l=some (.reg h))(hn:c.β l=some n){t:Zb}{v:Value}(hx:Z09 h (fun b=>n.testBit b=true) c.w t v):VR c (rgL h l t) v:=by
 have own:v.oneCell'=true->VR c (.own l (.rg t)) v:=fun h1=>by
  simp only [VR]
  exact⟨fun h' hg'=>by rw [hg] at hg';cases hg';exact⟨n,hn,hx⟩,h1⟩
 cases h with
 | true=>exact own (Zko.oneCell hx)
 | false=>
  have hx':Zx (fun b=>n.testBit b=true) c.w t v:=hx
  cases t with
  | sl es=>exact own hx'.oneCell
  | bool b=>simpa only [rgL,cond_false,rgP,VR,Zx] using hx'
  | int k m=>simpa only [rgL,cond_false,rgP,VR,Zx] using hx'
  | str s=>simpa only [rgL,cond_false,rgP,VR,Zx] using hx'
  | con d=>simpa only [rgL,cond_false,rgP,VR,Zx] using hx'
theorem Zkp.vals{c:Ctx}{l n b:Nat}{h:Bool}(hg:get c.σ l=some (.reg h))(hn:c.β l=some n):∀ {ts:List Zb} {off:Nat},Zkp h (fun b=>n.testBit b=true) c.w b ts off ->
 ∃ vs,VRs c (ts.map (rgL h l)) vs/\∀ j v,vs[j]?=some v->c.w.cell? ⟨b,off+j,none⟩=some v
 | [],_,_=>⟨[],by simp [VRs],by simp⟩
 | t::ts,off,hc=>by
  have hc':(∃ v,c.w.cell? ⟨b,off,none⟩=some v/\Z09 h (fun b=>n.testBit b=true) c.w t v)/\Zkp h (fun b=>n.testBit b=true) c.w b ts (off+1):=by
   cases h<;>exact hc
  obtain⟨⟨v,hv,ht⟩,hr⟩:=hc'
  obtain⟨vs,h1,h2⟩:=Zkp.vals hg hn hr
  refine⟨v::vs,by simp only [List.map_cons,VRs];exact⟨v,vs,rfl,ht.vr hg hn,h1⟩,fun j u hu=>?_⟩
  cases j with
  | zero=>simp at hu;subst hu;simpa using hv
  | succ j=>
   have:=h2 j u (by simpa using hu)
   rwa [show off+(j+1)=off+1+j by omega]
theorem Zjq.get{I:Nat->Prop}{w:World}{b k:Nat}:∀ {es:List (List Zb)} {off:Nat} (i:Nat) (e:List Zb),Zjq I w b es off->(∀ el,el∈es->el.length=k)->es[i]?=some e->Zgh I w b e (off+i*k)
 | [],_,i,e,_,_,h=>by simp at h
 | e0::es,off,0,e,h,_,he=>by
  simp only [Zjq] at h
  simp at he;subst he
  simpa using h.1
 | e0::es,off,i+1,e,h,hk,he=>by
  simp only [Zjq] at h
  have h0:=hk e0 (by simp)
  have:=Zjq.get i e h.2 (fun el hel=>hk el (List.mem_cons_of_mem _ hel)) (by simpa using he)
  rw [h0] at this
  rwa [show off+(i+1)*k=off+k+i*k by rw [Nat.add_mul,Nat.one_mul];omega]
theorem Zgh.drop{I:Nat->Prop}{w:World}{b:Nat}:∀ (k:Nat) (ts:List Zb) (off:Nat),Zgh I w b ts off->Zgh I w b (ts.drop k) (off+k)
 | 0,ts,off,h=>by simpa using h
 | k+1,[],off,_=>by simp [Zgh]
 | k+1,t::ts,off,h=>by
  simp only [Zgh] at h
  have:=Zgh.drop k ts (off+1) h.2
  rwa [List.drop_succ_cons,show off+(k+1)=off+1+k by omega]
theorem Zkp.drop{h:Bool}{I:Nat->Prop}{w:World}{b:Nat}(k:Nat)(ts:List Zb)(off:Nat)(hc:Zkp h I w b ts off):Zkp h I w b (ts.drop k) (off+k):=by
 cases h with
 | false=>exact Z1.drop k ts off hc
 | true=>exact Zgh.drop k ts off hc
theorem Z09.sl{h:Bool}{I:Nat->Prop}{w:World}{es:List (List Zb)}{v:Value}(hx:Z09 h I w (.sl es) v) :
 ∃ a cap,v = .slice a es.length cap/\es.length<=cap/\cap<=maxLen/\(es=[]\/∃ b off,a=some ⟨b,off,none⟩/\I b/\∀ k i e,(∀ el,el∈es->el.length=k)->es[i]?=some e->Zkp h I w b e (off+i*k)):=by
 cases h with
 | false=>
  have hx:Zx I w (.sl es) v:=hx
  simp only [Zx] at hx
  obtain⟨a,cap,h1,h2,h3,h4⟩:=hx
  refine⟨a,cap,h1,h2,h3,h4.imp id ?_⟩
  rintro ⟨b,off,h5,h6,h7⟩
  exact⟨b,off,h5,h6,fun k i e hk he=>h7.get i e hk he⟩
 | true=>
  have hx:Zko I w (.sl es) v:=hx
  simp only [Zko] at hx
  obtain⟨a,cap,h1,h2,h3,h4⟩:=hx
  refine⟨a,cap,h1,h2,h3,h4.imp id ?_⟩
  rintro ⟨b,off,h5,h6,h7⟩
  exact⟨b,off,h5,h6,fun k i e hk he=>h7.get i e hk he⟩
section
variable {P:Program} {o:Oper} {ρ:List (Nat×PV)} {σ:List (Nat×Blk)}
theorem Zay4{t:TypeId}{x:Operand}{e:TypeId}{l:Nat}{h:Bool}{es:List (List Zb)}(ho:o.op = .call { callee := .builtin .len,args := #[x],argTypes := #[t] })(hT:P.underlying t=some (.slice e))
 (hx:Zi ρ x=some (.own l (.rg (.sl es)))) (hg:get σ l=some (.reg h)):Za3 P o ρ σ [l] (.t (.int .i64 es.length)) []:=
 Zb9 fun G β n tm σ' A w hop hneed _=>by
  have h1:=hop x _ (by simp [ho,Op.operands,Call.operands]) hx
  simp only [VR] at h1
  obtain⟨m,_,hr⟩:=h1.1 h (by rw [<- hg];exact hneed l (by simp))
  obtain⟨a,cap,hv,_⟩:=hr.sl
  exact⟨.int .i64 es.length,by simp [execOp,ho,resolve,invoke,builtin,Builtin.len_,hv,run_underlying hT,goInt],by simp [VR,Zx]⟩
theorem Zau8{t:TypeId}{x y:Operand}{k l:Nat}{h:Bool}{es:List (List Zb)}{e:List Zb}{ki:IntKind}{i:Int}(ho:o.op = .indexAddr t x y)(ha:slInfo P t=some k)(hx:Zi ρ x=some (.own l (.rg (.sl es))))(hy:Zi ρ y=some (.t (.int ki i)))
 (hg:get σ l=some (.reg h)) (hk:∀ el,el∈es->el.length=k) (h0:0<=i) (he:es[i.toNat]?=some e):Za3 P o ρ σ [l] (.own l (.rp e)) []:=
 Zb9 fun G β n tm σ' A w hop hneed _=>by
  have e1:=hop x _ (by simp [ho,Op.operands]) hx
  have e2:=hop y _ (by simp [ho,Op.operands]) hy
  simp only [VR,Zx] at e1 e2⊢
  have hgl:get σ' l=some (.reg h):=(hneed l (by simp)).trans hg
  obtain⟨m,hm,hr⟩:=e1.1 h hgl
  obtain⟨a,cap,hv,hlc,hcm,hb⟩:=hr.sl
  have hlt:i.toNat < es.length:=(List.getElem?_eq_some_iff.1 he).1
  rcases hb with hb | ⟨b,q,ha',hI,hel⟩
  .subst hb;simp at he
  .subst ha'
   refine⟨.pointer (some ⟨b,q+i.toNat*k,none⟩),?_,fun h' hg'=>?_,rfl⟩
   .simp only [execOp,ho,hv,e2,Sem.run_bind,Zi4 w ha h0 (by omega:i < es.length),Result.andThen_ok,Sem.run_pure]
   .have:some (Blk.reg h')=some (.reg h):=Eq.trans (Eq.symm hg') hgl
    cases this
    exact⟨m,b,q+i.toNat*k,hm,rfl,fun _=>hI,hel k _ e hk he⟩
theorem Zau9{s:TypeId}{x:Operand}{i off size l:Nat}{h:Bool}{cs:List Zb}(ho:o.op = .fieldAddr s x i)(hf:fieldInfo P s i=some (off,size))(hs:size≠0)(hx:Zi ρ x=some (.own l (.rp cs)))(hg:get σ l=some (.reg h)) :
 Za3 P o ρ σ [l] (.own l (.rp (cs.drop off))) []:=
 Zb9 fun G β n tm σ' A w hop hneed _=>by
  have h1:=hop x _ (by simp [ho,Op.operands]) hx
  simp only [VR] at h1⊢
  have hgl:get σ' l=some (.reg h):=(hneed l (by simp)).trans hg
  obtain⟨m,b,q,hm,hv,hI,hc⟩:=h1.1 h hgl
  refine⟨.pointer (some ⟨b,q+off,none⟩),?_,fun h' hg'=>?_,rfl⟩
  .simp only [execOp,ho,hv,Sem.run_bind,Zi3 w hf hs,Result.andThen_ok,Sem.run_pure]
  .have:some (Blk.reg h')=some (.reg h):=Eq.trans (Eq.symm hg') hgl
   cases this
   exact⟨m,b,q+off,hm,rfl,fun hne=>hI (fun e=>hne (by rw [e];simp)),hc.drop off⟩
theorem Zamg{x:Operand}{l:Nat}{h:Bool}{cs:List Zb}(ho:o.op = .nilCheck x)(hx:Zi ρ x=some (.own l (.rp cs)))(hg:get σ l=some (.reg h)):Za3 P o ρ σ [l] (.own l (.rp cs)) []:=
 Zb9 fun G β n tm σ' A w hop hneed _=>by
  have h1:=hop x _ (by simp [ho,Op.operands]) hx
  have h2:=h1
  simp only [VR] at h1
  obtain⟨m,b,q,_,hv,_⟩:=h1.1 h ((hneed l (by simp)).trans hg)
  exact⟨.pointer (some ⟨b,q,none⟩),by simp [execOp,ho,hv],by rw [<- hv];exact h2⟩
theorem Zaxb{t:TypeId}{x:Operand}{size l:Nat}{h agg:Bool}{cs:List Zb}{p:PV}(ho:o.op = .load t x)(hT:TyF P t agg size)(hx:Zi ρ x=some (.own l (.rp cs)))(hg:get σ l=some (.reg h))(hp:Zec agg size 0 (cs.map (rgL h l))=some p) :
 Za3 P o ρ σ [l] p []:=
 Zb9 fun G β n tm σ' A w hop hneed hr=>by
  have e1:=hop x _ (by simp [ho,Op.operands]) hx
  simp only [VR] at e1
  have hgl:get σ' l=some (.reg h):=(hneed l (by simp)).trans hg
  obtain⟨m,b,q,hm,hv,hI,hc⟩:=e1.1 h hgl
  obtain⟨vs,h1,h2⟩:=Zkp.vals (c:=ctx G β w σ') hgl hm hc
  obtain⟨v,hrun,hpv⟩:=Zkf (q:=q) hT w h1 h2 hp
  rw [Nat.add_zero] at hrun
  exact⟨v,by simp only [execOp,ho,hv,Sem.run_bind,hrun,Result.andThen_ok,Sem.run_pure],hpv⟩
theorem Zay5{t:TypeId}{x:Operand}{l:Nat}{b:Bool}(ho:o.op = .unOp .not t x)(hx:Zi ρ x=some (.own l (.rg (.bool b))))(hg:get σ l=some (.reg true)):Za3 P o ρ σ [l] (.own l (.rg (.bool b))) []:=
 Zb9 fun G β n tm σ' A w hop hneed _=>by
  have h1:=hop x _ (by simp [ho,Op.operands]) hx
  simp only [VR] at h1⊢
  have hgl:get σ' l=some (.reg true):=(hneed l (by simp)).trans hg
  obtain⟨m,hm,hr⟩:=h1.1 true hgl
  obtain⟨b',hv⟩:∃ b',A.eval x = .bool b':=hr
  refine⟨.bool (!b'),by simp [execOp,ho,hv,Op.unary],fun h' hg'=>?_,rfl⟩
  have:some (Blk.reg h')=some (.reg true):=Eq.trans (Eq.symm hg') hgl
  cases this
  exact⟨m,hm,!b',rfl⟩
theorem Zay6{t t2:TypeId}{x y:Operand}{l:Nat}{k:IntKind}{i j:Int}(ho:o.op = .binOp .add t x y t2)(hx:Zi ρ x=some (.own l (.rg (.int k i))))(hy:Zi ρ y=some (.t (.int k j)))(hg:get σ l=some (.reg true)):Za3 P o ρ σ [l] (.own l (.rg (.int k i))) []:=
 Zb9 fun G β n tm σ' A w hop hneed _=>by
  have h1:=hop x _ (by simp [ho,Op.operands]) hx
  have h2:=hop y _ (by simp [ho,Op.operands]) hy
  simp only [VR,Zx] at h1 h2⊢
  have hgl:get σ' l=some (.reg true):=(hneed l (by simp)).trans hg
  obtain⟨m,hm,hr⟩:=h1.1 true hgl
  obtain⟨a,hv⟩:∃ a,A.eval x = .int k a:=hr
  have hq:=Zfo (P:=P) (op := .add) (t:=t) (x:=x) (y:=y) (u := .int k a) (v := .int k j) w trivial
  refine⟨.int k (k.wrap (a+j)),by simp [execOp,ho,hv,h2,hq,binOp,Op.intArith],fun h' hg'=>?_,rfl⟩
  have:some (Blk.reg h')=some (.reg true):=Eq.trans (Eq.symm hg') hgl
  cases this
  exact⟨m,hm,_,rfl⟩
end
theorem Zay7{w:World}{b q m:Nat}{c:Value}(hr:Za7 w b m)(hc:w.cell? ⟨b,q,none⟩=some c):q < m:=by
 obtain⟨cs,e,fr,h1,h2,_⟩:=hr
 rw [cell_of_row w b q cs e fr h1] at hc
 have:=(Array.getElem?_eq_some_iff.1 hc).1
 omega
theorem Zava{G:Frm}{β:Nat->Option Nat}{n:Nat}{tm:List (Nat×PV)}{σ:List (Nat×Blk)}{a:Act}{w:World}(h:Zaw G β ⟨n,tm,σ⟩ a w){l m b q:Nat}{c v:Value}(hg:get σ l=some (.reg true))(hm:β l=some m)(hb:m.testBit b=true)
 (hc:w.cell? ⟨b,q,none⟩=some c) (hk:Zxu c v):Zaw G β ⟨n,tm,σ⟩ a (w.setCells b q [v]):=by
 have hown:Z3 β w l (.reg true) b := .inr ⟨m,hm,hb⟩
 have hsep:=h.sep l _ b hg hown
 have hoth:∀ q o b',q≠l->get σ q=some o->Z3 β w q o b'->b'≠b:=fun q o b' hq ho hb' e=>hq (h.inj q l o _ b ho hg (e▸hb') hown)
 have hheap:∀ b',b'≠b->(w.setCells b q [v]).heap[b']?=w.heap[b']?:=fun b' hb'=>Zc7 b [v] q w b' hb'
 have hO:∀ q' o b',get σ q'=some o->Z3 β (w.setCells b q [v]) q' o b'->Z3 β w q' o b':=fun q' o b' ho hb'=>by
  by_cases e:q'=l
  .subst e
   rw [hg] at ho;cases ho
   rcases hb' with ⟨_,hr⟩ | ⟨n',h1,h2⟩
   .cases hr
   .exact .inr ⟨n',h1,h2⟩
  .exact hb'.of_heap (fun b2 h2=>hheap b2 (hoth q' o b2 e ho h2))
 have hI:∀ b',(ctx G β w σ).I b'->(ctx G β (w.setCells b q [v]) σ).I b'/\(ctx G β (w.setCells b q [v]) σ).w.heap[b']?=(ctx G β w σ).w.heap[b']?:=fun b' hb'=>
  ⟨⟨by rw [Zf9];exact hb'.1,hb'.2.1,fun q' o ho hq=>hb'.2.2 q' o ho (hO q' o b' ho hq)⟩,hheap b' (fun e=>hb'.2.2 l _ hg (e▸hown))⟩
 have hL:∀ q',Zac (ctx G β w σ) (ctx G β (w.setCells b q [v]) σ) q':=fun q'=>by
  by_cases e:q'=l
  .subst e
   have bad:∀ {x:Blk},get (ctx G β (w.setCells b q [v]) σ).σ q'=some x->x = .reg true:=fun hx=>Option.some.inj (Eq.trans (Eq.symm hx) hg)
   refine⟨fun _ _ hx=>absurd (bad hx) (by simp),fun _ hx=>absurd (bad hx) (by simp),fun _ _ _ hx=>absurd (bad hx) (by simp),fun _ _ hx=>absurd (bad hx) (by simp),fun _ _ _ _ hx=>absurd (bad hx) (by simp),fun h' hx=>?_,fun _ _ _ _ hx=>absurd (bad hx) (by simp)⟩
   cases bad hx
   refine⟨hg,fun n' hn'=>⟨n',hn',fun b' hb'=>⟨hb',?_⟩⟩⟩
   by_cases eb:b'=b
   .subst eb
    refine⟨fun off c0 h0=>?_,fun m hr=>Zb0 b' [v] q w hr⟩
    show ∃ c',(w.setCells b' q [v]).cell? _=some c'/\Zxu c0 c'
    by_cases eo:off=q
    .subst eo
     have:=World.cell?_setCells_in b' [v] off w (fun j hj=>by
      have:j=0:=by simpa using hj
      subst this
      rw [Nat.add_zero,hc];rfl) 0 (by simp)
     rw [Nat.add_zero] at this
     have h0:w.cell? ⟨b',off,none⟩=some c0:=h0
     rw [hc] at h0;cases h0
     exact⟨v,this,hk⟩
    .rw [World.cell?_setCells_out b' [v] q w ⟨b',off,none⟩ (fun _ _=>by simp;omega)]
     exact⟨c0,h0,.inl rfl⟩
   .exact ShB.same (hheap b' eb)
  .exact Zac.same rfl rfl (fun o b2 ho h2=>hheap b2 (hoth q' o b2 e ho h2))
 obtain⟨e1,e2,e3⟩:=Zga b [v] q w
 exact { defers := h.defers, sz := h.sz, base := by rw [Zf9]; exact h.base, os := e1.trans h.os, tape := e2.trans h.tape, output := e3.trans h.output,
         old:=fun b' hb' ho=>by
          have:b'≠b:=by
           rintro rfl
           rcases hsep.2 with h4 | h4
           .omega
           .exact ho h4
          exact (hheap b' this).trans (h.old b' hb' ho),
         A:=h.A,gl:=h.gl,
         inj:=fun q1 q2 o o' b' h1 h2 h3 h4=>h.inj q1 q2 o o' b' h1 h2 (hO q1 o b' h1 h3) (hO q2 o' b' h2 h4),
         sep:=fun q1 o b' h1 h3=>by rw [Zf9];exact h.sep q1 o b' h1 (hO q1 o b' h1 h3),
         fix:=h.fix,row0:=h.row0.step (fun q1 _=>hL q1),
         blk:=fun q1 o ho=>by
          by_cases e:q1=l
          .subst e
           have ho:get σ q1=some o:=ho
           rw [hg] at ho;cases ho
           obtain⟨n',h1,h2⟩:=h.blk q1 _ hg
           exact⟨n',h1,fun b' hb'=>by obtain⟨s,hs⟩:=h2 b' hb';exact⟨s,Zb0 b [v] q w hs⟩⟩
          .exact BR.step hI rfl (fun b' hb'=>hheap b' (hoth q1 o b' e ho hb')) (fun q2 _=>hL q2) (h.blk q1 o ho),
         tm:=fun i p hp=>⟨(h.tm i p hp).1,VR.step hI p _ (fun q1 _=>hL q1) (h.tm i p hp).2⟩ }
def Z2v:Zb->Zb->Bool
 | .bool _,.bool _=>true
 | .int k _,.int k' _=>decide (k=k')
 | .str _,.str _=>true
 | _,_=>false
theorem Zay8{I I':Nat->Prop}{w w':World}{x y:Zb}{c v:Value}(hk:Z2v x y=true)(hx:Zko I w x c)(hy:Zko I' w' y v):Zxu c v:=by
 cases x<;>cases y<;>simp only [Z2v,Bool.false_eq_true,decide_eq_true_eq] at hk
 .obtain⟨a,rfl⟩:=hx;obtain⟨b,rfl⟩:=hy;exact .inr (.inl ⟨a,b,rfl,rfl⟩)
 .subst hk;obtain⟨a,rfl⟩:=hx;obtain⟨b,rfl⟩:=hy;exact .inr (.inr (.inl ⟨_,a,b,rfl,rfl⟩))
 .obtain⟨a,rfl⟩:=hx;obtain⟨b,rfl⟩:=hy;exact .inr (.inr (.inr ⟨a,b,rfl,rfl⟩))
theorem Za0c{I:Nat->Prop}{w:World}{x y:Zb}{v:Value}(hk:Z2v x y=true)(h:Zx I w y v):Zko I w y v:=by
 cases x<;>cases y<;>simp only [Z2v,Bool.false_eq_true] at hk<;>simp only [Zx] at h<;>exact⟨_,h⟩
def Zad9(σ:List (Nat×Blk)):PV->Option Zb
 | .t z=>some z
 | .own l (.rg z)=>match get σ l with | some (.reg true)=>some z | _=>none
 | _=>none
section
variable {P:Program} {o:Oper} {ρ:List (Nat×PV)} {σ:List (Nat×Blk)}
theorem Zaxc{t:TypeId}{x y:Operand}{l:Nat}{c0 z:Zb}{cs:List Zb}{p:PV}{need:List Nat}(hl:l∈need)(hpn:∀ m,p.has m=true->m∈need)(ho:o.op = .store t x y)(hd:o.dst=none)(hT:TyF P t false 1)(hx:Zi ρ x=some (.own l (.rp (c0::cs))))(hy:Zi ρ y=some p)
 (hg0:get σ l=some (.reg true)) (hz:Zad9 σ p=some z) (hk:Z2v c0 z=true):OpF P o ρ σ need [] (.tup []) []:=by
 rintro G n tm σ' a w K Q hag hneed _ ⟨β,hr⟩ hK
 have hg:get σ' l=some (.reg true):=by rw [hneed l hl];exact hg0
 have hop:∀ x q,x∈o.op.operands->Zi ρ x=some q->VR (ctx G β w σ') q (a.eval x):=fun x q hx hq=>Zh1 hr hq (fun t r ht hr'=>hag t r (ht▸hx) hr')
 have e1:=hop x _ (by simp [ho,Op.operands]) hx
 have e2:=hop y _ (by simp [ho,Op.operands]) hy
 simp only [VR] at e1
 obtain⟨m,b,q,hm,hv,hI,hcs⟩:=e1.1 true hg
 have hb:=hI (by simp)
 have hcs:Zgh _ w b (c0::cs) q:=hcs
 simp only [Zgh] at hcs
 obtain⟨⟨c,hc,hs⟩,_⟩:=hcs
 obtain⟨n',hn',hrows⟩:=hr.blk l _ hg
 have:n'=m:=by have:=hn'.symm.trans hm;simpa using this
 subst this
 obtain⟨sz,hrow⟩:=hrows b hb
 have hrow:Za7 w b sz:=hrow
 have hlt:=Zay7 hrow hc
 have hsv:∃ I,Zko I w z (a.eval y):=by
  unfold Zad9 at hz
  split at hz
  .cases hz
   simp only [VR] at e2
   exact⟨_,Za0c hk e2⟩
  .rename_i l' z'
   split at hz
   .rename_i hg'
    cases hz
    simp only [VR] at e2
    obtain⟨m',_,h2⟩:=e2.1 true ((hneed l' (hpn l' (by simp [PV.has]))).trans hg')
    exact⟨_,h2⟩
   .cases hz
  .cases hz
 obtain⟨I',hsv⟩:=hsv
 have hke:=Zay8 hk hs hsv
 have hone:(a.eval y).oneCell'=true:=hsv.oneCell
 have hp1:(Zz p).length=1/\(Zz p).all PV.one=true:=by
  unfold Zad9 at hz
  split at hz
  .exact⟨rfl,rfl⟩
  .exact⟨rfl,rfl⟩
  .cases hz
 have hrun:=Zhq hT w e2 hp1.1 hp1.2 hrow (q:=q) (by omega)
 have hcell:(a.eval y).cells.toList=[a.eval y]:=by
  have h1:=e2.cells
  have h2:Zz p=[p]:=by
   unfold Zad9 at hz
   split at hz
   .rfl
   .rfl
   .cases hz
  rw [h2] at h1
  have h3:=h1.length
  cases hv':a.eval y<;>simp_all [Value.cells,Value.oneCell']
 rw [hcell] at hrun
 have hrun2:(execOp a.eval o).run P w = .ok .skip (w.setCells b q [a.eval y]):=by
  simp only [execOp,ho,hv,Sem.run_bind,hrun,Result.andThen_ok,Sem.run_pure]
 have hr':=Zava hr (a:=a) hg hm hb hc hke
 unfold Oper.wp
 rw [hrun2,Oper.upon_skip,hd]
 have:=hK (.tuple #[]) (w.setCells b q [a.eval y]) ⟨β,hr',by simp [VR,VRs]⟩
 rw [hd] at this
 exact this
end
theorem Zac.told{c c':Ctx}{m:Nat}(hβ:c'.β m=c.β m)(hw:c'.w=c.w)(h:∀ o',get c'.σ m=some o'->∃ o,get c.σ m=some o/\(o'=o\/∃ cs cs',o = .box cs/\o' = .box cs')):Zac c c' m:=by
 refine⟨fun k es' hm=>?_,fun cs' hm=>?_,fun k q es' hm=>?_,fun ag es' hm=>?_,fun k i es' cs' hm=>?_,fun h' hm=>?_,fun k i r es' hm=>?_⟩
 all_goals obtain⟨o,h1,h2⟩:=h _ hm
 .rcases h2 with h2 | ⟨_,_,_,h2⟩
  .subst h2;exact⟨es',h1,Nat.le_refl _,fun _=>⟨hβ,fun _ _ _ h=>by rw [hw];exact h⟩⟩
  .cases h2
 .rcases h2 with h2 | ⟨cs,cs2,h3,h2⟩
  .subst h2;exact⟨cs',h1,hβ⟩
  .subst h3;exact⟨cs,h1,hβ⟩
 .rcases h2 with h2 | ⟨_,_,_,h2⟩
  .subst h2;exact⟨es',h1,Nat.le_refl _,fun _=>⟨hβ,fun _ _=>⟨fun _ h=>by rw [hw];exact h,fun _ _=>by rw [hw]⟩⟩⟩
  .cases h2
 .rcases h2 with h2 | ⟨_,_,_,h2⟩
  .subst h2;exact⟨_,es',h1,hβ⟩
  .cases h2
 .rcases h2 with h2 | ⟨_,_,_,h2⟩
  .subst h2;exact⟨es',cs',h1,rfl,hβ,fun _ _ _ h=>by rw [hw];exact h⟩
  .cases h2
 .rcases h2 with h2 | ⟨_,_,_,h2⟩
  .subst h2;exact⟨h1,fun n hn=>⟨n,hβ.trans hn,fun _ hb=>⟨hb,by rw [hw];exact ShB.same rfl⟩⟩⟩
  .cases h2
 .rcases h2 with h2 | ⟨_,_,_,h2⟩
  .subst h2;exact⟨i,es',h1,Nat.le_refl _,fun _=>⟨hβ,fun _ _ _ h=>by rw [hw];exact h⟩⟩
  .cases h2
theorem Zul{G:Frm}{β:Nat->Option Nat}{n:Nat}{tm tm':List (Nat×PV)}{σ σ':List (Nat×Blk)}{a:Act}{w:World}(h:Zaw G β ⟨n,tm,σ⟩ a w){l r N M:Nat}{B:Blk}(hl0:1000<=l)(hl:get σ l=some (.reg false))(hN:β l=some N)(hr:get σ r=some B)(hlr:l≠r)
 (hM:∀ b,M.testBit b=true->Z3 β w r B b/\∃ m,Za7 w b m) {Tn:List PV->List PV->Prop}
 (hσ:∀ m o',get σ' m=some o'->m≠r/\∃ o,get σ m=some o/\(o'=o\/∃ cs cs',o = .box cs/\o' = .box cs'/\cs'.length=cs.length/\cs'.all PV.one=true/\Tn cs cs'))
 (hT:(∀ b,(ctx G β w σ).I b->(ctx G (Zbh β l (some (N ||| M))) w σ').I b/\(ctx G (Zbh β l (some (N ||| M))) w σ').w.heap[b]?=(ctx G β w σ).w.heap[b]?)->(∀ m,Zac (ctx G β w σ) (ctx G (Zbh β l (some (N ||| M))) w σ') m) ->
  (∀ cs cs',Tn cs cs'->∀ vs,VRs (ctx G β w σ) cs vs->VRs (ctx G (Zbh β l (some (N ||| M))) w σ') cs' vs) /\
  ∀ i q,get tm' i=some q->∃ p,get tm i=some p/\∀ v,VR (ctx G β w σ) p v->VR (ctx G (Zbh β l (some (N ||| M))) w σ') q v) :
 Zaw G (Zbh β l (some (N ||| M))) ⟨n,tm',σ'⟩ a w/\(∀ b,(ctx G β w σ).I b->(ctx G (Zbh β l (some (N ||| M))) w σ').I b/\(ctx G (Zbh β l (some (N ||| M))) w σ').w.heap[b]?=(ctx G β w σ).w.heap[b]?)/\∀ m,Zac (ctx G β w σ) (ctx G (Zbh β l (some (N ||| M))) w σ') m:=by
 have hl':∀ o',get σ' l=some o'->o' = .reg false:=fun o' ho=>by
  obtain⟨_,o,h1,h2⟩:=hσ l o' ho
  rw [hl] at h1;cases h1
  rcases h2 with h2 | ⟨_,_,h2,_⟩
  .exact h2
  .cases h2
 have hO:∀ m o' b,get σ' m=some o'->Z3 (Zbh β l (some (N ||| M))) w m o' b->(∃ o,get σ m=some o/\Z3 β w m o b)\/(m=l/\Z3 β w r B b):=fun m o' b hm ho=>by
  by_cases e:m=l
  .subst e
   have:=hl' o' hm
   subst this
   rcases ho with ⟨_,hr⟩ | ⟨n',h1,h2⟩
   .cases hr
   .rw [Z4] at h1
    cases h1
    have h2:(N ||| M).testBit b=true:=h2
    rw [Nat.testBit_or,Bool.or_eq_true] at h2
    rcases h2 with h2 | h2
    .exact .inl ⟨_,hl,.inr ⟨N,hN,h2⟩⟩
    .exact .inr ⟨rfl,(hM b h2).1⟩
  .obtain⟨_,o,h1,h2⟩:=hσ m o' hm
   rcases h2 with rfl | ⟨cs,cs',rfl,rfl,_⟩
   .exact .inl ⟨_,h1,ho.of (Zci β _ e) (fun _ _=>rfl)⟩
   .exact .inl ⟨_,h1,.inl ((Zci β _ e).symm.trans (Z3.flat (o := .box cs') trivial ho))⟩
 have hI:∀ b,(ctx G β w σ).I b->(ctx G (Zbh β l (some (N ||| M))) w σ').I b/\(ctx G (Zbh β l (some (N ||| M))) w σ').w.heap[b]?=(ctx G β w σ).w.heap[b]?:=fun b hb=>
  ⟨⟨hb.1,hb.2.1,fun m o hm ho=>by
   rcases hO m o b hm ho with ⟨o2,h1,h2⟩ | ⟨_,h2⟩
   .exact hb.2.2 m o2 h1 h2
   .exact hb.2.2 r B hr h2⟩,rfl⟩
 have hL:∀ m,Zac (ctx G β w σ) (ctx G (Zbh β l (some (N ||| M))) w σ') m:=fun m=>by
  by_cases e:m=l
  .subst e
   cases hg:get σ' m with
   | none=>exact Zac.none hg
   | some o'=>
    have:=hl' o' hg
    subst this
    have bad:∀ {x:Blk},get (ctx G (Zbh β m (some (N ||| M))) w σ').σ m=some x->x = .reg false:=fun hx=>hl' _ hx
    refine⟨fun _ _ hx=>absurd (bad hx) (by simp),fun _ hx=>absurd (bad hx) (by simp),fun _ _ _ hx=>absurd (bad hx) (by simp),fun _ _ hx=>absurd (bad hx) (by simp),fun _ _ _ _ hx=>absurd (bad hx) (by simp),fun h' hx=>?_,fun _ _ _ _ hx=>absurd (bad hx) (by simp)⟩
    cases bad hx
    refine⟨hl,fun n' hn'=>⟨N ||| M,Z4 _ _ _,fun b hb=>⟨?_,ShB.same rfl⟩⟩⟩
    have:n'=N:=by have:=hN.symm.trans hn';simpa using this.symm
    subst this
    rw [Nat.testBit_or,hb];rfl
  .exact Zac.told (Zci β _ e) rfl (fun o' ho'=>by
    obtain⟨_,o,h1,h2⟩:=hσ m o' ho'
    refine⟨o,h1,h2.imp id ?_⟩
    rintro ⟨cs,cs',h3,h4,_⟩
    exact⟨cs,cs',h3,h4⟩)
 obtain⟨hT1,hT2⟩:=hT hI hL
 refine⟨?_,hI,hL⟩
 exact { defers := h.defers, sz := h.sz, base := h.base, os := h.os, tape := h.tape, output := h.output, old := h.old, A := h.A, gl := h.gl,
         inj:=fun m m' o o' b hm hm' hb hb'=>by
          have k1:=(hσ m o hm).1
          have k2:=(hσ m' o' hm').1
          rcases hO m o b hm hb with ⟨o1,h1,h2⟩ | ⟨h1,h2⟩<;>rcases hO m' o' b hm' hb' with ⟨o3,h3,h4⟩ | ⟨h3,h4⟩
          .exact h.inj m m' o1 o3 b h1 h3 h2 h4
          .exact absurd (h.inj m r o1 B b h1 hr h2 h4) k1
          .exact absurd (h.inj m' r o3 B b h3 hr h4 h2) k2
          .exact h1.trans h3.symm,
         sep:=fun m o b hm hb=>by
          rcases hO m o b hm hb with ⟨o1,h1,h2⟩ | ⟨_,h2⟩
          .exact h.sep m o1 b h1 h2
          .exact h.sep r B b hr h2,
         fix:=fun m cs hm1 hm=>by
          have e:m≠l:=by omega
          rw [Zci β _ e]
          obtain⟨_,o,h1,h2⟩:=hσ m _ hm
          rcases h2 with h2 | ⟨cs0,_,h2,_⟩
          .subst h2;exact h.fix m cs hm1 h1
          .subst h2;exact h.fix m cs0 hm1 h1,
         row0:=h.row0.step (fun m _=>hL m),
         blk:=fun m o hm=>by
          by_cases e:m=l
          .subst e
           have:=hl' o hm
           subst this
           refine⟨N ||| M,Z4 _ _ _,fun b hb=>?_⟩
           rw [Nat.testBit_or,Bool.or_eq_true] at hb
           rcases hb with hb | hb
           .obtain⟨n',h1,h2⟩:=h.blk m _ hl
            have:n'=N:=by have:=h1.symm.trans hN;simpa using this
            subst this
            exact h2 b hb
           .exact (hM b hb).2
          .obtain⟨_,o0,h1,h2⟩:=hσ m o hm
           have hb:=h.blk m o0 h1
           rcases h2 with rfl | ⟨cs,cs',rfl,rfl,h3,h4,h5⟩
           .exact BR.step hI (Zci β _ e) (fun _ _=>rfl) (fun q _=>hL q) hb
           .obtain⟨b,vs,f1,f2,f3,f4,f5⟩:=hb
            exact⟨b,vs,(Zci β _ e).trans f1,by rw [h3];exact f2,f3,hT1 cs cs' h5 vs f4,h4⟩,
         tm:=fun i q hq=>by
          obtain⟨p,hp,hv⟩:=hT2 i q hq
          exact⟨(h.tm i p hp).1,hv _ (h.tm i p hp).2⟩ }
theorem Zab0(m:Nat):Nat.beq m m=true:=(Zu m m).2 rfl
mutual
def Zj1(g:Nat)(r l:Nat)(es:List (List Zb)):PV->List Prop×PV
 | .t x=>([],.t x)
 | .nils=>([],.nils)
 | .osl m n=>bif Nat.beq g 0&&Nat.beq m r then ([es.length=n],.own l (.rg (.sl es))) else ([],.osl m n)
 | .bptr m o=>([],.bptr m o)
 | .rptr m n i o=>([],.rptr m n i o)
 | .vptr cs=>([],.vptr cs)
 | .agg cs=>((Zfr g r l es cs).1,.agg (Zfr g r l es cs).2)
 | .tup cs=>((Zfr g r l es cs).1,.tup (Zfr g r l es cs).2)
 | .fn f cs=>((Zfr g r l es cs).1,.fn f (Zfr g r l es cs).2)
 | .own m (.xw n)=>bif Nat.beq g 1&&Nat.beq m r then ([es.length=n],.own l (.rg (.sl es))) else ([],.own m (.xw n))
 | .own m (.rg x)=>bif Nat.beq g 2&&Nat.beq m r then ([],.own l (.rg x)) else bif Nat.beq g 3&&Nat.beq m r then ([],.t x) else ([],.own m (.rg x))
 | .own m d=>([],.own m d)
def Zfr(g:Nat)(r l:Nat)(es:List (List Zb)):List PV->List Prop×List PV
 | []=>([],[])
 | c::cs=>((Zj1 g r l es c).1++(Zfr g r l es cs).1,(Zj1 g r l es c).2::(Zfr g r l es cs).2)
end
def Zir(g:Nat)(r l:Nat)(es:List (List Zb)):List (Nat×PV)->List Prop×List (Nat×PV)
 | []=>([],[])
 | (i,p)::q=>((Zj1 g r l es p).1++(Zir g r l es q).1,(i,(Zj1 g r l es p).2)::(Zir g r l es q).2)
def Zvu(g:Nat)(r l:Nat)(es:List (List Zb)):List (Nat×Blk)->Option (List Prop×List (Nat×Blk))
 | []=>some ([],[])
 | (m,b)::q=>
  match Zvu g r l es q with
  | none=>none
  | some (ps,q')=>
   bif Nat.beq m r then some (ps,q') else
   match b with
   | .box cs=>bif (Zfr g r l es cs).2.all PV.one then some ((Zfr g r l es cs).1++ps,(m,.box (Zfr g r l es cs).2)::q') else none
   | b=>bif b.has r then none else some (ps,(m,b)::q')
section
variable {c c':Ctx} {g:Nat} {r l:Nat} {es:List (List Zb)}
mutual
theorem Zxq(hI:∀ b,c.I b->c'.I b/\c'.w.heap[b]?=c.w.heap[b]?)(hL:∀ m,Zac c c' m)
 (hrow:g=0->∀ v,VR c (.osl r es.length) v->VR c' (.own l (.rg (.sl es))) v) (hxr:g=1->∀ v,VR c (.own r (.xw es.length)) v->VR c' (.own l (.rg (.sl es))) v)
 (hreg:(g=2->∀ x v,VR c (.own r (.rg x)) v->VR c' (.own l (.rg x)) v)/\(g=3->∀ x v,VR c (.own r (.rg x)) v->VR c' (.t x) v)):∀ (p:PV) (v:Value),Zaj (Zj1 g r l es p).1->VR c p v->VR c' (Zj1 g r l es p).2 v
 | .t x,v,_,h=>VR.step hI (.t x) v (fun m _=>hL m) h
 | .nils,v,_,h=>h
 | .osl m n,v,hc,h=>by
  simp only [Zj1] at hc⊢
  cases hb:Nat.beq g 0&&Nat.beq m r with
  | true=>
   simp only [Bool.and_eq_true,Zu] at hb
   obtain⟨rfl,rfl⟩:=hb
   simp only [Zab0,Bool.true_and,cond_true] at hc⊢
   exact hrow rfl v (hc.1▸h)
  | false=>simp only [cond_false];exact VR.step hI (.osl m n) v (fun m _=>hL m) h
 | .bptr m o,v,_,h=>VR.step hI (.bptr m o) v (fun m _=>hL m) h
 | .rptr m n i o,v,_,h=>VR.step hI (.rptr m n i o) v (fun m _=>hL m) h
 | .vptr cs,v,_,h=>VR.step hI (.vptr cs) v (fun m _=>hL m) h
 | .agg cs,v,hc,h=>by
  simp only [Zj1,VR] at hc h⊢
  obtain⟨vs,hv,hs⟩:=h
  exact⟨vs,hv,Zna hI hL hrow hxr hreg cs vs hc hs⟩
 | .tup cs,v,hc,h=>by
  simp only [Zj1,VR] at hc h⊢
  obtain⟨vs,hv,hs⟩:=h
  exact⟨vs,hv,Zna hI hL hrow hxr hreg cs vs hc hs⟩
 | .fn f cs,v,hc,h=>by
  simp only [Zj1,VR] at hc h⊢
  obtain⟨vs,hv,hs⟩:=h
  exact⟨vs,hv,Zna hI hL hrow hxr hreg cs vs hc hs⟩
 | .own m d,v,hc,h=>by
  have same:VR c' (.own m d) v:=VR.step hI (.own m d) v (fun m _=>hL m) h
  cases d with
  | xw n=>
   simp only [Zj1] at hc⊢
   cases hb:Nat.beq g 1&&Nat.beq m r with
   | true=>
    simp only [Bool.and_eq_true,Zu] at hb
    obtain⟨rfl,rfl⟩:=hb
    simp only [Zab0,Bool.true_and,cond_true] at hc⊢
    exact hxr rfl v (hc.1▸h)
   | false=>simp only [cond_false];exact same
  | rg x=>
   simp only [Zj1] at hc⊢
   cases hb:Nat.beq g 2&&Nat.beq m r with
   | true=>
    simp only [Bool.and_eq_true,Zu] at hb
    obtain⟨rfl,rfl⟩:=hb
    simp only [Zab0,Bool.true_and,cond_true] at hc⊢
    exact hreg.1 rfl x v h
   | false=>
    simp only [cond_false]
    cases hb2:Nat.beq g 3&&Nat.beq m r with
    | true=>
     simp only [Bool.and_eq_true,Zu] at hb2
     obtain⟨rfl,rfl⟩:=hb2
     simp only [cond_true]
     exact hreg.2 rfl x v h
    | false=>simp only [cond_false];exact same
  | _=>exact same
theorem Zna(hI:∀ b,c.I b->c'.I b/\c'.w.heap[b]?=c.w.heap[b]?)(hL:∀ m,Zac c c' m)
 (hrow:g=0->∀ v,VR c (.osl r es.length) v->VR c' (.own l (.rg (.sl es))) v) (hxr:g=1->∀ v,VR c (.own r (.xw es.length)) v->VR c' (.own l (.rg (.sl es))) v)
 (hreg:(g=2->∀ x v,VR c (.own r (.rg x)) v->VR c' (.own l (.rg x)) v)/\(g=3->∀ x v,VR c (.own r (.rg x)) v->VR c' (.t x) v)):∀ (cs:List PV) (vs:List Value),Zaj (Zfr g r l es cs).1->VRs c cs vs->VRs c' (Zfr g r l es cs).2 vs
 | [],vs,_,h=>h
 | p::cs,vs,hc,h=>by
  simp only [Zfr,VRs] at hc h⊢
  obtain⟨h1,h2⟩:=Zw.1 hc
  obtain⟨v,rest,rfl,hv,hr⟩:=h
  exact⟨v,rest,rfl,Zxq hI hL hrow hxr hreg p v h1 hv,Zna hI hL hrow hxr hreg cs rest h2 hr⟩
end
theorem Zajc:∀ (cs:List PV),(Zfr g r l es cs).2.length=cs.length
 | []=>rfl
 | p::cs=>by simp only [Zfr,List.length_cons,Zajc cs]
theorem Zum:∀ (tm:List (Nat×PV)) (i:Nat) (q:PV),Zaj (Zir g r l es tm).1->get (Zir g r l es tm).2 i=some q->∃ p,get tm i=some p/\q=(Zj1 g r l es p).2/\Zaj (Zj1 g r l es p).1
 | [],i,q,_,h=>by cases h
 | (j,p)::tm,i,q,hc,h=>by
  simp only [Zir] at hc h
  obtain⟨h1,h2⟩:=Zw.1 hc
  simp only [PW.get] at h⊢
  cases hb:Nat.beq j i with
  | true=>simp only [hb,cond_true,Option.some.injEq] at h⊢;exact⟨p,rfl,h.symm,h1⟩
  | false=>simp only [hb,cond_false] at h⊢;exact Zum tm i q h2 h
theorem Zs2:∀ {σ σ':List (Nat×Blk)} {ps:List Prop},Zvu g r l es σ=some (ps,σ')->Zaj ps ->
 (∀ m o',get σ' m=some o'->m≠r/\∃ o,get σ m=some o/\((o'=o/\∀ cs,o ≠ .box cs)\/∃ cs cs',o = .box cs/\o' = .box cs'/\cs'.length=cs.length/\cs'.all PV.one=true/\(cs'=(Zfr g r l es cs).2/\Zaj (Zfr g r l es cs).1))) /\
 (∀ m o,m≠r->get σ m=some o->(∀ cs,o ≠ .box cs)->get σ' m=some o)
 | [],σ',ps,h,_=>by
  simp only [Zvu,Option.some.injEq,Prod.mk.injEq] at h
  obtain⟨_,rfl⟩:=h
  exact⟨fun m o' h=>(by cases h),fun m o _ h _=>(by cases h)⟩
 | (j,b)::q,σ',ps,h,hc=>by
  simp only [Zvu] at h
  split at h
  .cases h
  .rename_i ps' q' hq
   cases hb:Nat.beq j r with
   | true=>
    simp only [hb,cond_true,Option.some.injEq,Prod.mk.injEq] at h
    obtain⟨rfl,rfl⟩:=h
    have hjr:j=r:=(Zu _ _).1 hb
    obtain⟨g1,g2⟩:=Zs2 hq hc
    refine⟨fun m o' hm=>?_,fun m o hm hg hbx=>g2 m o hm (by simp only [PW.get] at hg;rwa [Zdi (by rw [hjr];exact Ne.symm hm),cond_false] at hg) hbx⟩
    obtain⟨h1,o,h2,h3⟩:=g1 m o' hm
    exact⟨h1,o,by simp only [PW.get];rw [Zdi (by rw [hjr];exact Ne.symm h1),cond_false];exact h2,h3⟩
   | false=>
    simp only [hb,cond_false] at h
    have hjr:j≠r:=fun e=>by subst e;simp at hb
    have key:∀ b',σ'=(j,b')::q'->Zaj ps'->((b'=b/\∀ cs,b ≠ .box cs)\/∃ cs cs',b = .box cs/\b' = .box cs'/\cs'.length=cs.length/\cs'.all PV.one=true/\(cs'=(Zfr g r l es cs).2/\Zaj (Zfr g r l es cs).1)) ->
     (∀ m o',get σ' m=some o'->m≠r/\∃ o,get ((j,b)::q) m=some o/\((o'=o/\∀ cs,o ≠ .box cs)\/∃ cs cs',o = .box cs/\o' = .box cs'/\cs'.length=cs.length/\cs'.all PV.one=true/\(cs'=(Zfr g r l es cs).2/\Zaj (Zfr g r l es cs).1))) /\
     (∀ m o,m≠r->get ((j,b)::q) m=some o->(∀ cs,o ≠ .box cs)->get σ' m=some o):=by
     intro b' hσ hcq hbb
     subst hσ
     obtain⟨g1,g2⟩:=Zs2 hq hcq
     refine⟨fun m o' hm=>?_,fun m o hm hg hbx=>?_⟩
     .simp only [PW.get] at hm⊢
      cases hm2:Nat.beq j m with
      | true=>
       simp only [hm2,cond_true,Option.some.injEq] at hm⊢
       subst hm
       exact⟨fun e=>hjr (((Zu _ _).1 hm2).trans e),b,rfl,hbb⟩
      | false=>simp only [hm2,cond_false] at hm⊢;exact g1 m o' hm
     .simp only [PW.get] at hg⊢
      cases hm2:Nat.beq j m with
      | true=>
       simp only [hm2,cond_true,Option.some.injEq] at hg⊢
       subst hg
       rcases hbb with ⟨hbb,_⟩ | ⟨cs,_,hbb,_⟩
       .exact hbb
       .exact absurd hbb (hbx cs)
      | false=>simp only [hm2,cond_false] at hg⊢;exact g2 m o hm hg hbx
    split at h
    .rename_i cs
     cases ho:(Zfr g r l es cs).2.all PV.one with
     | false=>simp [ho] at h
     | true=>
      simp only [ho,cond_true,Option.some.injEq,Prod.mk.injEq] at h
      obtain⟨rfl,rfl⟩:=h
      obtain⟨c1,c2⟩:=Zw.1 hc
      exact key _ rfl c2 (.inr ⟨cs,_,rfl,rfl,Zajc cs,ho,rfl,c1⟩)
    .rename_i hbx
     cases hh:b.has r with
     | true=>simp [hh] at h
     | false=>
      simp only [hh,cond_false,Option.some.injEq,Prod.mk.injEq] at h
      obtain⟨rfl,rfl⟩:=h
      exact key b rfl hc (.inl ⟨rfl,fun cs e=>hbx cs e⟩)
end
def Zpz:Option Nat->Nat
 | some b=>2 ^ b
 | none=>0
theorem Z6q{o:Option Nat}{b:Nat}(h:(Zpz o).testBit b=true):o=some b:=by
 cases o with
 | none=>simp [Zpz] at h
 | some b0=>simp only [Zpz,Nat.testBit_two_pow,decide_eq_true_eq] at h;rw [h]
theorem Z37(b:Nat):(Zpz (some b)).testBit b=true:=by simp [Zpz,Nat.testBit_two_pow]
section
variable {n l r k:Nat} {tm:List (Nat×PV)} {σ σ':List (Nat×Blk)} {es:List (List Zb)} {ps:List Prop}
theorem Wk.absRow(hl0:1000<=l)(hlr:l≠r)(hl:get σ l=some (.reg false))(hr:get σ r=some (.row k es))(hsc:∀ el,el∈es->∀ x,x∈el->Zb.scal x=true)
 (hσ:Zvu 0 r l es σ=some (ps,σ')) (hc:Zaj ps) (hct:Zaj (Zir 0 r l es tm).1):Wk ⟨n,tm,σ⟩ ⟨n,(Zir 0 r l es tm).2,σ'⟩:=by
 rintro G a w ⟨β,h⟩
 obtain⟨N,hN,_⟩:=h.blk l _ hl
 obtain⟨hσ1,hσ2⟩:=Zs2 hσ hc
 have hl':get σ' l=some (.reg false):=hσ2 l _ hlr hl (fun cs e=>by cases e)
 obtain⟨_,hkl,hb⟩:=h.blk r _ hr
 refine⟨_,And.left <| Zul h hl0 hl hN hr hlr (M:=Zpz (β r)) (fun b hb1=>?_) (Tn:=fun cs cs'=>cs'=(Zfr 0 r l es cs).2/\Zaj (Zfr 0 r l es cs).1) (fun m o' ho=>?_) (fun hI hL=>?_)⟩
 .have:=Z6q hb1
  refine⟨.inl this,?_⟩
  rcases hb with ⟨h1,_⟩ | ⟨b',m,h1,h2,_⟩
  .exact absurd (this.symm.trans h1) (by simp)
  .have:b'=b:=by have:=h1.symm.trans this;simpa using this
   subst this;exact⟨m,h2⟩
 .obtain⟨h1,o,h2,h3⟩:=hσ1 m o' ho
  exact⟨h1,o,h2,h3.imp (fun h=>h.1) id⟩
 .have hrow:∀ v,VR (ctx G β w σ) (.osl r es.length) v->VR (ctx G (Zbh β l (some (N ||| Zpz (β r)))) w σ') (.own l (.rg (.sl es))) v:=fun v hv=>by
   simp only [VR] at hv⊢
   obtain⟨a0,cap,hv1,hc1,hc2,h3⟩:=(hv.1 k es hr).2 rfl
   refine⟨fun h' hg'=>?_,by rw [hv1];rfl⟩
   have:some (Blk.reg h')=some (.reg false):=Eq.trans (Eq.symm hg') hl'
   cases this
   refine⟨_,Z4 _ _ _,?_⟩
   show Zx _ w (.sl es) v
   simp only [Zx]
   refine⟨a0,cap,hv1,hc1,hc2,?_⟩
   rcases hb with ⟨_,he⟩ | ⟨b,sz,hb,_,_,hel⟩
   .exact .inl he
   .rcases h3 with ⟨_,hb'⟩ | ⟨b',sz',ha,hb',_,_⟩
    .exact absurd (hb.symm.trans hb') (by simp)
    .have:b'=b:=by have:=hb'.symm.trans hb;simpa using this
     subst this
     refine .inr ⟨b',0,ha,?_,Zm.scal es 0 hsc hel⟩
     rw [show β r=some b' from hb',Nat.testBit_or,Z37,Bool.or_true]
  have hV:=Zxq (g:=0) (r:=r) (l:=l) (es:=es) hI hL (fun _=>hrow) (fun e=>by cases e) ⟨fun e=>(by cases e),fun e=>(by cases e)⟩
  have hVs:=Zna (g:=0) (r:=r) (l:=l) (es:=es) hI hL (fun _=>hrow) (fun e=>by cases e) ⟨fun e=>(by cases e),fun e=>(by cases e)⟩
  refine⟨fun cs cs' hcs vs hv=>?_,fun i q hq=>?_⟩
  .obtain⟨rfl,h1⟩:=hcs;exact hVs cs vs h1 hv
  .obtain⟨p,hp,rfl,h1⟩:=Zum tm i q hct hq
   exact⟨p,hp,fun v hv=>hV p v h1 hv⟩
theorem Zar0{c:Ctx}{N:Nat}{l:Nat}(hl:get c.σ l=some (.reg false))(hN:c.β l=some N){t:Zb}{v:Value}(h:VR c (rgP l t) v):Zx (fun b=>N.testBit b=true) c.w t v:=by
 cases t with
 | sl es=>
  simp only [rgP,VR] at h
  obtain⟨n',h1,h2⟩:=h.1 false hl
  rw [hN] at h1;cases h1
  exact h2
 | bool b=>simpa only [rgP,VR,Zx] using h
 | int k m=>simpa only [rgP,VR,Zx] using h
 | str s=>simpa only [rgP,VR,Zx] using h
 | con d=>simpa only [rgP,VR,Zx] using h
theorem Zajd{c:Ctx}{N:Nat}{l b:Nat}(hl:get c.σ l=some (.reg false))(hN:c.β l=some N):∀ {ts:List Zb} {vs:List Value} {off:Nat},VRs c (ts.map (rgP l)) vs->(∀ j v,vs[j]?=some v->c.w.cell? ⟨b,off+j,none⟩=some v)->Z1 (fun b=>N.testBit b=true) c.w b ts off
 | [],_,_,_,_=>trivial
 | t::ts,vs,off,h,hc=>by
  simp only [List.map_cons,VRs] at h
  obtain⟨v,rest,rfl,hv,hr⟩:=h
  refine⟨⟨v,by simpa using hc 0 v rfl,Zar0 hl hN hv⟩,Zajd hl hN hr (fun j u hj=>?_)⟩
  rw [Nat.add_assoc,Nat.add_comm 1 j]
  exact hc (j+1) u (by simpa using hj)
theorem Zs3{r:Nat}{es:List (List Zb)}:xPs es.length r es=es.flatten.map (rgP r):=by
 unfold xPs;rw [List.take_length,List.drop_length];simp
theorem Wk.absX{i0:Nat}(hl0:1000<=l)(hlr:l≠r)(hl:get σ l=some (.reg false))(hr:get σ r=some (.xrow k i0 l es))(hi0:es.length<=i0)
 (hσ:Zvu 1 r l es σ=some (ps,σ')) (hc:Zaj ps) (hct:Zaj (Zir 1 r l es tm).1):Wk ⟨n,tm,σ⟩ ⟨n,(Zir 1 r l es tm).2,σ'⟩:=by
 rintro G a w ⟨β,h⟩
 obtain rfl:i0=es.length:=Nat.le_antisymm (h.blk r _ hr).2.2.1 hi0
 obtain⟨N,hN,_⟩:=h.blk l _ hl
 obtain⟨hσ1,hσ2⟩:=Zs2 hσ hc
 have hl':get σ' l=some (.reg false):=hσ2 l _ hlr hl (fun cs e=>by cases e)
 obtain⟨_,hkl,_,hb⟩:=h.blk r _ hr
 refine⟨_,And.left <| Zul h hl0 hl hN hr hlr (M:=Zpz (β r)) (fun b hb1=>?_) (Tn:=fun cs cs'=>cs'=(Zfr 1 r l es cs).2/\Zaj (Zfr 1 r l es cs).1) (fun m o' ho=>?_) (fun hI hL=>?_)⟩
 .have:=Z6q hb1
  refine⟨.inl this,?_⟩
  rcases hb with ⟨h1,_⟩ | ⟨b',m,_,h1,h2,_⟩
  .exact absurd (this.symm.trans h1) (by simp)
  .have:b'=b:=by have:=h1.symm.trans this;simpa using this
   subst this;exact⟨m,h2⟩
 .obtain⟨h1,o,h2,h3⟩:=hσ1 m o' ho
  exact⟨h1,o,h2,h3.imp (fun h=>h.1) id⟩
 .have hrow:∀ v,VR (ctx G β w σ) (.own r (.xw es.length)) v->VR (ctx G (Zbh β l (some (N ||| Zpz (β r)))) w σ') (.own l (.rg (.sl es))) v:=fun v hv=>by
   simp only [VR] at hv⊢
   obtain⟨a0,cap,hv1,hc1,hc2,h3⟩:=(hv.1 k _ l es hr).2 rfl
   refine⟨fun h' hg'=>?_,by rw [hv1];rfl⟩
   have:some (Blk.reg h')=some (.reg false):=Eq.trans (Eq.symm hg') hl'
   cases this
   refine⟨_,Z4 _ _ _,?_⟩
   show Zx _ w (.sl es) v
   simp only [Zx]
   refine⟨a0,cap,hv1,hc1,hc2,?_⟩
   rcases hb with ⟨_,he⟩ | ⟨b,sz,vs,hb,_,_,hcs,hvs⟩
   .exact .inl he
   .rcases h3 with ⟨_,hb'⟩ | ⟨b',sz',ha,hb',_,_⟩
    .exact absurd (hb.symm.trans hb') (by simp)
    .have:b'=b:=by have:=hb'.symm.trans hb;simpa using this
     subst this
     rw [Zs3] at hvs
     have h5:=Zajd (c:=ctx G β w σ) (b:=b') (off:=0) hl hN hvs (fun j v hj=>by rw [Nat.zero_add];exact hcs j v hj)
     refine .inr ⟨b',0,ha,by rw [show β r=some b' from hb',Nat.testBit_or,Z37,Bool.or_true],Zm.mono (w:=w) (w':=w) (fun b hb=>⟨by rw [Nat.testBit_or,hb];rfl,rfl⟩) rfl _ _ (Zm.flat.2 h5)⟩
  have hV:=Zxq (g:=1) (r:=r) (l:=l) (es:=es) hI hL (fun e=>by cases e) (fun _=>hrow) ⟨fun e=>(by cases e),fun e=>(by cases e)⟩
  have hVs:=Zna (g:=1) (r:=r) (l:=l) (es:=es) hI hL (fun e=>by cases e) (fun _=>hrow) ⟨fun e=>(by cases e),fun e=>(by cases e)⟩
  refine⟨fun cs cs' hcs vs hv=>?_,fun i q hq=>?_⟩
  .obtain⟨rfl,h1⟩:=hcs;exact hVs cs vs h1 hv
  .obtain⟨p,hp,rfl,h1⟩:=Zum tm i q hct hq
   exact⟨p,hp,fun v hv=>hV p v h1 hv⟩
theorem Wk.absG(hl0:1000<=l)(hlr:l≠r)(hl:get σ l=some (.reg false))(hr:get σ r=some (.reg false))
 (hσ:Zvu 2 r l [] σ=some (ps,σ')) (hc:Zaj ps) (hct:Zaj (Zir 2 r l [] tm).1):Wk ⟨n,tm,σ⟩ ⟨n,(Zir 2 r l [] tm).2,σ'⟩:=by
 rintro G a w ⟨β,h⟩
 obtain⟨N,hN,_⟩:=h.blk l _ hl
 obtain⟨M,hM,hrows⟩:=h.blk r _ hr
 obtain⟨hσ1,hσ2⟩:=Zs2 hσ hc
 have hl':get σ' l=some (.reg false):=hσ2 l _ hlr hl (fun cs e=>by cases e)
 refine⟨_,And.left <| Zul h hl0 hl hN hr hlr (M:=M) (fun b hb1=>⟨.inr ⟨M,hM,hb1⟩,hrows b hb1⟩) (Tn:=fun cs cs'=>cs'=(Zfr 2 r l [] cs).2/\Zaj (Zfr 2 r l [] cs).1) (fun m o' ho=>?_) (fun hI hL=>?_)⟩
 .obtain⟨h1,o,h2,h3⟩:=hσ1 m o' ho
  exact⟨h1,o,h2,h3.imp (fun h=>h.1) id⟩
 .have hrg:∀ x v,VR (ctx G β w σ) (.own r (.rg x)) v->VR (ctx G (Zbh β l (some (N ||| M))) w σ') (.own l (.rg x)) v:=fun x v hv=>by
   simp only [VR] at hv⊢
   obtain⟨n',h1,h2⟩:=hv.1 false hr
   have:n'=M:=by have:=h1.symm.trans hM;simpa using this
   subst this
   refine⟨fun h' hg'=>?_,hv.2⟩
   have:some (Blk.reg h')=some (.reg false):=Eq.trans (Eq.symm hg') hl'
   cases this
   exact⟨_,Z4 _ _ _,h2.mono (fun b hb=>⟨by rw [Nat.testBit_or,hb,Bool.or_true],ShB.same rfl⟩)⟩
  have hV:=Zxq (g:=2) (r:=r) (l:=l) (es:=[]) hI hL (fun e=>by cases e) (fun e=>by cases e) ⟨fun _=>hrg,fun e=>(by cases e)⟩
  have hVs:=Zna (g:=2) (r:=r) (l:=l) (es:=[]) hI hL (fun e=>by cases e) (fun e=>by cases e) ⟨fun _=>hrg,fun e=>(by cases e)⟩
  refine⟨fun cs cs' hcs vs hv=>?_,fun i q hq=>?_⟩
  .obtain⟨rfl,h1⟩:=hcs;exact hVs cs vs h1 hv
  .obtain⟨p,hp,rfl,h1⟩:=Zum tm i q hct hq
   exact⟨p,hp,fun v hv=>hV p v h1 hv⟩
end
section
variable {n r:Nat} {tm:List (Nat×PV)} {σ σ':List (Nat×Blk)} {ps:List Prop}
theorem Wk.dropG(hr:get σ r=some (.reg false))(hσ:Zvu 3 r 0 [] σ=some (ps,σ'))(hc:Zaj ps)(hct:Zaj (Zir 3 r 0 [] tm).1):Wk ⟨n,tm,σ⟩ ⟨n,(Zir 3 r 0 [] tm).2,σ'⟩:=by
 rintro G a w ⟨β,h⟩
 obtain⟨hσ1,_⟩:=Zs2 hσ hc
 have hO:∀ m o' b,get σ' m=some o'->Z3 β w m o' b->∃ o,get σ m=some o/\Z3 β w m o b:=fun m o' b hm ho=>by
  obtain⟨_,o,h1,h2⟩:=hσ1 m o' hm
  rcases h2 with ⟨rfl,_⟩ | ⟨cs,cs',rfl,rfl,_⟩
  .exact⟨_,h1,ho⟩
  .exact⟨_,h1,.inl (Z3.flat (o := .box cs') trivial ho)⟩
 have hI:∀ b,(ctx G β w σ).I b->(ctx G β w σ').I b/\(ctx G β w σ').w.heap[b]?=(ctx G β w σ).w.heap[b]?:=fun b hb=>
  ⟨⟨hb.1,hb.2.1,fun m o hm ho=>by obtain⟨o2,h1,h2⟩:=hO m o b hm ho;exact hb.2.2 m o2 h1 h2⟩,rfl⟩
 have hF:∀ b,Z3 β w r (.reg false) b->(ctx G β w σ').I b:=fun b hb=>by
  refine⟨(h.sep r _ b hr hb).1,?_,fun m o hm ho=>?_⟩
  .rcases (h.sep r _ b hr hb).2 with h1 | h1
   .exact .inl h1
   .exact .inr (.inr h1)
  .obtain⟨o2,h1,h2⟩:=hO m o b hm ho
   exact (hσ1 m o hm).1 (h.inj m r o2 _ b h1 hr h2 hb)
 have hL:∀ m,Zac (ctx G β w σ) (ctx G β w σ') m:=fun m=>Zac.told rfl rfl (fun o' ho'=>by
  obtain⟨_,o,h1,h2⟩:=hσ1 m o' ho'
  refine⟨o,h1,h2.imp (fun h=>h.1) ?_⟩
  rintro ⟨cs,cs',h3,h4,_⟩
  exact⟨cs,cs',h3,h4⟩)
 have hrg:∀ x v,VR (ctx G β w σ) (.own r (.rg x)) v->VR (ctx G β w σ') (.t x) v:=fun x v hv=>by
  simp only [VR] at hv⊢
  obtain⟨M,h1,h2⟩:=hv.1 false hr
  exact Zx.mono (w:=w) (w':=w) (fun b hb=>⟨hF b (.inr ⟨M,h1,hb⟩),rfl⟩) x v h2
 have hV:=Zxq (g:=3) (r:=r) (l:=0) (es:=[]) hI hL (fun e=>by cases e) (fun e=>by cases e) ⟨fun e=>(by cases e),fun _=>hrg⟩
 have hVs:=Zna (g:=3) (r:=r) (l:=0) (es:=[]) hI hL (fun e=>by cases e) (fun e=>by cases e) ⟨fun e=>(by cases e),fun _=>hrg⟩
 refine⟨β,?_⟩
 exact { defers := h.defers, sz := h.sz, base := h.base, os := h.os, tape := h.tape, output := h.output, old := h.old, A := h.A, gl := h.gl,
         inj:=fun m m' o o' b hm hm' hb hb'=>by
          obtain⟨o1,h1,h2⟩:=hO m o b hm hb
          obtain⟨o2,h3,h4⟩:=hO m' o' b hm' hb'
          exact h.inj m m' o1 o2 b h1 h3 h2 h4,
         sep:=fun m o b hm hb=>by obtain⟨o1,h1,h2⟩:=hO m o b hm hb;exact h.sep m o1 b h1 h2,
         fix:=fun m cs hm1 hm=>by
          obtain⟨_,o,h1,h2⟩:=hσ1 m _ hm
          rcases h2 with ⟨h2,_⟩ | ⟨cs0,_,h2,_⟩
          .subst h2;exact h.fix m cs hm1 h1
          .subst h2;exact h.fix m cs0 hm1 h1,
         row0:=h.row0.step (fun m _=>hL m),
         blk:=fun m o hm=>by
          obtain⟨_,o0,h1,h2⟩:=hσ1 m o hm
          have hb:=h.blk m o0 h1
          rcases h2 with ⟨rfl,_⟩ | ⟨cs,cs',rfl,rfl,h3,h4,h5,h6⟩
          .exact BR.step hI rfl (fun _ _=>rfl) (fun q _=>hL q) hb
          .obtain⟨b,vs,f1,f2,f3,f4,f5⟩:=hb
           subst h5
           exact⟨b,vs,f1,by rw [h3];exact f2,f3,hVs cs vs h6 f4,h4⟩,
         tm:=fun i q hq=>by
          obtain⟨p,hp,rfl,h1⟩:=Zum tm i q hct hq
          exact⟨(h.tm i p hp).1,hV p _ h1 (h.tm i p hp).2⟩ }
end
theorem Wk.newReg{n l:Nat}{tm:List (Nat×PV)}{σ:List (Nat×Blk)}(hl:1000<=l)(hf1:∀ i q,get tm i=some q->q.has l=false)(hf2:∀ m y,get σ m=some y->m≠l/\y.has l=false):Wk ⟨n,tm,σ⟩ ⟨n,tm,(l,.reg false)::σ⟩:=by
 rintro G a w ⟨β,h⟩
 exact⟨_,Zxg h w (some 0) l (.reg false) [] (Nat.le_refl _) rfl rfl rfl ⟨fun cs e=>(by cases e),.inl hl⟩ (fun _ _ _=>rfl)
  (fun c hc=>by
   rcases hc with ⟨_,hr⟩ | ⟨b0,h1,h2⟩
   .cases hr
   .rw [Z4] at h1;cases h1
    have h2:(0:Nat).testBit c=true:=h2
    simp at h2)
  (fun hI hL=>⟨fun i p v hp hv=>VR.step (c:=ctx G β w σ) (c':=ctx G (Zbh β l (some 0)) w ((l,.reg false)::Za5 [] σ)) (fun b hb=>hI b hb) p v (fun m hm=>hL m (fun e=>by subst e;rw [hf1 i p hp] at hm;cases hm)) hv,
   fun q o hq ho hh hb=>BR.step (c:=ctx G β w σ) (c':=ctx G (Zbh β l (some 0)) w ((l,.reg false)::Za5 [] σ)) (fun b hb=>hI b hb) (Zci β _ hq) hh (fun m hm=>hL m (fun e=>by subst e;rw [(hf2 q o ho).2] at hm;cases hm)) hb⟩)
  (fun _=>⟨0,Z4 _ _ _,fun b hb=>by simp at hb⟩)⟩
mutual
theorem Zx.toS{I:Nat->Prop}{w:World}:∀ (t:Zb) (v:Value),Zx I w t v->Zko I w t v
 | .bool b,v,h=>⟨b,h⟩
 | .int k n,v,h=>⟨n,h⟩
 | .str s,v,h=>⟨s,h⟩
 | .con c,v,h=>h
 | .sl es,v,h=>by
  simp only [Zx,Zko] at h⊢
  obtain⟨a,cap,h1,h2,h3,h4⟩:=h
  refine⟨a,cap,h1,h2,h3,h4.imp id ?_⟩
  rintro ⟨b,off,h5,h6,h7⟩
  exact⟨b,off,h5,h6,Zm.toS b es off h7⟩
theorem Zm.toS{I:Nat->Prop}{w:World}(b:Nat):∀ (es:List (List Zb)) (off:Nat),Zm I w b es off->Zjq I w b es off
 | [],_,_=>trivial
 | e::es,off,h=>by simp only [Zm,Zjq] at h⊢;exact⟨Z1.toS b e off h.1,Zm.toS b es _ h.2⟩
theorem Z1.toS{I:Nat->Prop}{w:World}(b:Nat):∀ (ts:List Zb) (off:Nat),Z1 I w b ts off->Zgh I w b ts off
 | [],_,_=>trivial
 | t::ts,off,h=>by
  simp only [Z1,Zgh] at h⊢
  obtain⟨⟨c,hc,ht⟩,hr⟩:=h
  exact⟨⟨c,hc,Zx.toS t c ht⟩,Z1.toS b ts _ hr⟩
end
section
variable {c c':Ctx} {l:Nat}
theorem VR.toH(hI:∀ b,c.I b->c'.I b/\c'.w.heap[b]?=c.w.heap[b]?)(hL:∀ m,m≠l->Zac c c' m)(hw:c'.w=c.w)(hβ:c'.β l=c.β l)(hg:get c.σ l=some (.reg false))(hg':get c'.σ l=some (.reg true)):Zac c c' l\/(∀ d v,ODR c l v d->ODR c' l v d):=by
 refine .inr fun d v h=>?_
 have bad:∀ {x:Blk},get c'.σ l=some x->x = .reg true:=fun hx=>Option.some.inj (Eq.trans (Eq.symm hx) hg')
 cases d with
 | rg x=>
  intro h' hx
  cases bad hx
  obtain⟨n,hn,hr⟩:=h false hg
  refine⟨n,hβ.trans hn,?_⟩
  rw [hw]
  exact Zx.toS x v hr
 | rp cs=>
  intro h' hx
  cases bad hx
  obtain⟨n,b,off,hn,hv,hb,hr⟩:=h false hg
  refine⟨n,b,off,hβ.trans hn,hv,hb,?_⟩
  rw [hw]
  exact Z1.toS b cs off hr
 | tail n i=>exact fun k es hx=>by cases bad hx
 | msl n=>exact fun k q es hx=>by cases bad hx
 | mpt n j off=>exact fun k q es hx=>by cases bad hx
 | mrow n j=>exact⟨h.1,fun k q es hx=>by cases bad hx⟩
 | mel n j i=>exact⟨h.1,fun k q es hx=>by cases bad hx⟩
 | map=>exact fun ag es hx=>by cases bad hx
 | pw n=>exact fun k i es cs hx=>by cases bad hx
 | pp n off=>exact fun k i es cs hx=>by cases bad hx
 | xw n=>exact fun k i r es hx=>by cases bad hx
 | xp n j off=>exact fun k i r es hx=>by cases bad hx
mutual
theorem VR.turn(hI:∀ b,c.I b->c'.I b/\c'.w.heap[b]?=c.w.heap[b]?)(hL:∀ m,m≠l->Zac c c' m)(hg':get c'.σ l=some (.reg true))(hD:∀ d v,ODR c l v d->ODR c' l v d):∀ (p:PV) (v:Value),VR c p v->VR c' p v
 | .t x,v,h=>VR.step hI (.t x) v (fun m hm=>by simp [PV.has] at hm) h
 | .nils,v,h=>h
 | .osl m n,v,h=>by
  by_cases e:m=l
  .subst e
   simp only [VR] at h⊢
   exact⟨fun k es hx=>(by rw [hg'] at hx;cases hx),h.2⟩
  .exact VR.step hI (.osl m n) v (fun q hq=>hL q (by rw [<- (Zu _ _).1 hq];exact e)) h
 | .bptr m o,v,h=>by
  by_cases e:m=l
  .subst e
   simp only [VR] at h⊢
   exact⟨fun cs hx=>(by rw [hg'] at hx;cases hx),h.2⟩
  .exact VR.step hI (.bptr m o) v (fun q hq=>hL q (by rw [<- (Zu _ _).1 hq];exact e)) h
 | .rptr m n i o,v,h=>by
  by_cases e:m=l
  .subst e
   simp only [VR] at h⊢
   exact⟨fun k es hx=>(by rw [hg'] at hx;cases hx),h.2⟩
  .exact VR.step hI (.rptr m n i o) v (fun q hq=>hL q (by rw [<- (Zu _ _).1 hq];exact e)) h
 | .vptr cs,v,h=>VR.step hI (.vptr cs) v (fun m hm=>by simp [PV.has] at hm) h
 | .agg cs,v,h=>by
  simp only [VR] at h⊢
  obtain⟨vs,hv,hs⟩:=h
  exact⟨vs,hv,VRs.turn hI hL hg' hD cs vs hs⟩
 | .tup cs,v,h=>by
  simp only [VR] at h⊢
  obtain⟨vs,hv,hs⟩:=h
  exact⟨vs,hv,VRs.turn hI hL hg' hD cs vs hs⟩
 | .fn f cs,v,h=>by
  simp only [VR] at h⊢
  obtain⟨vs,hv,hs⟩:=h
  exact⟨vs,hv,VRs.turn hI hL hg' hD cs vs hs⟩
 | .own m d,v,h=>by
  by_cases e:m=l
  .subst e
   simp only [VR] at h⊢
   exact⟨hD d v h.1,h.2⟩
  .exact VR.step hI (.own m d) v (fun q hq=>hL q (by rw [<- (Zu _ _).1 hq];exact e)) h
theorem VRs.turn(hI:∀ b,c.I b->c'.I b/\c'.w.heap[b]?=c.w.heap[b]?)(hL:∀ m,m≠l->Zac c c' m)(hg':get c'.σ l=some (.reg true))(hD:∀ d v,ODR c l v d->ODR c' l v d):∀ (ps:List PV) (vs:List Value),VRs c ps vs->VRs c' ps vs
 | [],vs,h=>h
 | p::ps,vs,h=>by
  simp only [VRs] at h⊢
  obtain⟨v,rest,rfl,hv,hr⟩:=h
  exact⟨v,rest,rfl,VR.turn hI hL hg' hD p v hv,VRs.turn hI hL hg' hD ps rest hr⟩
end
end
def toHσ(l:Nat):List (Nat×Blk)->Option (List (Nat×Blk))
 | []=>some []
 | (m,b)::q=>
  match toHσ l q with
  | none=>none
  | some q'=>
   bif Nat.beq m l then some ((m,.reg true)::q') else
   match b with
   | .box cs=>bif cs.all PV.one then some ((m,.box cs)::q') else none
   | b=>bif b.has l then none else some ((m,b)::q')
theorem Zamh{l:Nat}:∀ {σ σ':List (Nat×Blk)},toHσ l σ=some σ' ->
 (∀ m o',m≠l->get σ' m=some o'->∃ o,get σ m=some o/\((o'=o/\o.has l=false)\/∃ cs cs',o = .box cs/\o' = .box cs'/\cs'.length=cs.length/\cs'.all PV.one=true/\cs'=cs))/\((∃ o,get σ l=some o)->get σ' l=some (.reg true))
 | [],σ',h=>by
  simp only [toHσ,Option.some.injEq] at h
  subst h
  exact⟨fun m o' _ h=>(by cases h),fun⟨o,h⟩=>(by cases h)⟩
 | (j,b)::q,σ',h=>by
  simp only [toHσ] at h
  split at h
  .cases h
  .rename_i q' hq
   obtain⟨g1,g2⟩:=Zamh hq
   cases hb:Nat.beq j l with
   | true=>
    simp only [hb,cond_true,Option.some.injEq] at h
    subst h
    have hjl:j=l:=(Zu _ _).1 hb
    subst hjl
    refine⟨fun m o' hm ho=>?_,fun _=>by simp [PW.get]⟩
    simp only [PW.get,Zdi (Ne.symm hm),cond_false] at ho⊢
    exact g1 m o' hm ho
   | false=>
    simp only [hb,cond_false] at h
    have hjl:j≠l:=fun e=>by subst e;simp at hb
    have key:∀ b',σ'=(j,b')::q'->((b'=b/\b.has l=false)\/∃ cs cs',b = .box cs/\b' = .box cs'/\cs'.length=cs.length/\cs'.all PV.one=true/\cs'=cs) ->
     (∀ m o',m≠l->get σ' m=some o'->∃ o,get ((j,b)::q) m=some o/\((o'=o/\o.has l=false)\/∃ cs cs',o = .box cs/\o' = .box cs'/\cs'.length=cs.length/\cs'.all PV.one=true/\cs'=cs))/\((∃ o,get ((j,b)::q) l=some o)->get σ' l=some (.reg true)):=by
     intro b' hσ hbb
     subst hσ
     refine⟨fun m o' hm ho=>?_,fun ho=>?_⟩
     .simp only [PW.get] at ho⊢
      cases hm2:Nat.beq j m with
      | true=>simp only [hm2,cond_true,Option.some.injEq] at ho⊢;subst ho;exact⟨b,rfl,hbb⟩
      | false=>simp only [hm2,cond_false] at ho⊢;exact g1 m o' hm ho
     .simp only [PW.get,Zdi hjl,cond_false] at ho⊢
      exact g2 ho
    split at h
    .rename_i cs
     cases ho:cs.all PV.one with
     | false=>simp [ho] at h
     | true=>
      simp only [ho,cond_true,Option.some.injEq] at h
      exact key _ h.symm (.inr ⟨cs,cs,rfl,rfl,rfl,ho,rfl⟩)
    .cases hh:b.has l with
     | true=>simp [hh] at h
     | false=>
      simp only [hh,cond_false,Option.some.injEq] at h
      exact key b h.symm (.inl ⟨rfl,hh⟩)
theorem Wk.toH{n l:Nat}{tm:List (Nat×PV)}{σ σ':List (Nat×Blk)}(hl:1000<=l)(hg:get σ l=some (.reg false))(hσ:toHσ l σ=some σ'):Wk ⟨n,tm,σ⟩ ⟨n,tm,σ'⟩:=by
 rintro G a w ⟨β,h⟩
 obtain⟨g1,g2⟩:=Zamh hσ
 have hg':=g2 ⟨_,hg⟩
 have hD:(∀ b,(ctx G β w σ).I b->(ctx G β w σ').I b/\(ctx G β w σ').w.heap[b]?=(ctx G β w σ).w.heap[b]?)->(∀ m,m≠l->Zac (ctx G β w σ) (ctx G β w σ') m)->∀ d v,ODR (ctx G β w σ) l v d->ODR (ctx G β w σ') l v d:=fun hI hL d v hv=>by
  rcases VR.toH (c:=ctx G β w σ) (c':=ctx G β w σ') hI hL rfl rfl hg hg' with h1 | h1
  .exact hv.step h1
  .exact h1 d v hv
 refine⟨β,Zarz h hl hg hg' (fun b hb=>?_) (Tn:=fun cs cs'=>cs'=cs) g1 (fun hI hL cs cs' e vs hv=>by subst e;exact VRs.turn hI hL hg' (hD hI hL) _ vs hv) (fun hI hL hb=>?_) (fun hI hL i q hq=>⟨q,hq,fun v hv=>VR.turn hI hL hg' (hD hI hL) q v hv⟩)⟩
 .rcases hb with ⟨_,hr⟩ | ⟨m,h1,h2⟩
  .cases hr
  .exact .inr ⟨m,h1,h2⟩
 .obtain⟨m,h1,h2⟩:=hb;exact⟨m,h1,h2⟩
mutual
def Z38(r:Nat):PV->Option PV
 | .osl m n=>bif Nat.beq m r then some (.own r (.xw n)) else some (.osl m n)
 | .rptr m n j off=>bif Nat.beq m r then some (.own r (.xp n j off)) else some (.rptr m n j off)
 | .agg cs=>match Zaea r cs with | some ds=>some (.agg ds) | none=>none
 | p=>bif p.has r then none else some p
def Zaea(r:Nat):List PV->Option (List PV)
 | []=>some []
 | p::ps=>match Z38 r p,Zaea r ps with | some q,some qs=>some (q::qs) | _,_=>none
end
section
variable {G:Frm} {β:Nat->Option Nat} {w:World} {σ σ':List (Nat×Blk)} {r l k:Nat} {es:List (List Zb)}
mutual
theorem Zar1(hI:∀ b,(ctx G β w σ).I b->(ctx G β w σ').I b/\(ctx G β w σ').w.heap[b]?=(ctx G β w σ).w.heap[b]?)(hL:∀ m,m≠r->Zac (ctx G β w σ) (ctx G β w σ') m)(hg:get σ r=some (.row k es))(hg':get σ' r=some (.xrow k 0 l es)) :
 ∀ (p q:PV) (v:Value),Z38 r p=some q->VR (ctx G β w σ) p v->VR (ctx G β w σ') q v
 | .osl m n,q,v,hp,hv=>by
  simp only [Z38] at hp
  cases hb:Nat.beq m r with
  | false=>
   simp only [hb,cond_false,Option.some.injEq] at hp
   subst hp
   exact VR.step hI _ v (fun q hq=>hL q (fun e=>by subst e;simp only [PV.has] at hq;rw [hq] at hb;cases hb)) hv
  | true=>
   simp only [hb,cond_true,Option.some.injEq] at hp
   subst hp
   have:=(Zu _ _).1 hb
   subst this
   simp only [VR] at hv⊢
   obtain⟨h1,a,m',cap,h2⟩:=hv
   refine⟨fun k' i' r' es' hx=>?_,by rw [h2];rfl⟩
   have:some (Blk.xrow k' i' r' es')=some (.xrow k 0 l es):=Eq.trans (Eq.symm hx) hg'
   cases this
   exact h1 k es hg
 | .rptr m n j off,q,v,hp,hv=>by
  simp only [Z38] at hp
  cases hb:Nat.beq m r with
  | false=>
   simp only [hb,cond_false,Option.some.injEq] at hp
   subst hp
   exact VR.step hI _ v (fun q hq=>hL q (fun e=>by subst e;simp only [PV.has] at hq;rw [hq] at hb;cases hb)) hv
  | true=>
   simp only [hb,cond_true,Option.some.injEq] at hp
   subst hp
   have:=(Zu _ _).1 hb
   subst this
   simp only [VR] at hv⊢
   obtain⟨h1,a,h2⟩:=hv
   refine⟨fun k' i' r' es' hx=>?_,by rw [h2];rfl⟩
   have:some (Blk.xrow k' i' r' es')=some (.xrow k 0 l es):=Eq.trans (Eq.symm hx) hg'
   cases this
   exact h1 k es hg
 | .agg cs,q,v,hp,hv=>by
  simp only [Z38] at hp
  split at hp
  .rename_i ds hd
   cases hp
   simp only [VR] at hv⊢
   obtain⟨vs,h1,h2⟩:=hv
   exact⟨vs,h1,Zami hI hL hg hg' cs ds vs hd h2⟩
  .cases hp
 | .t x,q,v,hp,hv=>Zs4 hI hL (.t x) q v hp hv
 | .nils,q,v,hp,hv=>Zs4 hI hL .nils q v hp hv
 | .bptr m o,q,v,hp,hv=>Zs4 hI hL (.bptr m o) q v hp hv
 | .vptr cs,q,v,hp,hv=>Zs4 hI hL (.vptr cs) q v hp hv
 | .tup cs,q,v,hp,hv=>Zs4 hI hL (.tup cs) q v hp hv
 | .fn f cs,q,v,hp,hv=>Zs4 hI hL (.fn f cs) q v hp hv
 | .own m d,q,v,hp,hv=>Zs4 hI hL (.own m d) q v hp hv
theorem Zs4(hI:∀ b,(ctx G β w σ).I b->(ctx G β w σ').I b/\(ctx G β w σ').w.heap[b]?=(ctx G β w σ).w.heap[b]?)(hL:∀ m,m≠r->Zac (ctx G β w σ) (ctx G β w σ') m):∀ (p q:PV) (v:Value),(bif p.has r then none else some p)=some q->VR (ctx G β w σ) p v->VR (ctx G β w σ') q v:=
 fun p q v hp hv=>by
  cases hh:p.has r with
  | true=>simp [hh] at hp
  | false=>
   simp only [hh,cond_false,Option.some.injEq] at hp
   subst hp
   exact VR.step hI p v (fun m hm=>hL m (fun e=>by subst e;rw [hh] at hm;cases hm)) hv
theorem Zami(hI:∀ b,(ctx G β w σ).I b->(ctx G β w σ').I b/\(ctx G β w σ').w.heap[b]?=(ctx G β w σ).w.heap[b]?)(hL:∀ m,m≠r->Zac (ctx G β w σ) (ctx G β w σ') m)(hg:get σ r=some (.row k es))(hg':get σ' r=some (.xrow k 0 l es)) :
 ∀ (ps qs:List PV) (vs:List Value),Zaea r ps=some qs->VRs (ctx G β w σ) ps vs->VRs (ctx G β w σ') qs vs
 | [],qs,vs,hp,hv=>by simp only [Zaea,Option.some.injEq] at hp;subst hp;exact hv
 | p::ps,qs,vs,hp,hv=>by
  simp only [Zaea] at hp
  split at hp
  .rename_i q qs' h1 h2
   cases hp
   simp only [VRs] at hv⊢
   obtain⟨v,rest,rfl,hv,hr⟩:=hv
   exact⟨v,rest,rfl,Zar1 hI hL hg hg' p q v h1 hv,Zami hI hL hg hg' ps qs' rest h2 hr⟩
  .cases hp
end
theorem Wk.toX{n:Nat}{tm tm':List (Nat×PV)}{qs rs:List Prop}(hr0:1000<=r)(hg:get σ r=some (.row k es))(htm:Zrm (fun p=>(Z38 r p).map fun q=>([],q)) tm=some (qs,tm'))
 (hσ:Zx2 r (.xrow k 0 l es) (fun p=>(Z38 r p).map fun q=>([],q)) σ=some (rs,σ')) (cq:Zaj qs) (cr:Zaj rs):Wk ⟨n,tm,σ⟩ ⟨n,tm',σ'⟩:=by
 rintro G a w ⟨β,h⟩
 obtain⟨hk0,hkl,hb⟩:=h.blk r _ hg
 refine⟨β,Zaby h hr0 hg (B' := .xrow k 0 l es) (fun b hb => .inl (Z3.flat (o := .xrow k 0 l es) trivial hb)) htm hσ cq cr (fun hI hL hg' p qs p' hp _ v hv=>?_) (fun hI hL _=>?_)⟩
 .simp only [Option.map_eq_some_iff,Prod.mk.injEq] at hp
  obtain⟨q,h1,_,rfl⟩:=hp
  exact Zar1 hI hL hg hg' p q v h1 hv
 .refine⟨hk0,hkl,Nat.zero_le _,?_⟩
  rcases hb with ⟨hb,he⟩ | ⟨b,m,hb,hrow,hsz,hel⟩
  .exact .inl ⟨hb,he⟩
  .obtain⟨vs,hvs,hcs⟩:=Z1.vals (c:=ctx G β w σ) (Zm.flat.1 hel)
   refine .inr ⟨b,m,vs,hb,hrow,hsz,fun j v hj=>by have:=hcs j v hj;rwa [Nat.zero_add] at this,?_⟩
   have:xPs 0 l es=es.flatten.map .t:=by unfold xPs;simp
   rw [this]
   exact VRs.step hI _ _ (fun q hq=>by rw [Zif] at hq;cases hq) hvs
end
theorem Zasy{G:Frm}{β:Nat->Option Nat}{n:Nat}{tm:List (Nat×PV)}{σ:List (Nat×Blk)}{a:Act}{w:World}(h:Zaw G β ⟨n,tm,σ⟩ a w)(cs:Array Value)(e:TypeId){l k i0 i1 r:Nat}{es es':List (List Zb)}
 (hg:get σ l=some (.xrow k i0 r es)) (hlt:es.length < es'.length)
 (hblk:(∀ b,(ctx G β w σ).I b->(ctx G (Zf5 β l w.heap.size) (w.alloc (.cells cs e)) (put σ l (.xrow k i1 r es'))).I b/\(ctx G (Zf5 β l w.heap.size) (w.alloc (.cells cs e)) (put σ l (.xrow k i1 r es'))).w.heap[b]?=(ctx G β w σ).w.heap[b]?) ->
  (∀ m,Zac (ctx G β w σ) (ctx G (Zf5 β l w.heap.size) (w.alloc (.cells cs e)) (put σ l (.xrow k i1 r es'))) m)->Za7 (w.alloc (.cells cs e)) w.heap.size cs.size->BR (ctx G (Zf5 β l w.heap.size) (w.alloc (.cells cs e)) (put σ l (.xrow k i1 r es'))) l (.xrow k i1 r es')) :
 Zaw G (Zf5 β l w.heap.size) ⟨n,tm,put σ l (.xrow k i1 r es')⟩ a (w.alloc (.cells cs e))/\Za7 (w.alloc (.cells cs e)) w.heap.size cs.size:=by
 have hgl:∀ m,m≠l->get (put σ l (.xrow k i1 r es')) m=get σ m:=fun m hm=>Zcf σ _ (Ne.symm hm)
 have hgs:get (put σ l (.xrow k i1 r es')) l=some (.xrow k i1 r es'):=Zb4 σ l _
 have hltI:∀ b,Imm G β w σ b->b < w.heap.size:=fun b hb=>hb.1
 have hO:∀ m o,m≠l->get σ m=some o->∀ b,Z3 (Zf5 β l w.heap.size) (w.alloc (.cells cs e)) m o b->Z3 β w m o b:=fun m o hm hg b ho=>ho.of (Zg0 β _ hm) (fun b hb=>Za4 w _ b (h.sep m o b hg hb).1)
 have hrow:Za7 (w.alloc (.cells cs e)) w.heap.size cs.size:=⟨cs,e,(0,0),heap_alloc_new w _,rfl,.inl rfl⟩
 have hI:∀ b,(ctx G β w σ).I b->(ctx G (Zf5 β l w.heap.size) (w.alloc (.cells cs e)) (put σ l (.xrow k i1 r es'))).I b/\(ctx G (Zf5 β l w.heap.size) (w.alloc (.cells cs e)) (put σ l (.xrow k i1 r es'))).w.heap[b]?=(ctx G β w σ).w.heap[b]?:=fun b hb=>by
  refine⟨?_,Za4 w _ b (hltI b hb)⟩
  have hbl:=hltI b hb
  obtain⟨h1,h2,h3⟩:=hb
  .refine⟨by simp;omega,h2,fun m o hm=>?_⟩
   by_cases hml:m=l
   .subst hml
    have:some o=some (.xrow k i1 r es'):=Eq.trans (Eq.symm hm) hgs
    cases this
    intro hh
    have:=Z3.flat (o := .xrow _ _ _ _) trivial hh
    rw [Zcv] at this
    cases this;omega
   .have hm':=(hgl m hml).symm.trans hm
    exact fun ho=>h3 m o hm' (hO m o hml hm' b ho)
 have hL:∀ m,Zac (ctx G β w σ) (ctx G (Zf5 β l w.heap.size) (w.alloc (.cells cs e)) (put σ l (.xrow k i1 r es'))) m:=fun m=>by
  by_cases hml:m=l
  .subst hml
   refine⟨fun k' es'' hg'=>?_,fun cs' hg'=>?_,fun k' q' es'' hg'=>?_,fun k' es'' hg'=>?_,fun k' i' es'' cs' hg'=>?_,fun h' hg'=>?_,fun k' i' r' es'' hg'=>?_⟩
   .have:some (Blk.row k' es'')=some (.xrow k i1 r es'):=Eq.trans (Eq.symm hg') hgs
    cases this
   .have:some (Blk.box cs')=some (.xrow k i1 r es'):=Eq.trans (Eq.symm hg') hgs
    cases this
   .have:some (Blk.mat k' q' es'')=some (.xrow k i1 r es'):=Eq.trans (Eq.symm hg') hgs
    cases this
   .have:some (Blk.map k' es'')=some (.xrow k i1 r es'):=Eq.trans (Eq.symm hg') hgs
    cases this
   .have:some (Blk.prow k' i' es'' cs')=some (.xrow k i1 r es'):=Eq.trans (Eq.symm hg') hgs
    cases this
   .have:some (Blk.reg h')=some (.xrow k i1 r es'):=Eq.trans (Eq.symm hg') hgs
    cases this
   .have:some (Blk.xrow k' i' r' es'')=some (.xrow k i1 r es'):=Eq.trans (Eq.symm hg') hgs
    cases this
    exact⟨i0,es,hg,Nat.le_of_lt hlt,fun he=>by omega⟩
  .have hg':=hgl m hml
   cases hgm:get σ m with
   | none=>exact Zac.none (hg'.trans hgm)
   | some o=>exact Zac.same hg' (Zg0 β _ hml) (fun o b hgm hb=>Za4 w _ b (h.sep m o b hgm hb).1)
 have hns:∀ m o,m≠l->get (put σ l (.xrow k i1 r es')) m=some o->get σ m=some o:=fun m o hm hg=>(hgl m hm).symm.trans hg
 have hnew:∀ o b,get (put σ l (.xrow k i1 r es')) l=some o->Z3 (Zf5 β l w.heap.size) (w.alloc (.cells cs e)) l o b->w.heap.size=b:=fun o b hm ho=>by
  have:some o=some (.xrow k i1 r es'):=Eq.trans (Eq.symm hm) hgs
  cases this
  have:=Z3.flat (o := .xrow _ _ _ _) trivial ho
  rw [Zcv] at this
  exact Option.some.inj this
 refine⟨?_,hrow⟩
 exact { defers := h.defers, sz := h.sz, base := by simp; have := h.base; omega, os := h.os, tape := h.tape, output := h.output,
         old:=fun b hb ho=>(Za4 w _ b (Nat.lt_of_lt_of_le hb h.base)).trans (h.old b hb ho),A:=h.A,gl:=h.gl,
         inj:=fun m m' o o' b hm hm' hb hb'=>by
          by_cases h1:m=l
          .by_cases h2:m'=l
           .rw [h1,h2]
           .subst h1
            have hb:=hnew o b hm hb
            have:=(h.sep m' o' b (hns m' o' h2 hm') (hO m' o' h2 (hns m' o' h2 hm') b hb')).1
            omega
          .by_cases h2:m'=l
           .subst h2
            have hb':=hnew o' b hm' hb'
            have:=(h.sep m o b (hns m o h1 hm) (hO m o h1 (hns m o h1 hm) b hb)).1
            omega
           .exact h.inj m m' o o' b (hns m o h1 hm) (hns m' o' h2 hm') (hO m o h1 (hns m o h1 hm) b hb) (hO m' o' h2 (hns m' o' h2 hm') b hb'),
         sep:=fun m o b hm hb=>by
          by_cases h1:m=l
          .subst h1
           have hb:=hnew o b hm hb
           subst hb
           exact⟨by simp,.inl h.base⟩
          .have:=h.sep m o b (hns m o h1 hm) (hO m o h1 (hns m o h1 hm) b hb)
           exact⟨by simp;omega,this.2⟩,
         fix:=fun m cs' h1 hm=>by
          have h2:m≠l:=fun e=>by
           subst e
           have:some (Blk.box cs')=some (.xrow k i1 r es'):=Eq.trans (Eq.symm hm) hgs
           cases this
          rw [Zg0 β _ h2]
          exact h.fix m cs' h1 (hns m _ h2 hm),
         row0:=h.row0.step (fun m _=>hL m),
         blk:=fun m o hm=>by
          by_cases h1:m=l
          .subst h1
           have:some o=some (.xrow k i1 r es'):=Eq.trans (Eq.symm hm) hgs
           cases this
           exact hblk hI hL hrow
          .have hm':=hns m o h1 hm
           exact BR.step hI (Zg0 β _ h1) (fun b hb=>Za4 w _ b (h.sep m o b hm' hb).1) (fun q _=>hL q) (h.blk m o hm'),
         tm:=fun i p hp=>⟨(h.tm i p hp).1,VR.step hI p _ (fun q _=>hL q) (h.tm i p hp).2⟩ }
def Znb(l:Nat):List PV->Option (List Zb)
 | []=>some []
 | .t x::ps=>(match x with | .sl _=>none | x=>(Znb l ps).map (x :: ·))
 | .own m (.rg x)::ps=>(match x with | .sl es=>bif Nat.beq m l then (Znb l ps).map (.sl es :: ·) else none | _=>none)
 | _::_=>none
theorem Z2w{l:Nat}:∀ {ps:List PV} {ts:List Zb},Znb l ps=some ts->ps=ts.map (rgP l)
 | [],ts,h=>by simp only [Znb,Option.some.injEq] at h;subst h;rfl
 | p::ps,ts,h=>by
  cases p
  case t x=>
   cases x<;>simp only [Znb,Option.map_eq_some_iff] at h
   case sl=>cases h
   all_goals
    obtain⟨ts',h1,rfl⟩:=h
    rw [Z2w h1];rfl
  case own m d=>
   cases d<;>try (simp only [Znb] at h;cases h)
   case rg x=>
    cases x<;>simp only [Znb] at h<;>try cases h
    case sl es=>
     cases hb:Nat.beq m l with
     | false=>simp [hb] at h
     | true=>
      simp only [hb,cond_true,Option.map_eq_some_iff] at h
      obtain⟨ts',h1,rfl⟩:=h
      have:=(Zu _ _).1 hb
      subst this
      rw [Z2w h1];rfl
  all_goals (simp only [Znb] at h;cases h)
theorem Zar2{l:Nat}:∀ (ts:List Zb),(ts.map (rgP l)).all PV.one=true
 | []=>rfl
 | t::ts=>by
  simp only [List.map_cons,List.all_cons,Zar2 ts,Bool.and_true]
  cases t<;>rfl
theorem Zay9{k i r:Nat}{es:List (List Zb)}(hk:∀ el,el∈es->el.length=k):(xPs i r es).length=es.length*k:=by
 unfold xPs
 rw [List.length_append,List.length_map,List.length_map,Zca (k:=k) (fun el hel=>hk el (List.mem_of_mem_take hel)),Zca (k:=k) (fun el hel=>hk el (List.mem_of_mem_drop hel)),<- Nat.add_mul,List.length_take,List.length_drop]
 congr 1;omega
theorem Za0d{k i r j:Nat}{es:List (List Zb)}{e:List Zb}(hk:∀ el,el∈es->el.length=k)(hi:i<=j)(he:es[j]?=some e):((xPs i r es).drop (j*k)).take k=e.map .t:=by
 have hj:=(List.getElem?_eq_some_iff.1 he).1
 unfold xPs
 have hA:((es.take i).flatten.map (rgP r)).length=i*k:=by
  rw [List.length_map,Zca (k:=k) (fun el hel=>hk el (List.mem_of_mem_take hel)),List.length_take,Nat.min_eq_left (by omega)]
 have hsp:es.drop i=(es.drop i).take (j - i)++e::es.drop (j+1):=by
  have h1:(es.drop i)[j - i]?=some e:=by rw [List.getElem?_drop];rw [show i+(j - i)=j by omega];exact he
  have hlt:=(List.getElem?_eq_some_iff.1 h1).1
  have h2:=List.getElem_cons_drop hlt
  have h3:(es.drop i)[j - i]=e:=by rw [List.getElem?_eq_getElem hlt] at h1;exact Option.some.inj h1
  rw [h3,List.drop_drop,show i+(j - i+1)=j+1 by omega] at h2
  rw [h2,List.take_append_drop]
 have hB:(((es.drop i).take (j - i)).flatten.map PV.t).length=(j - i)*k:=by
  rw [List.length_map,Zca (k:=k) (fun el hel=>hk el (List.mem_of_mem_drop (List.mem_of_mem_take hel))),List.length_take,List.length_drop,Nat.min_eq_left (by omega)]
 rw [List.drop_append,List.drop_eq_nil_of_le (by rw [hA];exact Nat.mul_le_mul_right _ hi),hA,List.nil_append,hsp,List.flatten_append,List.flatten_cons,List.map_append,List.map_append,
  List.drop_append,List.drop_eq_nil_of_le (by rw [hB,Nat.sub_mul];omega),hB,List.nil_append,Nat.sub_mul,Nat.sub_self,List.drop_zero,List.take_append_of_le_length (by rw [List.length_map,hk e (List.mem_of_getElem? he)];omega),List.take_of_length_le (by rw [List.length_map,hk e (List.mem_of_getElem? he)];omega)]
section
variable {P:Program} {o:Oper} {ρ:List (Nat×PV)} {σ:List (Nat×Blk)}
theorem Zaza{t:TypeId}{x:Operand}{e:TypeId}{l m k i r:Nat}{es:List (List Zb)}(ho:o.op = .call { callee := .builtin .len,args := #[x],argTypes := #[t] })(hT:P.underlying t=some (.slice e))
 (hx:Zi ρ x=some (.own l (.xw m))) (hg:get σ l=some (.xrow k i r es)) (hm:es.length=m):Za3 P o ρ σ [l] (.t (.int .i64 m)) []:=
 Zb9 fun G β n tm σ' A w hop hneed _=>by
  have h1:=hop x _ (by simp [ho,Op.operands,Call.operands]) hx
  simp only [VR] at h1
  obtain⟨a,cap,hv,_⟩:=(h1.1 k i r es (by rw [<- hg];exact hneed l (by simp))).2 hm.symm
  exact⟨.int .i64 m,by simp [execOp,ho,resolve,invoke,builtin,Builtin.len_,hv,run_underlying hT,goInt],by simp [VR,Zx]⟩
theorem Zavb{t:TypeId}{x y:Operand}{k l m i0 r:Nat}{es:List (List Zb)}{ki:IntKind}{i:Int}(ho:o.op = .indexAddr t x y)(ha:slInfo P t=some k)(hx:Zi ρ x=some (.own l (.xw m)))(hy:Zi ρ y=some (.t (.int ki i)))
 (hg:get σ l=some (.xrow k i0 r es)) (hm:es.length=m) (h0:0<=i) (h1:i < m):Za3 P o ρ σ [l] (.own l (.xp m i.toNat 0)) []:=
 Zb9 fun G β n tm σ' A w hop hneed _=>by
  have e1:=hop x _ (by simp [ho,Op.operands]) hx
  have e2:=hop y _ (by simp [ho,Op.operands]) hy
  simp only [VR,Zx] at e1 e2⊢
  have hgl:get σ' l=some (.xrow k i0 r es):=(hneed l (by simp)).trans hg
  obtain⟨a,cap,hv,hmc,hcm,h⟩:=(e1.1 k i0 r es hgl).2 hm.symm
  rcases h with ⟨hc,_⟩ | ⟨b,sz,ha',hb,hrow,hsz⟩
  .omega
  .subst ha'
   refine⟨.pointer (some ⟨b,i.toNat*k,none⟩),?_,fun k' i' r' es' hes'=>?_,rfl⟩
   .simp only [execOp,ho,hv,e2,Sem.run_bind,Zi4 w ha h0 h1,Result.andThen_ok,Sem.run_pure,Nat.zero_add]
   .have:some (Blk.xrow k' i' r' es')=some (.xrow k i0 r es):=Eq.trans (Eq.symm hes') hgl
    cases this
    exact⟨by omega,fun _=>⟨b,hb,by simp⟩⟩
theorem Zavc{s:TypeId}{x:Operand}{f l m j q off size k i0 r:Nat}{es:List (List Zb)}(ho:o.op = .fieldAddr s x f)(hf:fieldInfo P s f=some (off,size))(hs:size≠0)(hx:Zi ρ x=some (.own l (.xp m j q)))
 (hg:get σ l=some (.xrow k i0 r es)) (hm:es.length=m):Za3 P o ρ σ [l] (.own l (.xp m j (q+off))) []:=
 Zb9 fun G β n tm σ' A w hop hneed _=>by
  have h1:=hop x _ (by simp [ho,Op.operands]) hx
  simp only [VR] at h1⊢
  have hgl:get σ' l=some (.xrow k i0 r es):=(hneed l (by simp)).trans hg
  obtain⟨b,hb,hv⟩:=(h1.1 k i0 r es hgl).2 hm.symm
  refine⟨.pointer (some ⟨b,j*k+q+off,none⟩),?_,fun k' i' r' es' hes'=>?_,rfl⟩
  .simp only [execOp,ho,hv,Sem.run_bind,Zi3 w hf hs,Result.andThen_ok,Sem.run_pure]
  .have:some (Blk.xrow k' i' r' es')=some (.xrow k i0 r es):=Eq.trans (Eq.symm hes') hgl
   cases this
   exact⟨by omega,fun _=>⟨b,hb,by rw [Nat.add_assoc]⟩⟩
theorem Zamj{x:Operand}{l m j q k i0 r:Nat}{es:List (List Zb)}(ho:o.op = .nilCheck x)(hx:Zi ρ x=some (.own l (.xp m j q)))(hg:get σ l=some (.xrow k i0 r es))(hm:es.length=m):Za3 P o ρ σ [l] (.own l (.xp m j q)) []:=
 Zb9 fun G β n tm σ' A w hop hneed _=>by
  have h1:=hop x _ (by simp [ho,Op.operands]) hx
  have h2:=h1
  simp only [VR] at h1
  obtain⟨b,_,hv⟩:=(h1.1 k i0 r es ((hneed l (by simp)).trans hg)).2 hm.symm
  exact⟨.pointer (some ⟨b,j*k+q,none⟩),by simp [execOp,ho,hv],by rw [<- hv];exact h2⟩
theorem Zaxd{t:TypeId}{x:Operand}{l m j q size k i0 r:Nat}{agg:Bool}{es:List (List Zb)}{e:List Zb}{p:PV}(ho:o.op = .load t x)(hT:TyF P t agg size)(hx:Zi ρ x=some (.own l (.xp m j q)))(hg:get σ l=some (.xrow k i0 r es))(hm:es.length=m)
 (hi:i0<=j) (he:es[j]?=some e) (hp:Zec agg size q (e.map .t)=some p):Za3 P o ρ σ [l] p []:=
 Zb9 fun G β n tm σ' A w hop hneed hr=>by
  have e1:=hop x _ (by simp [ho,Op.operands]) hx
  simp only [VR] at e1
  have hgl:get σ' l=some (.xrow k i0 r es):=(hneed l (by simp)).trans hg
  obtain⟨b,hb,hv⟩:=(e1.1 k i0 r es hgl).2 hm.symm
  obtain⟨hk0,hkl,hi0,h⟩:=hr.blk l _ hgl
  rcases h with ⟨_,h⟩ | ⟨b',sz,vs,hb',hrow,hsz,hcs,hvs⟩
  .subst h;simp at he
  .have:b'=b:=by have:=hb'.symm.trans hb;simpa using this
   subst this
   have h1:=(hvs.drop (j*k)).take k
   rw [Za0d hkl hi he] at h1
   obtain⟨v,hrun,hpv⟩:=Zkf (q:=j*k) hT w h1 (fun j' v hj'=>by
    rw [List.getElem?_take] at hj'
    split at hj'
    .rw [List.getElem?_drop] at hj';exact hcs _ v hj'
    .cases hj') hp
   exact⟨v,by simp only [execOp,ho,hv,Sem.run_bind,hrun,Result.andThen_ok,Sem.run_pure],hpv⟩
theorem Z1f{G:Frm}{β:Nat->Option Nat}{n:Nat}{tm:List (Nat×PV)}{a:Act}{w:World}(hr:Zaw G β ⟨n,tm,σ⟩ a w){t:TypeId}{x y:Operand}{l m0 off size k i r:Nat}{agg:Bool}{es:List (List Zb)}{e ts:List Zb}{p:PV}(ho:o.op = .store t x y)(hT:TyF P t agg size)(e1:VR (ctx G β w σ) (.own l (.xp m0 i off)) (a.eval x))(e2:VR (ctx G β w σ) p (a.eval y))
 (hg:get σ l=some (.xrow k i r es)) (hm0:es.length=m0) (he:es[i]?=some e) (hs:(Zz p).length=size) (h1:(Zz p).all PV.one=true) (hq:off+size<=k) (hts:Znb r (splice (e.map .t) off (Zz p))=some ts) :
 ∃ w',(execOp a.eval o).run P w = .ok .skip w'/\Zaw G β ⟨n,tm,put σ l (.xrow k (i+1) r (es.set i ts))⟩ a w':=by
 simp only [VR] at e1
 obtain⟨b,hb,hv⟩:=(e1.1 k i r es hg).2 hm0.symm
 obtain⟨hk0,hkl,hi0,h⟩:=hr.blk l _ hg
 rcases h with ⟨_,h⟩ | ⟨b',sz,vs,hb',hrow,hsz,hcs,hvs⟩
 .subst h;simp at he
 have:b'=b:=by have:=hb'.symm.trans hb;simpa using this
 subst this
 have hi:i < es.length:=(List.getElem?_eq_some_iff.1 he).1
 have hel:=hkl e (List.mem_of_getElem? he)
 have hik:i*k+k<=es.length*k:=by
  have h2:(i+1)*k<=es.length*k:=Nat.mul_le_mul_right _ hi
  rw [Nat.add_mul,Nat.one_mul] at h2
  exact h2
 have hrun:=Zhq hT w e2 hs h1 hrow (q:=i*k+off) (by omega)
 have hcells:=e2.cells
 have hul:(a.eval y).cells.toList.length=size:=by rw [hcells.length,hs]
 have hvl:vs.length=es.length*k:=by rw [hvs.length,Zay9 hkl]
 have htl:ts.length=k:=by
  have:=congrArg List.length (Z2w hts)
  rw [Zj4 _ _ _ (by rw [List.length_map,hel,hs];exact hq),List.length_map,List.length_map,hel] at this
  exact this.symm
 have hkl':∀ el,el∈es.set i ts->el.length=k:=fun el hel'=>by
  rcases List.mem_or_eq_of_mem_set hel' with h | h
  .exact hkl el h
  .rw [h];exact htl
 have hnew:xPs (i+1) r (es.set i ts)=splice (xPs i r es) (i*k+off) (Zz p):=by
  have hA:((es.take i).flatten.map (rgP r)).length=i*k:=by
   rw [List.length_map,Zca (k:=k) (fun el hel=>hkl el (List.mem_of_mem_take hel)),List.length_take,Nat.min_eq_left (by omega)]
  have hdr:es.drop i=e::es.drop (i+1):=by
   have h2:=List.getElem_cons_drop hi
   have h3:es[i]=e:=by rw [List.getElem?_eq_getElem hi] at he;exact Option.some.inj he
   rw [h3] at h2;exact h2.symm
  have hL:xPs (i+1) r (es.set i ts)=(es.take i).flatten.map (rgP r)++(ts.map (rgP r)++(es.drop (i+1)).flatten.map .t):=by
   unfold xPs
   rw [List.set_eq_take_append_cons_drop,if_pos hi,List.take_append,List.take_of_length_le (by simp;omega),List.length_take,Nat.min_eq_left (by omega),show i+1 - i=1 by omega,List.take_succ_cons,List.take_zero,List.drop_append,List.drop_eq_nil_of_le (by simp;omega),List.length_take,Nat.min_eq_left (by omega),show i+1 - i=1 by omega,List.drop_succ_cons,List.drop_zero,List.nil_append,List.flatten_append,List.flatten_cons,List.flatten_nil,List.append_nil,List.map_append,List.append_assoc]
  rw [hL,<- Z2w hts]
  unfold xPs splice
  rw [hdr,List.flatten_cons,List.map_append,List.take_append,hA,List.take_of_length_le (l:=(es.take i).flatten.map (rgP r)) (by rw [hA];omega),Nat.add_sub_cancel_left,List.take_append_of_le_length (by rw [List.length_map,hel];omega),
   List.drop_append,hA,List.drop_eq_nil_of_le («as» := (es.take i).flatten.map (rgP r)) (by rw [hA];omega),List.nil_append,show i*k+off+(Zz p).length - i*k=off+(Zz p).length by omega,List.drop_append_of_le_length (by rw [List.length_map,hel,hs];exact hq)]
  simp only [List.append_assoc]
 obtain⟨hr',hI,hL⟩:=Zkg hr (off:=i*k+off) (blk' := .xrow k (i+1) r (es.set i ts)) (a.eval y).cells.toList hg hb (.inr (.inr (.inr ⟨k,i,i+1,r,es,_,rfl,rfl,by simp⟩))) (fun hI hL=>by
  refine⟨hk0,hkl',by rw [List.length_set];exact hi,.inr ⟨b',sz,splice vs (i*k+off) (a.eval y).cells.toList,hb,Zb0 _ _ _ _ hrow,by simpa using hsz,Zix hcs (by rw [hul,hvl];omega),?_⟩⟩
  rw [hnew]
  exact (VRs.step hI _ _ (fun m _=>hL m) hvs).splice _ (VRs.step hI _ _ (fun m _=>hL m) hcells))
 have hrun2:(execOp a.eval o).run P w = .ok .skip (w.setCells b' (i*k+off) (a.eval y).cells.toList):=by
  simp only [execOp,ho,hv,Sem.run_bind,hrun,Result.andThen_ok,Sem.run_pure]
 exact⟨_,hrun2,hr'⟩
theorem Zaxe{σ0:List (Nat×Blk)}{t:TypeId}{x y:Operand}{l m0 off size k i r:Nat}{agg:Bool}{es:List (List Zb)}{e ts:List Zb}{p:PV}(ho:o.op = .store t x y)(hd:o.dst=none)(hT:TyF P t agg size)(hx:Zi ρ x=some (.own l (.xp m0 i off)))(hy:Zi ρ y=some p)
 (hg0:get σ0 l=some (.xrow k i r es)) (hm0:es.length=m0) (he:es[i]?=some e) (hs:(Zz p).length=size) (h1:(Zz p).all PV.one=true) (hq:off+size<=k) (hts:Znb r (splice (e.map .t) off (Zz p))=some ts) :
 OpF P o ρ σ0 [l] [l] (.tup []) [(l,.xrow k (i+1) r (es.set i ts))]:=by
 rintro G n tm σ a w K Q hag hneed _ ⟨β,hr⟩ hK
 have hg:get σ l=some (.xrow k i r es):=by rw [hneed l (by simp)];exact hg0
 have hop:∀ x q,x∈o.op.operands->Zi ρ x=some q->VR (ctx G β w σ) q (a.eval x):=fun x q hx hq=>Zh1 hr hq (fun t r ht hr'=>hag t r (ht▸hx) hr')
 have e1:=hop x _ (by simp [ho,Op.operands]) hx
 have e2:=hop y _ (by simp [ho,Op.operands]) hy
 obtain⟨w',hrun2,hr'⟩:=Z1f hr ho hT e1 e2 hg hm0 he hs h1 hq hts
 unfold Oper.wp
 rw [hrun2,Oper.upon_skip,hd]
 have:=hK (.tuple #[]) w' ⟨β,hr',by simp [VR,VRs]⟩
 rw [hd] at this
 exact this
theorem Zazb{G:Frm}{β β':Nat->Option Nat}{w:World}{σ σ':List (Nat×Blk)}{l r k N:Nat}{es:List (List Zb)}{v:Value}(hr:get σ r=some (.row k es))(hb:BR (ctx G β w σ) r (.row k es))(hsc:∀ el,el∈es->∀ x,x∈el->Zb.scal x=true)
 (hl':get σ' l=some (.reg false)) (hβ:β' l=some (N ||| Zpz (β r))) (hv:VR (ctx G β w σ) (.osl r es.length) v):VR (ctx G β' w σ') (.own l (.rg (.sl es))) v:=by
 obtain⟨_,hkl,hb⟩:=hb
 simp only [VR] at hv⊢
 obtain⟨a0,cap,hv1,hc1,hc2,h3⟩:=(hv.1 k es hr).2 rfl
 refine⟨fun h' hg'=>?_,by rw [hv1];rfl⟩
 have:some (Blk.reg h')=some (.reg false):=Eq.trans (Eq.symm hg') hl'
 cases this
 refine⟨_,hβ,?_⟩
 show Zx _ w (.sl es) v
 simp only [Zx]
 refine⟨a0,cap,hv1,hc1,hc2,?_⟩
 rcases hb with ⟨_,he⟩ | ⟨b,sz,hb,_,_,hel⟩
 .exact .inl he
 .rcases h3 with ⟨_,hb'⟩ | ⟨b',sz',ha,hb',_,_⟩
  .exact absurd (hb.symm.trans hb') (by simp)
  .have:b'=b:=by have:=hb'.symm.trans hb;simpa using this
   subst this
   refine .inr ⟨b',0,ha,?_,Zm.scal es 0 hsc hel⟩
   rw [show β r=some b' from hb',Nat.testBit_or,Z37,Bool.or_true]
theorem Zzz{r m:Nat}{σ:List (Nat×Blk)}{o:Blk}(h:get (Za5 [r] σ) m=some o):m≠r/\get σ m=some o:=by
 obtain⟨h1,h2⟩:=Zjr h
 exact⟨fun e=>h1 (by simp [e]),h2⟩
theorem Zar3{G:Frm}{β:Nat->Option Nat}{n:Nat}{tm:List (Nat×PV)}{σ:List (Nat×Blk)}{a:Act}{w:World}(h:Zaw G β ⟨n,tm,σ⟩ a w){l r N M:Nat}{B:Blk}(hl0:1000<=l)(hl:get σ l=some (.reg false))(hN:β l=some N)(hr:get σ r=some B)(hlr:l≠r)
 (hM:∀ b,M.testBit b=true->Z3 β w r B b/\∃ m,Za7 w b m) :
 Zaw G (Zbh β l (some (N ||| M))) ⟨n,tm,Za5 [r] σ⟩ a w/\(∀ p v,VR (ctx G β w σ) p v->VR (ctx G (Zbh β l (some (N ||| M))) w (Za5 [r] σ)) p v):=by
 obtain⟨h1,hI,hL⟩:=Zul h hl0 hl hN hr hlr hM (tm':=tm) (σ':=Za5 [r] σ) (Tn:=fun _ _=>False) (fun m o' hm=>⟨(Zzz hm).1,o',(Zzz hm).2,.inl rfl⟩)
  (fun hI hL=>⟨fun _ _ h=>h.elim,fun i q hq=>⟨q,hq,fun v hv=>VR.step hI q v (fun m _=>hL m) hv⟩⟩)
 exact⟨h1,fun p v hv=>VR.step hI p v (fun m _=>hL m) hv⟩
theorem OpF.mono_need{P:Program}{o:Oper}{ρ:List (Nat×PV)}{σ:List (Nat×Blk)}{need need' rm:List Nat}{p:PV}{news:List (Nat×Blk)}(h:OpF P o ρ σ need rm p news)(hs:∀ m,m∈need->m∈need'):OpF P o ρ σ need' rm p news:=
 fun G n tm σ' a w K Q h1 h2 h3 hr hK=>h G n tm σ' a w K Q h1 (fun l hl=>h2 l (hs l hl)) h3 hr hK
theorem Zavd{σ0:List (Nat×Blk)}{t:TypeId}{x y:Operand}{l m0 off size k i r r2:Nat}{agg:Bool}{es:List (List Zb)}{e ts:List Zb}{p:PV}(hr0:1000<=r)(hrr:r≠r2)(hlr:l≠r)(hlr2:l≠r2)(ho:o.op = .store t x y)(hd:o.dst=none)(hT:TyF P t agg size)
 (hx:Zi ρ x=some (.own l (.xp m0 i off))) (hy:Zi ρ y=some p) (hg0:get σ0 l=some (.xrow k i r es)) (hgr0:get σ0 r=some (.reg false)) (hg20:get σ0 r2=some (.reg false)) (hp:Zaj (Zj1 2 r2 r [] p).1) (hm0:es.length=m0) (he:es[i]?=some e)
 (hs:(Zz (Zj1 2 r2 r [] p).2).length=size) (h1:(Zz (Zj1 2 r2 r [] p).2).all PV.one=true) (hq:off+size<=k) (hts:Znb r (splice (e.map .t) off (Zz (Zj1 2 r2 r [] p).2))=some ts) :
 OpF P o ρ σ0 [l,r,r2] [l,r,r2] (.tup []) [(l,.xrow k (i+1) r (es.set i ts)),(r,.reg false)]:=by
 rintro G n tm σ a w K Q hag hneed _ ⟨β,hr⟩ hK
 have hg:get σ l=some (.xrow k i r es):=by rw [hneed l (by simp)];exact hg0
 have hgr:get σ r=some (.reg false):=by rw [hneed r (by simp)];exact hgr0
 have hg2:get σ r2=some (.reg false):=by rw [hneed r2 (by simp)];exact hg20
 have hop:∀ x q,x∈o.op.operands->Zi ρ x=some q->VR (ctx G β w σ) q (a.eval x):=fun x q hx hq=>Zh1 hr hq (fun t r ht hr'=>hag t r (ht▸hx) hr')
 have e1:=hop x _ (by simp [ho,Op.operands]) hx
 have e2:=hop y _ (by simp [ho,Op.operands]) hy
 obtain⟨N,hN,_⟩:=hr.blk r _ hgr
 obtain⟨M,hM,hrows⟩:=hr.blk r2 _ hg2
 obtain⟨hr1,hI,hL⟩:=Zul hr hr0 hgr hN hg2 hrr (M:=M) (fun b hb=>⟨.inr ⟨M,hM,hb⟩,hrows b hb⟩) (tm':=tm) (σ':=Za5 [r2] σ) (Tn:=fun _ _=>False) (fun m o' hm=>⟨(Zzz hm).1,o',(Zzz hm).2,.inl rfl⟩)
  (fun hI hL=>⟨fun _ _ h=>h.elim,fun i q hq=>⟨q,hq,fun v hv=>VR.step hI q v (fun m _=>hL m) hv⟩⟩)
 have hd1:∀ m,m≠r2->get (Za5 [r2] σ) m=get σ m:=fun m hm=>Zlf (by simpa using hm)
 have e2':=Zxq (g:=2) (r:=r2) (l:=r) (es:=[]) (c:=ctx G β w σ) (c':=ctx G (Zbh β r (some (N ||| M))) w (Za5 [r2] σ)) hI hL (fun h=>absurd h (by decide)) (fun h=>absurd h (by decide))
  ⟨fun _ x v hv=>by
   simp only [VR] at hv⊢
   obtain⟨M',hM',ht⟩:=hv.1 false hg2
   have:M'=M:=Option.some.inj (hM'.symm.trans hM)
   subst this
   refine⟨fun h' hg'=>?_,hv.2⟩
   have:some (Blk.reg h')=some (.reg false):=Eq.trans (Eq.symm hg') ((hd1 r hrr).trans hgr)
   cases this
   exact⟨_,Z4 _ _ _,Zx.mono (w:=w) (w':=w) (fun b hb=>⟨by rw [Nat.testBit_or,hb,Bool.or_true],rfl⟩) x v ht⟩,fun h=>absurd h (by decide)⟩ p _ hp e2
 obtain⟨w',hrun2,hr'⟩:=Z1f hr1 ho hT (VR.step hI _ _ (fun m _=>hL m) e1) e2' ((hd1 l hlr2).trans hg) hm0 he hs h1 hq hts
 unfold Oper.wp
 rw [hrun2,Oper.upon_skip,hd]
 have:=hK (.tuple #[]) w' ⟨_,hr'.sub (Nat.le_refl _) (fun i p hp=>⟨hp,(hr'.tm i p hp).1⟩) (fun m o' hm=>by
  have hm:get ((l,Blk.xrow k (i+1) r (es.set i ts))::(r,Blk.reg false)::Za5 [l,r,r2] σ) m=some o':=hm
  by_cases h1:m=l
  .subst h1
   rw [show o'=_ from by simpa [PW.get] using hm.symm];exact Zb4 _ _ _
  .simp only [PW.get,Zdi (Ne.symm h1),cond_false] at hm
   show get (put (Za5 [r2] σ) l _) m=_
   rw [Zcf _ _ (Ne.symm h1)]
   by_cases h2:m=r
   .subst h2
    simp at hm
    rw [hd1 m hrr,hgr,hm]
   .simp only [Zdi (Ne.symm h2),cond_false] at hm
    obtain⟨h3,h4⟩:=Zjr hm
    rw [hd1 m (fun e=>h3 (by simp [e])),h4]),by simp [VR,VRs]⟩
 rw [hd] at this
 exact this
theorem Zave{σ0:List (Nat×Blk)}{t:TypeId}{x y:Operand}{l m0 off k i r r2 n2 k2:Nat}{es es2:List (List Zb)}{e ts:List Zb}(hr0:1000<=r)(hrr:r≠r2)(hlr:l≠r)(hlr2:l≠r2)(ho:o.op = .store t x y)(hd:o.dst=none)(hT:TyF P t false 1)
 (hx:Zi ρ x=some (.own l (.xp m0 i off))) (hy:Zi ρ y=some (.osl r2 n2)) (hg0:get σ0 l=some (.xrow k i r es)) (hgr0:get σ0 r=some (.reg false)) (hg20:get σ0 r2=some (.row k2 es2)) (hm0:es.length=m0) (he:es[i]?=some e) (hn2:es2.length=n2)
 (hsc:∀ el,el∈es2->∀ x,x∈el->Zb.scal x=true) (hq:off+1<=k) (hts:Znb r (splice (e.map .t) off [.own r (.rg (.sl es2))])=some ts) :
 OpF P o ρ σ0 [l,r,r2] [l,r,r2] (.tup []) [(l,.xrow k (i+1) r (es.set i ts)),(r,.reg false)]:=by
 rintro G n tm σ a w K Q hag hneed _ ⟨β,hr⟩ hK
 have hg:get σ l=some (.xrow k i r es):=by rw [hneed l (by simp)];exact hg0
 have hgr:get σ r=some (.reg false):=by rw [hneed r (by simp)];exact hgr0
 have hg2:get σ r2=some (.row k2 es2):=by rw [hneed r2 (by simp)];exact hg20
 have hop:∀ x q,x∈o.op.operands->Zi ρ x=some q->VR (ctx G β w σ) q (a.eval x):=fun x q hx hq=>Zh1 hr hq (fun t r ht hr'=>hag t r (ht▸hx) hr')
 have e1:=hop x _ (by simp [ho,Op.operands]) hx
 have e2:=hop y _ (by simp [ho,Op.operands]) hy
 obtain⟨N,hN,_⟩:=hr.blk r _ hgr
 have hb2:=hr.blk r2 _ hg2
 obtain⟨hr1,hV⟩:=Zar3 hr hr0 hgr hN hg2 hrr (M:=Zpz (β r2)) (fun b hb1=>by
  have:=Z6q hb1
  refine⟨.inl this,?_⟩
  rcases hb2.2.2 with ⟨h1,_⟩ | ⟨b',m,h1,h2,_⟩
  .exact absurd (this.symm.trans h1) (by simp)
  .have:b'=b:=by have:=h1.symm.trans this;simpa using this
   subst this;exact⟨m,h2⟩)
 have hd1:∀ m,m≠r2->get (Za5 [r2] σ) m=get σ m:=fun m hm=>Zlf (by simpa using hm)
 subst hn2
 have e2':=Zazb (β':=Zbh β r (some (N ||| Zpz (β r2)))) (σ':=Za5 [r2] σ) (l:=r) hg2 hb2 hsc ((hd1 r hrr).trans hgr) (Z4 _ _ _) e2
 obtain⟨w',hrun2,hr'⟩:=Z1f hr1 ho hT (hV _ _ e1) e2' ((hd1 l hlr2).trans hg) hm0 he rfl rfl hq hts
 unfold Oper.wp
 rw [hrun2,Oper.upon_skip,hd]
 have:=hK (.tuple #[]) w' ⟨_,hr'.sub (Nat.le_refl _) (fun i p hp=>⟨hp,(hr'.tm i p hp).1⟩) (fun m o' hm=>by
  have hm:get ((l,Blk.xrow k (i+1) r (es.set i ts))::(r,Blk.reg false)::Za5 [l,r,r2] σ) m=some o':=hm
  by_cases h1:m=l
  .subst h1
   rw [show o'=_ from by simpa [PW.get] using hm.symm];exact Zb4 _ _ _
  .simp only [PW.get,Zdi (Ne.symm h1),cond_false] at hm
   show get (put (Za5 [r2] σ) l _) m=_
   rw [Zcf _ _ (Ne.symm h1)]
   by_cases h2:m=r
   .subst h2
    simp at hm
    rw [hd1 m hrr,hgr,hm]
   .simp only [Zdi (Ne.symm h2),cond_false] at hm
    obtain⟨h3,h4⟩:=Zjr hm
    rw [hd1 m (fun e=>h3 (by simp [e])),h4]),by simp [VR,VRs]⟩
 rw [hd] at this
 exact this
end
section
variable {P:Program} {o:Oper} {ρ:List (Nat×PV)} {σ:List (Nat×Blk)}
theorem Zazc{t e:TypeId}{len k bytes r:Nat}{zero out:List PV}{ts:List Zb}{parts:Array (Nat×Operand)}{ps:List (Nat×PV)}{need:List Nat}(l:Nat)(hlab:1000<=l)(hlr:l≠r)(ho:o.op = .buildSlice t len parts)(hE:ElF P t e k bytes zero)
 (hp:Zg9 ρ parts.toList=some ps) (hsmall:len*k<=16777216) (hf:Zjc (Zjf k len) (rep len zero) ps=some out) (hts:Znb r out=some ts) (hlen:ts.length=len*k) :
 Za3 P o ρ σ need (.own l (.xw len)) [(l,.xrow k len r (chunk k len ts))]:=
 Zsz (fun G β n tm σ' A w hop _ hf1 hf2 hr=>by
  have hv:=Zlj (ρ:=ρ) (c:=ctx G β w σ') A.eval parts.toList ps (fun x q hx hq=>(hop x q (by simpa [ho,Op.operands] using hx) hq).1) hp
  obtain⟨us,h1,h2⟩:=Z2t hE (c:=ctx G β w σ') w (vals:=parts.map fun (i,x)=>(i,A.eval x)) (by rw [Zui];exact hv) hsmall hf
  have hout:=Z2w hts
  rw [hout] at h2
  have husl:us.length=len*k:=by rw [h2.length,List.length_map,hlen]
  have hfl:(chunk k len ts).flatten=ts:=by
   have:∀ (n:Nat) (ts:List Zb),ts.length=n*k->(chunk k n ts).flatten=ts:=by
    intro n
    induction n with
    | zero=>intro ts h;rw [Nat.zero_mul] at h;rw [List.eq_nil_of_length_eq_zero h];rfl
    | succ n ih=>
     intro ts h
     rw [Nat.add_mul,Nat.one_mul] at h
     simp only [chunk,List.flatten_cons]
     rw [ih (ts.drop k) (by simp;omega),List.take_append_drop]
   exact this len ts hlen
  have hx:xPs len r (chunk k len ts)=ts.map (rgP r):=by
   have:=Zs3 (r:=r) (es:=chunk k len ts)
   rw [Zhp] at this
   rw [this,hfl]
  obtain⟨hr',hrow,hI,hL⟩:=hr.allocOwn us.toArray e l (.xrow k len r (chunk k len ts)) hlab trivial hf1 hf2 (fun hI hL hrow=>
   ⟨hE.pos,Z6l k len ts hlen,by rw [Zhp];exact Nat.le_refl _,.inr ⟨w.heap.size,_,us,Zcv _ _ _,hrow,by rw [Zhp];simp [husl],fun j v hj=>VRs.cellsAt w us e j v hj,by
    rw [hx]
    exact VRs.step hI _ _ (fun m hm=>hL m (fun e=>by
     subst e
     have:Nat.beq r m=false:=Zdi (Ne.symm hlr)
     rw [Zxe this] at hm;cases hm)) h2⟩⟩)
  refine⟨.slice (some ⟨w.heap.size,0,none⟩) len len,w.alloc (.cells us.toArray e),?_,_,hr',?_⟩
  .simp only [execOp,ho,Sem.run_bind,h1,Result.andThen_ok,Sem.run_pure]
  .simp only [VR]
   refine⟨fun k' i' r' es' hg=>?_,rfl⟩
   have hgs:get ((l,Blk.xrow k len r (chunk k len ts))::σ') l=some (.xrow k len r (chunk k len ts)):=by simp [get]
   have hg':some (Blk.xrow k' i' r' es')=some (.xrow k len r (chunk k len ts)):=hg.symm.trans hgs
   cases hg'
   rw [Zhp]
   refine⟨Nat.le_refl _,fun _=>⟨_,len,rfl,Nat.le_refl _,?_,.inr ⟨w.heap.size,_,rfl,Zcv _ _ _,hrow,by simp [husl]⟩⟩⟩
   have:=hE.pos
   have:len<=len*k:=Nat.le_mul_of_pos_right _ this
   simp only [maxLen];omega) (fun _ _ _ hx hq=>Zqc l hx hq)
end
theorem Zazd{G:Frm}{β:Nat->Option Nat}{n:Nat}{tm:List (Nat×PV)}{σ:List (Nat×Blk)}{a:Act}{w:World}(h:Zaw G β ⟨n,tm,σ⟩ a w)(l k r:Nat)(hk:0 < k)(hlab:1000<=l)
 (hf1:∀ i q,get tm i=some q->q.has l=false) (hf2:∀ m y,get σ m=some y->m≠l/\y.has l=false):Zaw G (Zbh β l none) ⟨n,tm,(l,.xrow k 0 r [])::σ⟩ a w:=
 Zxg h w none l (.xrow k 0 r []) [] (Nat.le_refl _) rfl rfl rfl ⟨fun cs e=>(by cases e),.inl hlab⟩ (fun _ _ _=>rfl)
  (fun c hc=>by
   have:=Z3.flat (o := .xrow k 0 r []) trivial hc
   rw [Z4] at this;cases this)
  (fun hI hL=>⟨fun i p v hp hv=>VR.step (c:=ctx G β w σ) (c':=ctx G (Zbh β l none) w ((l,.xrow k 0 r [])::Za5 [] σ)) (fun b hb=>hI b hb) p v (fun m hm=>hL m (fun e=>by subst e;rw [hf1 i p hp] at hm;cases hm)) hv,
   fun q o hq ho hh hb=>BR.step (c:=ctx G β w σ) (c':=ctx G (Zbh β l none) w ((l,.xrow k 0 r [])::Za5 [] σ)) (fun b hb=>hI b hb) (Zci β _ hq) hh (fun m hm=>hL m (fun e=>by subst e;rw [(hf2 q o ho).2] at hm;cases hm)) hb⟩)
  (fun _=>⟨hk,(fun el h=>by cases h),Nat.le_refl _,.inl ⟨Z4 _ _ _,rfl⟩⟩)
section
variable {P:Program} {o:Oper} {n:Nat} {tm:List (Nat×PV)} {σ:List (Nat×Blk)}
theorem xsrc{G:Frm}{β:Nat->Option Nat}{a:Act}{w:World}(hr:Zaw G β ⟨n,tm,σ⟩ a w){l r k:Nat}{es:List (List Zb)}{v:Value}{tx e:TypeId}(hg:get σ l=some (.xrow k es.length r es))(hv:VR (ctx G β w σ) (.own l (.xw es.length)) v)
 (htx:P.underlying tx=some (.slice e)):∃ news,Src P k tx v es.length news w/\VRs (ctx G β w σ) (es.flatten.map (rgP r)) news:=by
 simp only [VR] at hv
 obtain⟨a',cap,rfl,_,_,h3⟩:=(hv.1 k _ r es hg).2 rfl
 obtain⟨_,hk,_,hb⟩:=hr.blk l _ hg
 rcases hb with ⟨_,he⟩ | ⟨b,sz,vs,hb,_,_,hcs,hvs⟩
 .subst he
  cases a' with
  | none=>exact⟨[],Src.ofNil w htx cap,by simp [VRs]⟩
  | some ad=>exact⟨[],Src.ofSlice w htx ad 0 cap [] (by simp) (by simp) (by simp),by simp [VRs]⟩
 .rcases h3 with ⟨hc,hb'⟩ | ⟨b',sz',ha,hb',_,_⟩
  .exact absurd (hb.symm.trans hb') (by simp)
  .have:b'=b:=by have:=hb'.symm.trans hb;simpa using this
   subst this;subst ha
   rw [Zs3] at hvs
   refine⟨vs,Src.ofSlice w htx ⟨b',0,none⟩ es.length cap vs ?_ (fun j u hu=>by rw [Addr.add_mid,Nat.zero_add];exact hcs j u hu) (Z85 hvs (Zar2 _)),hvs⟩
   rw [hvs.length,List.length_map,Zca hk]
theorem Zaj2{ρ:List (Nat×PV)}{t tx e:TypeId}{x y:Operand}{k bytes:Nat}{zero:List PV}{es:List (List Zb)}{l2 r:Nat}{need:List Nat}(l:Nat)(hlab:1000<=l)(hlr:l≠r)(ho:o.op = .call { callee := .builtin .append,args := #[x,y],argTypes := #[t,tx] })
 (hE:ElF P t e k bytes zero) (htx:∃ e',P.underlying tx=some (.slice e')) (hx:Zi ρ x=some .nils) (hy:Zi ρ y=some (.own l2 (.xw es.length))) (hg2:get σ l2=some (.xrow k es.length r es)) (hneed:l2∈need)
 (h63:es.length<=9223372036854775807) (hby:es.length*bytes<=140737488355328):Za3 P o ρ σ need (.own l (.xw es.length)) [(l,.xrow k es.length r es)]:=
 Zsz (fun G β n tm σ' A w hop hnd hf1 hf2 hr=>by
  obtain⟨e1,_⟩:=hop x _ (by simp [ho,Op.operands,Call.operands]) hx
  obtain⟨e2,_⟩:=hop y _ (by simp [ho,Op.operands,Call.operands]) hy
  simp only [VR] at e1
  obtain⟨a0,e1⟩:=e1
  obtain⟨e',htx⟩:=htx
  have hgl2:=(hnd l2 hneed).trans hg2
  obtain⟨_,hk,_,_⟩:=hr.blk l2 _ hgl2
  obtain⟨news,hs,hnv⟩:=xsrc (P:=P) (tx:=tx) hr hgl2 e2 htx
  have hnewsl:news.length=es.length*k:=hs.newsLen
  cases hi:P.info? e with
  | none=>have:=hE.info;simp [hi] at this
  | some i=>
   have hik:i.size=k/\i.bytes=bytes:=by have:=hE.info;simpa [hi] using this
   have hz:=hE.z
   unfold Zge at hz
   simp only [hi,Option.bind_some,Option.bind_eq_some_iff] at hz
   obtain⟨z,hiz,hz⟩:=hz
   have hzl:z.cells.size=k:=by have:=(Zgo (c:=ctx G β w σ') hz).length;rw [hE.len] at this;simpa using this
   have hexec:∀ r,(Builtin.append_ #[t,tx] o.type #[.slice a0 0 0,A.eval y]).run P w=r->(execOp A.eval o).run P w=r.andThen fun v w => .ok (.value v) w:=by
    intro r hr
    simp only [execOp,ho,resolve,invoke,builtin,Sem.run_bind,Sem.run_pure,Result.andThen_ok,List.map_toArray,List.map_cons,List.map_nil,e1,hr]
   by_cases hem:es.length=0
   .have hes:es=[]:=List.eq_nil_of_length_eq_zero hem
    subst hes
    have hnil:news=[]:=List.eq_nil_of_length_eq_zero (by simpa using hnewsl)
    subst hnil
    have hrun:=Zmv w t tx o.type e i hE.und hi a0 0 0 (Nat.le_refl _) (A.eval y) (by rw [hik.1];exact hs)
    refine⟨.slice a0 0 0,w,by rw [hexec _ hrun];rfl,_,Zazd hr l k r hE.pos hlab hf1 hf2,?_⟩
    simp only [VR]
    refine⟨fun k' i' r' es' hg=>?_,rfl⟩
    have hgs:get ((l,Blk.xrow k 0 r [])::σ') l=some (.xrow k 0 r []):=by simp [get]
    have:some (Blk.xrow k' i' r' es')=some (.xrow k 0 r []):=Eq.trans (Eq.symm hg) hgs
    cases this
    exact⟨Nat.le_refl _,fun _=>⟨a0,0,rfl,Nat.le_refl _,by simp [maxLen],.inl ⟨rfl,Z4 _ _ _⟩⟩⟩
   .have hpos:0 < es.length:=Nat.pos_of_ne_zero hem
    have hrun:=run_append_grow_src (P:=P) w t tx o.type e i z hE.und hi hiz a0 0 0 [] (by cases a0<;>simp [Builtin.firstCells,loadCells,loadCellsFrom]) (A.eval y) es.length news (by rw [hik.1];exact hs) (by omega) (by omega)
     (by rw [hik.2];exact growslice_fits (by omega) (by simpa using hby))
    simp only [List.nil_append,Nat.zero_add] at hrun
    generalize hcs:news.toArray++Builtin.zeroCells z.cells (grownCap w es.length 0 e - es.length)=cs at hrun
    have hge:=grownCap_ge w es.length 0 e
    have hcm:grownCap w es.length 0 e<=maxLen:=grownCap_le_maxLen w es.length 0 e (by simp only [maxLen];omega)
    have hcsz:cs.size=grownCap w es.length 0 e*k:=by
     rw [<- hcs]
     simp only [Array.size_append,List.size_toArray,size_zeroCells,hzl,hnewsl,<- Nat.add_mul]
     congr 1;omega
    obtain⟨hr',hrow,hI,hL⟩:=(Zaw.drew hr).allocOwn cs e l (.xrow k es.length r es) hlab trivial hf1 hf2 (fun hI hL hrow=>
     ⟨hE.pos,hk,Nat.le_refl _,.inr ⟨w.heap.size,cs.size,news,Zcv _ _ _,hrow,by rw [hcsz];exact Nat.mul_le_mul_right _ hge,(fun j v hj=>by
      show (w.drew.alloc _).cell? ⟨w.drew.heap.size,_,none⟩=_
      rw [World.cell?_alloc_new,<- hcs]
      have hlt:=(List.getElem?_eq_some_iff.1 hj).1
      rw [Array.getElem?_append_left (by simpa using hlt)]
      simpa using hj),by
      rw [Zs3]
      exact VRs.step (c:=ctx G β w.drew σ') hI _ _ (fun q hq=>hL q (fun e=>by
       subst e
       rw [Zxe (Zdi (Ne.symm hlr))] at hq;cases hq)) (VRs.step (c:=ctx G β w σ') (c':=ctx G β w.drew σ') Zuh _ _ (fun q _=>Zac.drew q) hnv)⟩⟩)
    refine⟨.slice (some ⟨w.heap.size,0,none⟩) es.length (grownCap w es.length 0 e),_,by rw [hexec _ hrun];rfl,_,hr',?_⟩
    simp only [VR]
    refine⟨fun k' i' r' es' hg=>?_,rfl⟩
    have hgs:get ((l,Blk.xrow k es.length r es)::σ') l=some (.xrow k es.length r es):=by simp [get]
    have:some (Blk.xrow k' i' r' es')=some (.xrow k es.length r es):=Eq.trans (Eq.symm hg) hgs
    cases this
    exact⟨Nat.le_refl _,fun _=>⟨_,_,rfl,hge,hcm,.inr ⟨w.heap.size,cs.size,rfl,Zcv _ _ _,hrow,by rw [hcsz];exact Nat.le_refl _⟩⟩⟩) (fun _ _ _ hx hq=>Zqc l hx hq)
theorem Z6r{G:Frm}{β:Nat->Option Nat}{n:Nat}{tm:List (Nat×PV)}{σ:List (Nat×Blk)}{A:Act}{w:World}(hr:Zaw G β ⟨n,tm,σ⟩ A w){t tx e:TypeId}{x y:Operand}{k bytes l r m:Nat}{zero:List PV}{es0 es:List (List Zb)}{news:List Value}(ho:o.op = .call { callee := .builtin .append,args := #[x,y],argTypes := #[t,tx] })
 (hE:ElF P t e k bytes zero) (e1:VR (ctx G β w σ) (.own l (.xw m)) (A.eval x)) (hg:get σ l=some (.xrow k m r es0)) (hm:es0.length=m) (hk:∀ el,el∈es->el.length=k) (hs:Src P k tx (A.eval y) es.length news w) (hnv:VRs (ctx G β w σ) (es.flatten.map (rgP r)) news)
 (h63:m+es.length<=9223372036854775807) (hby:(m+es.length)*bytes<=140737488355328) :
 ∃ v w',(execOp A.eval o).run P w = .ok (.value v) w'/\∃ β',Zaw G β' ⟨n,tm,put σ l (.xrow k (m+es.length) r (es0++es))⟩ A w'/\VR (ctx G β' w' (put σ l (.xrow k (m+es.length) r (es0++es)))) (.own l (.xw (m+es.length))) v:=by
 simp only [VR] at e1
 obtain⟨a0,cap,hv,hmc,hcm0,h3⟩:=(e1.1 k m r es0 hg).2 hm.symm
 have hnewsl:news.length=es.length*k:=hs.newsLen
 have hnv1:∀ u,u∈news->u.oneCell'=true:=hs.one
 obtain⟨hk0,hkl,_,hbr⟩:=hr.blk l _ hg
 have hkl':∀ el,el∈es0++es->el.length=k:=fun el hel=>(List.mem_append.1 hel).elim (hkl el) (hk el)
 cases hi:P.info? e with
 | none=>have:=hE.info;simp [hi] at this
 | some i=>
  have hik:i.size=k/\i.bytes=bytes:=by have:=hE.info;simpa [hi] using this
  have hz:=hE.z
  unfold Zge at hz
  simp only [hi,Option.bind_some,Option.bind_eq_some_iff] at hz
  obtain⟨z,hiz,hz⟩:=hz
  have hzl:z.cells.size=k:=by have:=(Zgo (c:=ctx G β w σ) hz).length;rw [hE.len] at this;simpa using this
  have hexec:∀ r,(Builtin.append_ #[t,tx] o.type #[.slice a0 m cap,A.eval y]).run P w=r->(execOp A.eval o).run P w=r.andThen fun v w => .ok (.value v) w:=by
   intro r hr
   simp only [execOp,ho,resolve,invoke,builtin,Sem.run_bind,Sem.run_pure,Result.andThen_ok,List.map_toArray,List.map_cons,List.map_nil,hv,hr]
  have hx0:xPs m r es0=es0.flatten.map (rgP r):=by rw [<- hm];exact Zs3
  have hxn:xPs (m+es.length) r (es0++es)=(es0.flatten.map (rgP r))++(es.flatten.map (rgP r)):=by
   have:=Zs3 (r:=r) (es:=es0++es)
   rw [List.length_append,hm] at this
   rw [this,List.flatten_append,List.map_append]
  have holds:∃ olds,VRs (ctx G β w σ) (es0.flatten.map (rgP r)) olds/\(Builtin.firstCells i.size m (.slice a0 m cap)).run P w.drew = .ok olds.toArray w.drew /\
   (∀ b,β l=some b->∀ j v,olds[j]?=some v->w.cell? ⟨b,j,none⟩=some v):=by
   rcases hbr with ⟨hb,he⟩ | ⟨b,sz,vs,hb,hrow,hsz,hcs,hvs⟩
   .subst he
    have hm0:m=0:=by simpa using hm.symm
    subst hm0
    refine⟨[],by simp [VRs],by cases a0<;>simp [Builtin.firstCells,loadCells,loadCellsFrom],fun b hb'=>?_⟩
    intro j v hj;simp at hj
   .rw [hx0] at hvs
    refine⟨vs,hvs,?_,fun b' hb' j v hj=>?_⟩
    .rcases h3 with ⟨_,hb'⟩ | ⟨b',sz',ha,hb',_,_⟩
     .exact absurd (hb.symm.trans hb') (by simp)
     .have:b'=b:=by have:=hb'.symm.trans hb;simpa using this
      subst this;subst ha
      refine run_firstCells_some w.drew i.size m ⟨b',0,none⟩ m cap vs ?_ (fun j v hj=>?_)
      .rw [hvs.length,List.length_map,Zca hkl,hm,hik.1]
      .rw [Addr.add_mid,Nat.zero_add];exact hcs j v hj
    .have:b'=b:=by have:=hb'.symm.trans hb;simpa using this
     subst this
     exact hcs j v hj
  obtain⟨olds,hov,hold,hoc⟩:=holds
  have holl:olds.length=m*k:=by rw [hov.length,List.length_map,Zca hkl,hm]
  by_cases hroom:m+es.length<=cap
  .rcases h3 with ⟨hc0,hb⟩ | ⟨b,sz,ha,hb,hrow,hsz⟩
   ·-- nothing there,nothing appended
    have hem:es.length=0:=by omega
    have hm0:m=0:=by omega
    have hes:es=[]:=List.eq_nil_of_length_eq_zero hem
    subst hes
    have hnil:news=[]:=List.eq_nil_of_length_eq_zero (by simpa using hnewsl)
    subst hnil
    have hrun:=Zmv w t tx o.type e i hE.und hi a0 m cap hmc (A.eval y) (by rw [hik.1];exact hs)
    refine⟨.slice a0 m cap,w,(by rw [hexec _ hrun];rfl),β,?_⟩
    have hsame:∀ q,get (put σ l (.xrow k (m+([]:List (List Zb)).length) r (es0++[]))) q=get σ q:=fun q=>by
     by_cases hq:q=l
     .subst hq;rw [Zb4,hg,List.append_nil,List.length_nil,Nat.add_zero]
     .exact Zcf σ _ (Ne.symm hq)
    have hr2:Zaw G β ⟨n,tm,put σ l (.xrow k (m+([]:List (List Zb)).length) r (es0++[]))⟩ A w:=hr.sub (Nat.le_refl _) (fun i p hp=>⟨hp,(hr.tm i p hp).1⟩) (fun q o hq=>by rw [<- hsame q];exact hq)
    refine⟨hr2,?_⟩
    simp only [VR,List.length_nil,Nat.add_zero]
    refine⟨fun k' i' r' es' hg'=>?_,rfl⟩
    have hgl:get σ l=some (.xrow k' i' r' es'):=(hsame l).symm.trans hg'
    rw [hg] at hgl
    cases hgl
    exact⟨by omega,fun _=>⟨a0,cap,rfl,hmc,hcm0,.inl ⟨hc0,hb⟩⟩⟩
   ·-- in place
    subst ha
    have hle:(m+es.length)*k<=sz:=Nat.le_trans (Nat.mul_le_mul_right _ hroom) hsz
    rw [Nat.add_mul] at hle
    have hth:=Zka hrow (o:=m*k) (n:=es.length*k) hle
    have hrun:=run_append_room_src (P:=P) w t tx o.type e i hE.und hi b 0 m cap (A.eval y) es.length news (by rw [hik.1];exact hs) hroom (fun j hj=>by
     have:=(hth j (by omega)).1
     rwa [hik.1,Nat.zero_add]) (fun j hj=>by
     have:=(hth j (by omega)).2
     rwa [hik.1,Nat.zero_add])
    rw [hik.1,Nat.zero_add] at hrun
    obtain⟨hr',hI,hL⟩:=Zkg hr (off:=m*k) (blk' := .xrow k (m+es.length) r (es0++es)) news hg hb (.inr (.inr (.inr ⟨k,m,m+es.length,r,es0,_,rfl,rfl,by simp⟩))) (fun hI hL=>by
     refine⟨hk0,hkl',by rw [List.length_append,hm];exact Nat.le_refl _,.inr ⟨b,sz,olds++news,hb,Zb0 _ _ _ _ hrow,?_,fun j v hj=>?_,?_⟩⟩
     .rw [List.length_append,Nat.add_mul,hm];exact hle
     .show (w.setCells b (m*k) news).cell? _=_
      rcases Nat.lt_or_ge j olds.length with h | h
      .rw [List.getElem?_append_left h] at hj
       rw [World.cell?_setCells_out b news (m*k) w ⟨b,j,none⟩ (fun _ _ => .inl (by simp;omega))]
       exact hoc b hb j v hj
      .rw [List.getElem?_append_right h] at hj
       have hjl:=(List.getElem?_eq_some_iff.1 hj).1
       have:=World.cell?_setCells_in b news (m*k) w (fun j' hj'=>(hth j' (by omega)).1) (j - olds.length) hjl
       rw [show m*k+(j - olds.length)=j by omega] at this
       rw [this,<- hj,List.getElem?_eq_getElem hjl]
     .rw [hxn]
      exact (VRs.step hI _ _ (fun q _=>hL q) hov).append (VRs.step hI _ _ (fun q _=>hL q) hnv))
    refine⟨.slice (some ⟨b,0,none⟩) (m+es.length) cap,w.setCells b (m*k) news,(by rw [hexec _ hrun];rfl),β,hr',?_⟩
    simp only [VR]
    refine⟨fun k' i' r' es' hg'=>?_,rfl⟩
    have:some (Blk.xrow k' i' r' es')=some (.xrow k (m+es.length) r (es0++es)):=Eq.trans (Eq.symm hg') (Zb4 σ l _)
    cases this
    rw [List.length_append,hm]
    exact⟨Nat.le_refl _,fun _=>⟨_,cap,rfl,hroom,hcm0,.inr ⟨b,sz,rfl,hb,Zb0 _ _ _ _ hrow,hsz⟩⟩⟩
  ·-- a new row
   have hgt:cap < m+es.length:=by omega
   have hpos:0 < es.length:=by omega
   have hrun:=run_append_grow_src (P:=P) w t tx o.type e i z hE.und hi hiz a0 m cap olds hold (A.eval y) es.length news (by rw [hik.1];exact hs) hgt (by omega) (by rw [hik.2];exact growslice_fits hgt hby)
   generalize hcs:(olds++news).toArray++Builtin.zeroCells z.cells (grownCap w (m+es.length) cap e - (m+es.length))=cs at hrun
   have hge:=grownCap_ge w (m+es.length) cap e
   have hcm:grownCap w (m+es.length) cap e<=maxLen:=grownCap_le_maxLen w (m+es.length) cap e (by simp only [maxLen];omega)
   have hcsz:cs.size=grownCap w (m+es.length) cap e*k:=by
    rw [<- hcs]
    simp only [Array.size_append,List.size_toArray,List.length_append,size_zeroCells,hzl,hnewsl,holl,<- Nat.add_mul]
    congr 1;omega
   obtain⟨hr',hrow⟩:=Zasy (Zaw.drew hr) cs e (i1:=m+es.length) (es':=es0++es) hg (by simp;omega) (fun hI hL hrow=>
    ⟨hk0,hkl',by rw [List.length_append,hm];exact Nat.le_refl _,.inr ⟨w.heap.size,cs.size,olds++news,Zcv _ _ _,hrow,by rw [hcsz,List.length_append,hm];exact Nat.mul_le_mul_right _ hge,(fun j v hj=>by
     show (w.drew.alloc _).cell? ⟨w.drew.heap.size,_,none⟩=_
     rw [World.cell?_alloc_new,<- hcs]
     have hlt:=(List.getElem?_eq_some_iff.1 hj).1
     rw [Array.getElem?_append_left (by simpa using hlt)]
     simpa using hj),by
     rw [hxn]
     exact (VRs.step hI _ _ (fun q _=>hL q) (VRs.step (c:=ctx G β w σ) (c':=ctx G β w.drew σ) Zuh _ _ (fun q _=>Zac.drew q) hov)).append (VRs.step hI _ _ (fun q _=>hL q) (VRs.step (c:=ctx G β w σ) (c':=ctx G β w.drew σ) Zuh _ _ (fun q _=>Zac.drew q) hnv))⟩⟩)
   refine⟨.slice (some ⟨w.heap.size,0,none⟩) (m+es.length) (grownCap w (m+es.length) cap e),_,(by rw [hexec _ hrun];rfl),_,hr',?_⟩
   simp only [VR]
   refine⟨fun k' i' r' es' hg'=>?_,rfl⟩
   have:some (Blk.xrow k' i' r' es')=some (.xrow k (m+es.length) r (es0++es)):=Eq.trans (Eq.symm hg') (Zb4 σ l _)
   cases this
   rw [List.length_append,hm]
   exact⟨Nat.le_refl _,fun _=>⟨_,_,rfl,hge,hcm,.inr ⟨w.heap.size,cs.size,rfl,Zcv _ _ _,hrow,by rw [hcsz];exact Nat.le_refl _⟩⟩⟩
theorem Zavf{ρ:List (Nat×PV)}{σ0:List (Nat×Blk)}{need:List Nat}{t tx e:TypeId}{x y:Operand}{k bytes l l2 r m:Nat}{zero:List PV}{es0 es:List (List Zb)}(ho:o.op = .call { callee := .builtin .append,args := #[x,y],argTypes := #[t,tx] })
 (hE:ElF P t e k bytes zero) (htx:∃ e',P.underlying tx=some (.slice e')) (hx:Zi ρ x=some (.own l (.xw m))) (hg0:get σ0 l=some (.xrow k m r es0)) (hm:es0.length=m) (hy:Zi ρ y=some (.own l2 (.xw es.length))) (hg20:get σ0 l2=some (.xrow k es.length r es)) (hn1:l∈need) (hn2:l2∈need)
 (h63:m+es.length<=9223372036854775807) (hby:(m+es.length)*bytes<=140737488355328) :
 OpF P o ρ σ0 need [l] (.own l (.xw (m+es.length))) [(l,.xrow k (m+es.length) r (es0++es))]:=
 opF fun G β n tm σ A w hop hnd hr=>by
  have e1:=hop x _ (by simp [ho,Op.operands,Call.operands]) hx
  have e2:=hop y _ (by simp [ho,Op.operands,Call.operands]) hy
  have hg:=(hnd l hn1).trans hg0
  have hg2:=(hnd l2 hn2).trans hg20
  obtain⟨_,hk,_,_⟩:=hr.blk l2 _ hg2
  obtain⟨e',htx⟩:=htx
  obtain⟨news,hs,hnv⟩:=xsrc (P:=P) (tx:=tx) hr hg2 e2 htx
  exact Z6r hr ho hE e1 hg hm hk hs hnv h63 hby
theorem Zasz{ρ:List (Nat×PV)}{σ0:List (Nat×Blk)}{t tx e:TypeId}{x y:Operand}{k bytes l l2 r r2 m:Nat}{zero:List PV}{es0 es:List (List Zb)}(hr0:1000<=r)(hrr:r≠r2)(hlr:l≠r)(hlr2:l≠r2)(ho:o.op = .call { callee := .builtin .append,args := #[x,y],argTypes := #[t,tx] })
 (hE:ElF P t e k bytes zero) (htx:∃ e',P.underlying tx=some (.slice e')) (hx:Zi ρ x=some (.own l (.xw m))) (hg0:get σ0 l=some (.xrow k m r es0)) (hm:es0.length=m) (hy:Zi ρ y=some (.own l2 (.xw es.length))) (hg20:get σ0 l2=some (.xrow k es.length r2 es)) (hgr0:get σ0 r=some (.reg false)) (hgr20:get σ0 r2=some (.reg false))
 (h63:m+es.length<=9223372036854775807) (hby:(m+es.length)*bytes<=140737488355328) :
 OpF P o ρ σ0 [l,l2,r,r2] [l,r,r2] (.own l (.xw (m+es.length))) [(l,.xrow k (m+es.length) r (es0++es)),(r,.reg false)]:=
 opF fun G β n tm σ A w hop hnd hr=>by
  have e1:=hop x _ (by simp [ho,Op.operands,Call.operands]) hx
  have e2:=hop y _ (by simp [ho,Op.operands,Call.operands]) hy
  have hg:=(hnd l (by simp)).trans hg0
  have hg2:=(hnd l2 (by simp)).trans hg20
  have hgr:=(hnd r (by simp)).trans hgr0
  have hgr2:=(hnd r2 (by simp)).trans hgr20
  obtain⟨_,hk,_,_⟩:=hr.blk l2 _ hg2
  obtain⟨e',htx⟩:=htx
  obtain⟨news,hs,hnv⟩:=xsrc (P:=P) (tx:=tx) hr hg2 e2 htx
  obtain⟨N,hN,_⟩:=hr.blk r _ hgr
  obtain⟨M,hM,hrows⟩:=hr.blk r2 _ hgr2
  obtain⟨hr1,hV⟩:=Zar3 hr hr0 hgr hN hgr2 hrr (M:=M) (fun b hb=>⟨.inr ⟨M,hM,hb⟩,hrows b hb⟩)
  have hd1:∀ m,m≠r2->get (Za5 [r2] σ) m=get σ m:=fun m hm=>Zlf (by simpa using hm)
  have hcell:∀ (ts:List Zb) (vs:List Value),VRs (ctx G β w σ) (ts.map (rgP r2)) vs->VRs (ctx G (Zbh β r (some (N ||| M))) w (Za5 [r2] σ)) (ts.map (rgP r)) vs:=by
   intro ts
   induction ts with
   | nil=>intro vs h;exact h
   | cons t ts ih=>
    intro vs h
    simp only [List.map_cons,VRs] at h⊢
    obtain⟨v,rest,rfl,hv,hr⟩:=h
    have ht:=Zar0 (c:=ctx G β w σ) hgr2 hM hv
    have:=Z09.vr (c:=ctx G (Zbh β r (some (N ||| M))) w (Za5 [r2] σ)) (l:=r) (h:=false) ((hd1 r hrr).trans hgr) (Z4 _ _ _) (t:=t) (v:=v) (Zx.mono (w:=w) (w':=w) (fun b hb=>⟨by rw [Nat.testBit_or,hb,Bool.or_true],rfl⟩) t v ht)
    exact⟨v,rest,rfl,this,ih rest hr⟩
  obtain⟨v,w',hrun,β',hr',hv'⟩:=Z6r hr1 ho hE (hV _ _ e1) ((hd1 l hlr2).trans hg) hm hk hs (hcell _ _ hnv) h63 hby
  have hsub:∀ m o',get ([(l,Blk.xrow k (m+es.length) r (es0++es))]:List (Nat×Blk)) m=some o'->True:=fun _ _ _=>trivial
  have hget:∀ q o',get ([(l,Blk.xrow k (m+es.length) r (es0++es)),(r,Blk.reg false)]++Za5 [l,r,r2] σ) q=some o'->get (put (Za5 [r2] σ) l (.xrow k (m+es.length) r (es0++es))) q=some o':=fun q o' hm=>by
   have hm:get ((l,Blk.xrow k (m+es.length) r (es0++es))::(r,Blk.reg false)::Za5 [l,r,r2] σ) q=some o':=hm
   by_cases h1:q=l
   .subst h1
    rw [show o'=_ from by simpa [PW.get] using hm.symm];exact Zb4 _ _ _
   .simp only [PW.get,Zdi (Ne.symm h1),cond_false] at hm
    rw [Zcf _ _ (Ne.symm h1)]
    by_cases h2:q=r
    .subst h2
     simp at hm
     rw [hd1 q hrr,hgr,hm]
    .simp only [Zdi (Ne.symm h2),cond_false] at hm
     obtain⟨h3,h4⟩:=Zjr hm
     rw [hd1 q (fun e=>h3 (by simp [e])),h4]
  refine⟨v,w',hrun,β',hr'.sub (Nat.le_refl _) (fun i p hp=>⟨hp,(hr'.tm i p hp).1⟩) hget,?_⟩
  exact VR.step (c:=ctx G β' w' (put (Za5 [r2] σ) l (.xrow k (m+es.length) r (es0++es)))) (c':=ctx G β' w' ([(l,Blk.xrow k (m+es.length) r (es0++es)),(r,Blk.reg false)]++Za5 [l,r,r2] σ)) (fun b hb=>⟨Imm.sub hget b hb,rfl⟩) _ v (fun q _=>Zac.sub hget q) hv'
end
end Go.PW
