import Derived.Test.YtchddhcajpagjaaGreatPwLp
import Derived.Shelf.Spec.SlicesInsertGrow
set_option linter.all false
namespace Go.PW
open Go.RowKit
theorem Z9l{k i:Nat}{es:List (List Zd)}(hk:∀ el,el∈es->el.length=k)(hi:i < es.length):((es.take i).flatten.map PV.t).length=i*k:=by
 rw [List.length_map,Zda (k:=k) (fun el hel=>hk el (List.mem_of_mem_take hel)),List.length_take,Nat.min_eq_left (Nat.le_of_lt hi)]
theorem Za5r{k i j:Nat}{es:List (List Zd)}{cs:List PV}(hk:∀ el,el∈es->el.length=k)(hi:i < es.length)(hj:j < cs.length):(Zgj i es cs)[i*k+j]?=cs[j]?:=by
 unfold Zgj
 rw [List.getElem?_append_right (by rw [Z9l hk hi];omega),Z9l hk hi,Nat.add_sub_cancel_left,List.getElem?_append_left hj]
theorem Zaqv{k i:Nat}{es:List (List Zd)}{cs:List PV}(hk:∀ el,el∈es->el.length=k)(hi:i < es.length):i*k+cs.length<=(Zgj i es cs).length:=by
 unfold Zgj
 rw [List.length_append,Z9l hk hi,List.length_append];omega
theorem Za5s{c:Ctx}{k i:Nat}{es:List (List Zd)}{cs:List PV}{vs:List Value}(hk:∀ el,el∈es->el.length=k)(hi:i < es.length)(h:VRs c (Zgj i es cs) vs) :
 ∃ us,VRs c cs us/\∀ j v,us[j]?=some v->vs[i*k+j]?=some v:=by
 have hl:=h.length
 have hp:=Zaqv (cs:=cs) hk hi
 have hg:∀ j,j < cs.length->((vs.drop (i*k)).take cs.length)[j]?=vs[i*k+j]?:=fun j hj=>by
  rw [List.getElem?_take,if_pos hj,List.getElem?_drop]
 refine⟨(vs.drop (i*k)).take cs.length,VRs.of_get (by simp;omega) (fun j p v hp' hv=>?_),fun j v hv=>?_⟩
 .have hj:=(List.getElem?_eq_some_iff.1 hp').1
  obtain⟨v',h1,h2⟩:=h.get (i*k+j) p ((Za5r hk hi hj).trans hp')
  rw [hg j hj,h1] at hv;cases hv;exact h2
 .have hj:j < cs.length:=by have:=(List.getElem?_eq_some_iff.1 hv).1;simp at this;omega
  rwa [hg j hj] at hv
theorem Zayo{k i off:Nat}{es:List (List Zd)}{cs qs:List PV}(hk:∀ el,el∈es->el.length=k)(hi:i < es.length)(hq:off+qs.length<=cs.length):splice (Zgj i es cs) (i*k+off) qs=Zgj i es (splice cs off qs):=by
 have hA:=Z9l hk hi
 unfold Zgj splice
 rw [List.take_append,hA,List.take_of_length_le (by rw [hA];omega),Nat.add_sub_cancel_left,List.take_append_of_le_length (by omega),
  List.drop_append,hA,List.drop_eq_nil_of_le (by rw [hA];omega),List.nil_append,show i*k+off+qs.length - i*k=off+qs.length by omega,List.drop_append_of_le_length hq]
 simp only [List.append_assoc]
section
variable {P:Program} {o:Oper} {ρ:List (Nat×PV)} {σ:List (Nat×Blk)}
theorem Za3k{s:TypeId}{x:Operand}{f l m q off size k i:Nat}{es:List (List Zd)}{cs:List PV}(ho:o.op = .fieldAddr s x f)(hf:fieldInfo P s f=some (off,size))(hs:size≠0)(hx:Zp ρ x=some (.own l (.pp m q)))
 (hg:get σ l=some (.prow k i es cs)) (hm:es.length=m):Zas P o ρ σ [l] (.own l (.pp m (q+off))) []:=
 Zbx fun G β n tm σ' A w hop hneed _=>by
  have h1:=hop x _ (by simp [ho,Op.operands]) hx
  simp only [VR] at h1 ⊢
  have hgl:get σ' l=some (.prow k i es cs):=(hneed l (by simp)).trans hg
  obtain⟨b,hb,hv⟩:=(h1.1 k i es cs hgl).2 hm.symm
  refine⟨.pointer (some ⟨b,i*k+q+off,none⟩),?_,fun k' i' es' cs' hes'=>?_,rfl⟩
  .simp only [execOp,ho,hv,Sem.run_bind,Zol w hf hs,Result.andThen_ok,Sem.run_pure]
  .have:some (Blk.prow k' i' es' cs')=some (.prow k i es cs):=Eq.trans (Eq.symm hes') hgl
   cases this
   exact⟨by omega,fun _=>⟨b,hb,by rw [Nat.add_assoc]⟩⟩
theorem Zat9{x:Operand}{l m q k i:Nat}{es:List (List Zd)}{cs:List PV}(ho:o.op = .nilCheck x)(hx:Zp ρ x=some (.own l (.pp m q)))(hg:get σ l=some (.prow k i es cs))(hm:es.length=m):Zas P o ρ σ [l] (.own l (.pp m q)) []:=
 Zbx fun G β n tm σ' A w hop hn _=>by
  have h1:=hop x _ (by simp [ho,Op.operands]) hx
  have h2:=h1
  simp only [VR] at h1
  obtain⟨b,_,hv⟩:=(h1.1 k i es cs ((hn l (by simp)).trans hg)).2 hm.symm
  exact⟨.pointer (some ⟨b,i*k+q,none⟩),by simp [execOp,ho,hv],by rw [<- hv];exact h2⟩
theorem Za5t{t:TypeId}{x:Operand}{l m q size k i:Nat}{agg:Bool}{es:List (List Zd)}{cs:List PV}{p:PV}(ho:o.op = .load t x)(hT:TyF P t agg size)(hx:Zp ρ x=some (.own l (.pp m q)))(hg:get σ l=some (.prow k i es cs))(hm:es.length=m)
 (hp:Zdp agg size q cs=some p):Zas P o ρ σ [l] p []:=
 Zbx fun G β n tm σ' A w hop hneed hr=>by
  have e1:=hop x _ (by simp [ho,Op.operands]) hx
  simp only [VR] at e1
  have hgl:get σ' l=some (.prow k i es cs):=(hneed l (by simp)).trans hg
  obtain⟨b,hb,hv⟩:=(e1.1 k i es cs hgl).2 hm.symm
  obtain⟨_,hkl,hi,_,_,b',sz,vs,hb',hrow,hsz,hc,hvs⟩:=hr.blk l _ hgl
  have:b'=b:=by have:=hb'.symm.trans hb;simpa using this
  subst this
  obtain⟨us,h1,h2⟩:=Za5s hkl hi hvs
  obtain⟨v,hrun,hpv⟩:=Zre (q:=i*k) hT w h1 (fun j v hj=>hc _ v (h2 j v hj)) hp
  exact⟨v,by simp only [execOp,ho,hv,Sem.run_bind,hrun,Result.andThen_ok,Sem.run_pure],hpv⟩
theorem Za5u{σ0:List (Nat×Blk)}{t:TypeId}{x y:Operand}{l m0 off size k i:Nat}{agg:Bool}{es:List (List Zd)}{cs:List PV}{p:PV}(ho:o.op = .store t x y)(hd:o.dst=none)(hT:TyF P t agg size)(hx:Zp ρ x=some (.own l (.pp m0 off)))(hy:Zp ρ y=some p)
 (hg0:get σ0 l=some (.prow k i es cs)) (hm0:es.length=m0) (hs:(Z6 p).length=size) (h1:(Z6 p).all PV.one=true) (hq:off+size<=cs.length):OpF P o ρ σ0 [l] [l] (.tup []) [(l,.prow k i es (splice cs off (Z6 p)))]:=by
 rintro G n tm σ a w K Q hag hneed _ ⟨β,hr⟩ hK
 have hg:get σ l=some (.prow k i es cs):=by rw [hneed l (by simp)];exact hg0
 have hop:∀ x q,x∈o.op.operands->Zp ρ x=some q->VR (ctx G β w σ) q (a.eval x):=fun x q hx hq=>Zma hr hq (fun t r ht hr'=>hag t r (ht▸hx) hr')
 have e1:=hop x _ (by simp [ho,Op.operands]) hx
 have e2:=hop y _ (by simp [ho,Op.operands]) hy
 simp only [VR] at e1
 obtain⟨b,hb,hv⟩:=(e1.1 k i es cs hg).2 hm0.symm
 obtain⟨hk0,hkl,hi,hcl,hone,b',sz,vs,hb',hrow,hsz,hc,hvs⟩:=hr.blk l _ hg
 have:b'=b:=by have:=hb'.symm.trans hb;simpa using this
 subst this
 have hik:i*k+k<=sz:=by
  have h2:(i+1)*k<=es.length*k:=Nat.mul_le_mul_right _ hi
  rw [Nat.add_mul,Nat.one_mul] at h2
  omega
 have hrun:=Zj4 hT w e2 hs h1 hrow (q:=i*k+off) (by omega)
 have hcells:=e2.cells
 have hul:(a.eval y).cells.toList.length=size:=by rw [hcells.length,hs]
 have hvl:i*k+off+size<=vs.length:=by rw [hvs.length];have:=Zaqv (cs:=cs) hkl hi;omega
 obtain⟨hr',hI,hL⟩:=Zoz hr (off:=i*k+off) (blk' := .prow k i es (splice cs off (Z6 p))) (a.eval y).cells.toList hg hb (.inr (.inr ⟨k,i,es,cs,_,rfl,rfl⟩)) (fun hI hL=>by
  refine⟨hk0,hkl,hi,by rw [Znu _ _ _ (by rw [hs];exact hq)];exact hcl,?_,b',sz,splice vs (i*k+off) (a.eval y).cells.toList,hb,Za9 _ _ _ _ hrow,hsz,Zj5 hc (by rw [hul];exact hvl),?_⟩
  .unfold splice
   simp only [List.all_append,Bool.and_eq_true]
   exact⟨⟨List.all_eq_true.2 fun z hz=>List.all_eq_true.1 hone z (List.mem_of_mem_take hz),h1⟩,List.all_eq_true.2 fun z hz=>List.all_eq_true.1 hone z (List.mem_of_mem_drop hz)⟩
  .rw [<- Zayo hkl hi (by rw [hs];exact hq)]
   exact (VRs.step hI _ _ (fun m _=>hL m) hvs).splice _ (VRs.step hI _ _ (fun m _=>hL m) hcells))
 have hrun2:(execOp a.eval o).run P w = .ok .skip (w.setCells b' (i*k+off) (a.eval y).cells.toList):=by
  simp only [execOp,ho,hv,Sem.run_bind,hrun,Result.andThen_ok,Sem.run_pure]
 unfold Oper.wp
 rw [hrun2,Oper.upon_skip,hd]
 have:=hK (.tuple #[]) (w.setCells b' (i*k+off) (a.eval y).cells.toList) ⟨β,hr',by simp [VR,VRs]⟩
 rw [hd] at this
 exact this
end
theorem Za7z{G:Frm}{β:Nat->Option Nat}{n:Nat}{tm tm':List (Nat×PV)}{σ σ':List (Nat×Blk)}{a:Act}{w:World}(h:Zan G β ⟨n,tm,σ⟩ a w){l:Nat}{B B':Blk}(hl:1000<=l)
 (hg:get σ l=some B) (hg':get σ' l=some B') (hfl':B'.flat)
 {Tn:List PV->List PV->Prop} (hσ:∀ m o',m≠l->get σ' m=some o'->∃ o,get σ m=some o/\((o'=o/\o.has l=false)\/∃ cs cs',o = .box cs/\o' = .box cs'/\cs'.length=cs.length/\cs'.all PV.one=true/\Tn cs cs'))
 (hT:(∀ b,(ctx G β w σ).I b->(ctx G β w σ').I b/\(ctx G β w σ').w.heap[b]?=(ctx G β w σ).w.heap[b]?)->(∀ m,m≠l->Zam (ctx G β w σ) (ctx G β w σ') m)->∀ cs cs',Tn cs cs'->∀ vs,VRs (ctx G β w σ) cs vs->VRs (ctx G β w σ') cs' vs)
 (hbr:(∀ b,(ctx G β w σ).I b->(ctx G β w σ').I b/\(ctx G β w σ').w.heap[b]?=(ctx G β w σ).w.heap[b]?)->(∀ m,m≠l->Zam (ctx G β w σ) (ctx G β w σ') m)->BR (ctx G β w σ) l B->BR (ctx G β w σ') l B')
 (ht:(∀ b,(ctx G β w σ).I b->(ctx G β w σ').I b/\(ctx G β w σ').w.heap[b]?=(ctx G β w σ).w.heap[b]?)->(∀ m,m≠l->Zam (ctx G β w σ) (ctx G β w σ') m)->∀ i q,get tm' i=some q->∃ p,get tm i=some p/\∀ v,VR (ctx G β w σ) p v->VR (ctx G β w σ') q v) :
 Zan G β ⟨n,tm',σ'⟩ a w:=by
 have hO:∀ m o' b,get σ' m=some o'->Zaf β w m o' b->∃ o,get σ m=some o/\Zaf β w m o b:=fun m o' b hm ho=>by
  by_cases e:m=l
  .subst e
   rw [hg'] at hm;cases hm
   exact⟨B,hg,.inl (ho.flat hfl')⟩
  .obtain⟨o,h1,h2⟩:=hσ m o' e hm
   rcases h2 with ⟨rfl,_⟩ | ⟨cs,cs',rfl,rfl,_⟩
   .exact⟨_,h1,ho⟩
   .exact⟨_,h1,.inl (Zaf.flat (o := .box cs') trivial ho)⟩
 have hI:∀ b,(ctx G β w σ).I b->(ctx G β w σ').I b/\(ctx G β w σ').w.heap[b]?=(ctx G β w σ).w.heap[b]?:=fun b hb=>
  ⟨⟨hb.1,hb.2.1,fun m o hm ho=>by obtain⟨o2,h1,h2⟩:=hO m o b hm ho;exact hb.2.2 m o2 h1 h2⟩,rfl⟩
 have hL:∀ m,m≠l->Zam (ctx G β w σ) (ctx G β w σ') m:=fun m e=>by
  refine⟨fun k es' hm=>?_,fun cs' hm=>?_,fun k q es' hm=>?_,fun ag es' hm=>?_,fun k i es' cs' hm=>?_⟩
  all_goals obtain⟨o,h1,h2⟩:=hσ m _ e hm
  .rcases h2 with ⟨h2,_⟩ | ⟨_,_,_,h2,_⟩
   .subst h2;exact⟨es',h1,Nat.le_refl _,fun _=>⟨rfl,fun _ _ _ h=>h⟩⟩
   .cases h2
  .rcases h2 with ⟨h2,_⟩ | ⟨cs,cs2,h3,h2,_⟩
   .subst h2;exact⟨cs',h1,rfl⟩
   .subst h3;exact⟨cs,h1,rfl⟩
  .rcases h2 with ⟨h2,_⟩ | ⟨_,_,_,h2,_⟩
   .subst h2;exact⟨es',h1,Nat.le_refl _,fun _=>⟨rfl,fun _ _=>⟨fun _ h=>h,fun _ _=>rfl⟩⟩⟩
   .cases h2
  .rcases h2 with ⟨h2,_⟩ | ⟨_,_,_,h2,_⟩
   .subst h2;exact⟨es',h1,rfl⟩
   .cases h2
  .rcases h2 with ⟨h2,_⟩ | ⟨_,_,_,h2,_⟩
   .subst h2;exact⟨es',cs',h1,rfl,rfl,fun _ _ _ h=>h⟩
   .cases h2
 exact { defers := h.defers, sz := h.sz, base := h.base, os := h.os, tape := h.tape, output := h.output, old := h.old, A := h.A, gl := h.gl,
         inj:=fun m m' o o' b hm hm' hb hb'=>by
          obtain⟨o1,h1,h2⟩:=hO m o b hm hb
          obtain⟨o2,h3,h4⟩:=hO m' o' b hm' hb'
          exact h.inj m m' o1 o2 b h1 h3 h2 h4,
         sep:=fun m o b hm hb=>by obtain⟨o1,h1,h2⟩:=hO m o b hm hb;exact h.sep m o1 b h1 h2,
         fix:=fun m cs hm1 hm=>by
          have e:m≠l:=by omega
          obtain⟨o,h1,h2⟩:=hσ m _ e hm
          rcases h2 with ⟨h2,_⟩ | ⟨cs0,cs2,h3,h2,_⟩
          .subst h2;exact h.fix m cs hm1 h1
          .subst h3;exact h.fix m cs0 hm1 h1,
         row0:=h.row0.step (fun m hm=>hL m (by omega)),
         blk:=fun m o hm=>by
          by_cases e:m=l
          .subst e
           have:some o=some B':=Eq.trans (Eq.symm hm) hg'
           cases this
           exact hbr hI hL (h.blk m _ hg)
          .obtain⟨o0,h1,h2⟩:=hσ m o e hm
           have hb:=h.blk m o0 h1
           rcases h2 with ⟨rfl,h3⟩ | ⟨cs,cs',rfl,rfl,h3,h4,h5⟩
           .exact BR.step hI rfl (fun _ _=>rfl) (fun q hq=>hL q (fun e2=>by subst e2;rw [h3] at hq;cases hq)) hb
           .obtain⟨b,vs,f1,f2,f3,f4,f5⟩:=hb
            exact⟨b,vs,f1,by rw [h3];exact f2,f3,hT hI hL cs cs' h5 vs f4,h4⟩,
         tm:=fun i q hq=>by
          obtain⟨p,hp,hv⟩:=ht hI hL i q hq
          exact⟨(h.tm i p hp).1,hv _ (h.tm i p hp).2⟩ }
def opnV(l i:Nat):PV->Option (List Prop×PV)
 | .osl m n=>bif Nat.beq m l then some ([],.own l (.pw n)) else some ([],.osl m n)
 | .rptr m n j off=>bif Nat.beq m l then some ([j=i],.own l (.pp n off)) else some ([],.rptr m n j off)
 | p=>bif p.has l then none else some ([],p)
def clsV(l i len:Nat):PV->Option (List Prop×PV)
 | .own m (.pw n)=>bif Nat.beq m l then some ([n=len],.osl l n) else some ([],.own m (.pw n))
 | .own m (.pp n off)=>bif Nat.beq m l then some ([n=len],.rptr l n i off) else some ([],.own m (.pp n off))
 | p=>bif p.has l then none else some ([],p)
def Zsf(f:PV->Option (List Prop×PV)):List PV->Option (List Prop×List PV)
 | []=>some ([],[])
 | p::ps=>
  match f p,Zsf f ps with
  | some (q,p'),some (qs,ps')=>some (q++qs,p'::ps')
  | _,_=>none
def Z08(f:PV->Option (List Prop×PV)):List (Nat×PV)->Option (List Prop×List (Nat×PV))
 | []=>some ([],[])
 | (i,p)::r=>
  match f p,Z08 f r with
  | some (q,p'),some (qs,r')=>some (q++qs,(i,p')::r')
  | _,_=>none
def Z9m(l:Nat)(B':Blk)(f:PV->Option (List Prop×PV)):List (Nat×Blk)->Option (List Prop×List (Nat×Blk))
 | []=>some ([],[])
 | (m,b)::r=>
  match Z9m l B' f r with
  | none=>none
  | some (qs,r')=>
   bif Nat.beq m l then some (qs,(m,B')::r') else
   match b with
   | .box cs=>match Zsf f cs with | some (q,cs')=>bif cs'.all PV.one then some (q++qs,(m,.box cs')::r') else none | none=>none
   | b=>bif b.has l then none else some (qs,(m,b)::r')
theorem Zaua{f:PV->Option (List Prop×PV)}{c c':Ctx}(hf:∀ p qs p',f p=some (qs,p')->Zak qs->∀ v,VR c p v->VR c' p' v):∀ {ps:List PV} {qs:List Prop} {ps':List PV},Zsf f ps=some (qs,ps')->Zak qs->ps'.length=ps.length/\∀ vs,VRs c ps vs->VRs c' ps' vs
 | [],qs,ps',h,_=>by simp only [Zsf,Option.some.injEq,Prod.mk.injEq] at h;obtain⟨_,rfl⟩:=h;exact⟨rfl,fun vs h=>h⟩
 | p::ps,qs,ps',h,hc=>by
  simp only [Zsf] at h
  split at h
  .rename_i q p' qs' ps2 h1 h2
   cases h
   obtain⟨c1,c2⟩:=Zy.1 hc
   obtain⟨g1,g2⟩:=Zaua hf h2 c2
   refine⟨by simp [g1],fun vs hv=>?_⟩
   simp only [VRs] at hv ⊢
   obtain⟨v,rest,rfl,hv,hr⟩:=hv
   exact⟨v,rest,rfl,hf p q p' h1 c1 v hv,g2 rest hr⟩
  .cases h
theorem Zaub{f:PV->Option (List Prop×PV)}:∀ {tm tm':List (Nat×PV)} {qs:List Prop},Z08 f tm=some (qs,tm')->Zak qs->∀ i q,get tm' i=some q->∃ p r,get tm i=some p/\f p=some (r,q)/\Zak r
 | [],tm',qs,h,_,i,q,hq=>by simp only [Z08,Option.some.injEq,Prod.mk.injEq] at h;obtain⟨_,rfl⟩:=h;cases hq
 | (j,p)::r,tm',qs,h,hc,i,q,hq=>by
  simp only [Z08] at h
  split at h
  .rename_i q1 p' qs' r' h1 h2
   cases h
   obtain⟨c1,c2⟩:=Zy.1 hc
   simp only [PW.get] at hq ⊢
   cases hb:Nat.beq j i with
   | true=>simp only [hb,cond_true,Option.some.injEq] at hq ⊢;subst hq;exact⟨p,q1,rfl,h1,c1⟩
   | false=>simp only [hb,cond_false] at hq ⊢;exact Zaub h2 c2 i q hq
  .cases h
theorem Zaqw{f:PV->Option (List Prop×PV)}:∀ {ps:List PV} {qs:List Prop} {ps':List PV},Zsf f ps=some (qs,ps')->ps'.length=ps.length
 | [],qs,ps',h=>by simp only [Zsf,Option.some.injEq,Prod.mk.injEq] at h;obtain⟨_,rfl⟩:=h;rfl
 | p::ps,qs,ps',h=>by
  simp only [Zsf] at h
  split at h
  .rename_i q p' qs' ps2 h1 h2
   cases h
   simp [Zaqw h2]
  .cases h
theorem Zaou{l:Nat}{B':Blk}{f:PV->Option (List Prop×PV)}:∀ {σ σ':List (Nat×Blk)} {qs:List Prop},Z9m l B' f σ=some (qs,σ')->Zak qs ->
 (∀ m o',m≠l->get σ' m=some o'->∃ o,get σ m=some o/\((o'=o/\o.has l=false)\/∃ cs cs',o = .box cs/\o' = .box cs'/\cs'.length=cs.length/\cs'.all PV.one=true/\∃ q,Zsf f cs=some (q,cs')/\Zak q)) /\
 ((∃ o,get σ l=some o)->get σ' l=some B')
 | [],σ',qs,h,_=>by
  simp only [Z9m,Option.some.injEq,Prod.mk.injEq] at h
  obtain⟨_,rfl⟩:=h
  exact⟨fun m o' _ h=>(by cases h),fun⟨o,h⟩=>(by cases h)⟩
 | (j,b)::r,σ',qs,h,hc=>by
  simp only [Z9m] at h
  split at h
  .cases h
  .rename_i qs' r' h1
   cases hb:Nat.beq j l with
   | true=>
    simp only [hb,cond_true,Option.some.injEq,Prod.mk.injEq] at h
    obtain⟨rfl,rfl⟩:=h
    obtain⟨g1,_⟩:=Zaou h1 hc
    have hjl:j=l:=(Z1 _ _).1 hb
    subst hjl
    refine⟨fun m o' hm ho=>?_,fun _=>by simp [PW.get]⟩
    simp only [PW.get,Zgy (Ne.symm hm),cond_false] at ho ⊢
    exact g1 m o' hm ho
   | false=>
    simp only [hb,cond_false] at h
    have hjl:j≠l:=fun e=>by subst e;simp at hb
    have key:∀ (b':Blk) (q:List Prop),σ'=(j,b')::r'->(Zak qs')->((b'=b/\b.has l=false)\/∃ cs cs',b = .box cs/\b' = .box cs'/\cs'.length=cs.length/\cs'.all PV.one=true/\∃ q,Zsf f cs=some (q,cs')/\Zak q) ->
     (∀ m o',m≠l->get σ' m=some o'->∃ o,get ((j,b)::r) m=some o/\((o'=o/\o.has l=false)\/∃ cs cs',o = .box cs/\o' = .box cs'/\cs'.length=cs.length/\cs'.all PV.one=true/\∃ q,Zsf f cs=some (q,cs')/\Zak q)) /\
     ((∃ o,get ((j,b)::r) l=some o)->get σ' l=some B'):=by
     intro b' q hσ hcq hbb
     subst hσ
     obtain⟨g1,g2⟩:=Zaou h1 hcq
     refine⟨fun m o' hm ho=>?_,fun ho=>?_⟩
     .simp only [PW.get] at ho ⊢
      cases hm2:Nat.beq j m with
      | true=>simp only [hm2,cond_true,Option.some.injEq] at ho ⊢;subst ho;exact⟨b,rfl,hbb⟩
      | false=>simp only [hm2,cond_false] at ho ⊢;exact g1 m o' hm ho
     .simp only [PW.get,Zgy hjl,cond_false] at ho ⊢
      exact g2 ho
    split at h
    .rename_i cs
     split at h
     .rename_i q cs' h2
      cases ho:cs'.all PV.one with
      | false=>simp [ho] at h
      | true=>
       simp only [ho,cond_true,Option.some.injEq,Prod.mk.injEq] at h
       obtain⟨rfl,rfl⟩:=h
       obtain⟨c1,c2⟩:=Zy.1 hc
       exact key _ q rfl c2 (.inr ⟨cs,cs',rfl,rfl,Zaqw h2,ho,q,h2,c1⟩)
     .cases h
    .cases hh:b.has l with
     | true=>simp [hh] at h
     | false=>
      simp only [hh,cond_false,Option.some.injEq,Prod.mk.injEq] at h
      obtain⟨rfl,rfl⟩:=h
      exact key b [] rfl hc (.inl ⟨rfl,hh⟩)
section
variable {G:Frm} {β:Nat->Option Nat} {w:World} {σ σ':List (Nat×Blk)} {l i k:Nat} {es:List (List Zd)}
theorem Zauc{n:Nat}{tm tm':List (Nat×PV)}{a:Act}{f:PV->Option (List Prop×PV)}{B B':Blk}{qs rs:List Prop}(h:Zan G β ⟨n,tm,σ⟩ a w)(hl:1000<=l)(hg:get σ l=some B)(hfl:B'.flat)
 (htm:Z08 f tm=some (qs,tm')) (hσ:Z9m l B' f σ=some (rs,σ')) (cq:Zak qs) (cr:Zak rs)
 (hf:(∀ b,(ctx G β w σ).I b->(ctx G β w σ').I b/\(ctx G β w σ').w.heap[b]?=(ctx G β w σ).w.heap[b]?)->(∀ m,m≠l->Zam (ctx G β w σ) (ctx G β w σ') m)->get σ' l=some B'->∀ p qs p',f p=some (qs,p')->Zak qs->∀ v,VR (ctx G β w σ) p v->VR (ctx G β w σ') p' v)
 (hbr:(∀ b,(ctx G β w σ).I b->(ctx G β w σ').I b/\(ctx G β w σ').w.heap[b]?=(ctx G β w σ).w.heap[b]?)->(∀ m,m≠l->Zam (ctx G β w σ) (ctx G β w σ') m)->BR (ctx G β w σ) l B->BR (ctx G β w σ') l B'):Zan G β ⟨n,tm',σ'⟩ a w:=by
 obtain⟨g1,g2⟩:=Zaou hσ cr
 have hg':=g2 ⟨_,hg⟩
 refine Za7z h hl hg hg' hfl (Tn:=fun cs cs'=>∃ q,Zsf f cs=some (q,cs')/\Zak q) g1 (fun hI hL cs cs' ⟨q,h1,h2⟩ vs hv=>(Zaua (hf hI hL hg') h1 h2).2 vs hv) hbr (fun hI hL j q hq=>?_)
 obtain⟨p,r,h1,h2,h3⟩:=Zaub htm cq j q hq
 exact⟨p,h1,fun v hv=>hf hI hL hg' p r q h2 h3 v hv⟩
theorem Za0z{p p':PV}{qs:List Prop}(hI:∀ b,(ctx G β w σ).I b->(ctx G β w σ').I b/\(ctx G β w σ').w.heap[b]?=(ctx G β w σ).w.heap[b]?)(hL:∀ m,m≠l->Zam (ctx G β w σ) (ctx G β w σ') m)
 (h:(bif p.has l then none else some (([]:List Prop),p))=some (qs,p')) (v:Value) (hv:VR (ctx G β w σ) p v):VR (ctx G β w σ') p' v:=by
 cases hh:p.has l with
 | true=>simp [hh] at h
 | false=>
  simp only [hh,cond_false,Option.some.injEq,Prod.mk.injEq] at h
  obtain⟨_,rfl⟩:=h
  exact VR.step hI p v (fun m hm=>hL m (fun e=>by subst e;rw [hh] at hm;cases hm)) hv
theorem Wk.opn{n:Nat}{tm tm':List (Nat×PV)}{e:List Zd}{qs rs:List Prop}(hl:1000<=l)(hg:get σ l=some (.row k es))(he:es[i]?=some e)(htm:Z08 (opnV l i) tm=some (qs,tm'))(hσ:Z9m l (.prow k i es (e.map .t)) (opnV l i) σ=some (rs,σ'))(cq:Zak qs)(cr:Zak rs) :
 Wk ⟨n,tm,σ⟩ ⟨n,tm',σ'⟩:=by
 rintro G a w ⟨β,h⟩
 have hi:i < es.length:=(List.getElem?_eq_some_iff.1 he).1
 obtain⟨hk0,hkl,hb⟩:=h.blk l _ hg
 rcases hb with ⟨_,hb⟩ | ⟨b,m,hb,hrow,hsz,hel⟩
 .subst hb;simp at hi
 refine⟨β,Zauc h hl hg (by trivial) htm hσ cq cr (fun hI hL hg' p qs p' hp hq v hv=>?_) (fun hI hL _=>?_)⟩
 .cases p
  case osl m0 n0=>
   simp only [opnV] at hp
   cases hb2:Nat.beq m0 l with
   | false=>
    simp only [hb2,cond_false,Option.some.injEq,Prod.mk.injEq] at hp
    obtain⟨_,rfl⟩:=hp
    exact VR.step hI _ v (fun q hq2=>hL q (fun e2=>by subst e2;simp only [PV.has] at hq2;rw [hq2] at hb2;cases hb2)) hv
   | true=>
    simp only [hb2,cond_true,Option.some.injEq,Prod.mk.injEq] at hp
    obtain⟨_,rfl⟩:=hp
    have:=(Z1 _ _).1 hb2
    subst this
    simp only [VR] at hv ⊢
    obtain⟨ho,a0,m1,cap1,rfl⟩:=hv
    refine⟨fun k' i' es' cs' hes'=>?_,rfl⟩
    have:some (Blk.prow k' i' es' cs')=some (.prow k i es (e.map .t)):=Eq.trans (Eq.symm hes') hg'
    cases this
    obtain⟨g1,g2⟩:=ho k es hg
    refine⟨g1,fun hn=>?_⟩
    obtain⟨a2,cap,hv2,hc1,hc2,h3⟩:=g2 hn
    rcases h3 with ⟨h3,_⟩ | ⟨b2,m2,h3,h4,h5,h6⟩
    .omega
    .exact⟨b2,m2,cap,by rw [hv2,h3],hc1,hc2,h4,h5,h6⟩
  case rptr m0 n0 j off=>
   simp only [opnV] at hp
   cases hb2:Nat.beq m0 l with
   | false=>
    simp only [hb2,cond_false,Option.some.injEq,Prod.mk.injEq] at hp
    obtain⟨_,rfl⟩:=hp
    exact VR.step hI _ v (fun q hq2=>hL q (fun e2=>by subst e2;simp only [PV.has] at hq2;rw [hq2] at hb2;cases hb2)) hv
   | true=>
    simp only [hb2,cond_true,Option.some.injEq,Prod.mk.injEq] at hp
    obtain⟨rfl,rfl⟩:=hp
    have:=(Z1 _ _).1 hb2
    subst this
    obtain⟨rfl,_⟩:=hq
    simp only [VR] at hv ⊢
    obtain⟨ho,a0,rfl⟩:=hv
    refine⟨fun k' i' es' cs' hes'=>?_,rfl⟩
    have:some (Blk.prow k' i' es' cs')=some (.prow k j es (e.map .t)):=Eq.trans (Eq.symm hes') hg'
    cases this
    obtain⟨g1,g2⟩:=ho k es hg
    exact⟨g1,fun hn=>g2 hn⟩
  all_goals (simp only [opnV] at hp;exact Za0z hI hL hp v hv)
 .have hflat:=Zr.flat.1 hel
  obtain⟨vs,hvs,hcs⟩:=Zx.vals (c:=ctx G β w σ) hflat
  refine⟨hk0,hkl,hi,by rw [List.length_map];exact hkl e (List.mem_of_getElem? he),by rw [List.all_map];exact List.all_eq_true.2 fun _ _=>rfl,b,m,vs,hb,hrow,hsz,fun j v hj=>by have:=hcs j v hj;rwa [Nat.zero_add] at this,?_⟩
  have hsplit:es.flatten.map PV.t=Zgj i es (e.map .t):=by
   have h1:es=es.take i++e::es.drop (i+1):=by
    have h2:=List.getElem_cons_drop hi
    have h3:es[i]=e:=by rw [List.getElem?_eq_getElem hi] at he;exact Option.some.inj he
    rw [h3] at h2
    rw [h2,List.take_append_drop]
   unfold Zgj
   conv=>lhs;rw [h1]
   rw [List.flatten_append,List.flatten_cons,List.map_append,List.map_append]
  rw [<- hsplit]
  exact VRs.step hI _ _ (fun q hq=>by rw [Ziw] at hq;cases hq) hvs
theorem Wk.cls{n:Nat}{tm tm':List (Nat×PV)}{cs:List PV}{ts:List Zd}{es':List (List Zd)}{qs rs:List Prop}(hl:1000<=l)(hg:get σ l=some (.prow k i es cs))(ht:Zof cs=some ts)(he:es.set i ts=es')(htm:Z08 (clsV l i es.length) tm=some (qs,tm'))(hσ:Z9m l (.row k es') (clsV l i es.length) σ=some (rs,σ'))(cq:Zak qs)(cr:Zak rs) :
 Wk ⟨n,tm,σ⟩ ⟨n,tm',σ'⟩:=by
 rintro G a w ⟨β,h⟩
 obtain⟨hk0,hkl,hi,hcl,hone,b,m,vs,hb,hrow,hsz,hcs,hvs⟩:=h.blk l _ hg
 have hlen:es'.length=es.length:=by rw [<- he,List.length_set]
 have hcs':=Zp9 ht
 subst hcs'
 refine⟨β,Zauc h hl hg (by trivial) htm hσ cq cr (fun hI hL hg' p qs p' hp hq v hv=>?_) (fun hI hL _=>?_)⟩
 .cases p
  case own m0 d=>
   cases d
   case pw n0=>
    simp only [clsV] at hp
    cases hb2:Nat.beq m0 l with
    | false=>
     simp only [hb2,cond_false,Option.some.injEq,Prod.mk.injEq] at hp
     obtain⟨_,rfl⟩:=hp
     exact VR.step hI _ v (fun q hq2=>hL q (fun e2=>by subst e2;simp only [PV.has] at hq2;rw [hq2] at hb2;cases hb2)) hv
    | true=>
     simp only [hb2,cond_true,Option.some.injEq,Prod.mk.injEq] at hp
     obtain⟨rfl,rfl⟩:=hp
     obtain⟨hq,_⟩:=hq
     have:=(Z1 _ _).1 hb2
     subst this
     simp only [VR] at hv ⊢
     obtain⟨ho,h1⟩:=hv
     obtain⟨g1,g2⟩:=ho k i es _ hg
     obtain⟨b2,m2,cap,hv2,hc1,hc2,h4,h5,h6⟩:=g2 hq
     refine⟨fun k' es2 hes2=>?_,_,_,_,hv2⟩
     have:some (Blk.row k' es2)=some (.row k es'):=Eq.trans (Eq.symm hes2) hg'
     cases this
     exact⟨by omega,fun _=>⟨_,cap,hv2,hc1,hc2,.inr ⟨b2,m2,rfl,h4,h5,h6⟩⟩⟩
   case pp n0 off=>
    simp only [clsV] at hp
    cases hb2:Nat.beq m0 l with
    | false=>
     simp only [hb2,cond_false,Option.some.injEq,Prod.mk.injEq] at hp
     obtain⟨_,rfl⟩:=hp
     exact VR.step hI _ v (fun q hq2=>hL q (fun e2=>by subst e2;simp only [PV.has] at hq2;rw [hq2] at hb2;cases hb2)) hv
    | true=>
     simp only [hb2,cond_true,Option.some.injEq,Prod.mk.injEq] at hp
     obtain⟨rfl,rfl⟩:=hp
     obtain⟨hq,_⟩:=hq
     have:=(Z1 _ _).1 hb2
     subst this
     simp only [VR] at hv ⊢
     obtain⟨ho,h1⟩:=hv
     obtain⟨g1,g2⟩:=ho k i es _ hg
     obtain⟨b2,h4,hv2⟩:=g2 hq
     refine⟨fun k' es2 hes2=>?_,_,hv2⟩
     have:some (Blk.row k' es2)=some (.row k es'):=Eq.trans (Eq.symm hes2) hg'
     cases this
     exact⟨by omega,fun _=>⟨b2,h4,hv2⟩⟩
   all_goals (simp only [clsV] at hp;exact Za0z hI hL hp v hv)
  all_goals (simp only [clsV] at hp;exact Za0z hI hL hp v hv)
 .refine⟨hk0,fun el hel=>?_,.inr ⟨b,m,hb,hrow,by rw [hlen];exact hsz,Zr.flat.2 ?_⟩⟩
  .rw [<- he] at hel
   rcases List.mem_or_eq_of_mem_set hel with h1 | h1
   .exact hkl el h1
   .subst h1;rw [List.length_map] at hcl;exact hcl
  .have hsplit:es'.flatten.map PV.t=Zgj i es (ts.map .t):=by
    rw [<- he]
    unfold Zgj
    rw [List.set_eq_take_append_cons_drop,if_pos hi,List.flatten_append,List.flatten_cons,List.map_append,List.map_append]
   rw [<- hsplit] at hvs
   exact Zeb (c:=ctx G β w σ') (VRs.step hI _ _ (fun q hq=>by rw [Ziw] at hq;cases hq) hvs) (fun j v hj=>by rw [Nat.zero_add];exact hcs j v hj)
end
end Go.PW
open Go Go.Proofs
namespace Go.PW
structure Z5x (P:Program) (f:FuncId) (e:TypeId) (z:Value) (bytes:Nat):Prop where
 ok:FnOk P f
 zc:z.cells.size=1
 fits:∀ {n:Nat},n*bytes<=140737488355328->n<=140737488355328
 shift:∀ (b n c i vb vc:Nat) (cs:List Value) (v:Value) (w:World),i < n->n+1<=c->c<=9223372036854775807->vb≠b->cs.length=n ->
  (∀ j u,cs[j]?=some u->w.cell? ⟨b,j,none⟩=some u)->(∀ j,j < n+1->(w.cell? ⟨b,j,none⟩).isSome=true)->(∀ j,j < n+1->w.frozen? ⟨b,j,none⟩=false)->w.cell? ⟨vb,0,none⟩=some v->(∀ u∈cs,u.oneCell'=true)->v.oneCell'=true ->
  ∀ (tA tB:TypeId) (kA kB:Nat),w.shape? vb=some (tA,kA)->w.shape? b=some (tB,kB)->kB≠0->w.frozen? ⟨vb,0,none⟩=false->w.frozen? ⟨vb,kA,none⟩=false ->
  Calls P f #[.slice (some ⟨b,0,none⟩) n c,.int .i64 i,.slice (some ⟨vb,0,none⟩) 1 vc] w fun x w'=>x = .returned (.slice (some ⟨b,0,none⟩) (n+1) c)/\w'=(w.drew.setCells b (i+1) (cs.drop i)).setCells b i [v]
 room:∀ (b n c vb vc:Nat) (v:Value) (w:World),n+1<=c->c<=9223372036854775807->(w.cell? ⟨b,n,none⟩).isSome=true->w.frozen? ⟨b,n,none⟩=false->w.cell? ⟨vb,0,none⟩=some v->v.oneCell'=true ->
  Calls P f #[.slice (some ⟨b,0,none⟩) n c,.int .i64 n,.slice (some ⟨vb,0,none⟩) 1 vc] w fun x w'=>x = .returned (.slice (some ⟨b,0,none⟩) (n+1) c)/\w'=w.setCells b n [v]
 egrow:∀ (base:Option Addr) (n c vb vc:Nat) (cs:List Value) (v:Value) (w:World),n<=c->c < n+1->(n+1)*bytes<=140737488355328->cs.length=n->(base=none->n=0) ->
  (∀ a,base=some a->∀ j u,cs[j]?=some u->w.cell? (a.add j)=some u)->w.cell? ⟨vb,0,none⟩=some v->v.oneCell'=true ->
  Calls P f #[.slice base n c,.int .i64 n,.slice (some ⟨vb,0,none⟩) 1 vc] w fun x w'=>x = .returned (.slice (some ⟨w.heap.size,0,none⟩) (n+1) (grownCap w (n+1) c e)) /\
   w'=w.drew.alloc (.cells ((cs++[v]).toArray++Builtin.zeroCells z.cells (grownCap w (n+1) c e - (n+1))) e)
 grow:∀ (b n c i vb vc:Nat) (cs:List Value) (v:Value) (w:World),i < n->n<=c->c < n+1->(n+1)*bytes<=140737488355328->cs.length=n ->
  (∀ j u,cs[j]?=some u->w.cell? ⟨b,j,none⟩=some u)->w.cell? ⟨vb,0,none⟩=some v->(∀ u∈cs,u.oneCell'=true)->v.oneCell'=true ->
  Calls P f #[.slice (some ⟨b,0,none⟩) n c,.int .i64 i,.slice (some ⟨vb,0,none⟩) 1 vc] w fun x w'=>x = .returned (.slice (some ⟨w.heap.size,0,none⟩) (n+1) (grownCap w (n+1) c e)) /\
   w'=(((w.alloc (.cells ((cs.take i).toArray++Builtin.zeroCells z.cells (n+1 - i)++Builtin.zeroCells z.cells (grownCap w (n+1) c e - (n+1))) e)).drew.setCells w.heap.size i [v]).drew).setCells w.heap.size (i+1) (cs.drop i)
theorem Zxt{w:World}{vb:Nat}{v:Value}(h:w.cell? ⟨vb,0,none⟩=some v):∀ j u,[v][j]?=some u->w.cell? ⟨vb,0+j,none⟩=some u:=fun j u hj=>by
 cases j with
 | zero=>simp at hj;subst hj;exact h
 | succ j=>simp at hj
theorem Zxu{v:Value}(h:v.oneCell'=true):∀ u∈[v],u.oneCell'=true:=fun u hu=>by rw [List.mem_singleton] at hu;rw [hu];exact h
theorem Z5x.str{P:Program}{ρ:Go.Shelf.Ren}(L:Lays2.n22 P ρ):Z5x P (ρ.f 22) (ρ.t 9) (.string ⟨#[]⟩) 16 where
 ok:=⟨_,_,L.f22,rfl,by kernel_rfl⟩
 zc:=rfl
 fits:=fun h=>by omega
 shift:=fun b n c i vb vc cs v w h1 h2 h3 h4 h5 h6 h7 h8 h9 h10 h11 tA tB kA kB h12 h13 h14 h15 h16=>by
  have:=Any2.slices_Insert_string_shift L b 0 n c i vb 0 1 vc cs [v] w h1 Nat.one_pos h2 h3 h4 h5 rfl (by simpa only [Nat.zero_add] using h6) (by simpa only [Nat.zero_add] using h7) (by simpa only [Nat.zero_add] using h8) (Zxt h9) h10 (Zxu h11) tA tB kA kB h12 h13 h14 h15 h16
  simpa only [Nat.zero_add] using this
 room:=fun b n c vb vc v w h1 h2 h3 h4 h5 h6=>by
  have:=Any2.slices_Insert_string_end_room L b 0 n c vb 0 1 vc [v] w Nat.one_pos h1 h2 rfl (fun j hj=>by rw [show 0+n+j=n by omega];exact h3) (fun j hj=>by rw [show 0+n+j=n by omega];exact h4) (Zxt h5) (Zxu h6)
  simpa only [Nat.zero_add] using this
 egrow:=fun base n c vb vc cs v w h1 h2 h3 h4 h5 h6 h7 h8=>Any2.slices_Insert_string_end_grow L base n c vb 0 1 vc cs [v] w Nat.one_pos h1 h2 h3 h4 rfl h5 h6 (Zxt h7) (Zxu h8)
 grow:=fun b n c i vb vc cs v w h1 h2 h3 h4 h5 h6 h7 h8 h9=>Any2.slices_Insert_string_grow L b 0 n c i vb 0 1 vc cs [v] w h1 Nat.one_pos h2 h3 h4 h5 rfl (by simpa only [Nat.zero_add] using h6) (Zxt h7) h8 (Zxu h9)
theorem Z5x.int{P:Program}{ρ:Go.Shelf.Ren}(L:Lays2.n21 P ρ):Z5x P (ρ.f 21) (ρ.t 3) (.int .i64 0) 8 where
 ok:=⟨_,_,L.f21,rfl,by kernel_rfl⟩
 zc:=rfl
 fits:=fun h=>by omega
 shift:=fun b n c i vb vc cs v w h1 h2 h3 h4 h5 h6 h7 h8 h9 h10 h11 tA tB kA kB h12 h13 h14 h15 h16=>by
  have:=Any2.slices_Insert_int_shift L b 0 n c i vb 0 1 vc cs [v] w h1 Nat.one_pos h2 h3 h4 h5 rfl (by simpa only [Nat.zero_add] using h6) (by simpa only [Nat.zero_add] using h7) (by simpa only [Nat.zero_add] using h8) (Zxt h9) h10 (Zxu h11) tA tB kA kB h12 h13 h14 h15 h16
  simpa only [Nat.zero_add] using this
 room:=fun b n c vb vc v w h1 h2 h3 h4 h5 h6=>by
  have:=Any2.slices_Insert_int_end_room L b 0 n c vb 0 1 vc [v] w Nat.one_pos h1 h2 rfl (fun j hj=>by rw [show 0+n+j=n by omega];exact h3) (fun j hj=>by rw [show 0+n+j=n by omega];exact h4) (Zxt h5) (Zxu h6)
  simpa only [Nat.zero_add] using this
 egrow:=fun base n c vb vc cs v w h1 h2 h3 h4 h5 h6 h7 h8=>Any2.slices_Insert_int_end_grow L base n c vb 0 1 vc cs [v] w Nat.one_pos h1 h2 h3 h4 rfl h5 h6 (Zxt h7) (Zxu h8)
 grow:=fun b n c i vb vc cs v w h1 h2 h3 h4 h5 h6 h7 h8 h9=>Any2.slices_Insert_int_grow L b 0 n c i vb 0 1 vc cs [v] w h1 Nat.one_pos h2 h3 h4 h5 rfl (by simpa only [Nat.zero_add] using h6) (Zxt h7) h8 (Zxu h9)
theorem Zazw:∀ (es:List (List Zd)),(∀ el,el∈es->el.length=1)->∃ ts:List Zd,es=ts.map fun t=>[t]
 | [],_=>⟨[],rfl⟩
 | el::es,h=>by
  obtain⟨ts,rfl⟩:=Zazw es (fun x hx=>h x (List.mem_cons_of_mem _ hx))
  have h1:=h el (by simp)
  match el,h1 with
  | [t],_=>exact⟨t::ts,rfl⟩
theorem Z4h:∀ (ts:List Zd),(ts.map fun t=>[t]).flatten=ts
 | []=>rfl
 | t::ts=>by simp [Z4h ts]
theorem Za5v{es:List (List Zd)}(h:∀ el,el∈es->el.length=1)(i:Nat)(x:Zd):(es.take i++[x]::es.drop i).flatten=es.flatten.take i++x::es.flatten.drop i:=by
 obtain⟨ts,rfl⟩:=Zazw es h
 rw [Z4h,List.flatten_append,List.flatten_cons,<- List.map_take,<- List.map_drop,Z4h,Z4h]
 rfl
abbrev Zq1(es:List (List Zd))(x:Zd):List (Nat×Blk):=[(0,.row 1 es),(1,.row 1 [[x]])]
abbrev insA(es:List (List Zd))(i:Nat):List PV:=[.osl 0 es.length,.t (.int .i64 i),.osl 1 1]
abbrev Z5y(es:List (List Zd))(i:Nat)(x:Zd):List (List Zd):=es.take i++[x]::es.drop i
theorem Zafa{A:Nat->Prop}{β:Nat->Option Nat}{w w':World}{es:List (List Zd)}{i:Nat}{x:Zd}{a:Act}(hr:Zan (Zbz β (Zq1 es x) A w) β ⟨3,idx 0 (insA es i),Zq1 es x⟩ a w)
 {cs:List Value} {v:Value} (hcs:VRs (ctx (Zbz β (Zq1 es x) A w) β w (Zq1 es x)) (es.flatten.map .t) cs) (hv:VRs (ctx (Zbz β (Zq1 es x) A w) β w (Zq1 es x)) [.t x] [v]) (h1:∀ el,el∈es->el.length=1)
 {bN mN capN:Nat} (hsz:w.heap.size<=w'.heap.size) (hos:w'.os=w.os) (htp:w'.tape=w.tape) (hout:w'.output=w.output) (hheap:∀ d,d < w.heap.size->β 0≠some d->w'.heap[d]?=w.heap[d]?)
 (hbN:(w.heap.size<=bN/\bN < w'.heap.size)\/β 0=some bN) (hrow:Za5 w' bN mN) (hcap:es.length+1<=capN) (hcm:capN<=mN) (hmax:capN<=maxLen)
 (hcells:∀ j u,(cs.take i++v::cs.drop i)[j]?=some u->w'.cell? ⟨bN,j,none⟩=some u) (hi:i<=es.length) {r:Value} (hr0:r = .slice (some ⟨bN,0,none⟩) (es.length+1) capN) :
 ∃ β',Zan (Zbz β (Zq1 es x) A w) β' ⟨1,[(0,.osl 5000 (es.length+1))],[(5000,.row 1 (Z5y es i x))]⟩ ⟨#[r],[]⟩ w':=by
 have hlen:(Z5y es i x).length=es.length+1:=by simp [Z5y];omega
 have habs:=Zk5 hr w' (some bN) 5000 (.row 1 (Z5y es i x)) [0,1] hsz hos htp hout ⟨by simp,.inl (by omega)⟩ (fun b' hb' hn=>hheap b' hb' (fun e=>hn 0 _ (by simp) rfl (.inl e))) (fun c hc=>?_) (.inr ⟨fun j q h=>?_,fun m y h=>?_⟩) (fun hI=>?_)
 .have hd:Zbw [0,1] (Zq1 es x)=[]:=rfl
  rw [hd] at habs
  refine⟨_,{ defers:=rfl,sz:=by simp,base:=habs.base,os:=habs.os,tape:=habs.tape,output:=habs.output,old:=habs.old,A:=habs.A,gl:=habs.gl,inj:=habs.inj,sep:=habs.sep,fix:=habs.fix,row0:=habs.row0,blk:=habs.blk,tm:=fun j p hp=>?_ }⟩
  match j,hp with
  | 0,hp=>
   simp only [PW.get,Nat.beq,cond_true,Option.some.injEq] at hp
   subst hp
   subst hr0
   refine⟨Nat.zero_lt_one,?_⟩
   simp only [VR]
   refine⟨fun k es' hg'=>?_,_,_,_,rfl⟩
   have:some (Blk.row k es')=some (.row 1 (Z5y es i x)):=Eq.trans (Eq.symm hg') (by simp [ctx,PW.get])
   cases this
   exact⟨by omega,fun _=>⟨_,capN,rfl,hcap,hmax,.inr ⟨bN,mN,rfl,Zau β 5000 (some bN),hrow,by omega⟩⟩⟩
  | j+1,hp=>have h:(none:Option PV)=some p:=hp;cases h
 .have h:=Zaf.flat (by simp [Blk.flat]) hc
  rw [Zau] at h
  cases h
  rcases hbN with h | h
  .exact .inl h
  .exact .inr ⟨0,_,by simp,rfl,.inl h⟩
 .rw [Z1k] at h
  match j,h with
  | 0,h=>simp at h;subst h;rfl
  | 1,h=>simp at h;subst h;rfl
  | 2,h=>simp at h;subst h;rfl
  | j+3,h=>simp at h
 .match m,h with
  | 0,h=>have h:some (Blk.row 1 es)=some y:=h;cases h;rfl
  | 1,h=>have h:some (Blk.row 1 [[x]])=some y:=h;cases h;rfl
  | m+2,h=>have h:(none:Option Blk)=some y:=h;cases h
 .have hv':=VRs.step hI _ _ (fun m hm=>by rw [Ziw] at hm;cases hm) hcs
  have hx':=VRs.step hI _ _ (fun m hm=>by simp [PV.hasAny,PV.has] at hm) hv
  have hall:=(VRs.take i hv').append (hx'.append (VRs.drop i hv'))
  refine⟨Nat.zero_lt_one,fun el hel=>?_,.inr ⟨bN,mN,Zau β 5000 (some bN),hrow,by omega,Zr.flat.2 ?_⟩⟩
  .simp only [Z5y,List.mem_append,List.mem_cons] at hel
   rcases hel with h | rfl | h
   .exact h1 el (List.mem_of_mem_take h)
   .rfl
   .exact h1 el (List.mem_of_mem_drop h)
  .rw [Za5v h1]
   refine Zeb (vs:=cs.take i++v::cs.drop i) (off:=0) ?_ (fun j u hj=>by rw [Nat.zero_add];exact hcells j u hj)
   simpa only [List.map_append,List.map_cons,List.map_take,List.map_drop,List.singleton_append] using hall
theorem Zaud{cs:List Value}{v:Value}{i:Nat}(hi:i<=cs.length)(j:Nat)(u:Value)(h:(cs.take i++v::cs.drop i)[j]?=some u):(j < i/\cs[j]?=some u)\/(j=i/\u=v)\/(i < j/\cs[j - 1]?=some u):=by
 rcases Nat.lt_trichotomy j i with h1 | h1 | h1
 .rw [List.getElem?_append_left (by simp;omega),List.getElem?_take,if_pos h1] at h
  exact .inl ⟨h1,h⟩
 .rw [List.getElem?_append_right (by simp;omega),List.length_take,show j - min i cs.length=0 by omega] at h
  simp at h
  exact .inr (.inl ⟨h1,h.symm⟩)
 .rw [List.getElem?_append_right (by simp;omega),List.length_take,show j - min i cs.length=(j - i - 1)+1 by omega,List.getElem?_cons_succ,List.getElem?_drop,show i+(j - i - 1)=j - 1 by omega] at h
  exact .inr (.inr ⟨h1,h⟩)
theorem Z5x.fn{P:Program}{f:FuncId}{e:TypeId}{z:Value}{bytes:Nat}(R:Z5x P f e z bytes)(es:List (List Zd))(x:Zd)(i:Nat)(hi:i<=es.length)(hby:(es.length+1)*bytes<=140737488355328) :
 FnG P f (Zq1 es x) (insA es i) [(5000,.row 1 (Z5y es i x))] (.osl 5000 (es.length+1)):=by
 refine⟨R.ok,fun A β w vals hl hr=>?_⟩
 obtain⟨v0,v1,v2,rfl⟩:∃ v0 v1 v2,vals=[v0,v1,v2]:=by
  match vals,hl with
  | [a,b,c],_=>exact⟨a,b,c,rfl⟩
 have h63:=R.fits hby
 have t0:=(hr.tm 0 (.osl 0 es.length) rfl).2
 have t1:=(hr.tm 1 (.t (.int .i64 i)) rfl).2
 have t2:=(hr.tm 2 (.osl 1 1) rfl).2
 have e0:(Act.tmps ⟨[v0,v1,v2].toArray,[]⟩).getD 0 undef=v0:=rfl
 have e1:(Act.tmps ⟨[v0,v1,v2].toArray,[]⟩).getD 1 undef=v1:=rfl
 have e2:(Act.tmps ⟨[v0,v1,v2].toArray,[]⟩).getD 2 undef=v2:=rfl
 rw [e0] at t0;rw [e1] at t1;rw [e2] at t2
 simp only [VR,Z0] at t0 t1 t2
 obtain⟨hk0,h1,hb0⟩:=hr.blk 0 (.row 1 es) rfl
 obtain⟨_,_,hb1⟩:=hr.blk 1 (.row 1 [[x]]) rfl
 obtain⟨a0,cap,hv0,hnc,hcm,hq0⟩:=(t0.1 1 es rfl).2 rfl
 obtain⟨a2,cap2,hv2,hnc2,_,hq2⟩:=(t2.1 1 [[x]] rfl).2 rfl
 rcases hb1 with ⟨_,h⟩ | ⟨vb,m2,hvb,hrow2,hm2,hel2⟩
 .cases h
 rcases hq2 with ⟨h,_⟩ | ⟨vb',m2',ha2,hvb',_,_⟩
 .omega
 have:vb'=vb:=by have:=hvb'.symm.trans hvb;simpa using this
 subst this;subst ha2
 obtain⟨xs,hxs,hxc⟩:=Zx.vals (c:=ctx (Zbz β (Zq1 es x) A w) β w (Zq1 es x)) (Zr.flat.1 hel2)
 obtain⟨v,rfl⟩:∃ v,xs=[v]:=by
  have:=hxs.length
  match xs,this with
  | [v],_=>exact⟨v,rfl⟩
 have hx0:w.cell? ⟨vb',0,none⟩=some v:=hxc 0 v rfl
 have hx1:v.oneCell'=true:=Z7t hxs rfl v (by simp)
 obtain⟨cs,hcs,hcc⟩:∃ cs,VRs (ctx (Zbz β (Zq1 es x) A w) β w (Zq1 es x)) (es.flatten.map .t) cs/\(es=[]\/∃ b m,β 0=some b/\Za5 w b m/\es.length<=m/\∀ j u,cs[j]?=some u->w.cell? ⟨b,j,none⟩=some u):=by
  rcases hb0 with ⟨_,rfl⟩ | ⟨b,m,hb,hrow,hm,hel⟩
  .exact⟨[],rfl,.inl rfl⟩
  .obtain⟨cs,h,hc⟩:=Zx.vals (c:=ctx (Zbz β (Zq1 es x) A w) β w (Zq1 es x)) (Zr.flat.1 hel)
   exact⟨cs,h,.inr ⟨b,m,hb,hrow,by omega,fun j u hj=>by have h:w.cell? ⟨b,0+j,none⟩=some u:=hc j u hj;rwa [Nat.zero_add] at h⟩⟩
 have hcl:cs.length=es.length:=by rw [hcs.length,List.length_map,Zda h1,Nat.mul_one]
 have hc1:∀ u,u∈cs->u.oneCell'=true:=Z7t hcs (by rw [List.all_map];exact List.all_eq_true.2 fun _ _=>rfl)
 have hvals:([v0,v1,v2].toArray:Array Value) = #[.slice a0 es.length cap,.int .i64 i,.slice (some ⟨vb',0,none⟩) 1 cap2]:=by rw [hv0,t1,hv2]
 have hap:∀ b,β 0=some b->vb'≠b:=fun b hb hne=>by
  have:=hr.inj 0 1 (.row 1 es) (.row 1 [[x]]) vb' rfl rfl (.inl (by rw [hb,hne])) (.inl hvb)
  cases this
 have hbel:∀ b,β 0=some b->b < w.heap.size:=fun b hb=>(hr.sep 0 (.row 1 es) b rfl (.inl hb)).1
 have hcap63:cap<=9223372036854775807:=by unfold maxLen at hcm;omega
 have hrv:=hr
 rw [hvals]
 by_cases hroom:es.length+1<=cap
 .rcases hq0 with ⟨h,_⟩ | ⟨b,m,ha,hb,hrow,hcapm⟩
  .omega
  subst ha
  have hb:β 0=some b:=hb
  have hcb:∀ j u,cs[j]?=some u->w.cell? ⟨b,j,none⟩=some u:=by
   rcases hcc with rfl | ⟨b',_,hb',_,_,h⟩
   .intro j u hj
    have:cs=[]:=List.eq_nil_of_length_eq_zero hcl
    subst this;simp at hj
   .have:b'=b:=by have:=hb'.symm.trans hb;simpa using this
    subst this;exact h
  have hth:=Zk4 hrow (o:=0) (n:=m) (by omega)
  have hsp:∀ j,j < es.length+1->(w.cell? ⟨b,j,none⟩).isSome=true:=fun j hj=>by have h:(w.cell? ⟨b,0+j,none⟩).isSome=true:=(hth j (by omega)).1;rwa [Nat.zero_add] at h
  have hfz:∀ j,j < es.length+1->w.frozen? ⟨b,j,none⟩=false:=fun j hj=>by have h:w.frozen? ⟨b,0+j,none⟩=false:=(hth j (by omega)).2;rwa [Nat.zero_add] at h
  by_cases hin:i < es.length
  .obtain⟨c2,e2,fr2,g1,g2,g3⟩:=hrow2
   obtain⟨c3,e3,fr3,g4,g5,g6⟩:=hrow
   have g1:w.heap[vb']?=some (.cells c2 e2 fr2):=g1
   have g4:w.heap[b]?=some (.cells c3 e3 fr3):=g4
   have g3:fr2=(0,0):=g3.resolve_right id
   subst g3
   have hsa:w.shape? vb'=some (e2,m2):=by unfold World.shape?;rw [g1];simp [g2]
   have hsb:w.shape? b=some (e3,m):=by unfold World.shape?;rw [g4];simp [g5]
   have hfr:∀ q,w.frozen? ⟨vb',q,none⟩=false:=fun q=>by unfold World.frozen?;simp [g1]
   refine (R.shift b es.length cap i vb' cap2 cs v w hin hroom hcap63 (hap b hb) hcl hcb hsp hfz hx0 hc1 hx1 e2 e3 m2 m hsa hsb (by omega) (hfr 0) (hfr m2)).mono ?_
   rintro r w' ⟨rfl,rfl⟩
   refine⟨.slice (some ⟨b,0,none⟩) (es.length+1) cap,?_⟩
   have hst:∀ j,j < (cs.drop i).length->(w.drew.cell? ⟨b,(i+1)+j,none⟩).isSome=true:=fun j hj=>hsp _ (by rw [List.length_drop] at hj;omega)
   have hcells:∀ j u,(cs.take i++v::cs.drop i)[j]?=some u->((w.drew.setCells b (i+1) (cs.drop i)).setCells b i [v]).cell? ⟨b,j,none⟩=some u:=fun j u hj=>by
    rcases Zaud (by omega) j u hj with ⟨q1,q2⟩ | ⟨q1,q2⟩ | ⟨q1,q2⟩
    .rw [World.cell?_setCells_out b _ _ _ ⟨b,j,none⟩ (fun _ _ => .inl q1),World.cell?_setCells_out b _ _ _ ⟨b,j,none⟩ (fun _ _ => .inl (by show j < i+1;omega))]
     exact hcb j u q2
    .subst q1;subst q2
     have:=World.cell?_setCells_in b [u] j (w.drew.setCells b (j+1) (cs.drop j)) (fun k hk=>by
      have:k=0:=by simpa using hk
      subst this
      rw [World.cell?_setCells_out b _ _ _ _ (fun _ _ => .inl (by show j+0 < j+1;omega))]
      exact hsp _ (by omega)) 0 (by simp)
     simpa using this
    .rw [World.cell?_setCells_out b _ _ _ ⟨b,j,none⟩ (fun _ _ => .inr (by show i+1<=j;omega))]
     have hlt:=(List.getElem?_eq_some_iff.1 q2).1
     have:=World.cell?_setCells_in b (cs.drop i) (i+1) w.drew hst (j - (i+1)) (by rw [List.length_drop];omega)
     rw [show i+1+(j - (i+1))=j by omega] at this
     rw [this,<- q2,<- List.getElem?_eq_getElem,List.getElem?_drop,show i+(j - (i+1))=j - 1 by omega]
   obtain⟨β',h⟩:=Zafa (w':=(w.drew.setCells b (i+1) (cs.drop i)).setCells b i [v]) (capN:=cap) (bN:=b) (mN:=m) hrv hcs hxs h1 (by rw [Zcw,Zcw];exact Nat.le_refl _)
    ((Za6 b [v] i _).1.trans (Za6 b (cs.drop i) (i+1) w.drew).1) ((Za6 b [v] i _).2.1.trans (Za6 b (cs.drop i) (i+1) w.drew).2.1) ((Za6 b [v] i _).2.2.trans (Za6 b (cs.drop i) (i+1) w.drew).2.2)
    (fun d _ hd=>by
     have hne:d≠b:=fun h=>hd (by rw [hb,h])
     rw [Za4 b _ _ _ d hne,Za4 b _ _ _ d hne];rfl)
    (.inr hb) (Za9 b _ _ _ (Za9 b _ _ w.drew ⟨c3,e3,fr3,g4,g5,g6⟩)) hroom (by omega) hcm hcells (by omega) rfl
   exact⟨β',rfl,h⟩
  .have hie:i=es.length:=by omega
   subst hie
   refine (R.room b es.length cap vb' cap2 v w hroom hcap63 (hsp _ (by omega)) (hfz _ (by omega)) hx0 hx1).mono ?_
   rintro r w' ⟨rfl,rfl⟩
   refine⟨.slice (some ⟨b,0,none⟩) (es.length+1) cap,?_⟩
   have hcells:∀ j u,(cs.take es.length++v::cs.drop es.length)[j]?=some u->(w.setCells b es.length [v]).cell? ⟨b,j,none⟩=some u:=fun j u hj=>by
    rcases Zaud (by omega) j u hj with ⟨q1,q2⟩ | ⟨q1,q2⟩ | ⟨q1,q2⟩
    .rw [World.cell?_setCells_out b _ _ _ ⟨b,j,none⟩ (fun _ _ => .inl q1)]
     exact hcb j u q2
    .subst q1;subst q2
     have:=World.cell?_setCells_in b [u] es.length w (fun k hk=>by
      have:k=0:=by simpa using hk
      subst this
      exact hsp _ (by omega)) 0 (by simp)
     simpa using this
    .have hlt:=(List.getElem?_eq_some_iff.1 q2).1
     omega
   obtain⟨β',h⟩:=Zafa (w':=w.setCells b es.length [v]) (capN:=cap) (bN:=b) (mN:=m) hrv hcs hxs h1 (by rw [Zcw];exact Nat.le_refl _)
    (Za6 b _ _ _).1 (Za6 b _ _ _).2.1 (Za6 b _ _ _).2.2
    (fun d _ hd=>Za4 b _ _ _ d (fun h=>hd (by rw [hb,h])))
    (.inr hb) (Za9 b _ _ _ hrow) hroom (by omega) hcm hcells (by omega) rfl
   exact⟨β',rfl,h⟩
 .have hlt:cap < es.length+1:=by omega
  have hge:=grownCap_ge w (es.length+1) cap e
  have hcmN:grownCap w (es.length+1) cap e<=maxLen:=grownCap_le_maxLen w (es.length+1) cap e (by simp only [maxLen];omega)
  by_cases hin:i < es.length
  .rcases hcc with rfl | ⟨b,m,hb,hrow,hm,hcb⟩
   .simp at hin
   rcases hq0 with ⟨h,_⟩ | ⟨b',m',ha,hb',_,_⟩
   .omega
   have:b'=b:=by have:=hb'.symm.trans hb;simpa using this
   subst this;subst ha
   refine (R.grow b' es.length cap i vb' cap2 cs v w hin hnc hlt hby hcl hcb hx0 hc1 hx1).mono ?_
   rintro r w' ⟨rfl,rfl⟩
   refine⟨.slice (some ⟨w.heap.size,0,none⟩) (es.length+1) (grownCap w (es.length+1) cap e),?_⟩
   generalize hG:grownCap w (es.length+1) cap e=G at hge hcmN ⊢
   generalize hROW:(cs.take i).toArray++Builtin.zeroCells z.cells (es.length+1 - i)++Builtin.zeroCells z.cells (G - (es.length+1))=ROW
   have hRs:ROW.size=G:=by
    rw [<- hROW]
    simp only [Array.size_append,List.size_toArray,List.length_take,size_zeroCells,R.zc]
    omega
   have hnew:∀ j,j < G->((w.alloc (.cells ROW e)).cell? ⟨w.heap.size,j,none⟩).isSome=true:=fun j hj=>by
    rw [World.cell?_alloc_at ROW _ w.heap.size j rfl,Array.getElem?_eq_getElem (by omega)];rfl
   have hrowN:Za5 (w.alloc (.cells ROW e)) w.heap.size G:=⟨ROW,e,(0,0),heap_alloc_new w _,hRs,.inl rfl⟩
   have hW:∀ a,((w.alloc (.cells ROW e)).drew.setCells w.heap.size i [v]).drew.cell? a=((w.alloc (.cells ROW e)).setCells w.heap.size i [v]).cell? a:=fun a=>by rw [<- drew_setCells];rfl
   have hcells:∀ j u,(cs.take i++v::cs.drop i)[j]?=some u->((((w.alloc (.cells ROW e)).drew.setCells w.heap.size i [v]).drew).setCells w.heap.size (i+1) (cs.drop i)).cell? ⟨w.heap.size,j,none⟩=some u:=fun j u hj=>by
    have hin1:∀ j,j < (cs.drop i).length->(((w.alloc (.cells ROW e)).drew.setCells w.heap.size i [v]).drew.cell? ⟨w.heap.size,i+1+j,none⟩).isSome=true:=fun j hj=>by
     rw [List.length_drop] at hj
     show (((w.alloc (.cells ROW e)).drew.setCells w.heap.size i [v]).cell? _).isSome=true
     exact isSome_setCells _ _ _ _ (fun k hk=>by
      have:k=0:=by simpa using hk
      subst this
      exact hnew _ (by omega)) _ (hnew _ (by omega))
    rcases Zaud (by omega) j u hj with ⟨q1,q2⟩ | ⟨q1,q2⟩ | ⟨q1,q2⟩
    .rw [World.cell?_setCells_out _ _ _ _ ⟨w.heap.size,j,none⟩ (fun _ _ => .inl (by show j < i+1;omega))]
     show ((w.alloc (.cells ROW e)).drew.setCells w.heap.size i [v]).cell? _=_
     rw [World.cell?_setCells_out _ _ _ _ ⟨w.heap.size,j,none⟩ (fun _ _ => .inl q1)]
     show (w.alloc (.cells ROW e)).cell? _=_
     rw [World.cell?_alloc_at ROW _ w.heap.size j rfl,<- hROW]
     rw [Array.getElem?_append_left (by simp;omega),Array.getElem?_append_left (by simp;omega)]
     simp only [List.getElem?_toArray,List.getElem?_take,if_pos q1]
     exact q2
    .subst q1;subst q2
     rw [World.cell?_setCells_out _ _ _ _ ⟨w.heap.size,j,none⟩ (fun _ _ => .inl (by show j < j+1;omega))]
     show ((w.alloc (.cells ROW e)).drew.setCells w.heap.size j [u]).cell? _=_
     have:=World.cell?_setCells_in w.heap.size [u] j (w.alloc (.cells ROW e)).drew (fun k hk=>by
      have:k=0:=by simpa using hk
      subst this
      exact hnew _ (by omega)) 0 (by simp)
     simpa using this
    .have hlt:=(List.getElem?_eq_some_iff.1 q2).1
     have:=World.cell?_setCells_in w.heap.size (cs.drop i) (i+1) ((w.alloc (.cells ROW e)).drew.setCells w.heap.size i [v]).drew hin1 (j - (i+1)) (by rw [List.length_drop];omega)
     rw [show i+1+(j - (i+1))=j by omega] at this
     rw [this,<- q2,<- List.getElem?_eq_getElem,List.getElem?_drop,show i+(j - (i+1))=j - 1 by omega]
   obtain⟨β',h⟩:=Zafa (w':=(((w.alloc (.cells ROW e)).drew.setCells w.heap.size i [v]).drew).setCells w.heap.size (i+1) (cs.drop i)) (capN:=G) (bN:=w.heap.size) (mN:=G) hrv hcs hxs h1
    (by rw [Zcw];show _<=((w.alloc (.cells ROW e)).drew.setCells w.heap.size i [v]).heap.size;rw [Zcw];show _<=(w.alloc (.cells ROW e)).heap.size;simp)
    ((Za6 w.heap.size (cs.drop i) (i+1) _).1.trans (Za6 w.heap.size [v] i (w.alloc (.cells ROW e)).drew).1) ((Za6 w.heap.size (cs.drop i) (i+1) _).2.1.trans (Za6 w.heap.size [v] i (w.alloc (.cells ROW e)).drew).2.1) ((Za6 w.heap.size (cs.drop i) (i+1) _).2.2.trans (Za6 w.heap.size [v] i (w.alloc (.cells ROW e)).drew).2.2)
    (fun d hd _=>by
     have hne:d≠w.heap.size:=by omega
     rw [Za4 _ _ _ _ d hne]
     show ((w.alloc (.cells ROW e)).drew.setCells w.heap.size i [v]).heap[d]?=_
     rw [Za4 _ _ _ _ d hne]
     exact Zap w _ d hd)
    (.inl ⟨Nat.le_refl _,by rw [Zcw];show _ < ((w.alloc (.cells ROW e)).drew.setCells w.heap.size i [v]).heap.size;rw [Zcw];show _ < (w.alloc (.cells ROW e)).heap.size;simp⟩)
    (Za9 _ _ _ _ (Za9 _ [v] i (w.alloc (.cells ROW e)).drew hrowN)) hge (Nat.le_refl _) hcmN hcells (by omega) rfl
   exact⟨β',rfl,h⟩
  .have hie:i=es.length:=by omega
   subst hie
   have hcba:∀ a,a0=some a->∀ j u,cs[j]?=some u->w.cell? (a.add j)=some u:=fun a ha j u hj=>by
    rcases hcc with rfl | ⟨b,m,hb,hrow,hm,hcb⟩
    .have:cs=[]:=List.eq_nil_of_length_eq_zero hcl
     subst this;simp at hj
    .rcases hq0 with ⟨h,_⟩ | ⟨b',m',ha',hb',_,_⟩
     .have:cs=[]:=List.eq_nil_of_length_eq_zero (by omega)
      subst this;simp at hj
     .have:b'=b:=by have:=hb'.symm.trans hb;simpa using this
      subst this;subst ha'
      cases ha
      rw [Addr.add_mid,Nat.zero_add]
      exact hcb j u hj
   refine (R.egrow a0 es.length cap vb' cap2 cs v w hnc hlt hby hcl (fun ha=>?_) hcba hx0 hx1).mono ?_
   .subst ha
    rcases hq0 with ⟨h,_⟩ | ⟨b',m',ha',hb',_,_⟩
    .omega
    .cases ha'
   rintro r w' ⟨rfl,rfl⟩
   refine⟨.slice (some ⟨w.heap.size,0,none⟩) (es.length+1) (grownCap w (es.length+1) cap e),?_⟩
   generalize hG:grownCap w (es.length+1) cap e=G at hge hcmN ⊢
   generalize hROW:(cs++[v]).toArray++Builtin.zeroCells z.cells (G - (es.length+1))=ROW
   have hRs:ROW.size=G:=by
    rw [<- hROW]
    simp only [Array.size_append,List.size_toArray,List.length_append,List.length_singleton,size_zeroCells,R.zc]
    omega
   have hcells:∀ j u,(cs.take es.length++v::cs.drop es.length)[j]?=some u->(w.drew.alloc (.cells ROW e)).cell? ⟨w.heap.size,j,none⟩=some u:=fun j u hj=>by
    rw [<- hcl,List.take_length,List.drop_length] at hj
    have hj1:=(List.getElem?_eq_some_iff.1 hj).1
    show (w.drew.alloc _).cell? ⟨w.drew.heap.size,_,none⟩=_
    rw [World.cell?_alloc_new,<- hROW,Array.getElem?_append_left (by simpa using hj1)]
    simpa using hj
   obtain⟨β',h⟩:=Zafa (w':=w.drew.alloc (.cells ROW e)) (capN:=G) (bN:=w.heap.size) (mN:=G) hrv hcs hxs h1 (by simp) rfl rfl rfl
    (fun d hd _=>Zap w.drew _ d hd) (.inl ⟨Nat.le_refl _,by simp⟩) ⟨ROW,e,(0,0),heap_alloc_new w.drew _,hRs,.inl rfl⟩ hge (Nat.le_refl _) hcmN hcells (by omega) rfl
   exact⟨β',rfl,h⟩
end Go.PW
