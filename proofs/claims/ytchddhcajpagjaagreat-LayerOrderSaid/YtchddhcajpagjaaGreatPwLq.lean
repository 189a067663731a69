import Derived.Test.YtchddhcajpagjaaGreatPwLp
set_option linter.all false
namespace Go.PW
open Go.RowKit
theorem Z7s{k i:Nat}{es:List (List Zf)}(hk:∀ el,el∈es->el.length=k)(hi:i < es.length):((es.take i).flatten.map PV.t).length=i*k:=by
 rw [List.length_map,Zcz (k:=k) (fun el hel=>hk el (List.mem_of_mem_take hel)),List.length_take,Nat.min_eq_left (Nat.le_of_lt hi)]
theorem Za9t{k i j:Nat}{es:List (List Zf)}{cs:List PV}(hk:∀ el,el∈es->el.length=k)(hi:i < es.length)(hj:j < cs.length):(Zf1 i es cs)[i*k+j]?=cs[j]?:=by
 unfold Zf1
 rw [List.getElem?_append_right (by rw [Z7s hk hi];omega),Z7s hk hi,Nat.add_sub_cancel_left,List.getElem?_append_left hj]
theorem Zaq1{k i:Nat}{es:List (List Zf)}{cs:List PV}(hk:∀ el,el∈es->el.length=k)(hi:i < es.length):i*k+cs.length<=(Zf1 i es cs).length:=by
 unfold Zf1
 rw [List.length_append,Z7s hk hi,List.length_append];omega
theorem Za9u{c:Ctx}{k i:Nat}{es:List (List Zf)}{cs:List PV}{vs:List Value}(hk:∀ el,el∈es->el.length=k)(hi:i < es.length)(h:VRs c (Zf1 i es cs) vs) :
 ∃ us,VRs c cs us/\∀ j v,us[j]?=some v->vs[i*k+j]?=some v:=by
 have hl:=h.length
 have hp:=Zaq1 (cs:=cs) hk hi
 have hg:∀ j,j < cs.length->((vs.drop (i*k)).take cs.length)[j]?=vs[i*k+j]?:=fun j hj=>by
  rw [List.getElem?_take,if_pos hj,List.getElem?_drop]
 refine⟨(vs.drop (i*k)).take cs.length,VRs.of_get (by simp;omega) (fun j p v hp' hv=>?_),fun j v hv=>?_⟩
 .have hj:=(List.getElem?_eq_some_iff.1 hp').1
  obtain⟨v',h1,h2⟩:=h.get (i*k+j) p ((Za9t hk hi hj).trans hp')
  rw [hg j hj,h1] at hv;cases hv;exact h2
 .have hj:j < cs.length:=by have:=(List.getElem?_eq_some_iff.1 hv).1;simp at this;omega
  rwa [hg j hj] at hv
theorem Zaz3{k i off:Nat}{es:List (List Zf)}{cs qs:List PV}(hk:∀ el,el∈es->el.length=k)(hi:i < es.length)(hq:off+qs.length<=cs.length):splice (Zf1 i es cs) (i*k+off) qs=Zf1 i es (splice cs off qs):=by
 have hA:=Z7s hk hi
 unfold Zf1 splice
 rw [List.take_append,hA,List.take_of_length_le (by rw [hA];omega),Nat.add_sub_cancel_left,List.take_append_of_le_length O,
  List.drop_append,hA,List.drop_eq_nil_of_le (by rw [hA];omega),List.nil_append,show i*k+off+qs.length - i*k=off+qs.length by omega,List.drop_append_of_le_length hq]
 simp only [List.append_assoc]
section
variable {P:Program} {o:Oper} {ρ:List (Nat×PV)} {Z:List (Nat×Blk)}
theorem Za6j{s:TypeId}{x:Operand}{f l m q off size k i:Nat}{es:List (List Zf)}{cs:List PV}(ho:o.op = .fieldAddr s x f)(hf:fieldInfo P s f=some (off,size))(hs:size≠0)(hx:Zp ρ x=some (.own l (.pp m q)))
 (hg:get Z l=some (.prow k i es cs)) (hm:es.length=m):Zas P o ρ Z [l] (.own l (.pp m (q+off))) []:=
 Zbp fun G β n tm Z' A w hop hneed _=>by
  have h1:=hop x _ (by simp [ho,Op.operands]) hx
  simp only [VR] at h1 ⊢
  have hgl:get Z' l=some (.prow k i es cs):=(hneed l (by simp)).trans hg
  obtain⟨b,hb,hv⟩:=(h1.1 k i es cs hgl).2 hm.symm
  refine⟨.pointer (some ⟨b,i*k+q+off,none⟩),?_,fun k' i' es' cs' hes'=>?_,rfl⟩
  .simp only [execOp,ho,hv,Sem.run_bind,Zn6 w hf hs,Result.andThen_ok,Sem.run_pure]
  .have:some (Blk.prow k' i' es' cs')=some (.prow k i es cs):=Eq.trans (Eq.symm hes') hgl
   cases this
   exact⟨by omega,fun _=>⟨b,hb,by rw [Nat.add_assoc]⟩⟩
theorem Zau8{x:Operand}{l m q k i:Nat}{es:List (List Zf)}{cs:List PV}(ho:o.op = .nilCheck x)(hx:Zp ρ x=some (.own l (.pp m q)))(hg:get Z l=some (.prow k i es cs))(hm:es.length=m):Zas P o ρ Z [l] (.own l (.pp m q)) []:=
 Zbp fun G β n tm Z' A w hop hn _=>by
  have h1:=hop x _ (by simp [ho,Op.operands]) hx
  have h2:=h1
  simp only [VR] at h1
  obtain⟨b,_,hv⟩:=(h1.1 k i es cs ((hn l (by simp)).trans hg)).2 hm.symm
  exact⟨.pointer (some ⟨b,i*k+q,none⟩),by simp [execOp,ho,hv],by rw [<- hv];exact h2⟩
theorem Za9v{t:TypeId}{x:Operand}{l m q size k i:Nat}{agg:Bool}{es:List (List Zf)}{cs:List PV}{p:PV}(ho:o.op = .load t x)(hT:TyF P t agg size)(hx:Zp ρ x=some (.own l (.pp m q)))(hg:get Z l=some (.prow k i es cs))(hm:es.length=m)
 (hp:Zda agg size q cs=some p):Zas P o ρ Z [l] p []:=
 Zbp fun G β n tm Z' A w hop hneed hr=>by
  have e1:=hop x _ (by simp [ho,Op.operands]) hx
  simp only [VR] at e1
  have hgl:get Z' l=some (.prow k i es cs):=(hneed l (by simp)).trans hg
  obtain⟨b,hb,hv⟩:=(e1.1 k i es cs hgl).2 hm.symm
  obtain⟨_,hkl,hi,_,_,b',sz,vs,hb',hrow,hsz,hc,hvs⟩:=hr.blk l _ hgl
  have:b'=b:=by have:=hb'.symm.trans hb;simpa using this
  subst this
  obtain⟨us,h1,h2⟩:=Za9u hkl hi hvs
  obtain⟨v,hrun,hpv⟩:=Zqp (q:=i*k) hT w h1 (fun j v hj=>hc _ v (h2 j v hj)) hp
  exact⟨v,by simp only [execOp,ho,hv,Sem.run_bind,hrun,Result.andThen_ok,Sem.run_pure],hpv⟩
theorem Za9w{σ0:List (Nat×Blk)}{t:TypeId}{x y:Operand}{l m0 off size k i:Nat}{agg:Bool}{es:List (List Zf)}{cs:List PV}{p:PV}(ho:o.op = .store t x y)(hd:o.dst=none)(hT:TyF P t agg size)(hx:Zp ρ x=some (.own l (.pp m0 off)))(hy:Zp ρ y=some p)
 (hg0:get σ0 l=some (.prow k i es cs)) (hm0:es.length=m0) (hs:(Z7 p).length=size) (h1:(Z7 p).all PV.one=true) (hq:off+size<=cs.length):OpF P o ρ σ0 [l] [l] (.tup []) [(l,.prow k i es (splice cs off (Z7 p)))]:=by
 rintro G n tm Z a w K Q hag hneed _ ⟨β,hr⟩ hK
 have hg:get Z l=some (.prow k i es cs):=by rw [hneed l (by simp)];exact hg0
 have hop:∀ x q,x∈o.op.operands->Zp ρ x=some q->VR (ctx G β w Z) q (a.eval x):=fun x q hx hq=>Zlh hr hq (fun t r ht hr'=>hag t r (ht▸hx) hr')
 have e1:=hop x _ (by simp [ho,Op.operands]) hx
 have e2:=hop y _ (by simp [ho,Op.operands]) hy
 simp only [VR] at e1
 obtain⟨b,hb,hv⟩:=(e1.1 k i es cs hg).2 hm0.symm
 obtain⟨hk0,hkl,hi,hcl,hone,b',sz,vs,hb',hrow,hsz,hc,hvs⟩:=hr.blk l _ hg
 have:b'=b:=by have:=hb'.symm.trans hb;simpa using this
 subst this
 have hik:i*k+k<=sz:=by
  have h2:(i+1)*k<=es.length*k:=Nat.mul_le_mul_right _ hi
  rw [Nat.add_mul,Nat.one_mul] at h2
  omega
 have hrun:=Zi7 hT w e2 hs h1 hrow (q:=i*k+off) O
 have hcells:=e2.cells
 have hul:(a.eval y).cells.toList.length=size:=by rw [hcells.length,hs]
 have hvl:i*k+off+size<=vs.length:=by rw [hvs.length];have:=Zaq1 (cs:=cs) hkl hi;omega
 obtain⟨hr',hI,hL⟩:=Zoi hr (off:=i*k+off) (blk' := .prow k i es (splice cs off (Z7 p))) (a.eval y).cells.toList hg hb (.inr (.inr ⟨k,i,es,cs,_,rfl,rfl⟩)) (fun hI hL=>by
  refine⟨hk0,hkl,hi,by rw [Zm8 _ _ _ (by rw [hs];exact hq)];exact hcl,?_,b',sz,splice vs (i*k+off) (a.eval y).cells.toList,hb,Za8 _ _ _ _ hrow,hsz,Zi8 hc (by rw [hul];exact hvl),?_⟩
  .unfold splice
   simp only [List.all_append,Bool.and_eq_true]
   exact⟨⟨List.all_eq_true.2 fun z hz=>List.all_eq_true.1 hone z (List.mem_of_mem_take hz),h1⟩,List.all_eq_true.2 fun z hz=>List.all_eq_true.1 hone z (List.mem_of_mem_drop hz)⟩
  .rw [<- Zaz3 hkl hi (by rw [hs];exact hq)]
   exact (VRs.step hI _ _ (fun m _=>hL m) hvs).splice _ (VRs.step hI _ _ (fun m _=>hL m) hcells))
 have hrun2:(execOp a.eval o).run P w = .ok .skip (w.setCells b' (i*k+off) (a.eval y).cells.toList):=by
  simp only [execOp,ho,hv,Sem.run_bind,hrun,Result.andThen_ok,Sem.run_pure]
 unfold Oper.wp
 rw [hrun2,Oper.upon_skip,hd]
 have:=hK (.tuple #[]) (w.setCells b' (i*k+off) (a.eval y).cells.toList) ⟨β,hr',by simp [VR,VRs]⟩
 rw [hd] at this
 exact this
end
theorem Zbd9{G:Frm}{β:Nat->Option Nat}{n:Nat}{tm tm':List (Nat×PV)}{Z Z':List (Nat×Blk)}{a:Act}{w:World}(h:Zan G β ⟨n,tm,Z⟩ a w){l:Nat}{B B':Blk}(hl:1000<=l)
 (hg:get Z l=some B) (hg':get Z' l=some B') (hfl':B'.flat)
 {Tn:List PV->List PV->Prop} (hσ:∀ m o',m≠l->get Z' m=some o'->∃ o,get Z m=some o/\((o'=o/\o.has l=false)\/∃ cs cs',o = .box cs/\o' = .box cs'/\cs'.length=cs.length/\cs'.all PV.one=true/\Tn cs cs'))
 (hT:(∀ b,(ctx G β w Z).I b->(ctx G β w Z').I b/\(ctx G β w Z').w.heap[b]?=(ctx G β w Z).w.heap[b]?)->(∀ m,m≠l->Zal (ctx G β w Z) (ctx G β w Z') m)->∀ cs cs',Tn cs cs'->∀ vs,VRs (ctx G β w Z) cs vs->VRs (ctx G β w Z') cs' vs)
 (hbr:(∀ b,(ctx G β w Z).I b->(ctx G β w Z').I b/\(ctx G β w Z').w.heap[b]?=(ctx G β w Z).w.heap[b]?)->(∀ m,m≠l->Zal (ctx G β w Z) (ctx G β w Z') m)->BR (ctx G β w Z) l B->BR (ctx G β w Z') l B')
 (ht:(∀ b,(ctx G β w Z).I b->(ctx G β w Z').I b/\(ctx G β w Z').w.heap[b]?=(ctx G β w Z).w.heap[b]?)->(∀ m,m≠l->Zal (ctx G β w Z) (ctx G β w Z') m)->∀ i q,get tm' i=some q->∃ p,get tm i=some p/\∀ v,VR (ctx G β w Z) p v->VR (ctx G β w Z') q v) :
 Zan G β ⟨n,tm',Z'⟩ a w:=by
 have hO:∀ m o' b,get Z' m=some o'->Zae β w m o' b->∃ o,get Z m=some o/\Zae β w m o b:=fun m o' b hm ho=>by
  by_cases e:m=l
  .subst e
   rw [hg'] at hm;cases hm
   exact⟨B,hg,.inl (ho.flat hfl')⟩
  .obtain⟨o,h1,h2⟩:=hσ m o' e hm
   rcases h2 with ⟨rfl,_⟩ | ⟨cs,cs',rfl,rfl,_⟩
   .exact⟨_,h1,ho⟩
   .exact⟨_,h1,.inl (Zae.flat (o := .box cs') trivial ho)⟩
 have hI:∀ b,(ctx G β w Z).I b->(ctx G β w Z').I b/\(ctx G β w Z').w.heap[b]?=(ctx G β w Z).w.heap[b]?:=fun b hb=>
  ⟨⟨hb.1,hb.2.1,fun m o hm ho=>by obtain⟨o2,h1,h2⟩:=hO m o b hm ho;exact hb.2.2 m o2 h1 h2⟩,rfl⟩
 have hL:∀ m,m≠l->Zal (ctx G β w Z) (ctx G β w Z') m:=fun m e=>by
  refine⟨fun k es' hm=>?_,fun cs' hm=>?_,fun k q es' hm=>?_,fun ag es' hm=>?_,fun k i es' cs' hm=>?_⟩
  all_goals obtain⟨o,h1,h2⟩:=hσ m _ e hm
  .rcases h2 with ⟨h2,_⟩ | ⟨_,_,_,h2,_⟩
   .subst h2;exact⟨es',h1,Nat.le_refl _,fun _=>⟨rfl,fun _ _ _ h=>h⟩⟩
   .cases h2
  .rcases h2 with ⟨h2,_⟩ | ⟨cs,cs2,h3,h2,_⟩
   .subst h2;exact⟨cs',h1,rfl⟩
   .subst h3;exact⟨cs,h1,rfl⟩
  .rcases h2 with ⟨h2,_⟩ | ⟨_,_,_,h2,_⟩
   .subst h2;exact⟨es',h1,Nat.le_refl _,fun _=>⟨rfl,fun _ _=>⟨fun _ h=>h,fun _ _=>rfl⟩⟩⟩
   .cases h2
  .rcases h2 with ⟨h2,_⟩ | ⟨_,_,_,h2,_⟩
   .subst h2;exact⟨es',h1,rfl⟩
   .cases h2
  .rcases h2 with ⟨h2,_⟩ | ⟨_,_,_,h2,_⟩
   .subst h2;exact⟨es',cs',h1,rfl,rfl,fun _ _ _ h=>h⟩
   .cases h2
 exact { defers := h.defers, sz := h.sz, base := h.base, os := h.os, tape := h.tape, output := h.output, old := h.old, A := h.A, gl := h.gl,
         inj:=fun m m' o o' b hm hm' hb hb'=>by
          obtain⟨o1,h1,h2⟩:=hO m o b hm hb
          obtain⟨o2,h3,h4⟩:=hO m' o' b hm' hb'
          exact h.inj m m' o1 o2 b h1 h3 h2 h4,
         sep:=fun m o b hm hb=>by obtain⟨o1,h1,h2⟩:=hO m o b hm hb;exact h.sep m o1 b h1 h2,
         fix:=fun m cs hm1 hm=>by
          have e:m≠l:=by omega
          obtain⟨o,h1,h2⟩:=hσ m _ e hm
          rcases h2 with ⟨h2,_⟩ | ⟨cs0,cs2,h3,h2,_⟩
          .subst h2;exact h.fix m cs hm1 h1
          .subst h3;exact h.fix m cs0 hm1 h1,
         row0:=h.row0.step (fun m hm=>hL m O),
         blk:=fun m o hm=>by
          by_cases e:m=l
          .subst e
           have:some o=some B':=Eq.trans (Eq.symm hm) hg'
           cases this
           exact hbr hI hL (h.blk m _ hg)
          .obtain⟨o0,h1,h2⟩:=hσ m o e hm
           have hb:=h.blk m o0 h1
           rcases h2 with ⟨rfl,h3⟩ | ⟨cs,cs',rfl,rfl,h3,h4,h5⟩
           .exact BR.step hI rfl (fun _ _=>rfl) (fun q hq=>hL q (fun e2=>by subst e2;rw [h3] at hq;cases hq)) hb
           .obtain⟨b,vs,f1,f2,f3,f4,f5⟩:=hb
            exact⟨b,vs,f1,by rw [h3];exact f2,f3,hT hI hL cs cs' h5 vs f4,h4⟩,
         tm:=fun i q hq=>by
          obtain⟨p,hp,hv⟩:=ht hI hL i q hq
          exact⟨(h.tm i p hp).1,hv _ (h.tm i p hp).2⟩ }
def opnV(l i:Nat):PV->Option (List Prop×PV)
 | .osl m n=>bif Nat.beq m l then some ([],.own l (.pw n)) else some ([],.osl m n)
 | .rptr m n j off=>bif Nat.beq m l then some ([j=i],.own l (.pp n off)) else some ([],.rptr m n j off)
 | p=>bif p.has l then none else some ([],p)
def clsV(l i len:Nat):PV->Option (List Prop×PV)
 | .own m (.pw n)=>bif Nat.beq m l then some ([n=len],.osl l n) else some ([],.own m (.pw n))
 | .own m (.pp n off)=>bif Nat.beq m l then some ([n=len],.rptr l n i off) else some ([],.own m (.pp n off))
 | p=>bif p.has l then none else some ([],p)
def Zrj(f:PV->Option (List Prop×PV)):List PV->Option (List Prop×List PV)
 | []=>some ([],[])
 | p::ps=>
  match f p,Zrj f ps with
  | some (q,p'),some (qs,ps')=>some (q++qs,p'::ps')
  | _,_=>none
def Zzi(f:PV->Option (List Prop×PV)):List (Nat×PV)->Option (List Prop×List (Nat×PV))
 | []=>some ([],[])
 | (i,p)::r=>
  match f p,Zzi f r with
  | some (q,p'),some (qs,r')=>some (q++qs,(i,p')::r')
  | _,_=>none
def Z7t(l:Nat)(B':Blk)(f:PV->Option (List Prop×PV)):List (Nat×Blk)->Option (List Prop×List (Nat×Blk))
 | []=>some ([],[])
 | (m,b)::r=>
  match Z7t l B' f r with
  | none=>none
  | some (qs,r')=>
   bif Nat.beq m l then some (qs,(m,B')::r') else
   match b with
   | .box cs=>match Zrj f cs with | some (q,cs')=>bif cs'.all PV.one then some (q++qs,(m,.box cs')::r') else none | none=>none
   | b=>bif b.has l then none else some (qs,(m,b)::r')
theorem Zau9{f:PV->Option (List Prop×PV)}{c c':Ctx}(hf:∀ p qs p',f p=some (qs,p')->Zak qs->∀ v,VR c p v->VR c' p' v):∀ {ps:List PV} {qs:List Prop} {ps':List PV},Zrj f ps=some (qs,ps')->Zak qs->ps'.length=ps.length/\∀ vs,VRs c ps vs->VRs c' ps' vs
 | [],qs,ps',h,_=>by simp only [Zrj,Option.some.injEq,Prod.mk.injEq] at h;obtain⟨_,rfl⟩:=h;exact⟨rfl,fun vs h=>h⟩
 | p::ps,qs,ps',h,hc=>by
  simp only [Zrj] at h
  split at h
  .rename_i q p' qs' ps2 h1 h2
   cases h
   obtain⟨c1,c2⟩:=Zx.1 hc
   obtain⟨g1,g2⟩:=Zau9 hf h2 c2
   refine⟨by simp [g1],fun vs hv=>?_⟩
   simp only [VRs] at hv ⊢
   obtain⟨v,rest,rfl,hv,hr⟩:=hv
   exact⟨v,rest,rfl,hf p q p' h1 c1 v hv,g2 rest hr⟩
  .cases h
theorem Zava{f:PV->Option (List Prop×PV)}:∀ {tm tm':List (Nat×PV)} {qs:List Prop},Zzi f tm=some (qs,tm')->Zak qs->∀ i q,get tm' i=some q->∃ p r,get tm i=some p/\f p=some (r,q)/\Zak r
 | [],tm',qs,h,_,i,q,hq=>by simp only [Zzi,Option.some.injEq,Prod.mk.injEq] at h;obtain⟨_,rfl⟩:=h;cases hq
 | (j,p)::r,tm',qs,h,hc,i,q,hq=>by
  simp only [Zzi] at h
  split at h
  .rename_i q1 p' qs' r' h1 h2
   cases h
   obtain⟨c1,c2⟩:=Zx.1 hc
   simp only [PW.get] at hq ⊢
   cases hb:Nat.beq j i with
   | true=>simp only [hb,cond_true,Option.some.injEq] at hq ⊢;subst hq;exact⟨p,q1,rfl,h1,c1⟩
   | false=>simp only [hb,cond_false] at hq ⊢;exact Zava h2 c2 i q hq
  .cases h
theorem Zaq2{f:PV->Option (List Prop×PV)}:∀ {ps:List PV} {qs:List Prop} {ps':List PV},Zrj f ps=some (qs,ps')->ps'.length=ps.length
 | [],qs,ps',h=>by simp only [Zrj,Option.some.injEq,Prod.mk.injEq] at h;obtain⟨_,rfl⟩:=h;rfl
 | p::ps,qs,ps',h=>by
  simp only [Zrj] at h
  split at h
  .rename_i q p' qs' ps2 h1 h2
   cases h
   simp [Zaq2 h2]
  .cases h
theorem Zaon{l:Nat}{B':Blk}{f:PV->Option (List Prop×PV)}:∀ {Z Z':List (Nat×Blk)} {qs:List Prop},Z7t l B' f Z=some (qs,Z')->Zak qs ->
 (∀ m o',m≠l->get Z' m=some o'->∃ o,get Z m=some o/\((o'=o/\o.has l=false)\/∃ cs cs',o = .box cs/\o' = .box cs'/\cs'.length=cs.length/\cs'.all PV.one=true/\∃ q,Zrj f cs=some (q,cs')/\Zak q)) /\
 ((∃ o,get Z l=some o)->get Z' l=some B')
 | [],Z',qs,h,_=>by
  simp only [Z7t,Option.some.injEq,Prod.mk.injEq] at h
  obtain⟨_,rfl⟩:=h
  exact⟨fun m o' _ h=>(by cases h),fun⟨o,h⟩=>(by cases h)⟩
 | (j,b)::r,Z',qs,h,hc=>by
  simp only [Z7t] at h
  split at h
  .cases h
  .rename_i qs' r' h1
   cases hb:Nat.beq j l with
   | true=>
    simp only [hb,cond_true,Option.some.injEq,Prod.mk.injEq] at h
    obtain⟨rfl,rfl⟩:=h
    obtain⟨g1,_⟩:=Zaon h1 hc
    have hjl:j=l:=(Z1 _ _).1 hb
    subst hjl
    refine⟨fun m o' hm ho=>?_,fun _=>by simp [PW.get]⟩
    simp only [PW.get,Zgf (Ne.symm hm),cond_false] at ho ⊢
    exact g1 m o' hm ho
   | false=>
    simp only [hb,cond_false] at h
    have hjl:j≠l:=fun e=>by subst e;simp at hb
    have key:∀ (b':Blk) (q:List Prop),Z'=(j,b')::r'->(Zak qs')->((b'=b/\b.has l=false)\/∃ cs cs',b = .box cs/\b' = .box cs'/\cs'.length=cs.length/\cs'.all PV.one=true/\∃ q,Zrj f cs=some (q,cs')/\Zak q) ->
     (∀ m o',m≠l->get Z' m=some o'->∃ o,get ((j,b)::r) m=some o/\((o'=o/\o.has l=false)\/∃ cs cs',o = .box cs/\o' = .box cs'/\cs'.length=cs.length/\cs'.all PV.one=true/\∃ q,Zrj f cs=some (q,cs')/\Zak q)) /\
     ((∃ o,get ((j,b)::r) l=some o)->get Z' l=some B'):=by
     intro b' q hσ hcq hbb
     subst hσ
     obtain⟨g1,g2⟩:=Zaon h1 hcq
     refine⟨fun m o' hm ho=>?_,fun ho=>?_⟩
     .simp only [PW.get] at ho ⊢
      cases hm2:Nat.beq j m with
      | true=>simp only [hm2,cond_true,Option.some.injEq] at ho ⊢;subst ho;exact⟨b,rfl,hbb⟩
      | false=>simp only [hm2,cond_false] at ho ⊢;exact g1 m o' hm ho
     .simp only [PW.get,Zgf hjl,cond_false] at ho ⊢
      exact g2 ho
    split at h
    .rename_i cs
     split at h
     .rename_i q cs' h2
      cases ho:cs'.all PV.one with
      | false=>simp [ho] at h
      | true=>
       simp only [ho,cond_true,Option.some.injEq,Prod.mk.injEq] at h
       obtain⟨rfl,rfl⟩:=h
       obtain⟨c1,c2⟩:=Zx.1 hc
       exact key _ q rfl c2 (.inr ⟨cs,cs',rfl,rfl,Zaq2 h2,ho,q,h2,c1⟩)
     .cases h
    .cases hh:b.has l with
     | true=>simp [hh] at h
     | false=>
      simp only [hh,cond_false,Option.some.injEq,Prod.mk.injEq] at h
      obtain⟨rfl,rfl⟩:=h
      exact key b [] rfl hc (.inl ⟨rfl,hh⟩)
section
variable {G:Frm} {β:Nat->Option Nat} {w:World} {Z Z':List (Nat×Blk)} {l i k:Nat} {es:List (List Zf)}
theorem Zavb{n:Nat}{tm tm':List (Nat×PV)}{a:Act}{f:PV->Option (List Prop×PV)}{B B':Blk}{qs rs:List Prop}(h:Zan G β ⟨n,tm,Z⟩ a w)(hl:1000<=l)(hg:get Z l=some B)(hfl:B'.flat)
 (htm:Zzi f tm=some (qs,tm')) (hσ:Z7t l B' f Z=some (rs,Z')) (cq:Zak qs) (cr:Zak rs)
 (hf:(∀ b,(ctx G β w Z).I b->(ctx G β w Z').I b/\(ctx G β w Z').w.heap[b]?=(ctx G β w Z).w.heap[b]?)->(∀ m,m≠l->Zal (ctx G β w Z) (ctx G β w Z') m)->get Z' l=some B'->∀ p qs p',f p=some (qs,p')->Zak qs->∀ v,VR (ctx G β w Z) p v->VR (ctx G β w Z') p' v)
 (hbr:(∀ b,(ctx G β w Z).I b->(ctx G β w Z').I b/\(ctx G β w Z').w.heap[b]?=(ctx G β w Z).w.heap[b]?)->(∀ m,m≠l->Zal (ctx G β w Z) (ctx G β w Z') m)->BR (ctx G β w Z) l B->BR (ctx G β w Z') l B'):Zan G β ⟨n,tm',Z'⟩ a w:=by
 obtain⟨g1,g2⟩:=Zaon hσ cr
 have hg':=g2 ⟨_,hg⟩
 refine Zbd9 h hl hg hg' hfl (Tn:=fun cs cs'=>∃ q,Zrj f cs=some (q,cs')/\Zak q) g1 (fun hI hL cs cs' ⟨q,h1,h2⟩ vs hv=>(Zau9 (hf hI hL hg') h1 h2).2 vs hv) hbr (fun hI hL j q hq=>?_)
 obtain⟨p,r,h1,h2,h3⟩:=Zava htm cq j q hq
 exact⟨p,h1,fun v hv=>hf hI hL hg' p r q h2 h3 v hv⟩
theorem Za20{p p':PV}{qs:List Prop}(hI:∀ b,(ctx G β w Z).I b->(ctx G β w Z').I b/\(ctx G β w Z').w.heap[b]?=(ctx G β w Z).w.heap[b]?)(hL:∀ m,m≠l->Zal (ctx G β w Z) (ctx G β w Z') m)
 (h:(bif p.has l then none else some (([]:List Prop),p))=some (qs,p')) (v:Value) (hv:VR (ctx G β w Z) p v):VR (ctx G β w Z') p' v:=by
 cases hh:p.has l with
 | true=>simp [hh] at h
 | false=>
  simp only [hh,cond_false,Option.some.injEq,Prod.mk.injEq] at h
  obtain⟨_,rfl⟩:=h
  exact VR.step hI p v (fun m hm=>hL m (fun e=>by subst e;rw [hh] at hm;cases hm)) hv
theorem Wk.opn{n:Nat}{tm tm':List (Nat×PV)}{e:List Zf}{qs rs:List Prop}(hl:1000<=l)(hg:get Z l=some (.row k es))(he:es[i]?=some e)(htm:Zzi (opnV l i) tm=some (qs,tm'))(hσ:Z7t l (.prow k i es (e.map .t)) (opnV l i) Z=some (rs,Z'))(cq:Zak qs)(cr:Zak rs) :
 Wk ⟨n,tm,Z⟩ ⟨n,tm',Z'⟩:=by
 rintro G a w ⟨β,h⟩
 have hi:i < es.length:=(List.getElem?_eq_some_iff.1 he).1
 obtain⟨hk0,hkl,hb⟩:=h.blk l _ hg
 rcases hb with ⟨_,hb⟩ | ⟨b,m,hb,hrow,hsz,hel⟩
 .subst hb;simp at hi
 refine⟨β,Zavb h hl hg (by trivial) htm hσ cq cr (fun hI hL hg' p qs p' hp hq v hv=>?_) (fun hI hL _=>?_)⟩
 .cases p
  case osl m0 n0=>
   simp only [opnV] at hp
   cases hb2:Nat.beq m0 l with
   | false=>
    simp only [hb2,cond_false,Option.some.injEq,Prod.mk.injEq] at hp
    obtain⟨_,rfl⟩:=hp
    exact VR.step hI _ v (fun q hq2=>hL q (fun e2=>by subst e2;simp only [PV.has] at hq2;rw [hq2] at hb2;cases hb2)) hv
   | true=>
    simp only [hb2,cond_true,Option.some.injEq,Prod.mk.injEq] at hp
    obtain⟨_,rfl⟩:=hp
    have:=(Z1 _ _).1 hb2
    subst this
    simp only [VR] at hv ⊢
    obtain⟨ho,a0,m1,cap1,rfl⟩:=hv
    refine⟨fun k' i' es' cs' hes'=>?_,rfl⟩
    have:some (Blk.prow k' i' es' cs')=some (.prow k i es (e.map .t)):=Eq.trans (Eq.symm hes') hg'
    cases this
    obtain⟨g1,g2⟩:=ho k es hg
    refine⟨g1,fun hn=>?_⟩
    obtain⟨a2,cap,hv2,hc1,hc2,h3⟩:=g2 hn
    rcases h3 with ⟨h3,_⟩ | ⟨b2,m2,h3,h4,h5,h6⟩
    .omega
    .exact⟨b2,m2,cap,by rw [hv2,h3],hc1,hc2,h4,h5,h6⟩
  case rptr m0 n0 j off=>
   simp only [opnV] at hp
   cases hb2:Nat.beq m0 l with
   | false=>
    simp only [hb2,cond_false,Option.some.injEq,Prod.mk.injEq] at hp
    obtain⟨_,rfl⟩:=hp
    exact VR.step hI _ v (fun q hq2=>hL q (fun e2=>by subst e2;simp only [PV.has] at hq2;rw [hq2] at hb2;cases hb2)) hv
   | true=>
    simp only [hb2,cond_true,Option.some.injEq,Prod.mk.injEq] at hp
    obtain⟨rfl,rfl⟩:=hp
    have:=(Z1 _ _).1 hb2
    subst this
    obtain⟨rfl,_⟩:=hq
    simp only [VR] at hv ⊢
    obtain⟨ho,a0,rfl⟩:=hv
    refine⟨fun k' i' es' cs' hes'=>?_,rfl⟩
    have:some (Blk.prow k' i' es' cs')=some (.prow k j es (e.map .t)):=Eq.trans (Eq.symm hes') hg'
    cases this
    obtain⟨g1,g2⟩:=ho k es hg
    exact⟨g1,fun hn=>g2 hn⟩
  all_goals (simp only [opnV] at hp;exact Za20 hI hL hp v hv)
 .have hflat:=Zr.flat.1 hel
  obtain⟨vs,hvs,hcs⟩:=Zw.vals (c:=ctx G β w Z) hflat
  refine⟨hk0,hkl,hi,by rw [List.length_map];exact hkl e (List.mem_of_getElem? he),by rw [List.all_map];exact List.all_eq_true.2 fun _ _=>rfl,b,m,vs,hb,hrow,hsz,fun j v hj=>by have:=hcs j v hj;rwa [Nat.zero_add] at this,?_⟩
  have hsplit:es.flatten.map PV.t=Zf1 i es (e.map .t):=by
   have h1:es=es.take i++e::es.drop (i+1):=by
    have h2:=List.getElem_cons_drop hi
    have h3:es[i]=e:=by rw [List.getElem?_eq_getElem hi] at he;exact Option.some.inj he
    rw [h3] at h2
    rw [h2,List.take_append_drop]
   unfold Zf1
   conv=>lhs;rw [h1]
   rw [List.flatten_append,List.flatten_cons,List.map_append,List.map_append]
  rw [<- hsplit]
  exact VRs.step hI _ _ (fun q hq=>by rw [Zh3] at hq;cases hq) hvs
theorem Wk.cls{n:Nat}{tm tm':List (Nat×PV)}{cs:List PV}{ts:List Zf}{es':List (List Zf)}{qs rs:List Prop}(hl:1000<=l)(hg:get Z l=some (.prow k i es cs))(ht:Znx cs=some ts)(he:es.set i ts=es')(htm:Zzi (clsV l i es.length) tm=some (qs,tm'))(hσ:Z7t l (.row k es') (clsV l i es.length) Z=some (rs,Z'))(cq:Zak qs)(cr:Zak rs) :
 Wk ⟨n,tm,Z⟩ ⟨n,tm',Z'⟩:=by
 rintro G a w ⟨β,h⟩
 obtain⟨hk0,hkl,hi,hcl,hone,b,m,vs,hb,hrow,hsz,hcs,hvs⟩:=h.blk l _ hg
 have hlen:es'.length=es.length:=by rw [<- he,List.length_set]
 have hcs':=Zpp ht
 subst hcs'
 refine⟨β,Zavb h hl hg (by trivial) htm hσ cq cr (fun hI hL hg' p qs p' hp hq v hv=>?_) (fun hI hL _=>?_)⟩
 .cases p
  case own m0 d=>
   cases d
   case pw n0=>
    simp only [clsV] at hp
    cases hb2:Nat.beq m0 l with
    | false=>
     simp only [hb2,cond_false,Option.some.injEq,Prod.mk.injEq] at hp
     obtain⟨_,rfl⟩:=hp
     exact VR.step hI _ v (fun q hq2=>hL q (fun e2=>by subst e2;simp only [PV.has] at hq2;rw [hq2] at hb2;cases hb2)) hv
    | true=>
     simp only [hb2,cond_true,Option.some.injEq,Prod.mk.injEq] at hp
     obtain⟨rfl,rfl⟩:=hp
     obtain⟨hq,_⟩:=hq
     have:=(Z1 _ _).1 hb2
     subst this
     simp only [VR] at hv ⊢
     obtain⟨ho,h1⟩:=hv
     obtain⟨g1,g2⟩:=ho k i es _ hg
     obtain⟨b2,m2,cap,hv2,hc1,hc2,h4,h5,h6⟩:=g2 hq
     refine⟨fun k' es2 hes2=>?_,_,_,_,hv2⟩
     have:some (Blk.row k' es2)=some (.row k es'):=Eq.trans (Eq.symm hes2) hg'
     cases this
     exact⟨by omega,fun _=>⟨_,cap,hv2,hc1,hc2,.inr ⟨b2,m2,rfl,h4,h5,h6⟩⟩⟩
   case pp n0 off=>
    simp only [clsV] at hp
    cases hb2:Nat.beq m0 l with
    | false=>
     simp only [hb2,cond_false,Option.some.injEq,Prod.mk.injEq] at hp
     obtain⟨_,rfl⟩:=hp
     exact VR.step hI _ v (fun q hq2=>hL q (fun e2=>by subst e2;simp only [PV.has] at hq2;rw [hq2] at hb2;cases hb2)) hv
    | true=>
     simp only [hb2,cond_true,Option.some.injEq,Prod.mk.injEq] at hp
     obtain⟨rfl,rfl⟩:=hp
     obtain⟨hq,_⟩:=hq
     have:=(Z1 _ _).1 hb2
     subst this
     simp only [VR] at hv ⊢
     obtain⟨ho,h1⟩:=hv
     obtain⟨g1,g2⟩:=ho k i es _ hg
     obtain⟨b2,h4,hv2⟩:=g2 hq
     refine⟨fun k' es2 hes2=>?_,_,hv2⟩
     have:some (Blk.row k' es2)=some (.row k es'):=Eq.trans (Eq.symm hes2) hg'
     cases this
     exact⟨by omega,fun _=>⟨b2,h4,hv2⟩⟩
   all_goals (simp only [clsV] at hp;exact Za20 hI hL hp v hv)
  all_goals (simp only [clsV] at hp;exact Za20 hI hL hp v hv)
 .refine⟨hk0,fun el hel=>?_,.inr ⟨b,m,hb,hrow,by rw [hlen];exact hsz,Zr.flat.2 ?_⟩⟩
  .rw [<- he] at hel
   rcases List.mem_or_eq_of_mem_set hel with h1 | h1
   .exact hkl el h1
   .subst h1;rw [List.length_map] at hcl;exact hcl
  .have hsplit:es'.flatten.map PV.t=Zf1 i es (ts.map .t):=by
    rw [<- he]
    unfold Zf1
    rw [List.set_eq_take_append_cons_drop,if_pos hi,List.flatten_append,List.flatten_cons,List.map_append,List.map_append]
   rw [<- hsplit] at hvs
   exact Zdx (c:=ctx G β w Z') (VRs.step hI _ _ (fun q hq=>by rw [Zh3] at hq;cases hq) hvs) (fun j v hj=>by rw [Nat.zero_add];exact hcs j v hj)
end
end Go.PW
