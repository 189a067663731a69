import Derived.Test.YtchddhcajpagjaaGreatPwLo
set_option linter.all false
namespace Go.PW
open Go.RowKit
mutual
def PV.mo(l:Nat):PV->Bool
 | .t _=>true
 | .nils=>true
 | .osl m _ => !Nat.beq m l
 | .bptr m _ => !Nat.beq m l
 | .rptr m _ _ _ => !Nat.beq m l
 | .vptr _=>true
 | .agg cs=>PV.moAll l cs
 | .tup cs=>PV.moAll l cs
 | .fn _ cs=>PV.moAll l cs
 | .own _ (.msl _)=>true
 | .own m _ => !Nat.beq m l
def PV.moAll(l:Nat):List PV->Bool
 | []=>true
 | p::ps=>p.mo l&&PV.moAll l ps
end
def Blk.mo(l:Nat):Blk->Bool
 | .box cs=>PV.moAll l cs
 | .prow _ _ _ _=>false
 | _=>true
def Z2g(l:Nat):List (Nat×PV)->List (Nat×PV)
 | []=>[]
 | (i,p)::r=>bif p.mo l then (i,p)::Z2g l r else Z2g l r
theorem Z2h{l:Nat}:∀ {tm:List (Nat×PV)} {i:Nat} {p:PV},(i,p)∈Z2g l tm->(i,p)∈tm/\p.mo l=true
 | [],_,_,h=>by cases h
 | (j,q)::r,i,p,h=>by
  simp only [Z2g] at h
  cases hb:q.mo l with
  | false=>simp only [hb,cond_false] at h;have:=Z2h h;exact⟨List.mem_cons_of_mem _ this.1,this.2⟩
  | true=>
   simp only [hb,cond_true] at h
   rcases List.mem_cons.1 h with h | h
   .cases h;exact⟨by simp,hb⟩
   .have:=Z2h h;exact⟨List.mem_cons_of_mem _ this.1,this.2⟩
section
variable {c c':Ctx} {l:Nat}
theorem Z50{m l:Nat}(h:(!Nat.beq m l)=true):m≠l:=fun e=>by subst e;simp at h
mutual
theorem VR.stepM(hI:∀ b,c.I b->c'.I b/\c'.w.heap[b]?=c.w.heap[b]?)(hL:∀ m,m≠l->Zal c c' m)(hM:∀ n v,ODR c l v (.msl n)->ODR c' l v (.msl n)):∀ (p:PV) (v:Value),p.mo l=true->VR c p v->VR c' p v
 | .t x,v,_,h=>VR.step hI (.t x) v (fun _ h=>by simp [PV.has] at h) h
 | .nils,v,_,h=>h
 | .osl m n,v,hm,h=>VR.step hI (.osl m n) v (fun q hq=>hL q (by rw [<- (Z1 _ _).1 hq];exact Z50 hm)) h
 | .bptr m n,v,hm,h=>VR.step hI (.bptr m n) v (fun q hq=>hL q (by rw [<- (Z1 _ _).1 hq];exact Z50 hm)) h
 | .rptr m n i o,v,hm,h=>VR.step hI (.rptr m n i o) v (fun q hq=>hL q (by rw [<- (Z1 _ _).1 hq];exact Z50 hm)) h
 | .vptr cs,v,_,h=>VR.step hI (.vptr cs) v (fun _ h=>by simp [PV.has] at h) h
 | .agg cs,v,hm,h=>by
  simp only [VR] at h ⊢
  obtain⟨vs,hv,hs⟩:=h
  exact⟨vs,hv,VRs.stepM hI hL hM cs vs hm hs⟩
 | .tup cs,v,hm,h=>by
  simp only [VR] at h ⊢
  obtain⟨vs,hv,hs⟩:=h
  exact⟨vs,hv,VRs.stepM hI hL hM cs vs hm hs⟩
 | .fn f cs,v,hm,h=>by
  simp only [VR] at h ⊢
  obtain⟨vs,hv,hs⟩:=h
  exact⟨vs,hv,VRs.stepM hI hL hM cs vs hm hs⟩
 | .own m d,v,hm,h=>by
  by_cases e:m=l
  .subst e
   cases d with
   | msl n=>simp only [VR] at h ⊢;exact⟨hM n v h.1,h.2⟩
   | _=>exact absurd rfl (Z50 hm)
  .exact VR.step hI (.own m d) v (fun q hq=>hL q (by rw [<- (Z1 _ _).1 hq];exact e)) h
theorem VRs.stepM(hI:∀ b,c.I b->c'.I b/\c'.w.heap[b]?=c.w.heap[b]?)(hL:∀ m,m≠l->Zal c c' m)(hM:∀ n v,ODR c l v (.msl n)->ODR c' l v (.msl n)):∀ (ps:List PV) (vs:List Value),PV.moAll l ps=true->VRs c ps vs->VRs c' ps vs
 | [],_,_,h=>h
 | p::ps,vs,hm,h=>by
  simp only [PV.moAll,Bool.and_eq_true] at hm
  simp only [VRs] at h ⊢
  obtain⟨v,rest,rfl,hv,hr⟩:=h
  exact⟨v,rest,rfl,VR.stepM hI hL hM p v hm.1 hv,VRs.stepM hI hL hM ps rest hm.2 hr⟩
end
theorem BR.stepM(hI:∀ b,c.I b->c'.I b/\c'.w.heap[b]?=c.w.heap[b]?)(hL:∀ m,m≠l->Zal c c' m)(hM:∀ n v,ODR c l v (.msl n)->ODR c' l v (.msl n)){q:Nat}{o:Blk}(hβ:c'.β q=c.β q)(hh:∀ b,Zae c.β c.w q o b->c'.w.heap[b]?=c.w.heap[b]?)
 (hm:o.mo l=true) (h:BR c q o):BR c' q o:=by
 cases o with
 | box ps=>
  obtain⟨b,vs,h1,h2,h3,h4,h5⟩:=h
  have hb:=hh b (.inl h1)
  exact⟨b,vs,hβ.trans h1,h2.of_heap hb,fun j v hj=>(World.cell?_of_block (w:=c.w) hb).trans (h3 j v hj),VRs.stepM hI hL hM ps vs hm h4,h5⟩
 | row k es=>exact BR.step hI hβ hh (fun _ h=>by simp [Blk.has] at h) h
 | mat k q es=>exact BR.step hI hβ hh (fun _ h=>by simp [Blk.has] at h) h
 | map ag es=>exact BR.step hI hβ hh (fun _ h=>by simp [Blk.has] at h) h
 | prow k i es cs=>cases hm
end
section
variable {P:Program} {o:Oper} {ρ:List (Nat×PV)} {Z:List (Nat×Blk)}
theorem Za6i{t:TypeId}{x:Operand}{e:TypeId}{l m k q:Nat}{es:List (List Zf)}(ho:o.op = .call { callee := .builtin .len,args := #[x],argTypes := #[t] })(hT:P.underlying t=some (.slice e))
 (hx:Zp ρ x=some (.own l (.msl m))) (hg:get Z l=some (.mat k q es)) (hm:es.length=m):Zas P o ρ Z [l] (.t (.int .i64 m)) []:=
 Zbp fun G β n tm Z' A w hop hneed _=>by
  have h1:=hop x _ (by simp [ho,Op.operands,Call.operands]) hx
  simp only [VR] at h1
  obtain⟨a,cap,hv,_⟩:=(h1.1 k q es (by rw [<- hg];exact hneed l (by simp))).2 hm.symm
  exact⟨.int .i64 m,by simp [execOp,ho,resolve,invoke,builtin,Builtin.len_,hv,run_underlying hT,goInt],by simp [VR,Z0]⟩
end
section
variable {P:Program} {o:Oper} {ρ:List (Nat×PV)} {Z:List (Nat×Blk)}
theorem Za2z{t:TypeId}{x:Operand}{l m j i:Nat}{es inner:List (List Zf)}{z:Zf}(ho:o.op = .load t x)(hT:TyF P t false 1)(hx:Zp ρ x=some (.own l (.mel m j i)))(hg:get Z l=some (.mat 1 0 es))(hm:es.length=m)(he:es[j]?=some [.sl inner])(hi:inner[i]?=some [z])(hz:z.scal=true):Zas P o ρ Z [l] (.t z) []:=
 Zbp fun G β n tm Z' A w hop hneed hr=>by
  have e1:=hop x _ (by simp [ho,Op.operands]) hx
  simp only [VR] at e1 ⊢
  have hgl:get Z' l=some (.mat 1 0 es):=(hneed l (by simp)).trans hg
  obtain⟨b,d,len,cap,hb,hcell,hv⟩:=(e1.1.2 1 0 es hgl).2 hm.symm
  rw [Nat.mul_one,Nat.add_zero] at hcell
  rcases Ze4.of (hr.blk l _ hgl) with ⟨hb',_⟩ | ⟨b',sz,vs,hb',hrow,hsz,hmat⟩
  .exact absurd (hb'.symm.trans hb) (by simp)
  have:b'=b:=by have:=hb'.symm.trans hb;simpa using this
  subst this
  have hjl:j < es.length:=(List.getElem?_eq_some_iff.1 he).1
  have hvj:vs[j]?=some (vs[j]'(by rw [hmat.len];exact hjl)):=List.getElem?_eq_getElem _
  obtain⟨inner',a,cap',g1,g2,g3,g4,g5,g6⟩:=hmat.inn j _ _ he hvj
  have hc:=hmat.cell j _ hvj
  cases g1
  have hc:w.cell? ⟨b',j,none⟩=_:=hc
  have hcell:w.cell? ⟨b',j,none⟩=_:=hcell
  rw [g2,hcell] at hc
  have hil:=(List.getElem?_eq_some_iff.1 hi).1
  rcases g6 with g6 | ⟨d',sz',k1,k2,k3,k4,k5⟩
  .subst g6;simp at hil
  rw [k1] at hc
  cases hc
  have hk:∀ el,el∈inner->el.length=1:=fun el hel=>by obtain⟨t,rfl,_⟩:=g5 el hel;rfl
  have h5:=k5.get i _ hk hi
  simp only [Zw,and_true,Nat.zero_add,Nat.mul_one] at h5
  obtain⟨c,h6,h7⟩:=h5
  have h6:w.cell? ⟨d,i,none⟩=some c:=h6
  refine⟨c,?_,Z0.scal hz h7⟩
  have hrun:(Instr.loadAt t (.pointer (some ⟨d,i,none⟩))).run P w = .ok c w:=by
   simp [Instr.loadAt,Instr.sureAddr,loadVar,hT.run_isAgg w,h6]
  simp only [execOp,ho,hv,Sem.run_bind,hrun,Result.andThen_ok,Sem.run_pure]
end
section
variable {P:Program} {o:Oper} {n:Nat} {tm:List (Nat×PV)} {Z:List (Nat×Blk)}
theorem Zaz2{t:TypeId}{x y:Operand}{l m j l2 n2:Nat}{es es2:List (List Zf)}(ho:o.op = .store t x y)(hd:o.dst=none)(hT:TyF P t false 1)(hx:Zp tm x=some (.own l (.mpt m j 0)))(hy:Zp tm y=some (.osl l2 n2))
 (hg:get Z l=some (.mat 1 0 es)) (hm:es.length=m) (hj:j < m) (hg2:get Z l2=some (.row 1 es2)) (hm2:es2.length=n2) (hsc:SC1 es2) (hll:l≠l2) (hσ:(Z.all fun q=>q.2.mo l)=true) (hon:Zzh tm=true) :
 Zxt P o ⟨n,tm,Z⟩ ⟨n,Z2g l tm,(l,.mat 1 0 (es.set j [.sl es2]))::Zbo [l,l2] Z⟩:=
 opup fun G β A w hop hr=>by
  have e1:=hop x _ hx
  have e2:=hop y _ hy
  have e2v:=e2
  simp only [VR] at e1 e2
  obtain⟨b,hb,hv⟩:=(e1.1 1 0 es hg).2 hm.symm
  rw [Nat.mul_one,Nat.add_zero] at hv
  obtain⟨ad,cap,hv2,hic,hcm,hin⟩:=Zaq0 hr hg2 hm2 e2.1 hsc
  rcases Ze4.of (hr.blk l _ hg) with ⟨hb',_⟩ | ⟨b',sz,vs,hb',hrow,hsz,hmat⟩
  .exact absurd (hb'.symm.trans hb) (by simp)
  have:b'=b:=by have:=hb'.symm.trans hb;simpa using this
  subst this
  have hmat:Ze4 w b' es vs:=hmat
  have hb:β l=some b':=hb
  have hjl:j < es.length:=by omega
  have hjv:j < vs.length:=by rw [hmat.len];exact hjl
  have hstore:=Zi7 (P:=P) (c:=ctx G β w Z) hT w e2v (by simp [Z7]) (by simp [Z7,PV.one]) hrow (q:=j) O
  have hcv:(A.eval y).cells.toList=[A.eval y]:=by rw [hv2];rfl
  rw [hcv] at hstore
  have hoth:∀ d2,d2≠b'->(w.setCells b' j [A.eval y]).heap[d2]?=w.heap[d2]?:=fun d2 h=>Za3 b' [A.eval y] j w d2 h
  have hOd2:∀ d,β l2=some d->d≠b':=fun d h e=>by subst e;exact hll (hr.inj l l2 _ _ d hg hg2 (.inl hb) (.inl h))
  have hmatN:Ze4 (w.setCells b' j [A.eval y]) b' (es.set j [.sl es2]) (vs.set j (A.eval y)):=by
   refine⟨by simpa using hmat.len,fun q v hq=>?_,fun q e v he hq=>?_,fun i k d l1 l1' c c' h1 h2 hl1 hl2=>?_⟩
   .by_cases hqj:q=j
    .subst hqj
     rw [List.getElem?_set_self hjv] at hq
     cases hq
     have:=World.cell?_setCells_in b' [A.eval y] q w (fun k hk=>by
      have hk0:k=0:=by simpa using hk
      rw [hk0,Nat.add_zero,hmat.cell q _ (List.getElem?_eq_getElem hjv)];rfl) 0 (by simp)
     simpa using this
    .rw [List.getElem?_set_ne (fun e=>hqj e.symm)] at hq
     rw [World.cell?_setCells_out b' [A.eval y] j w ⟨b',q,none⟩ (fun _ _=>by simp;omega)]
     exact hmat.cell q v hq
   .by_cases hqj:q=j
    .subst hqj
     rw [List.getElem?_set_self hjv] at hq
     rw [List.getElem?_set_self hjl] at he
     cases he;cases hq
     refine⟨es2,ad,cap,rfl,hv2,hic,hcm,hsc,hin.imp id fun⟨d,s2,g1,g2,g3,g4,g5⟩=>?_⟩
     have hne:=hOd2 d g2
     exact⟨d,s2,g1,hne,g3.of_heap (hoth d hne),g4,Zr.mono' (hoth d hne) hsc g5⟩
    .rw [List.getElem?_set_ne (fun e=>hqj e.symm)] at he hq
     obtain⟨inn,a2,cap2,f1,f2,f3,f4,f5,f6⟩:=hmat.inn q e v he hq
     refine⟨inn,a2,cap2,f1,f2,f3,f4,f5,f6.imp id fun⟨d2,s2,m1,m2,m3,m4,m5⟩=>?_⟩
     exact⟨d2,s2,m1,m2,m3.of_heap (hoth d2 m2),m4,Zr.mono' (hoth d2 m2) f5 m5⟩
   .have hne:∀ (q d l1 c:Nat),(vs.set j (A.eval y))[q]?=some (Value.slice (some ⟨d,0,none⟩) l1 c)->l1≠0->q≠j->Zae β w l (.mat 1 0 es) d:=fun q d l1 c h hl hq=>by
     rw [List.getElem?_set_ne (fun e=>hq e.symm)] at h
     exact .inr ⟨1,0,es,b',rfl,hb,hmat.subs.2 ⟨q,l1,c,h,hl⟩⟩
    have hj1:∀ (d l1 c:Nat),(vs.set j (A.eval y))[j]?=some (Value.slice (some ⟨d,0,none⟩) l1 c)->l1≠0->β l2=some d:=fun d l1 c h hl=>by
     rw [List.getElem?_set_self hjv,hv2] at h
     simp only [Option.some.injEq,Value.slice.injEq] at h
     rcases hin with hin | ⟨d',s2,g1,g2,_⟩
     .subst hin;exact absurd h.2.1.symm hl
     .rw [g1] at h;have h1:=h.1;simp only [Option.some.injEq,Addr.mk.injEq] at h1;rw [<- h1.1];exact g2
    by_cases hi:i=j
    .by_cases hk:k=j
     .rw [hi,hk]
     .subst hi
      exact absurd (hr.inj l l2 _ _ d hg hg2 (hne k d l1' c' h2 hl2 hk) (.inl (hj1 d l1 c h1 hl1))) hll
    .by_cases hk:k=j
     .subst hk
      exact absurd (hr.inj l l2 _ _ d hg hg2 (hne i d l1 c h1 hl1 hi) (.inl (hj1 d l1' c' h2 hl2))) hll
     .rw [List.getElem?_set_ne (fun e=>hi e.symm)] at h1
      rw [List.getElem?_set_ne (fun e=>hk e.symm)] at h2
      exact hmat.dis i k d l1 l1' c c' h1 h2 hl1 hl2
  have hr0:Zan G β ⟨n,Z2g l tm,Z⟩ A w:=
   { defers:=hr.defers,sz:=hr.sz,base:=hr.base,os:=hr.os,tape:=hr.tape,output:=hr.output,old:=hr.old,A:=hr.A,gl:=hr.gl,inj:=hr.inj,sep:=hr.sep,fix:=hr.fix,row0:=hr.row0,blk:=hr.blk,
     tm:=fun i p hp=>hr.tm i p (Zs3 hon (Z2h (Zff hp)).1) }
  have hmo:∀ i p,get (Z2g l tm) i=some p->p.mo l=true:=fun i p hp=>(Z2h (Zff hp)).2
  have habs:=Zakj hr0 (w.setCells b' j [A.eval y]) (some b') l (.mat 1 0 (es.set j [.sl es2])) [l,l2] (by rw [Zck];exact Nat.le_refl _) (Za5 b' _ j w).1 (Za5 b' _ j w).2.1 (Za5 b' _ j w).2.2 (by simp)
   (fun b2 _ hn=>hoth b2 (fun e=>hn l _ (by simp) hg (by rw [e];exact .inl hb))) (fun c hc => .inr ?_) (fun hI hL=>?_) (fun _=>hmatN.br (Zau _ _ _) (Za8 b' [A.eval y] j w hrow) (by simpa using hsz))
  .refine⟨undef,w.setCells b' j [A.eval y],.inr ⟨?_,rfl⟩,Zeg β l (some b'),?_⟩
   .simp only [execOp,ho,hv,Sem.run_bind,hstore,Result.andThen_ok,Sem.run_pure]
   .rw [hd];exact habs
  .rcases hc with hc | ⟨k,q,es',b0,f1,f2,f3⟩
   .rw [Zau] at hc;cases hc
    exact⟨l,_,by simp,hg,.inl hb⟩
   .cases f1
    rw [Zau] at f2;cases f2
    obtain⟨q,l',c',hv',hl'⟩:=hmatN.subs.1 f3
    by_cases hqj:q=j
    .subst hqj
     rw [List.getElem?_set_self hjv,hv2] at hv'
     simp only [Option.some.injEq,Value.slice.injEq] at hv'
     rcases hin with hin | ⟨d',s2,g1,g2,_⟩
     .subst hin;exact absurd hv'.2.1.symm hl'
     .rw [g1] at hv';have h1:=hv'.1;simp only [Option.some.injEq,Addr.mk.injEq] at h1
      exact⟨l2,_,by simp,hg2,.inl (by rw [<- h1.1];exact g2)⟩
    .rw [List.getElem?_set_ne (fun e=>hqj e.symm)] at hv'
     exact⟨l,_,by simp,hg,.inr ⟨1,0,es,b',rfl,hb,hmat.subs.2 ⟨q,l',c',hv',hl'⟩⟩⟩
  .have hgs:get (ctx G (Zeg β l (some b')) (w.setCells b' j [A.eval y]) ((l,.mat 1 0 (es.set j [.sl es2]))::Zbo [l,l2] Z)).Z l=some (.mat 1 0 (es.set j [.sl es2])):=by simp [ctx,PW.get]
   have hM:∀ k v,ODR (ctx G β w Z) l v (.msl k)->ODR (ctx G (Zeg β l (some b')) (w.setCells b' j [A.eval y]) ((l,.mat 1 0 (es.set j [.sl es2]))::Zbo [l,l2] Z)) l v (.msl k):=fun k v h k1 q1 es1 hg1=>by
    rw [hgs] at hg1;cases hg1
    obtain⟨h1,h2⟩:=h 1 0 es hg
    rw [List.length_set]
    refine⟨h1,fun hk=>?_⟩
    obtain⟨a,cp,g1,g2,g3,g4⟩:=h2 hk
    refine⟨a,cp,g1,g2,g3,?_⟩
    rcases g4 with ⟨_,g5⟩ | ⟨b2,m2,g5,g6,g7,g8⟩
    .exact absurd (g5.symm.trans hb) (by simp)
    .exact .inr ⟨b2,m2,g5,by show Zeg β l (some b') l=_;rw [Zau,<- hb];exact g6,Za8 b' [A.eval y] j w g7,g8⟩
   exact⟨fun i p v hp hv=>VR.stepM hI hL hM p v (hmo i p hp) hv,fun q o hq hgq hk hbq=>BR.stepM hI hL hM (Zs4 β _ hq) hk (List.all_eq_true.1 hσ _ (Zff hgq)) hbq⟩
end
def toM(l:Nat):List (Nat×PV)->List (Nat×PV)
 | []=>[]
 | (i,p)::r=>
  match p with
  | .osl m k=>bif Nat.beq m l then (i,.own l (.msl k))::toM l r else (i,.osl m k)::toM l r
  | p=>bif p.has l then toM l r else (i,p)::toM l r
theorem Za1c{l:Nat}:∀ {tm:List (Nat×PV)} {i:Nat} {p:PV},(i,p)∈toM l tm->(∃ k,p = .own l (.msl k)/\(i,.osl l k)∈tm)\/((i,p)∈tm/\p.has l=false)
 | [],_,_,h=>by cases h
 | (j,q)::r,i,p,h=>by
  have up:(i,p)∈toM l r->(∃ k,p = .own l (.msl k)/\(i,.osl l k)∈(j,q)::r)\/((i,p)∈(j,q)::r/\p.has l=false):=fun h=>by
   rcases Za1c h with ⟨k,h1,h2⟩ | ⟨h1,h2⟩
   .exact .inl ⟨k,h1,List.mem_cons_of_mem _ h2⟩
   .exact .inr ⟨List.mem_cons_of_mem _ h1,h2⟩
  simp only [toM] at h
  split at h
  .rename_i m k
   cases hb:Nat.beq m l with
   | true=>
    simp only [hb,cond_true] at h
    have hm:=(Z1 _ _).1 hb
    subst hm
    rcases List.mem_cons.1 h with h | h
    .cases h;exact .inl ⟨k,rfl,by simp⟩
    .exact up h
   | false=>
    simp only [hb,cond_false] at h
    rcases List.mem_cons.1 h with h | h
    .cases h;exact .inr ⟨by simp,hb⟩
    .exact up h
  .cases hb:q.has l with
   | true=>simp only [hb,cond_true] at h;exact up h
   | false=>
    simp only [hb,cond_false] at h
    rcases List.mem_cons.1 h with h | h
    .cases h;exact .inr ⟨by simp,hb⟩
    .exact up h
theorem Wk.tomat{st:St}{l:Nat}{es:List (List Zf)}(hg:get st.Z l=some (.row 1 es))(he:∀ e,e∈es->e=[Zf.sl []])(hσ:(st.Z.all fun q => !q.2.has l)=true)(hon:Zzh st.tm=true) :
 Wk st ⟨st.n,toM l st.tm,put st.Z l (.mat 1 0 es)⟩:=by
 rintro G a w ⟨β,hr⟩
 obtain⟨n,tm,Z⟩:=st
 have hg:get Z l=some (.row 1 es):=hg
 refine⟨β,?_⟩
 have hgs:get (put Z l (.mat 1 0 es)) l=some (.mat 1 0 es):=Zca Z l _
 have hgo:∀ q,q≠l->get (put Z l (.mat 1 0 es)) q=get Z q:=fun q hq=>Zb5 Z _ (Ne.symm hq)
 obtain⟨_,hk,hbr⟩:=hr.blk l _ hg
 have hcell:∀ b,β l=some b->∀ j,j < es.length->∃ a cap,w.cell? ⟨b,j*1+0,none⟩=some (.slice a 0 cap):=fun b hb j hj=>by
  rcases hbr with ⟨hb',_⟩ | ⟨b',m,hb',_,_,hel⟩
  .exact absurd (hb'.symm.trans hb) (by simp)
  .have:b'=b:=by have:=hb'.symm.trans hb;simpa using this
   subst this
   have h1:=hel.get j _ hk (List.getElem?_eq_getElem hj)
   rw [he _ (List.getElem_mem hj)] at h1
   simp only [Zw,and_true,Nat.zero_add] at h1
   obtain⟨c,h1,h2⟩:=h1
   simp only [Z0] at h2
   obtain⟨a,cap,rfl,_⟩:=h2
   exact⟨a,cap,by rw [Nat.add_zero];exact h1⟩
 have hns:∀ b d,β l=some b->¬ Subs w b 1 0 es.length d:=fun b d hb ⟨j,hj,len,cap,hl,hc⟩=>by
  obtain⟨a,cap',h1⟩:=hcell b hb j hj
  rw [h1] at hc;cases hc;exact hl rfl
 have hO:∀ q o b,get (put Z l (.mat 1 0 es)) q=some o->Zae β w q o b->∃ o2,get Z q=some o2/\Zae β w q o2 b:=fun q o b hq ho=>by
  by_cases hql:q=l
  .subst hql
   have:some o=some (Blk.mat 1 0 es):=Eq.trans (Eq.symm hq) hgs
   cases this
   rcases ho with ho | ⟨k,q0,es',b0,h1,h2,h3⟩
   .exact⟨_,hg,.inl ho⟩
   .cases h1;exact absurd h3 (hns b0 b h2)
  .exact⟨o,by rw [<- hgo q hql];exact hq,ho⟩
 have hI:∀ b,(ctx G β w Z).I b->(ctx G β w (put Z l (.mat 1 0 es))).I b/\(ctx G β w (put Z l (.mat 1 0 es))).w.heap[b]?=(ctx G β w Z).w.heap[b]?:=fun b hb=>
  ⟨⟨hb.1,hb.2.1,fun q o hq ho=>by obtain⟨o2,h1,h2⟩:=hO q o b hq ho;exact hb.2.2 q o2 h1 h2⟩,rfl⟩
 have hL:∀ q,q≠l->Zal (ctx G β w Z) (ctx G β w (put Z l (.mat 1 0 es))) q:=fun q hq=>Zal.same (hgo q hq) rfl (fun _ _=>rfl)
 exact
  { defers:=hr.defers,sz:=hr.sz,base:=hr.base,os:=hr.os,tape:=hr.tape,output:=hr.output,old:=hr.old,A:=hr.A,gl:=hr.gl,
    inj:=fun q q' o o' b hq hq' hb hb'=>by
     obtain⟨o1,h1,h2⟩:=hO q o b hq hb
     obtain⟨o2,h3,h4⟩:=hO q' o' b hq' hb'
     exact hr.inj q q' o1 o2 b h1 h3 h2 h4,
    sep:=fun q o b hq hb=>by obtain⟨o1,h1,h2⟩:=hO q o b hq hb;exact hr.sep q o1 b h1 h2,
    fix:=fun q cs hq1 hq=>by
     by_cases hql:q=l
     .subst hql
      have:some (Blk.box cs)=some (Blk.mat 1 0 es):=Eq.trans (Eq.symm hq) hgs
      cases this
     .exact hr.fix q cs hq1 (by rw [<- hgo q hql];exact hq),
    row0:=fun q k es' hq hg=>by
     by_cases hql:q=l
     .subst hql
      have:some (Blk.row k es')=some (Blk.mat 1 0 es):=Eq.trans (Eq.symm hg) hgs
      cases this
     .exact hr.row0 q k es' hq (by rw [<- hgo q hql];exact hg),
    blk:=fun q ob hq=>by
     by_cases hql:q=l
     .subst hql
      have:some ob=some (Blk.mat 1 0 es):=Eq.trans (Eq.symm hq) hgs
      cases this
      refine⟨Nat.zero_lt_one,hk,?_⟩
      rcases hbr with h1 | ⟨b,m,h1,h2,h3,h4⟩
      .exact .inl h1
      .refine .inr ⟨b,m,h1,h2,h3,Zr.mono (fun d hd=>⟨.inl (hI d hd).1,rfl⟩) rfl _ _ h4,fun i j d len len' cap cap' hi _ hl _ hc _=>?_,fun j e hj=>?_⟩
       .obtain⟨a,cp,h5⟩:=hcell b h1 i hi
        have hc:w.cell? _=_:=hc
        rw [h5] at hc;cases hc;exact absurd rfl hl
       .have hj':=(List.getElem?_eq_some_iff.1 hj).1
        obtain⟨a,cp,h5⟩:=hcell b h1 j hj'
        have:=he e (List.mem_of_getElem? hj)
        subst this
        exact⟨[],a,0,cp,rfl,by simp,h5,fun h=>absurd rfl h⟩
     .have hq':get Z q=some ob:=by rw [<- hgo q hql];exact hq
      refine BR.step hI rfl (fun _ _=>rfl) (fun m hm=>hL m (fun e=>?_)) (hr.blk q ob hq')
      subst e
      have:=List.all_eq_true.1 hσ _ (Zff hq')
      rw [hm] at this
      exact absurd this (by decide),
    tm:=fun j p hp=>by
     rcases Za1c (Zff hp) with ⟨k,rfl,h1⟩ | ⟨h1,h2⟩
     .have h3:=hr.tm j _ (Zs3 hon h1)
      refine⟨h3.1,?_⟩
      have h4:=h3.2
      simp only [VR] at h4 ⊢
      obtain⟨h4,a,m,cp,h5⟩:=h4
      refine⟨fun k' q' es' hg'=>?_,by rw [h5];rfl⟩
      have:some (Blk.mat k' q' es')=some (Blk.mat 1 0 es):=Eq.trans (Eq.symm hg') hgs
      cases this
      exact h4 1 es hg
     .have h3:=Zs3 hon h1
      exact⟨(hr.tm j p h3).1,VR.step hI p _ (fun m hm=>hL m (fun e=>by subst e;rw [h2] at hm;cases hm)) (hr.tm j p h3).2⟩ }
theorem Zau6{I:Nat->Prop}{w:World}{b:Nat}:∀ (ts:List Zf) (off:Nat),Zw I w b ts off->∃ us:List Zf,us.length=ts.length/\(∀ x,x∈us->x.scal=true)/\(∀ J,Zw J w b us off) /\
 ∀ {J I':Nat->Prop} {w':World} {b' off':Nat},Zw J w' b' us off'->(∀ c,I c->I' c/\w'.heap[c]?=w.heap[c]?)->Zw I' w' b' ts off'
 | [],_,_=>⟨[],rfl,by simp,fun _=>trivial,fun _ _=>trivial⟩
 | t::ts,off,h=>by
  simp only [Zw] at h
  obtain⟨⟨c,hc,ht⟩,h⟩:=h
  obtain⟨us,h1,h2,h3,h4⟩:=Zau6 ts _ h
  refine⟨.con c::us,by simp [h1],fun x hx=>?_,fun J=>⟨⟨c,hc,rfl,ht.oneCell⟩,h3 J⟩,fun {J I' w' b' off'} hu hI=>?_⟩
  .rcases List.mem_cons.1 hx with rfl | hx
   .rfl
   .exact h2 x hx
  .simp only [Zw] at hu ⊢
   obtain⟨⟨c',hc',hv,_⟩,hu⟩:=hu
   subst hv
   exact⟨⟨_,hc',ht.mono hI⟩,h4 hu hI⟩
theorem Zau7{I:Nat->Prop}{w:World}{b k:Nat}:∀ (es:List (List Zf)) (off:Nat),(∀ el,el∈es->el.length=k)->Zr I w b es off->∃ es':List (List Zf),es'.length=es.length/\(∀ e,e∈es'->e.length=k)/\(∀ e,e∈es'->∀ x,x∈e->x.scal=true)/\(∀ J,Zr J w b es' off) /\
 ∀ {J I':Nat->Prop} {w':World} {b' off':Nat},Zr J w' b' es' off'->(∀ c,I c->I' c/\w'.heap[c]?=w.heap[c]?)->Zr I' w' b' es off'
 | [],_,_,_=>⟨[],rfl,by simp,by simp,fun _=>trivial,fun _ _=>trivial⟩
 | e::es,off,hk,h=>by
  simp only [Zr] at h
  obtain⟨us,a1,a2,a3,a4⟩:=Zau6 e off h.1
  obtain⟨es',b1,b2,b3,b4,b5⟩:=Zau7 es _ (fun x hx=>hk x (List.mem_cons_of_mem _ hx)) h.2
  refine⟨us::es',by simp [b1],fun x hx=>?_,fun x hx=>?_,fun J=>⟨a3 J,by rw [a1];exact b4 J⟩,fun {J I' w' b' off'} hu hI=>?_⟩
  .rcases List.mem_cons.1 hx with rfl | hx
   .rw [a1];exact hk e (by simp)
   .exact b2 x hx
  .rcases List.mem_cons.1 hx with rfl | hx
   .exact a2
   .exact b3 x hx
  .simp only [Zr] at hu ⊢
   refine⟨a4 hu.1 hI,?_⟩
   have:=hu.2
   rw [a1] at this
   exact b5 this hI
def Zqq(P:Program)(f:FuncId)(k bytes:Nat):Prop:=∀ es:List (List Zf),(∀ e,e∈es->e.length=k)->es.length*bytes<=140737488355328->FnG P f [] [.t (.sl es)] [(5000,.row k es)] (.osl 5000 es.length)
section
variable {P:Program} {o:Oper} {ρ:List (Nat×PV)} {σ0:List (Nat×Blk)}
theorem Zbd8{f:FuncId}{fo x:Operand}{ats:Array TypeId}{l m L k bytes:Nat}{es:List (List Zf)}(hfn:Zqq P f k bytes)(ho:o.op = .call { callee := .value fo,args := #[x],argTypes:=ats })(hfo:Zp ρ fo=some (.fn f []))(hx:Zp ρ x=some (.osl l m))
 (hg0:get σ0 l=some (.row k es)) (hm:es.length=m) (hb:m*bytes<=140737488355328) (hL:L≠l) (h1000:1000<=L):OpF P o ρ σ0 [l] [] (.osl L m) [(L,.row k es)]:=by
 rintro G n tm Z a w K Q hag hnd hnews ⟨β,hr⟩ hK
 have hg:get Z l=some (.row k es):=(hnd l (by simp)).trans hg0
 obtain⟨hf1,hf2⟩:=hnews L (.row k es) (by simp) (by simp)
 have hps:(#[x].toList.mapM (Zp ρ)).map (· ++ ([]:List PV))=some [.osl l m]:=by simp [hx]
 obtain⟨vals,hvs,hrun⟩:=Z7n (P:=P) ho hfo hps hr hag
 simp only [VRs] at hvs
 obtain⟨v,rest,rfl,hv,rfl⟩:=hvs
 simp only [VR] at hv
 obtain⟨ad,cap,hv0,hmc,hcm,h3⟩:=(hv.1 k es hg).2 hm.symm
 obtain⟨hk0,hk,hbr⟩:=hr.blk l _ hg
 have key:∃ es':List (List Zf),es'.length=es.length/\(∀ e,e∈es'->e.length=k)/\(es'=[]\/∃ b,ad=some ⟨b,0,none⟩/\b < w.heap.size/\∀ J,Zr J w b es' 0) /\
  ∀ {J I':Nat->Prop} {w':World} {b':Nat},Zr J w' b' es' 0->(∀ c,(ctx G β w Z).I c->I' c/\w'.heap[c]?=w.heap[c]?)->Zr I' w' b' es 0:=by
  rcases hbr with ⟨_,he⟩ | ⟨b,sz,hb1,hb2,hb3,hel⟩
  .subst he
   exact⟨[],rfl,by simp,.inl rfl,fun _ _=>trivial⟩
  .obtain⟨es',a1,a2,_,a4,a5⟩:=Zau7 es 0 hk hel
   refine⟨es',a1,a2,?_,fun h hI=>a5 h hI⟩
   rcases h3 with ⟨hc,_⟩ | ⟨b',sz',ha,hb',_,_⟩
   .exact .inl (List.eq_nil_of_length_eq_zero O)
   .have:b'=b:=by have:=hb'.symm.trans hb1;simpa using this
    subst this
    exact .inr ⟨b',ha,(hr.sep l _ b' hg (.inl hb1)).1,a4⟩
 obtain⟨es',e1,e2,e3,e4⟩:=key
 have hfn':=hfn es' e2 (by rw [e1,hm];exact hb)
 have hent:Zan (Zbr β [] (fun b=>b < w.heap.size) w) β ⟨1,idx 0 [.t (.sl es')],[]⟩ ⟨[v].toArray,[]⟩ w:=by
  refine { defers := rfl, sz := by simp, base := Nat.le_refl _, os := rfl, tape := rfl, output := rfl, old := fun _ _ _ => rfl, A := fun b hb => ⟨hb, fun ⟨i, o, h, _⟩ => by simp [PW.get] at h⟩, gl := fun g q hg => ⟨(hr.glw g q hg).1, fun ⟨i, o, h, _⟩ => by simp [PW.get] at h, (hr.glw g q hg).1, (hr.glw g q hg).2⟩,
           inj:=fun i i' o o' b h=>by simp [PW.get] at h,sep:=fun i o b h=>by simp [PW.get] at h,fix:=fun _ _ _ _=>rfl,row0:=fun l _ _ _ h=>by simp [PW.get] at h,blk:=fun i o h=>by simp [PW.get] at h,tm:=fun i p hp=>?_ }
  rw [Zzy] at hp
  match i,hp with
  | 0,hp=>
   simp only [Nat.le_refl,if_true,Nat.sub_self,List.getElem?_cons_zero,Option.some.injEq] at hp
   subst hp
   refine⟨Nat.zero_lt_one,?_⟩
   simp only [VR,Z0]
   refine⟨ad,cap,by rw [e1,hm];exact hv0,by omega,hcm,e3.imp id fun⟨b,h1,h2,h4⟩=>⟨b,0,h1,⟨h2,.inr (.inl h2),fun i o h=>by simp [PW.get] at h⟩,h4 _⟩⟩
  | i+1,hp=>simp at hp
 unfold Oper.wp
 rw [hrun hfn'.1,Oper.upon_enter]
 refine (hfn'.2 (fun b=>b < w.heap.size) β w [v] rfl hent).mono ?_
 rintro e w' ⟨v',β',rfl,hr'⟩
 have hold:∀ b,b < w.heap.size->w'.heap[b]?=w.heap[b]?:=fun b hb=>hr'.old b hb (fun⟨i,o,h,_⟩=>by simp [PW.get] at h)
 have hsz:w.heap.size<=w'.heap.size:=hr'.base
 have hgr:get ([(5000,Blk.row k es')]:List (Nat×Blk)) 5000=some (.row k es'):=by simp [PW.get]
 have habs:=Zj9 hr w' (β' 5000) L (.row k es) [] hsz hr'.os hr'.tape hr'.output ⟨by simp,.inl h1000⟩ (fun b hb _=>hold b hb) (fun c hc => .inl ?_) (.inr ⟨hf1,fun m y hy=>(hf2 m y hy).2⟩) (fun hI=>?_)
 .refine hK v' w' ⟨_,habs,?_⟩
  have hres:=(hr'.tm 0 (.osl 5000 es'.length) rfl).2
  simp only [VR] at hres ⊢
  refine⟨fun k2 es2 h2=>?_,hres.2⟩
  have:some (Blk.row k2 es2)=some (.row k es):=Eq.trans (Eq.symm h2) (by simp [ctx,PW.get])
  cases this
  refine⟨by omega,fun _=>?_⟩
  obtain⟨a2,cap2,q1,q2,q3,q4⟩:=(hres.1 k es' hgr).2 rfl
  have q1:v' = .slice a2 es'.length cap2:=q1
  refine⟨a2,cap2,by rw [q1,e1,hm],by omega,q3,?_⟩
  rcases q4 with ⟨q5,q6⟩ | ⟨b2,m2,q5,q6,q7,q8⟩
  .exact .inl ⟨q5,by show Zeg β L (β' 5000) L=none;rw [Zau];exact q6⟩
  .exact .inr ⟨b2,m2,q5,by show Zeg β L (β' 5000) L=some b2;rw [Zau];exact q6,q7,q8⟩
 .rcases hc with hc | ⟨k2,q,es2,b0,h1,_⟩
  .rw [Zau] at hc
   have:=hr'.sep 5000 _ c hgr (.inl hc)
   refine⟨?_,this.1⟩
   rcases this.2 with h | ⟨i,o,h,_⟩
   .exact h
   .simp [PW.get] at h
  .cases h1
 .obtain⟨_,_,hb2⟩:=hr'.blk 5000 _ hgr
  refine⟨hk0,hk,?_⟩
  rcases hb2 with ⟨h1,h2⟩ | ⟨b2,m2,h1,h2,h3,h4⟩
  .refine .inl ⟨by show Zeg β L (β' 5000) L=none;rw [Zau];exact h1,?_⟩
   subst h2
   exact List.eq_nil_of_length_eq_zero (by simpa using e1.symm)
  .exact .inr ⟨b2,m2,by show Zeg β L (β' 5000) L=some b2;rw [Zau];exact h1,h2,by rw [<- e1];exact h3,e4 h4 hI⟩
end
end Go.PW
