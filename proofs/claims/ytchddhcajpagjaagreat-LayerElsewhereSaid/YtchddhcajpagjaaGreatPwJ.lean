import Derived.Test.YtchddhcajpagjaaGreatPwI
set_option linter.all false
namespace Go.PW
open Go.RowKit
theorem Za0(b:Nat):∀ (vs:List Value) (o:Nat) (w:World) (k:Nat),k≠b->(w.setCells b o vs).heap[k]?=w.heap[k]?
 | [],_,_,_,_=>rfl
 | v::vs,o,w,k,h=>by
  simp only [World.setCells]
  rw [Za0 b vs (o+1) _ k h,Below.heap_setCell _ _ _ _ h]
theorem Zcj(b:Nat):∀ (vs:List Value) (o:Nat) (w:World),(w.setCells b o vs).heap.size=w.heap.size
 | [],_,_=>rfl
 | v::vs,o,w=>by simp only [World.setCells];rw [Zcj b vs];simp
theorem Za2(b:Nat):∀ (vs:List Value) (o:Nat) (w:World),(w.setCells b o vs).os=w.os/\(w.setCells b o vs).tape=w.tape/\(w.setCells b o vs).output=w.output
 | [],_,_=>⟨rfl,rfl,rfl⟩
 | v::vs,o,w=>by simp only [World.setCells];have:=Za2 b vs (o+1) (w.setCell ⟨b,o,none⟩ v);exact this
theorem Zayw{w:World}{b m:Nat}(a:Addr)(v:Value)(h:Za1 w b m):Za1 (w.setCell a v) b m:=by
 obtain⟨cs,e,fr,h1,h2,h3⟩:=h
 by_cases hb:a.block=b
 .subst hb
  refine⟨if a.spot.isSome then cs else cs.setIfInBounds a.off v,e,fr,?_,?_,h3⟩
  .simp only [World.setCell,Array.getElem?_modify,h1,Option.map_some,if_true]
  .split<;>simp [h2]
 .exact⟨cs,e,fr,(Below.heap_setCell w a v b (Ne.symm hb)).trans h1,h2,h3⟩
theorem Za5{b m:Nat}(b':Nat):∀ (vs:List Value) (o:Nat) (w:World),Za1 w b m->Za1 (w.setCells b' o vs) b m
 | [],_,_,h=>h
 | v::vs,o,w,h=>Za5 b' vs (o+1) _ (Zayw _ v h)
theorem Zj2{w:World}{b m o n:Nat}(h:Za1 w b m)(hn:o+n<=m):w.there b o n:=by
 obtain⟨cs,e,fr,h1,h2,h3⟩:=h
 intro j hj
 constructor
 .rw [cell_of_row w b (o+j) cs e fr h1]
  have:o+j < cs.size:=by omega
  simp [this]
 .unfold World.frozen?
  simp only [h1]
  rcases h3 with h3 | h3
  .rw [h3];simp
  .exact h3.elim
theorem Zn8{G:Frm}{β:Nat->Option Nat}{n:Nat}{tm:List (Nat×PV)}{σ:List (Nat×Blk)}{a:Act}{w:World}(h:Zal G β ⟨n,tm,σ⟩ a w){l b off:Nat}{blk blk':Blk}(vs:List Value)
 (hg:get σ l=some blk) (hb:β l=some b)
 (hkind:(∃ k es es',blk = .row k es/\blk' = .row k es'/\es.length<=es'.length)\/(∃ cs cs',blk = .box cs/\blk' = .box cs')\/(∃ k i es cs cs',blk = .prow k i es cs/\blk' = .prow k i es cs'))
 (hblk:(∀ b',(ctx G β w σ).I b'->(ctx G β (w.setCells b off vs) (put σ l blk')).I b'/\(ctx G β (w.setCells b off vs) (put σ l blk')).w.heap[b']?=(ctx G β w σ).w.heap[b']?) ->
  (∀ m,Zak (ctx G β w σ) (ctx G β (w.setCells b off vs) (put σ l blk')) m)->BR (ctx G β (w.setCells b off vs) (put σ l blk')) l blk') :
 Zal G β ⟨n,tm,put σ l blk'⟩ a (w.setCells b off vs) /\
 (∀ b',(ctx G β w σ).I b'->(ctx G β (w.setCells b off vs) (put σ l blk')).I b'/\(ctx G β (w.setCells b off vs) (put σ l blk')).w.heap[b']?=(ctx G β w σ).w.heap[b']?) /\
 (∀ m,Zak (ctx G β w σ) (ctx G β (w.setCells b off vs) (put σ l blk')) m):=by
 have hgs:get (put σ l blk') l=some blk':=Zb9 σ l blk'
 have hfl:blk.flat/\blk'.flat:=by rcases hkind with ⟨k,es,es',rfl,rfl,_⟩ | ⟨cs,cs',rfl,rfl⟩ | ⟨k,i,es,cs,cs',rfl,rfl⟩<;>exact⟨trivial,trivial⟩
 have hgo:∀ m,m≠l->get (put σ l blk') m=get σ m:=fun m hm=>Zb5 σ blk' (Ne.symm hm)
 have hsep:=h.sep l blk b hg (.inl hb)
 have hnI:∀ b',Imm G β w σ b'->b'≠b:=by
  rintro b' ⟨h1,h2,h3⟩ rfl
  exact h3 l blk hg (.inl hb)
 have hO:∀ m o,m≠l->get σ m=some o->∀ b',Zaf β (w.setCells b off vs) m o b'->Zaf β w m o b':=fun m o hm hgm b' ho=>ho.of_heap (fun b2 hb2=>Za0 b vs off w b2 (fun e=>by
  subst e
  exact hm (h.inj m l o blk _ hgm hg (.inl hb2) (.inl hb))))
 have hO':∀ b',Zaf β (w.setCells b off vs) l blk' b'->Zaf β w l blk b':=fun b' ho => .inl (ho.flat hfl.2)
 have hI:∀ b',(ctx G β w σ).I b'->(ctx G β (w.setCells b off vs) (put σ l blk')).I b'/\(ctx G β (w.setCells b off vs) (put σ l blk')).w.heap[b']?=(ctx G β w σ).w.heap[b']?:=fun b' hb'=>by
  refine⟨?_,Za0 b vs off w b' (hnI b' hb')⟩
  obtain⟨h1,h2,h3⟩:=hb'
  .refine⟨by rw [Zcj];exact h1,h2,fun m o hm=>?_⟩
   by_cases hml:m=l
   .subst hml
    have:some o=some blk':=Eq.trans (Eq.symm hm) hgs
    cases this
    exact fun ho=>h3 m blk hg (hO' b' ho)
   .have hm':get σ m=some o:=by rw [<- hgo m hml];exact hm
    exact fun ho=>h3 m o hm' (hO m o hml hm' b' ho)
 have hL:∀ m,Zak (ctx G β w σ) (ctx G β (w.setCells b off vs) (put σ l blk')) m:=fun m=>by
  by_cases hml:m=l
  .subst hml
   rcases hkind with ⟨k,es,es',h1,h2,h3⟩ | ⟨cs,cs',h1,h2⟩ | ⟨k,i,es,cs,cs',h1,h2⟩
   .subst h1;subst h2
    have bad:∀ {x:Blk},get (put σ m (Blk.row k es')) m=some x->x = .row k es':=fun hg'=>Option.some.inj (Eq.trans (Eq.symm hg') hgs)
    refine⟨fun k' es'' hg'=>?_,fun cs' hg'=>absurd (bad hg') (by simp),fun k' q' es'' hg'=>absurd (bad hg') (by simp),fun k' es'' hg'=>absurd (bad hg') (by simp),fun _ _ _ _ hg'=>absurd (bad hg') (by simp)⟩
    cases bad hg'
    exact⟨es,hg,h3,fun _=>⟨rfl,fun b' sz _ hr=>Za5 b vs off w hr⟩⟩
   .subst h1;subst h2
    have bad:∀ {x:Blk},get (put σ m (Blk.box cs')) m=some x->x = .box cs':=fun hg'=>Option.some.inj (Eq.trans (Eq.symm hg') hgs)
    exact⟨fun k' es'' hg'=>absurd (bad hg') (by simp),fun cs'' hg'=>⟨cs,hg,rfl⟩,fun k' q' es'' hg'=>absurd (bad hg') (by simp),fun k' es'' hg'=>absurd (bad hg') (by simp),fun _ _ _ _ hg'=>absurd (bad hg') (by simp)⟩
   .subst h1;subst h2
    have bad:∀ {x:Blk},get (put σ m (Blk.prow k i es cs')) m=some x->x = .prow k i es cs':=fun hg'=>Option.some.inj (Eq.trans (Eq.symm hg') hgs)
    refine⟨fun k' es'' hg'=>absurd (bad hg') (by simp),fun cs'' hg'=>absurd (bad hg') (by simp),fun k' q' es'' hg'=>absurd (bad hg') (by simp),fun k' es'' hg'=>absurd (bad hg') (by simp),fun _ _ _ _ hg'=>?_⟩
    cases bad hg'
    exact⟨es,cs,hg,rfl,rfl,fun b' sz _ hr=>Za5 b vs off w hr⟩
  .have hg':get (put σ l blk') m=get σ m:=hgo m hml
   cases hgm:get σ m with
   | none=>exact Zak.none (hg'.trans hgm)
   | some o=>exact Zak.same hg' rfl (fun b2 hb2=>Za0 b vs off w b2 (fun e=>by
    subst e
    exact hml (h.inj m l o blk _ hgm hg (.inl hb2) (.inl hb))))
 refine⟨?_,hI,hL⟩
 have key:∀ m o b',get (put σ l blk') m=some o->Zaf β (w.setCells b off vs) m o b'->∃ o2,get σ m=some o2/\Zaf β w m o2 b':=fun m o b' hm hb'=>by
  by_cases hml:m=l
  .subst hml
   have:some o=some blk':=Eq.trans (Eq.symm hm) hgs
   cases this
   exact⟨blk,hg,hO' b' hb'⟩
  .have hm':get σ m=some o:=by rw [<- hgo m hml];exact hm
   exact⟨o,hm',hO m o hml hm' b' hb'⟩
 obtain⟨e1,e2,e3⟩:=Za2 b vs off w
 exact { defers := h.defers, sz := h.sz, base := by rw [Zcj]; exact h.base, os := e1.trans h.os, tape := e2.trans h.tape, output := e3.trans h.output,
         old:=fun b' hb' ho=>by
          have:b'≠b:=by
           rintro rfl
           rcases hsep.2 with h4 | h4
           .omega
           .exact ho h4
          exact (Za0 b vs off w b' this).trans (h.old b' hb' ho),
         A:=h.A,gl:=h.gl,
         inj:=fun m m' o o' b' hm hm' hb1 hb2=>by
          obtain⟨o1,h1,k1⟩:=key m o b' hm hb1
          obtain⟨o2,h2,k2⟩:=key m' o' b' hm' hb2
          exact h.inj m m' o1 o2 b' h1 h2 k1 k2,
         sep:=fun m o b' hm hb'=>by
          rw [Zcj]
          obtain⟨o1,h1,k1⟩:=key m o b' hm hb'
          exact h.sep m o1 b' h1 k1,
         fix:=fun m cs' h1 hm=>by
          by_cases hml:m=l
          .subst hml
           have:some (Blk.box cs')=some blk':=Eq.trans (Eq.symm hm) hgs
           cases this
           rcases hkind with ⟨k,es,es',h2,h3,_⟩ | ⟨cs,cs2,h2,h3⟩ | ⟨_,_,_,_,_,_,h3⟩
           .cases h3
           .subst h2;exact h.fix m cs h1 hg
           .cases h3
          .exact h.fix m cs' h1 (by rw [<- hgo m hml];exact hm),
         row0:=h.row0.step (fun m _=>hL m),
         blk:=fun m o hm=>by
          by_cases hml:m=l
          .subst hml
           have:some o=some blk':=Eq.trans (Eq.symm hm) hgs
           cases this
           exact hblk hI hL
          .have hm':get σ m=some o:=by rw [<- hgo m hml];exact hm
           refine BR.step hI rfl (fun b' hb'=>Za0 b vs off w b' ?_) (fun q _=>hL q) (h.blk m o hm')
           rintro rfl
           exact hml (h.inj m l o blk b' hm' hg hb' (.inl hb)),
         tm:=fun i p hp=>⟨(h.tm i p hp).1,VR.step hI p _ (fun q _=>hL q) (h.tm i p hp).2⟩ }
section
variable {P:Program} {o:Oper} {n:Nat} {tm:List (Nat×PV)} {σ:List (Nat×Blk)}
theorem opup {st' : St} (h : ∀ (G : Frm) (β : Nat -> Option Nat) (a : Act) (w : World), (∀ x q, Zp tm x = some q -> VR (ctx G β w σ) q (a.eval x)) -> Zal G β ⟨n, tm, σ⟩ a w ->
      ∃ v w',((execOp a.eval o).run P w = .ok (.value v) w'\/((execOp a.eval o).run P w = .ok .skip w'/\v=undef))/\∃ β',Zal G β' st' (a.put o.dst v) w'):Zxx P o ⟨n,tm,σ⟩ st':=by
 intro G a w K Q hr hK
 obtain⟨β,hr⟩:=hr
 obtain⟨v,w',hv,β',hr'⟩:=h G β a w (fun x q hq=>Zk9 hr hq (fun t r _ hr'=>hr')) hr
 unfold Oper.wp
 rcases hv with hv | ⟨hv,rfl⟩
 .rw [hv];exact hK _ _ ⟨β',hr'⟩
 .rw [hv];exact hK _ _ ⟨β',hr'⟩
theorem opF {ρ : List (Nat × PV)} {need rm : List Nat} {p : PV} {news : List (Nat × Blk)} (h : ∀ (G : Frm) (β : Nat -> Option Nat) (n : Nat) (tm : List (Nat × PV)) (σ' : List (Nat × Blk)) (a : Act) (w : World),
      (∀ x q,x∈o.op.operands->Zp ρ x=some q->VR (ctx G β w σ') q (a.eval x))->(∀ l,l∈need->get σ' l=get σ l)->Zal G β ⟨n,tm,σ'⟩ a w ->
      ∃ v w',(execOp a.eval o).run P w = .ok (.value v) w'/\∃ β',Zal G β' ⟨n,tm,news++Zbn rm σ'⟩ a w'/\VR (ctx G β' w' (news++Zbn rm σ')) p v):OpF P o ρ σ need rm p news:=by
 intro G n tm σ' a w K Q hag hneed _ hr hK
 obtain⟨β,hr⟩:=hr
 obtain⟨v,w',hv,hp⟩:=h G β n tm σ' a w (fun x q hx hq=>Zk9 hr hq (fun t r ht hr'=>hag t r (ht▸hx) hr')) hneed hr
 unfold Oper.wp
 rw [hv]
 exact hK v w' hp
theorem Z56{c:Ctx}{ps:List PV}{vs:List Value}(h:VRs c ps vs)(h1:ps.all PV.one=true):∀ v,v∈vs->v.oneCell'=true:=by
 induction ps generalizing vs with
 | nil=>simp only [VRs] at h;subst h;intro v hv;cases hv
 | cons p ps ih=>
  simp only [VRs] at h
  obtain⟨v,rest,rfl,hv,hr⟩:=h
  simp only [List.all_cons,Bool.and_eq_true] at h1
  intro u hu
  rcases List.mem_cons.1 hu with hu | hu
  .subst hu;exact hv.oneCell h1.1
  .exact ih hr h1.2 u hu
theorem Zi4{c:Ctx}{t:TypeId}{agg:Bool}{size b q m:Nat}(hT:TyF P t agg size)(w:World){p:PV}{v:Value}(hv:VR c p v)(hs:(Z6 p).length=size)(h1:(Z6 p).all PV.one=true)(hr:Za1 w b m)(hm:q+size<=m) :
 (Instr.storeAt t (.pointer (some ⟨b,q,none⟩)) v).run P w = .ok () (w.setCells b q v.cells.toList):=by
 have hc:=hv.cells
 have hl:v.cells.size=size:=by rw [<- Array.length_toList,hc.length,hs]
 have hst:=run_storeCells_cells (P:=P) b q v.cells.toList 0 w (fun j hj=>by
  have:=Zj2 hr hm j (by simp at hj;omega)
  rw [Nat.add_zero];exact this.1) (fun j hj=>by
  have:=Zj2 hr hm j (by simp at hj;omega)
  rw [Nat.add_zero];exact this.2) (Z56 hc h1)
 rw [Nat.add_zero] at hst
 simp only [Instr.storeAt,Instr.sureAddr,Sem.run_bind,Sem.run_pure,Result.andThen_ok,storeVar,hT.run_sizeOf w,hl,ne_eq,not_true_eq_false,if_false,hst]
theorem Zi5{w:World}{b q:Nat}{vs us:List Value}(hc:Z52 w b vs)(hq:q+us.length<=vs.length):Z52 (w.setCells b q us) b (PW.splice vs q us):=by
 have hthere:∀ j,j < us.length->(w.cell? ⟨b,q+j,none⟩).isSome=true:=fun j hj=>by
  have:vs[q+j]?=some vs[q+j]:=List.getElem?_eq_getElem (by omega)
  rw [hc _ _ this];rfl
 intro j v hj
 unfold PW.splice at hj
 rcases Nat.lt_or_ge j q with h | h
 .rw [World.cell?_setCells_out b us q w ⟨b,j,none⟩ (fun _ _ => .inl h)]
  rw [List.append_assoc,List.getElem?_append_left (by simp;omega),List.getElem?_take,if_pos h] at hj
  exact hc j v hj
 .rcases Nat.lt_or_ge j (q+us.length) with h' | h'
  .have:=World.cell?_setCells_in b us q w hthere (j - q) (by omega)
   rw [show q+(j - q)=j by omega] at this
   rw [this]
   rw [List.append_assoc,List.getElem?_append_right (by simp;omega),List.getElem?_append_left (by simp;omega)] at hj
   have e:j - (vs.take q).length=j - q:=by simp;omega
   rw [e,List.getElem?_eq_getElem (by omega)] at hj
   exact hj
  .rw [World.cell?_setCells_out b us q w ⟨b,j,none⟩ (fun _ _ => .inr h')]
   rw [List.getElem?_append_right (by simp;omega),List.getElem?_drop] at hj
   have e:q+us.length+(j - (vs.take q++us).length)=j:=by simp;omega
   rw [e] at hj
   exact hc j v hj
theorem VRs.splice{c:Ctx}{ps qs:List PV}{vs us:List Value}(q:Nat)(h:VRs c ps vs)(k:VRs c qs us):VRs c (PW.splice ps q qs) (PW.splice vs q us):=by
 unfold PW.splice
 rw [k.length]
 exact ((h.take q).append k).append (h.drop _)
theorem Zm0{α:Type}(cs:List α)(q:Nat)(ds:List α)(h:q+ds.length<=cs.length):(splice cs q ds).length=cs.length:=by simp [splice];omega
theorem Zap6{t:TypeId}{x y:Operand}{l q size:Nat}{agg:Bool}{cs:List PV}{p:PV}(ho:o.op = .store t x y)(hd:o.dst=none)(hT:TyF P t agg size)(hx:Zp tm x=some (.bptr l q))(hy:Zp tm y=some p)(hg:get σ l=some (.box cs))
 (hs:(Z6 p).length=size) (h1:(Z6 p).all PV.one=true) (hq:q+size<=cs.length):Zxx P o ⟨n,tm,σ⟩ ⟨n,tm,put σ l (.box (splice cs q (Z6 p)))⟩:=
 opup fun G β a w hop hr=>by
  have e1:=hop x _ hx
  have e2:=hop y _ hy
  simp only [VR] at e1
  obtain⟨b,hb,hv⟩:=e1.1 cs hg
  obtain⟨b',vs,hb',hrow,hc,hvs,hall⟩:=hr.blk l _ hg
  have:b'=b:=by have:=hb'.symm.trans hb;simpa using this
  subst this
  have hrun:=Zi4 hT w e2 hs h1 hrow hq
  have hcells:=e2.cells
  have hul:(a.eval y).cells.toList.length=size:=by rw [hcells.length,hs]
  obtain⟨hr',hI,hL⟩:=Zn8 hr (off:=q) (blk' := .box (splice cs q (Z6 p))) (a.eval y).cells.toList hg hb (.inr (.inl ⟨cs,_,rfl,rfl⟩)) (fun hI hL=>
   ⟨b',splice vs q (a.eval y).cells.toList,hb,by rw [Zm0 _ _ _ (by rw [hs];exact hq)];exact Za5 _ _ _ _ hrow,Zi5 hc (by rw [hul,hvs.length];exact hq),
    (VRs.step hI _ _ (fun m _=>hL m) hvs).splice q (VRs.step hI _ _ (fun m _=>hL m) hcells),by
     unfold splice
     simp only [List.all_append,Bool.and_eq_true]
     exact⟨⟨List.all_eq_true.2 fun z hz=>List.all_eq_true.1 hall z (List.mem_of_mem_take hz),h1⟩,List.all_eq_true.2 fun z hz=>List.all_eq_true.1 hall z (List.mem_of_mem_drop hz)⟩⟩)
  refine⟨undef,w.setCells b' q (a.eval y).cells.toList,.inr ⟨?_,rfl⟩,β,?_⟩
  .simp only [execOp,ho,hv,Sem.run_bind,hrun,Result.andThen_ok,Sem.run_pure]
  .rw [hd];exact hr'
theorem Zatv{ρ:List (Nat×PV)}{σ0:List (Nat×Blk)}{t:TypeId}{x y:Operand}{l q size:Nat}{agg:Bool}{cs:List PV}{p:PV}(ho:o.op = .store t x y)(hd:o.dst=none)(hT:TyF P t agg size)(hx:Zp ρ x=some (.bptr l q))(hy:Zp ρ y=some p)(hg0:get σ0 l=some (.box cs))
 (hs:(Z6 p).length=size) (h1:(Z6 p).all PV.one=true) (hq:q+size<=cs.length):OpF P o ρ σ0 [l] [l] (.tup []) [(l,.box (splice cs q (Z6 p)))]:=by
 rintro G n tm σ a w K Q hag hneed _ ⟨β,hr⟩ hK
 have hg:get σ l=some (.box cs):=by rw [hneed l (by simp)];exact hg0
 have hop:∀ x q,x∈o.op.operands->Zp ρ x=some q->VR (ctx G β w σ) q (a.eval x):=fun x q hx hq=>Zk9 hr hq (fun t r ht hr'=>hag t r (ht▸hx) hr')
 have e1:=hop x _ (by simp [ho,Op.operands]) hx
 have e2:=hop y _ (by simp [ho,Op.operands]) hy
 simp only [VR] at e1
 obtain⟨b,hb,hv⟩:=e1.1 cs hg
 obtain⟨b',vs,hb',hrow,hc,hvs,hall⟩:=hr.blk l _ hg
 have:b'=b:=by have:=hb'.symm.trans hb;simpa using this
 subst this
 have hrun:=Zi4 hT w e2 hs h1 hrow hq
 have hcells:=e2.cells
 have hul:(a.eval y).cells.toList.length=size:=by rw [hcells.length,hs]
 obtain⟨hr',hI,hL⟩:=Zn8 hr (off:=q) (blk' := .box (splice cs q (Z6 p))) (a.eval y).cells.toList hg hb (.inr (.inl ⟨cs,_,rfl,rfl⟩)) (fun hI hL=>
  ⟨b',splice vs q (a.eval y).cells.toList,hb,by rw [Zm0 _ _ _ (by rw [hs];exact hq)];exact Za5 _ _ _ _ hrow,Zi5 hc (by rw [hul,hvs.length];exact hq),
   (VRs.step hI _ _ (fun m _=>hL m) hvs).splice q (VRs.step hI _ _ (fun m _=>hL m) hcells),by
    unfold splice
    simp only [List.all_append,Bool.and_eq_true]
    exact⟨⟨List.all_eq_true.2 fun z hz=>List.all_eq_true.1 hall z (List.mem_of_mem_take hz),h1⟩,List.all_eq_true.2 fun z hz=>List.all_eq_true.1 hall z (List.mem_of_mem_drop hz)⟩⟩)
 have hrun2:(execOp a.eval o).run P w = .ok .skip (w.setCells b' q (a.eval y).cells.toList):=by
  simp only [execOp,ho,hv,Sem.run_bind,hrun,Result.andThen_ok,Sem.run_pure]
 unfold Oper.wp
 rw [hrun2,Oper.upon_skip,hd]
 have:=hK (.tuple #[]) (w.setCells b' q (a.eval y).cells.toList) ⟨β,hr',by simp [VR,VRs]⟩
 rw [hd] at this
 exact this
theorem Z4n{qs:List PV}:∀ {us:List Zf},Zec qs=some us->us.length=qs.length:=by
 induction qs with
 | nil=>intro us h;simp only [Zec,Option.some.injEq] at h;subst h;rfl
 | cons q qs ih=>
  intro us h
  simp only [Zec] at h
  split at h
  .rename_i t ts' _ hts'
   cases h
   simp [ih hts']
  .cases h
theorem Zn9{c:Ctx}:∀ {ps:List PV} {ts:List Zf} {vs:List Value},Zec ps=some ts->VRs c ps vs->VRs c (ts.map .t) vs
 | [],ts,vs,h,hv=>by simp only [Zec,Option.some.injEq] at h;subst h;exact hv
 | p::ps,ts,vs,h,hv=>by
  simp only [Zec] at h
  split at h
  .rename_i t ts' ht hts
   cases h
   simp only [VRs] at hv
   obtain⟨v,rest,rfl,hv,hr⟩:=hv
   simp only [List.map_cons,VRs]
   exact⟨v,rest,rfl,by simpa [VR] using Zats ht hv,Zn9 hts hr⟩
  .cases h
theorem Zdy{c:Ctx}{b:Nat}:∀ {ts:List Zf} {vs:List Value} {off:Nat},VRs c (ts.map .t) vs->(∀ j v,vs[j]?=some v->c.w.cell? ⟨b,off+j,none⟩=some v)->Zx c.I c.w b ts off
 | [],_,_,_,_=>by simp [Zx]
 | t::ts,vs,off,h,hc=>by
  simp only [List.map_cons,VRs] at h
  obtain⟨v,rest,rfl,hv,hr⟩:=h
  simp only [Zx]
  refine⟨⟨v,by simpa using hc 0 v rfl,by simpa [VR] using hv⟩,Zdy hr fun j u hu=>?_⟩
  have:=hc (j+1) u (by simpa using hu)
  rwa [show off+(j+1)=off+1+j by omega] at this
theorem Zx.append{I:Nat->Prop}{w:World}{b:Nat}:∀ {ts us:List Zf} {off:Nat},Zx I w b (ts++us) off↔Zx I w b ts off/\Zx I w b us (off+ts.length)
 | [],us,off=>by simp [Zx]
 | t::ts,us,off=>by
  simp only [List.cons_append,Zx,Zx.append (ts:=ts),List.length_cons,and_assoc]
  rw [show off+(ts.length+1)=off+1+ts.length by omega]
theorem Zr.flat{I:Nat->Prop}{w:World}{b:Nat}:∀ {es:List (List Zf)} {off:Nat},Zr I w b es off↔Zx I w b es.flatten off
 | [],off=>by simp [Zr,Zx]
 | e::es,off=>by
  simp only [Zr,List.flatten_cons,Zx.append,Zr.flat (es:=es)]
theorem Zcv{k:Nat}:∀ {es:List (List Zf)},(∀ el,el∈es->el.length=k)->es.flatten.length=es.length*k
 | [],_=>by simp
 | e::es,h=>by
  rw [List.flatten_cons,List.length_append,Zcv (fun el hel=>h el (List.mem_cons_of_mem _ hel)),h e (by simp),List.length_cons,Nat.add_mul,Nat.one_mul];omega
theorem Z4o{k:Nat}:∀ {es:List (List Zf)} (j q:Nat) (e ts:List Zf),(∀ el,el∈es->el.length=k)->es[j]?=some e->q+ts.length<=k->(es.set j (splice e q ts)).flatten=splice es.flatten (j*k+q) ts
 | [],j,q,e,ts,_,h,_=>by simp at h
 | e0::es,0,q,e,ts,hk,h,hq=>by
  simp at h;subst h
  have h0:=hk e0 (by simp)
  simp only [List.set_cons_zero,List.flatten_cons,splice,Nat.zero_mul,Nat.zero_add]
  rw [List.take_append_of_le_length (by omega),List.drop_append_of_le_length (by omega)]
  simp
 | e0::es,j+1,q,e,ts,hk,h,hq=>by
  have h0:=hk e0 (by simp)
  have ih:=Z4o j q e ts (fun el hel=>hk el (List.mem_cons_of_mem _ hel)) (by simpa using h) hq
  rw [List.set_cons_succ,List.flatten_cons,ih]
  simp only [List.flatten_cons,splice]
  have e1:(j+1)*k+q=k+(j*k+q):=by rw [Nat.add_mul,Nat.one_mul];omega
  rw [e1,List.take_append,List.drop_append,h0]
  have t1:e0.take (k+(j*k+q))=e0:=List.take_of_length_le (by omega)
  have t2:e0.drop (k+(j*k+q)+ts.length)=[]:=List.drop_eq_nil_of_le (by omega)
  rw [t1,t2,show k+(j*k+q) - k=j*k+q by omega,show k+(j*k+q)+ts.length - k=j*k+q+ts.length by omega]
  simp
theorem Za37{t:TypeId}{x y:Operand}{l m j q size k:Nat}{agg:Bool}{es:List (List Zf)}{e ts:List Zf}{p:PV}(ho:o.op = .store t x y)(hd:o.dst=none)(hT:TyF P t agg size)(hx:Zp tm x=some (.rptr l m j q))(hy:Zp tm y=some p)
 (hg:get σ l=some (.row k es)) (hm:es.length=m) (he:es[j]?=some e) (hts:Zec (Z6 p)=some ts) (hs:ts.length=size) (hq:q+size<=k) :
 Zxx P o ⟨n,tm,σ⟩ ⟨n,tm,put σ l (.row k (es.set j (splice e q ts)))⟩:=
 opup fun G β a w hop hr=>by
  have e1:=hop x _ hx
  have e2:=hop y _ hy
  simp only [VR] at e1
  obtain⟨b,hb,hv⟩:=(e1.1 k es hg).2 hm.symm
  obtain⟨hk0,hkl,h⟩:=hr.blk l _ hg
  rcases h with ⟨_,h⟩ | ⟨b',sz,hb',hrow,hsz,hel⟩
  .subst h;simp at he
  .have:b'=b:=by have:=hb'.symm.trans hb;simpa using this
   subst this
   have hlt:j < es.length:=(List.getElem?_eq_some_iff.1 he).1
   have hle:(j+1)*k<=es.length*k:=Nat.mul_le_mul_right _ hlt
   rw [Nat.add_mul,Nat.one_mul] at hle
   have hcl:(Z6 p).length=size:=by rw [<- Z4n hts,hs]
   have hone:(Z6 p).all PV.one=true:=by
    rw [List.all_eq_true]
    intro z hz
    have:∀ {qs:List PV} {us:List Zf},Zec qs=some us->∀ z,z∈qs->z.one=true:=by
     intro qs
     induction qs with
     | nil=>intro us _ z hz;cases hz
     | cons q qs ih=>
      intro us h z hz
      simp only [Zec] at h
      split at h
      .rename_i t ts' ht hts'
       rcases List.mem_cons.1 hz with hz | hz
       .subst hz;cases z<;>simp_all [toT,PV.one]
       .exact ih hts' z hz
      .cases h
    exact this hts z hz
   have hrun:=Zi4 hT w e2 hcl hone hrow (q:=j*k+q) (by omega)
   have hcells:=Zn9 hts e2.cells
   have hul:(a.eval y).cells.toList.length=size:=by rw [hcells.length];simpa using hs
   have hflat:=Zr.flat.1 hel
   obtain⟨vs,hvs,hcs⟩:=Zx.vals (c:=ctx G β w σ) hflat
   have hvl:vs.length=es.length*k:=by rw [hvs.length,List.length_map,Zcv hkl]
   obtain⟨hr',hI,hL⟩:=Zn8 hr (off:=j*k+q) (blk' := .row k (es.set j (splice e q ts))) (a.eval y).cells.toList hg hb (.inl ⟨k,es,_,rfl,rfl,by simp⟩) (fun hI hL=>by
    refine⟨hk0,fun el hel'=>?_,.inr ⟨b',sz,hb,Za5 _ _ _ _ hrow,by simpa using hsz,Zr.flat.2 ?_⟩⟩
    .rcases List.mem_or_eq_of_mem_set hel' with h | h
     .exact hkl el h
     .subst h
      rw [Zm0 _ _ _ (by rw [hs,hkl e (List.mem_of_getElem? he)];exact hq)]
      exact hkl e (List.mem_of_getElem? he)
    .rw [Z4o j q e ts hkl he (by rw [hs];exact hq)]
     refine Zdy (vs:=splice vs (j*k+q) (a.eval y).cells.toList) ?_ (fun j' v hj'=>?_)
     .have h1:=VRs.step hI _ _ (fun m _=>hL m) hvs
      have h2:=VRs.step hI _ _ (fun m _=>hL m) hcells
      have:=h1.splice (j*k+q) h2
      unfold splice at this ⊢
      simpa using this
     .rw [Nat.zero_add]
      exact Zi5 (w:=w) (fun j v hj=>by have:=hcs j v hj;rwa [Nat.zero_add] at this) (by rw [hul,hvl];omega) j' v hj')
   refine⟨undef,w.setCells b' (j*k+q) (a.eval y).cells.toList,.inr ⟨?_,rfl⟩,β,?_⟩
   .simp only [execOp,ho,hv,Sem.run_bind,hrun,Result.andThen_ok,Sem.run_pure]
   .rw [hd];exact hr'
theorem Za6s{ρ:List (Nat×PV)}{σ0:List (Nat×Blk)}{t:TypeId}{x y:Operand}{l m j q size k:Nat}{agg:Bool}{es:List (List Zf)}{e ts:List Zf}{p:PV}(ho:o.op = .store t x y)(hd:o.dst=none)(hT:TyF P t agg size)(hx:Zp ρ x=some (.rptr l m j q))(hy:Zp ρ y=some p)
 (hg0:get σ0 l=some (.row k es)) (hm:es.length=m) (he:es[j]?=some e) (hts:Zec (Z6 p)=some ts) (hs:ts.length=size) (hq:q+size<=k) :
 OpF P o ρ σ0 [l] [l] (.tup []) [(l,.row k (es.set j (splice e q ts)))]:=by
 rintro G n tm σ a w K Q hag hneed _ ⟨β,hr⟩ hK
 have hg:get σ l=some (.row k es):=by rw [hneed l (by simp)];exact hg0
 have hop:∀ x q,x∈o.op.operands->Zp ρ x=some q->VR (ctx G β w σ) q (a.eval x):=fun x q hx hq=>Zk9 hr hq (fun t r ht hr'=>hag t r (ht▸hx) hr')
 have e1:=hop x _ (by simp [ho,Op.operands]) hx
 have e2:=hop y _ (by simp [ho,Op.operands]) hy
 simp only [VR] at e1
 obtain⟨b,hb,hv⟩:=(e1.1 k es hg).2 hm.symm
 obtain⟨hk0,hkl,h⟩:=hr.blk l _ hg
 rcases h with ⟨_,h⟩ | ⟨b',sz,hb',hrow,hsz,hel⟩
 .subst h;simp at he
 .have:b'=b:=by have:=hb'.symm.trans hb;simpa using this
  subst this
  have hlt:j < es.length:=(List.getElem?_eq_some_iff.1 he).1
  have hle:(j+1)*k<=es.length*k:=Nat.mul_le_mul_right _ hlt
  rw [Nat.add_mul,Nat.one_mul] at hle
  have hcl:(Z6 p).length=size:=by rw [<- Z4n hts,hs]
  have hone:(Z6 p).all PV.one=true:=by
   rw [List.all_eq_true]
   intro z hz
   have:∀ {qs:List PV} {us:List Zf},Zec qs=some us->∀ z,z∈qs->z.one=true:=by
    intro qs
    induction qs with
    | nil=>intro us _ z hz;cases hz
    | cons q qs ih=>
     intro us h z hz
     simp only [Zec] at h
     split at h
     .rename_i t ts' ht hts'
      rcases List.mem_cons.1 hz with hz | hz
      .subst hz;cases z<;>simp_all [toT,PV.one]
      .exact ih hts' z hz
     .cases h
   exact this hts z hz
  have hrun:=Zi4 hT w e2 hcl hone hrow (q:=j*k+q) (by omega)
  have hcells:=Zn9 hts e2.cells
  have hul:(a.eval y).cells.toList.length=size:=by rw [hcells.length];simpa using hs
  have hflat:=Zr.flat.1 hel
  obtain⟨vs,hvs,hcs⟩:=Zx.vals (c:=ctx G β w σ) hflat
  have hvl:vs.length=es.length*k:=by rw [hvs.length,List.length_map,Zcv hkl]
  obtain⟨hr',hI,hL⟩:=Zn8 hr (off:=j*k+q) (blk' := .row k (es.set j (splice e q ts))) (a.eval y).cells.toList hg hb (.inl ⟨k,es,_,rfl,rfl,by simp⟩) (fun hI hL=>by
   refine⟨hk0,fun el hel'=>?_,.inr ⟨b',sz,hb,Za5 _ _ _ _ hrow,by simpa using hsz,Zr.flat.2 ?_⟩⟩
   .rcases List.mem_or_eq_of_mem_set hel' with h | h
    .exact hkl el h
    .subst h
     rw [Zm0 _ _ _ (by rw [hs,hkl e (List.mem_of_getElem? he)];exact hq)]
     exact hkl e (List.mem_of_getElem? he)
   .rw [Z4o j q e ts hkl he (by rw [hs];exact hq)]
    refine Zdy (vs:=splice vs (j*k+q) (a.eval y).cells.toList) ?_ (fun j' v hj'=>?_)
    .have h1:=VRs.step hI _ _ (fun m _=>hL m) hvs
     have h2:=VRs.step hI _ _ (fun m _=>hL m) hcells
     have:=h1.splice (j*k+q) h2
     unfold splice at this ⊢
     simpa using this
    .rw [Nat.zero_add]
     exact Zi5 (w:=w) (fun j v hj=>by have:=hcs j v hj;rwa [Nat.zero_add] at this) (by rw [hul,hvl];omega) j' v hj')
  have hrun2:(execOp a.eval o).run P w = .ok .skip (w.setCells b' (j*k+q) (a.eval y).cells.toList):=by
   simp only [execOp,ho,hv,Sem.run_bind,hrun,Result.andThen_ok,Sem.run_pure]
  unfold Oper.wp
  rw [hrun2,Oper.upon_skip,hd]
  have:=hK (.tuple #[]) (w.setCells b' (j*k+q) (a.eval y).cells.toList) ⟨β,hr',by simp [VR,VRs]⟩
  rw [hd] at this
  exact this
end
end Go.PW
