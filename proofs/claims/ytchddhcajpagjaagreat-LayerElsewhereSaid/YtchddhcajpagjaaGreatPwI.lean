import Derived.Test.YtchddhcajpagjaaGreatPwH
set_option linter.all false
namespace Go.PW
open Go.RowKit
section
variable {P:Program} {o:Oper} {ρ:List (Nat×PV)} {σ:List (Nat×Blk)}
theorem Za9z {need : List Nat} {p : PV} (h : ∀ (G : Frm) (β : Nat -> Option Nat) (n : Nat) (tm : List (Nat × PV)) (σ' : List (Nat × Blk)) (a : Act) (w : World),
      (∀ x q,x∈o.op.operands->Zp ρ x=some q->VR (ctx G β w σ') q (a.eval x))->(∀ l,l∈need->get σ' l=get σ l)->Zal G β ⟨n,tm,σ'⟩ a w ->
      ∃ v w',(execOp a.eval o).run P w = .ok (.value v) w'/\Zal G β ⟨n,tm,σ'⟩ a w'/\VR (ctx G β w' σ') p v):Zap P o ρ σ need p []:=by
 intro G n tm σ' a w K Q hag hneed _ hr hK
 obtain⟨β,hr⟩:=hr
 obtain⟨v,w',hv,hr',hp⟩:=h G β n tm σ' a w (fun x q hx hq=>Zk9 hr hq (fun t r ht hr'=>hag t r (ht▸hx) hr')) hneed hr
 unfold Oper.wp
 rw [hv]
 exact hK v w' ⟨β,hr',hp⟩
theorem Z2e(A:Act)(parts:Array (Nat×Operand)):(parts.map fun (i,x)=>(i,A.eval x)).toList=parts.toList.map fun (i,x)=>(i,A.eval x):=Array.toList_map
theorem Zba1{t e:TypeId}{len k bytes:Nat}{zero out:List PV}{ts:List Zf}{parts:Array (Nat×Operand)}{ps:List (Nat×PV)}(ho:o.op = .buildSlice t len parts)(hE:ElF P t e k bytes zero)
 (hp:Zg4 ρ parts.toList=some ps) (hsmall:len*k<=16777216) (hf:Zj0 (Zma k len) (rep len zero) ps=some out) (hts:Zec out=some ts):Zap P o ρ σ [] (.t (.sl (chunk k len ts))) []:=
 Za9z fun G β n tm σ' A w hop _ hr=>by
  have hv:=Zpf (ρ:=ρ) (c:=ctx G β w σ') A.eval parts.toList ps (fun x q hx hq=>hop x q (by simpa [ho,Op.operands] using hx) hq) hp
  obtain⟨us,h1,h2⟩:=Zaec hE (c:=ctx G β w σ') w (vals:=parts.map fun (i,x)=>(i,A.eval x)) (by rw [Z2e];exact hv) hsmall hf
  obtain⟨hr',hI,hnew,hL⟩:=hr.allocImm (.cells us.toArray e)
  refine⟨.slice (some ⟨w.heap.size,0,none⟩) len len,w.alloc (.cells us.toArray e),?_,hr',?_⟩
  .simp only [execOp,ho,Sem.run_bind,h1,Result.andThen_ok,Sem.run_pure]
  .simp only [VR,Z1]
   refine⟨some ⟨w.heap.size,0,none⟩,len,by rw [Zn7],by rw [Zn7];exact Nat.le_refl _,?_,.inr ⟨w.heap.size,0,rfl,hnew,Zr.chunk _ _ _ ?_⟩⟩
   .have:=hE.pos
    have:len<=len*k:=Nat.le_mul_of_pos_right _ this
    simp only [maxLen];omega
   .have h3:=VRs.step hI _ _ (fun l _=>hL l) h2
    exact Z7s 0 hts h3 (fun j v hj=>by rw [Nat.zero_add];exact VRs.cellsAt w us e j v hj)
theorem Zbcu{t e:TypeId}{len k bytes:Nat}{zero out:List PV}{ts:List Zf}{parts:Array (Nat×Operand)}{ps:List (Nat×PV)}(l:Nat)(hlab:1000<=l)(ho:o.op = .buildSlice t len parts)(hE:ElF P t e k bytes zero)
 (hp:Zg4 ρ parts.toList=some ps) (hsmall:len*k<=16777216) (hf:Zj0 (Zma k len) (rep len zero) ps=some out) (hts:Zec out=some ts) (hlen:ts.length=len*k) :
 Zap P o ρ σ [] (.osl l len) [(l,.row k (chunk k len ts))]:=
 Z55 (fun G β n tm σ' A w hop _ hf1 hf2 hr=>by
  have hv:=Zpf (ρ:=ρ) (c:=ctx G β w σ') A.eval parts.toList ps (fun x q hx hq=>(hop x q (by simpa [ho,Op.operands] using hx) hq).1) hp
  obtain⟨us,h1,h2⟩:=Zaec hE (c:=ctx G β w σ') w (vals:=parts.map fun (i,x)=>(i,A.eval x)) (by rw [Z2e];exact hv) hsmall hf
  have houtlen:=h2.length
  have htl:∀ {qs:List PV} {us:List Zf},Zec qs=some us->us.length=qs.length:=by
   intro qs
   induction qs with
   | nil=>intro us h;simp only [Zec,Option.some.injEq] at h;subst h;rfl
   | cons q qs ih=>
    intro us h
    simp only [Zec] at h
    split at h
    .rename_i t ts' _ hts'
     cases h
     simp [ih hts']
    .cases h
  have husl:us.length=len*k:=by rw [houtlen,<- htl hts,hlen]
  have hcells:∀ (c':Ctx),(∀ b,(ctx G β w σ').I b->c'.I b/\c'.w.heap[b]?=(ctx G β w σ').w.heap[b]?)->c'.w=w.alloc (.cells us.toArray e)->Zx c'.I c'.w w.heap.size ts 0:=by
   intro c' hI hw
   have hgen:∀ (qs:List PV) (rs:List Zf) (vs:List Value) (off:Nat),Zec qs=some rs->VRs (ctx G β w σ') qs vs->(∀ j v,vs[j]?=some v->c'.w.cell? ⟨w.heap.size,off+j,none⟩=some v)->Zx c'.I c'.w w.heap.size rs off:=by
    intro qs
    induction qs with
    | nil=>intro rs vs off h _ _;simp only [Zec,Option.some.injEq] at h;subst h;simp [Zx]
    | cons q qs ih=>
     intro rs vs off h hv hc
     simp only [Zec] at h
     split at h
     .rename_i t rs' ht hrs
      cases h
      simp only [VRs] at hv
      obtain⟨v,rest,rfl,hv,hr⟩:=hv
      simp only [Zx]
      refine⟨⟨v,by simpa using hc 0 v rfl,Z1.mono hI t v (Zats ht hv)⟩,ih rs' rest (off+1) hrs hr fun j u hu=>?_⟩
      have:=hc (j+1) u (by simpa using hu)
      rwa [show off+(j+1)=off+1+j by omega] at this
     .cases h
   exact hgen out ts us 0 hts h2 (fun j v hj=>by rw [hw,Nat.zero_add];exact VRs.cellsAt w us e j v hj)
  obtain⟨hr',hrow,hI,hL⟩:=hr.allocOwn us.toArray e l (.row k (chunk k len ts)) hlab trivial hf1 hf2 (fun hI _ hrow=>
   ⟨hE.pos,Zap5 k len ts hlen,.inr ⟨w.heap.size,_,Zdc _ _ _,hrow,by rw [Zn7];simp [husl],Zr.chunk _ _ _ (hcells _ hI rfl)⟩⟩)
  refine⟨.slice (some ⟨w.heap.size,0,none⟩) len len,w.alloc (.cells us.toArray e),?_,_,hr',?_⟩
  .simp only [execOp,ho,Sem.run_bind,h1,Result.andThen_ok,Sem.run_pure]
  .simp only [VR]
   refine⟨fun k' es' hg=>?_,_,_,_,rfl⟩
   have hgs:get ((l,Blk.row k (chunk k len ts))::σ') l=some (.row k (chunk k len ts)):=by simp [get]
   have hg':some (Blk.row k' es')=some (.row k (chunk k len ts)):=hg.symm.trans hgs
   cases hg'
   rw [Zn7]
   refine⟨Nat.le_refl _,fun _=>⟨_,len,rfl,Nat.le_refl _,?_,.inr ⟨w.heap.size,_,rfl,Zdc _ _ _,hrow,by simp [husl]⟩⟩⟩
   have:=hE.pos
   have:len<=len*k:=Nat.le_mul_of_pos_right _ this
   simp only [maxLen];omega) (fun _ _ _ hx hq=>Z0b l hx hq)
theorem Zx.rep{I:Nat->Prop}{w:World}{b:Nat}{z:List Zf}:∀ (n:Nat) (off:Nat),(∀ j off',j < n->off'=off+j*z.length->Zx I w b z off')->Zr I w b (List.replicate n z) off
 | 0,_,_=>by simp [Zr]
 | n+1,off,h=>by
  simp only [List.replicate_succ,Zr]
  refine⟨h 0 off (by omega) (by simp),Zx.rep n (off+z.length) fun j off' hj he=>h (j+1) off' (by omega) ?_⟩
  rw [he,Nat.add_mul,Nat.one_mul];omega
theorem Zba2{t e:TypeId}{x y:Operand}{k bytes:Nat}{zero:List PV}{zs:List Zf}{kl kc:IntKind}{m c:Int}(l:Nat)(hlab:1000<=l)(ho:o.op = .makeSlice t x y)(hE:ElF P t e k bytes zero)(hzs:Zec zero=some zs)
 (hx:Zp ρ x=some (.t (.int kl m))) (hy:Zp ρ y=some (.t (.int kc c))) (h0:0<=m) (hmc:m<=c) (hb:(bytes:Int)*c<=281474976710656) (h63:c<=9223372036854775807) :
 Zap P o ρ σ [] (.osl l m.toNat) [(l,.row k (List.replicate m.toNat zs))]:=
 Z55 (fun G β n tm σ' A w hop _ hf1 hf2 hr=>by
  have h1:=(hop x _ (by simp [ho,Op.operands]) hx).1
  have h2:=(hop y _ (by simp [ho,Op.operands]) hy).1
  simp only [VR,Z1] at h1 h2
  cases hi:P.info? e with
  | none=>have:=hE.info;simp [hi] at this
  | some i=>
   have hik:i.size=k/\i.bytes=bytes:=by have:=hE.info;simpa [hi] using this
   have hz:=hE.z
   unfold Zi3 at hz
   simp only [hi,Option.bind_some,Option.bind_eq_some_iff] at hz
   obtain⟨z,hiz,hz⟩:=hz
   have hzv:∀ c,VRs c zero z.cells.toList:=fun c=>Zhp hz
   have hzl:z.cells.size=k:=by have:=(hzv (ctx G β w σ')).length;rw [hE.len] at this;simpa using this
   have hzsl:zs.length=k:=by
    rw [<- hE.len]
    have htl:∀ {qs:List PV} {us:List Zf},Zec qs=some us->us.length=qs.length:=by
     intro qs
     induction qs with
     | nil=>intro us h;simp only [Zec,Option.some.injEq] at h;subst h;rfl
     | cons q qs ih=>
      intro us h
      simp only [Zec] at h
      split at h
      .rename_i t ts' _ hts'
       cases h
       simp [ih hts']
      .cases h
    exact htl hzs
   have hrun:=run_make (P:=P) w t e i z hE.und hi hiz kl kc m c h0 hmc (by rw [hik.2];exact hb) h63
   rw [hik.1] at hrun
   have hsz:(madeCells z.cells (c.toNat*k)).size=c.toNat*k:=size_madeCells _ _
   have hcell:∀ j i',i' < c.toNat->j < k->(madeCells z.cells (c.toNat*k))[i'*k+j]?=z.cells[j]?:=by
    intro j i' hi' hj
    have hlt:i'*k+j < c.toNat*k:=by
     have:(i'+1)*k<=c.toNat*k:=Nat.mul_le_mul_right _ hi'
     rw [Nat.add_mul,Nat.one_mul] at this
     omega
    simp only [madeCells,Array.getElem?_map,Array.getElem?_range,hlt,if_true,Option.map_some,hzl]
    rw [Nat.mul_comm i' k,Nat.mul_add_mod,Nat.mod_eq_of_lt hj]
    have:j < z.cells.size:=by omega
    simp [this]
   obtain⟨hr',hrow,hI,hL⟩:=hr.allocOwn (madeCells z.cells (c.toNat*k)) e l (.row k (List.replicate m.toNat zs)) hlab trivial hf1 hf2 (fun hI _ hrow=>
    ⟨hE.pos,fun el hel=>by rw [List.eq_of_mem_replicate hel];exact hzsl,.inr ⟨w.heap.size,_,Zdc _ _ _,hrow,by rw [List.length_replicate,hsz];exact Nat.mul_le_mul_right _ (by omega),Zx.rep _ _ fun j off' hj he=>by
     refine Z7s (vs:=z.cells.toList) off' hzs (hzv _) fun j' v hv=>?_
     show (w.alloc _).cell? _=_
     have hj':j' < k:=by
      have:=(List.getElem?_eq_some_iff.1 hv).1
      simp at this;omega
     rw [World.cell?_alloc_new,he,Nat.zero_add,hzsl,hcell j' j (by omega) hj']
     simpa using hv⟩⟩)
   refine⟨.slice (some ⟨w.heap.size,0,none⟩) m.toNat c.toNat,_,?_,_,hr',?_⟩
   .simp only [execOp,ho,h1,h2,Sem.run_bind,hrun,Result.andThen_ok,Sem.run_pure]
   .simp only [VR]
    refine⟨fun k' es' hg=>?_,_,_,_,rfl⟩
    have hgs:get ((l,Blk.row k (List.replicate m.toNat zs))::σ') l=some (.row k (List.replicate m.toNat zs)):=by simp [get]
    have hg':some (Blk.row k' es')=some (.row k (List.replicate m.toNat zs)):=hg.symm.trans hgs
    cases hg'
    rw [List.length_replicate]
    exact⟨Nat.le_refl _,fun _=>⟨_,c.toNat,rfl,by omega,by simp only [maxLen];omega,.inr ⟨w.heap.size,_,rfl,Zdc _ _ _,hrow,by rw [hsz];exact Nat.le_refl _⟩⟩⟩) (fun _ _ _ hx hq=>Z0b l hx hq)
def fieldInfo(P:Program)(s:TypeId)(i:Nat):Option (Nat×Nat):=
 match P.underlying s with
 | some (.struct fs)=>(fs[i]?).bind fun f=>(P.info? f.type).map fun inf=>(f.offset,inf.size)
 | _=>none
theorem Znx{s:TypeId}{i off size b q:Nat}(w:World)(hf:fieldInfo P s i=some (off,size))(hs:size≠0) :
 (Instr.fieldAt s (.pointer (some ⟨b,q,none⟩)) i).run P w = .ok (.pointer (some ⟨b,q+off,none⟩)) w:=by
 unfold fieldInfo at hf
 split at hf
 .rename_i fs hu
  simp only [Option.bind_eq_some_iff,Option.map_eq_some_iff] at hf
  obtain⟨f,hf,inf,hi,he⟩:=hf
  cases he
  simp [Instr.fieldAt,run_underlying hu,hf,Instr.sureAddr,fieldPlace,sizeOf,typeInfo,hi,hs,Addr.add_mid]
 .cases hf
theorem Za31{s:TypeId}{x:Operand}{i l q off size:Nat}{cs:List PV}(ho:o.op = .fieldAddr s x i)(hf:fieldInfo P s i=some (off,size))(hs:size≠0)(hx:Zp ρ x=some (.bptr l q))(hg:get σ l=some (.box cs)) :
 Zap P o ρ σ [l] (.bptr l (q+off)) []:=
 Zbo fun G β n tm σ' A w hop hneed _=>by
  have h1:=hop x _ (by simp [ho,Op.operands]) hx
  simp only [VR] at h1 ⊢
  have hgl:get σ' l=some (.box cs):=(hneed l (by simp)).trans hg
  obtain⟨b,hb,hv⟩:=h1.1 cs hgl
  refine⟨.pointer (some ⟨b,q+off,none⟩),?_,fun cs' hcs'=>⟨b,hb,rfl⟩,_,rfl⟩
  simp only [execOp,ho,hv,Sem.run_bind,Znx w hf hs,Result.andThen_ok,Sem.run_pure]
theorem Za32{s:TypeId}{x:Operand}{i l m j q off size k:Nat}{es:List (List Zf)}(ho:o.op = .fieldAddr s x i)(hf:fieldInfo P s i=some (off,size))(hs:size≠0)(hx:Zp ρ x=some (.rptr l m j q))
 (hg:get σ l=some (.row k es)) (hm:es.length=m):Zap P o ρ σ [l] (.rptr l m j (q+off)) []:=
 Zbo fun G β n tm σ' A w hop hneed _=>by
  have h1:=hop x _ (by simp [ho,Op.operands]) hx
  simp only [VR] at h1 ⊢
  have hgl:get σ' l=some (.row k es):=(hneed l (by simp)).trans hg
  obtain⟨b,hb,hv⟩:=(h1.1 k es hgl).2 hm.symm
  refine⟨.pointer (some ⟨b,j*k+q+off,none⟩),?_,fun k' es' hes'=>?_,_,rfl⟩
  .simp only [execOp,ho,hv,Sem.run_bind,Znx w hf hs,Result.andThen_ok,Sem.run_pure]
  .have:some (Blk.row k' es')=some (.row k es):=Eq.trans (Eq.symm hes') hgl
   cases this
   exact⟨by omega,fun _=>⟨b,hb,by rw [Nat.add_assoc]⟩⟩
theorem Zx.drop{I:Nat->Prop}{w:World}{b:Nat}:∀ (k:Nat) (ts:List Zf) (off:Nat),Zx I w b ts off->Zx I w b (ts.drop k) (off+k)
 | 0,ts,off,h=>by simpa using h
 | k+1,[],off,_=>by simp [Zx]
 | k+1,t::ts,off,h=>by
  simp only [Zx] at h
  have:=Zx.drop k ts (off+1) h.2
  rwa [List.drop_succ_cons,show off+(k+1)=off+1+k by omega]
theorem Za33{s:TypeId}{x:Operand}{i off size:Nat}{cs:List Zf}(ho:o.op = .fieldAddr s x i)(hf:fieldInfo P s i=some (off,size))(hs:size≠0)(hx:Zp ρ x=some (.vptr cs)):Zap P o ρ σ [] (.vptr (cs.drop off)) []:=
 Zbo fun G β n tm σ' A w hop _ _=>by
  have h1:=hop x _ (by simp [ho,Op.operands]) hx
  simp only [VR] at h1 ⊢
  obtain⟨b,q,hv,hI,hc⟩:=h1
  refine⟨.pointer (some ⟨b,q+off,none⟩),?_,b,q+off,rfl,fun hne=>hI (fun e=>hne (by rw [e];simp)),hc.drop off⟩
  simp only [execOp,ho,hv,Sem.run_bind,Znx w hf hs,Result.andThen_ok,Sem.run_pure]
def arrInfo(P:Program)(t:TypeId):Option (Nat×Nat):=
 match P.underlying t with
 | some (.array n e)=>(P.info? e).map fun i=>(n,i.size)
 | _=>none
theorem Zrr{t:TypeId}{len es b q:Nat}{k:IntKind}{i:Int}(w:World)(ha:arrInfo P t=some (len,es))(h0:0<=i)(h1:i < len) :
 (Instr.indexAt t (.pointer (some ⟨b,q,none⟩)) (.int k i)).run P w = .ok (.pointer (some ⟨b,q+i.toNat*es,none⟩)) w:=by
 unfold arrInfo at ha
 split at ha
 .rename_i n e hu
  simp only [Option.map_eq_some_iff] at ha
  obtain⟨inf,hi,he⟩:=ha
  cases he
  have hn:0<=i/\i < len:=⟨h0,h1⟩
  simp [Instr.indexAt,asIntOf,run_underlying hu,Instr.sureAddr,hn,sizeOf,typeInfo,hi,Addr.add_mid]
 .cases ha
theorem Za34{t:TypeId}{x y:Operand}{l q len es:Nat}{cs:List PV}{k:IntKind}{i:Int}(ho:o.op = .indexAddr t x y)(ha:arrInfo P t=some (len,es))(hx:Zp ρ x=some (.bptr l q))(hy:Zp ρ y=some (.t (.int k i)))
 (hg:get σ l=some (.box cs)) (h0:0<=i) (h1:i < len):Zap P o ρ σ [l] (.bptr l (q+i.toNat*es)) []:=
 Zbo fun G β n tm σ' A w hop hneed _=>by
  have e1:=hop x _ (by simp [ho,Op.operands]) hx
  have e2:=hop y _ (by simp [ho,Op.operands]) hy
  simp only [VR,Z1] at e1 e2 ⊢
  have hgl:get σ' l=some (.box cs):=(hneed l (by simp)).trans hg
  obtain⟨b,hb,hv⟩:=e1.1 cs hgl
  refine⟨.pointer (some ⟨b,q+i.toNat*es,none⟩),?_,fun cs' hcs'=>⟨b,hb,rfl⟩,_,rfl⟩
  simp only [execOp,ho,hv,e2,Sem.run_bind,Zrr w ha h0 h1,Result.andThen_ok,Sem.run_pure]
theorem Za1e{t:TypeId}{x y:Operand}{l m j q len es k:Nat}{els:List (List Zf)}{ki:IntKind}{i:Int}(ho:o.op = .indexAddr t x y)(ha:arrInfo P t=some (len,es))(hx:Zp ρ x=some (.rptr l m j q))(hy:Zp ρ y=some (.t (.int ki i)))
 (hg:get σ l=some (.row k els)) (hm:els.length=m) (h0:0<=i) (h1:i < len):Zap P o ρ σ [l] (.rptr l m j (q+i.toNat*es)) []:=
 Zbo fun G β n tm σ' A w hop hneed _=>by
  have e1:=hop x _ (by simp [ho,Op.operands]) hx
  have e2:=hop y _ (by simp [ho,Op.operands]) hy
  simp only [VR,Z1] at e1 e2 ⊢
  have hgl:get σ' l=some (.row k els):=(hneed l (by simp)).trans hg
  obtain⟨b,hb,hv⟩:=(e1.1 k els hgl).2 hm.symm
  refine⟨.pointer (some ⟨b,j*k+q+i.toNat*es,none⟩),?_,fun k' es' hes'=>?_,_,rfl⟩
  .simp only [execOp,ho,hv,e2,Sem.run_bind,Zrr w ha h0 h1,Result.andThen_ok,Sem.run_pure]
  .have:some (Blk.row k' es')=some (.row k els):=Eq.trans (Eq.symm hes') hgl
   cases this
   exact⟨by omega,fun _=>⟨b,hb,by rw [Nat.add_assoc]⟩⟩
theorem Za1f{t:TypeId}{x y:Operand}{len es:Nat}{cs:List Zf}{k:IntKind}{i:Int}(ho:o.op = .indexAddr t x y)(ha:arrInfo P t=some (len,es))(hx:Zp ρ x=some (.vptr cs))(hy:Zp ρ y=some (.t (.int k i)))
 (h0:0<=i) (h1:i < len):Zap P o ρ σ [] (.vptr (cs.drop (i.toNat*es))) []:=
 Zbo fun G β n tm σ' A w hop _ _=>by
  have e1:=hop x _ (by simp [ho,Op.operands]) hx
  have e2:=hop y _ (by simp [ho,Op.operands]) hy
  simp only [VR,Z1] at e1 e2 ⊢
  obtain⟨b,q,hv,hI,hc⟩:=e1
  refine⟨.pointer (some ⟨b,q+i.toNat*es,none⟩),?_,b,q+i.toNat*es,rfl,fun hne=>hI (fun e=>hne (by rw [e];simp)),hc.drop _⟩
  simp only [execOp,ho,hv,e2,Sem.run_bind,Zrr w ha h0 h1,Result.andThen_ok,Sem.run_pure]
def slInfo(P:Program)(t:TypeId):Option Nat:=
 match P.underlying t with
 | some (.slice e)=>(P.info? e).map fun i=>i.size
 | _=>none
theorem Zny{t:TypeId}{es b q len cap:Nat}{k:IntKind}{i:Int}(w:World)(ha:slInfo P t=some es)(h0:0<=i)(h1:i < len) :
 (Instr.indexAt t (.slice (some ⟨b,q,none⟩) len cap) (.int k i)).run P w = .ok (.pointer (some ⟨b,q+i.toNat*es,none⟩)) w:=by
 unfold slInfo at ha
 split at ha
 .rename_i e hu
  simp only [Option.map_eq_some_iff] at ha
  obtain⟨inf,hi,he⟩:=ha
  cases he
  have hn:0<=i/\i < len:=⟨h0,h1⟩
  simp [Instr.indexAt,asIntOf,run_underlying hu,hn,sizeOf,typeInfo,hi,Addr.add_mid]
 .cases ha
theorem Zr.get{I:Nat->Prop}{w:World}{b k:Nat}:∀ {es:List (List Zf)} {off:Nat} (i:Nat) (e:List Zf),Zr I w b es off->(∀ el,el∈es->el.length=k)->es[i]?=some e->Zx I w b e (off+i*k)
 | [],_,i,e,_,_,h=>by simp at h
 | e0::es,off,0,e,h,_,he=>by
  simp only [Zr] at h
  simp at he;subst he
  simpa using h.1
 | e0::es,off,i+1,e,h,hk,he=>by
  simp only [Zr] at h
  have h0:=hk e0 (by simp)
  have:=Zr.get i e h.2 (fun el hel=>hk el (List.mem_cons_of_mem _ hel)) (by simpa using he)
  rw [h0] at this
  rwa [show off+(i+1)*k=off+k+i*k by rw [Nat.add_mul,Nat.one_mul];omega]
theorem Za35{t:TypeId}{x y:Operand}{k:Nat}{es:List (List Zf)}{e:List Zf}{ki:IntKind}{i:Int}(ho:o.op = .indexAddr t x y)(ha:slInfo P t=some k)(hx:Zp ρ x=some (.t (.sl es)))(hy:Zp ρ y=some (.t (.int ki i)))
 (hk:∀ el,el∈es->el.length=k) (h0:0<=i) (he:es[i.toNat]?=some e):Zap P o ρ σ [] (.vptr e) []:=
 Zbo fun G β n tm σ' A w hop _ _=>by
  have e1:=hop x _ (by simp [ho,Op.operands]) hx
  have e2:=hop y _ (by simp [ho,Op.operands]) hy
  simp only [VR,Z1] at e1 e2 ⊢
  obtain⟨a,cap,hv,hlc,hcm,h⟩:=e1
  have hlt:i.toNat < es.length:=(List.getElem?_eq_some_iff.1 he).1
  rcases h with h | ⟨b,q,ha',hI,hel⟩
  .subst h;simp at he
  .subst ha'
   refine⟨.pointer (some ⟨b,q+i.toNat*k,none⟩),?_,b,q+i.toNat*k,rfl,fun _=>hI,hel.get _ e hk he⟩
   simp only [execOp,ho,hv,e2,Sem.run_bind,Zny w ha h0 (by omega:i < es.length),Result.andThen_ok,Sem.run_pure]
theorem Za36{t:TypeId}{x y:Operand}{k l m:Nat}{es:List (List Zf)}{ki:IntKind}{i:Int}(ho:o.op = .indexAddr t x y)(ha:slInfo P t=some k)(hx:Zp ρ x=some (.osl l m))(hy:Zp ρ y=some (.t (.int ki i)))
 (hg:get σ l=some (.row k es)) (hm:es.length=m) (h0:0<=i) (h1:i < m):Zap P o ρ σ [l] (.rptr l m i.toNat 0) []:=
 Zbo fun G β n tm σ' A w hop hneed _=>by
  have e1:=hop x _ (by simp [ho,Op.operands]) hx
  have e2:=hop y _ (by simp [ho,Op.operands]) hy
  simp only [VR,Z1] at e1 e2 ⊢
  have hgl:get σ' l=some (.row k es):=(hneed l (by simp)).trans hg
  obtain⟨a,cap,hv,hmc,hcm,h⟩:=(e1.1 k es hgl).2 hm.symm
  rcases h with ⟨hc,_⟩ | ⟨b,sz,ha',hb,hrow,hsz⟩
  .omega
  .subst ha'
   refine⟨.pointer (some ⟨b,i.toNat*k,none⟩),?_,fun k' es' hes'=>?_,_,rfl⟩
   .simp only [execOp,ho,hv,e2,Sem.run_bind,Zny w ha h0 h1,Result.andThen_ok,Sem.run_pure,Nat.zero_add]
   .have:some (Blk.row k' es')=some (.row k es):=Eq.trans (Eq.symm hes') hgl
    cases this
    exact⟨by omega,fun _=>⟨b,hb,by simp⟩⟩
theorem Zayu{t e:TypeId}{x y:Operand}{len size:Nat}{agg:Bool}{cs:List PV}{p:PV}{k:IntKind}{i:Int}(ho:o.op = .index t x y)(hT:P.underlying t=some (.array len e))(hF:TyF P e agg size)(hx:Zp ρ x=some (.agg cs))(hy:Zp ρ y=some (.t (.int k i)))
 (h0:0<=i) (h1:i < len) (hp:Zc8 agg size (i.toNat*size) cs=some p):Zap P o ρ σ [] p []:=
 Zbo fun G β n tm σ' A w hop _ _=>by
  have e1:=hop x _ (by simp [ho,Op.operands]) hx
  have e2:=hop y _ (by simp [ho,Op.operands]) hy
  simp only [VR,Z1] at e1 e2
  obtain⟨vs,e1,hv⟩:=e1
  obtain⟨v,hr,hv⟩:=Zafb hF w hv hp
  refine⟨v,?_,hv⟩
  have hn:0<=i/\i < len:=⟨h0,h1⟩
  simp only [execOp,ho,e1,e2,Instr.index,asIntOf,Sem.run_bind,Sem.run_pure,run_underlying hT,Result.andThen_ok,hn,and_self,if_true,hF.run_sizeOf w,hr]
theorem Zayv{t:TypeId}{x y:Operand}{s:List UInt8}{b:UInt8}{k:IntKind}{i:Int}(ho:o.op = .index t x y)(hT:P.underlying t=some .string)(hx:Zp ρ x=some (.t (.str s)))(hy:Zp ρ y=some (.t (.int k i)))
 (h0:0<=i) (hb:s[i.toNat]?=some b):Zap P o ρ σ [] (.t (.int .u8 b.toNat)) []:=
 Zbo fun G β n tm σ' A w hop _ _=>by
  have e1:=hop x _ (by simp [ho,Op.operands]) hx
  have e2:=hop y _ (by simp [ho,Op.operands]) hy
  simp only [VR,Z1] at e1 e2 ⊢
  have hlt:=(List.getElem?_eq_some_iff.1 hb).1
  have hbb:=(List.getElem?_eq_some_iff.1 hb).2
  refine⟨.int .u8 b.toNat,?_,rfl⟩
  have hgb:(⟨s.toArray⟩:ByteArray)[i.toNat]?=some b:=by
   rw [getElem?_pos (⟨s.toArray⟩:ByteArray) i.toNat (by simpa [ByteArray.size] using hlt)]
   show some (s.toArray[i.toNat]'_)=_
   simp [hbb]
  simp only [execOp,ho,e1,e2,Instr.index,asIntOf,Sem.run_bind,Sem.run_pure,run_underlying hT,Result.andThen_ok,h0,if_true,hgb]
theorem Zqk{c:Ctx}{t:TypeId}{agg:Bool}{size b q off:Nat}(hT:TyF P t agg size)(w:World){ps:List PV}{vs:List Value}(hv:VRs c ps vs)(hc:∀ j v,vs[j]?=some v->w.cell? ⟨b,q+j,none⟩=some v){p:PV}(hp:Zc8 agg size off ps=some p) :
 ∃ v,(Instr.loadAt t (.pointer (some ⟨b,q+off,none⟩))).run P w = .ok v w/\VR c p v:=by
 cases agg with
 | false=>
  simp only [Zc8,cond_false] at hp
  obtain⟨v,hv1,hv2⟩:=hv.get off p hp
  have:=hc off v hv1
  exact⟨v,by simp [Instr.loadAt,Instr.sureAddr,loadVar,hT.run_isAgg w,this],hv2⟩
 | true=>
  simp only [Zc8,cond_true] at hp
  cases hb:Nat.ble (off+size) ps.length with
  | false=>simp [hb] at hp
  | true=>
   simp only [hb,cond_true,Option.some.injEq] at hp
   subst hp
   rw [Nat.ble_eq] at hb
   have hl:=hv.length
   obtain⟨d,hu,hd⟩:=hT.und
   have hlen:((vs.drop off).take size).length=size:=by simp;omega
   refine⟨.agg ((vs.drop off).take size).toArray,run_loadAt_mid w b (q+off) t _ d (fun j v hj=>?_) hu hd (by rw [hlen];exact hT.size),?_⟩
   .rw [List.getElem?_take] at hj
    split at hj
    .rw [List.getElem?_drop] at hj
     rw [Nat.add_assoc]
     exact hc _ v hj
    .cases hj
   .simp only [VR]
    exact⟨_,rfl,(hv.drop off).take size⟩
theorem Zx.vals{c:Ctx}{b:Nat}:∀ {ts:List Zf} {off:Nat},Zx c.I c.w b ts off->∃ vs,VRs c (ts.map .t) vs/\∀ j v,vs[j]?=some v->c.w.cell? ⟨b,off+j,none⟩=some v
 | [],_,_=>⟨[],by simp [VRs],by simp⟩
 | t::ts,off,h=>by
  simp only [Zx] at h
  obtain⟨⟨v,hv,ht⟩,hr⟩:=h
  obtain⟨vs,h1,h2⟩:=Zx.vals hr
  refine⟨v::vs,by simp only [List.map_cons,VRs];exact⟨v,vs,rfl,by simpa [VR] using ht,h1⟩,fun j u hu=>?_⟩
  cases j with
  | zero=>simp at hu;subst hu;simpa using hv
  | succ j=>
   have:=h2 j u (by simpa using hu)
   rwa [show off+(j+1)=off+1+j by omega]
theorem Zatt{t:TypeId}{x:Operand}{l q size:Nat}{agg:Bool}{cs:List PV}{p:PV}(ho:o.op = .load t x)(hT:TyF P t agg size)(hx:Zp ρ x=some (.bptr l q))(hg:get σ l=some (.box cs))(hp:Zc8 agg size q cs=some p):Zap P o ρ σ [l] p []:=
 Zbo fun G β n tm σ' A w hop hneed hr=>by
  have e1:=hop x _ (by simp [ho,Op.operands]) hx
  simp only [VR] at e1
  have hgl:get σ' l=some (.box cs):=(hneed l (by simp)).trans hg
  obtain⟨b,hb,hv⟩:=e1.1 cs hgl
  obtain⟨b',vs,hb',hrow,hc,hvs,_⟩:=hr.blk l _ hgl
  have:b'=b:=by have:=hb'.symm.trans hb;simpa using this
  subst this
  obtain⟨v,hrun,hpv⟩:=Zqk (q:=0) hT w hvs (fun j v hj=>by rw [Nat.zero_add];exact hc j v hj) hp
  rw [Nat.zero_add] at hrun
  exact⟨v,by simp only [execOp,ho,hv,Sem.run_bind,hrun,Result.andThen_ok,Sem.run_pure],hpv⟩
theorem Za6r{t:TypeId}{x:Operand}{l m j q size k:Nat}{agg:Bool}{es:List (List Zf)}{e:List Zf}{p:PV}(ho:o.op = .load t x)(hT:TyF P t agg size)(hx:Zp ρ x=some (.rptr l m j q))(hg:get σ l=some (.row k es))(hm:es.length=m)
 (he:es[j]?=some e) (hp:Zc8 agg size q (e.map .t)=some p):Zap P o ρ σ [l] p []:=
 Zbo fun G β n tm σ' A w hop hneed hr=>by
  have e1:=hop x _ (by simp [ho,Op.operands]) hx
  simp only [VR] at e1
  have hgl:get σ' l=some (.row k es):=(hneed l (by simp)).trans hg
  obtain⟨b,hb,hv⟩:=(e1.1 k es hgl).2 hm.symm
  obtain⟨hk0,hkl,h⟩:=hr.blk l _ hgl
  rcases h with ⟨_,h⟩ | ⟨b',sz,hb',hrow,hsz,hel⟩
  .subst h;simp at he
  .have:b'=b:=by have:=hb'.symm.trans hb;simpa using this
   subst this
   have hc:=hel.get j e hkl he
   obtain⟨vs,h1,h2⟩:=Zx.vals (c:=ctx G β w σ') hc
   obtain⟨v,hrun,hpv⟩:=Zqk (q:=0+j*k) hT w h1 h2 hp
   rw [Nat.zero_add] at hrun
   exact⟨v,by simp only [execOp,ho,hv,Sem.run_bind,hrun,Result.andThen_ok,Sem.run_pure],hpv⟩
theorem Zatu{t:TypeId}{x:Operand}{size:Nat}{agg:Bool}{cs:List Zf}{p:PV}(ho:o.op = .load t x)(hT:TyF P t agg size)(hx:Zp ρ x=some (.vptr cs))(hp:Zc8 agg size 0 (cs.map .t)=some p):Zap P o ρ σ [] p []:=
 Zbo fun G β n tm σ' A w hop _ hr=>by
  have e1:=hop x _ (by simp [ho,Op.operands]) hx
  simp only [VR] at e1
  obtain⟨b,q,hv,hI,hc⟩:=e1
  obtain⟨vs,h1,h2⟩:=Zx.vals (c:=ctx G β w σ') hc
  obtain⟨v,hrun,hpv⟩:=Zqk (q:=q) hT w h1 h2 hp
  rw [Nat.add_zero] at hrun
  exact⟨v,by simp only [execOp,ho,hv,Sem.run_bind,hrun,Result.andThen_ok,Sem.run_pure],hpv⟩
end
end Go.PW
