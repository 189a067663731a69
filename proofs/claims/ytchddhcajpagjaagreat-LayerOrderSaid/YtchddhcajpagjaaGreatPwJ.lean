import Derived.Test.YtchddhcajpagjaaGreatPwH
set_option linter.all false
namespace Go.PW
open Go.RowKit
section
variable {P:Program} {o:Oper} {ρ:List (Nat×PV)} {Z:List (Nat×Blk)}
theorem Zbch {need : List Nat} {p : PV} (h : ∀ (G : Frm) (β : Nat -> Option Nat) (n : Nat) (tm : List (Nat × PV)) (Z' : List (Nat × Blk)) (a : Act) (w : World),
      (∀ x q,x∈o.op.operands->Zp ρ x=some q->VR (ctx G β w Z') q (a.eval x))->(∀ l,l∈need->get Z' l=get Z l)->Zan G β ⟨n,tm,Z'⟩ a w ->
      ∃ v w',(execOp a.eval o).run P w = .ok (.value v) w'/\Zan G β ⟨n,tm,Z'⟩ a w'/\VR (ctx G β w' Z') p v):Zas P o ρ Z need p []:=by
 intro G n tm Z' a w K Q hag hneed _ hr hK
 obtain⟨β,hr⟩:=hr
 obtain⟨v,w',hv,hr',hp⟩:=h G β n tm Z' a w (fun x q hx hq=>Zlh hr hq (fun t r ht hr'=>hag t r (ht▸hx) hr')) hneed hr
 unfold Oper.wp
 rw [hv]
 exact hK v w' ⟨β,hr',hp⟩
theorem Z2d(A:Act)(parts:Array (Nat×Operand)):(parts.map fun (i,x)=>(i,A.eval x)).toList=parts.toList.map fun (i,x)=>(i,A.eval x):=Array.toList_map
theorem Zbd1{t e:TypeId}{len k bytes:Nat}{zero out:List PV}{ts:List Zf}{parts:Array (Nat×Operand)}{ps:List (Nat×PV)}(ho:o.op = .buildSlice t len parts)(hE:ElF P t e k bytes zero)
 (hp:Zgv ρ parts.toList=some ps) (hsmall:len*k<=16777216) (hf:Zj6 (Zmi k len) (rep len zero) ps=some out) (hts:Zeb out=some ts):Zas P o ρ Z [] (.t (.sl (chunk k len ts))) []:=
 Zbch fun G β n tm Z' A w hop _ hr=>by
  have hv:=Zpo (ρ:=ρ) (c:=ctx G β w Z') A.eval parts.toList ps (fun x q hx hq=>hop x q (by simpa [ho,Op.operands] using hx) hq) hp
  obtain⟨us,h1,h2⟩:=Zad7 hE (c:=ctx G β w Z') w (vals:=parts.map fun (i,x)=>(i,A.eval x)) (by rw [Z2d];exact hv) hsmall hf
  obtain⟨hr',hI,hnew,hL⟩:=hr.allocImm (.cells us.toArray e)
  refine⟨.slice (some ⟨w.heap.size,0,none⟩) len len,w.alloc (.cells us.toArray e),?_,hr',?_⟩
  .simp only [execOp,ho,Sem.run_bind,h1,Result.andThen_ok,Sem.run_pure]
  .simp only [VR,Z0]
   refine⟨some ⟨w.heap.size,0,none⟩,len,by rw [Zoh],by rw [Zoh];exact Nat.le_refl _,?_,.inr ⟨w.heap.size,0,rfl,hnew,Zr.chunk _ _ _ ?_⟩⟩
   .have:=hE.pos
    have:len<=len*k:=Nat.le_mul_of_pos_right _ this
    simp only [maxLen];omega
   .have h3:=VRs.step hI _ _ (fun l _=>hL l) h2
    exact Z7m 0 hts h3 (fun j v hj=>by rw [Nat.zero_add];exact VRs.cellsAt w us e j v hj)
theorem Zbf5{t e:TypeId}{len k bytes:Nat}{zero out:List PV}{ts:List Zf}{parts:Array (Nat×Operand)}{ps:List (Nat×PV)}(l:Nat)(hlab:1000<=l)(ho:o.op = .buildSlice t len parts)(hE:ElF P t e k bytes zero)
 (hp:Zgv ρ parts.toList=some ps) (hsmall:len*k<=16777216) (hf:Zj6 (Zmi k len) (rep len zero) ps=some out) (hts:Zeb out=some ts) (hlen:ts.length=len*k) :
 Zas P o ρ Z [] (.osl l len) [(l,.row k (chunk k len ts))]:=
 Z5y (fun G β n tm Z' A w hop _ hf1 hf2 hr=>by
  have hv:=Zpo (ρ:=ρ) (c:=ctx G β w Z') A.eval parts.toList ps (fun x q hx hq=>(hop x q (by simpa [ho,Op.operands] using hx) hq).1) hp
  obtain⟨us,h1,h2⟩:=Zad7 hE (c:=ctx G β w Z') w (vals:=parts.map fun (i,x)=>(i,A.eval x)) (by rw [Z2d];exact hv) hsmall hf
  have houtlen:=h2.length
  have htl:∀ {qs:List PV} {us:List Zf},Zeb qs=some us->us.length=qs.length:=by
   intro qs
   induction qs with
   | nil=>intro us h;simp only [Zeb,Option.some.injEq] at h;subst h;rfl
   | cons q qs ih=>
    intro us h
    simp only [Zeb] at h
    split at h
    .rename_i t ts' _ hts'
     cases h
     simp [ih hts']
    .cases h
  have husl:us.length=len*k:=by rw [houtlen,<- htl hts,hlen]
  have hcells:∀ (c':Ctx),(∀ b,(ctx G β w Z').I b->c'.I b/\c'.w.heap[b]?=(ctx G β w Z').w.heap[b]?)->c'.w=w.alloc (.cells us.toArray e)->Zw c'.I c'.w w.heap.size ts 0:=by
   intro c' hI hw
   have hgen:∀ (qs:List PV) (rs:List Zf) (vs:List Value) (off:Nat),Zeb qs=some rs->VRs (ctx G β w Z') qs vs->(∀ j v,vs[j]?=some v->c'.w.cell? ⟨w.heap.size,off+j,none⟩=some v)->Zw c'.I c'.w w.heap.size rs off:=by
    intro qs
    induction qs with
    | nil=>intro rs vs off h _ _;simp only [Zeb,Option.some.injEq] at h;subst h;simp [Zw]
    | cons q qs ih=>
     intro rs vs off h hv hc
     simp only [Zeb] at h
     split at h
     .rename_i t rs' ht hrs
      cases h
      simp only [VRs] at hv
      obtain⟨v,rest,rfl,hv,hr⟩:=hv
      simp only [Zw]
      refine⟨⟨v,by simpa using hc 0 v rfl,Z0.mono hI t v (Zaum ht hv)⟩,ih rs' rest (off+1) hrs hr fun j u hu=>?_⟩
      have:=hc (j+1) u (by simpa using hu)
      rwa [show off+(j+1)=off+1+j by omega] at this
     .cases h
   exact hgen out ts us 0 hts h2 (fun j v hj=>by rw [hw,Nat.zero_add];exact VRs.cellsAt w us e j v hj)
  obtain⟨hr',hrow,hI,hL⟩:=hr.allocOwn us.toArray e l (.row k (chunk k len ts)) hlab trivial hf1 hf2 (fun hI _ hrow=>
   ⟨hE.pos,Zaqt k len ts hlen,.inr ⟨w.heap.size,_,Zde _ _ _,hrow,by rw [Zoh];simp [husl],Zr.chunk _ _ _ (hcells _ hI rfl)⟩⟩)
  refine⟨.slice (some ⟨w.heap.size,0,none⟩) len len,w.alloc (.cells us.toArray e),?_,_,hr',?_⟩
  .simp only [execOp,ho,Sem.run_bind,h1,Result.andThen_ok,Sem.run_pure]
  .simp only [VR]
   refine⟨fun k' es' hg=>?_,_,_,_,rfl⟩
   have hgs:get ((l,Blk.row k (chunk k len ts))::Z') l=some (.row k (chunk k len ts)):=by simp [get]
   have hg':some (Blk.row k' es')=some (.row k (chunk k len ts)):=hg.symm.trans hgs
   cases hg'
   rw [Zoh]
   refine⟨Nat.le_refl _,fun _=>⟨_,len,rfl,Nat.le_refl _,?_,.inr ⟨w.heap.size,_,rfl,Zde _ _ _,hrow,by simp [husl]⟩⟩⟩
   have:=hE.pos
   have:len<=len*k:=Nat.le_mul_of_pos_right _ this
   simp only [maxLen];omega) (fun _ _ _ hx hq=>Zz3 l hx hq)
theorem Zw.rep{I:Nat->Prop}{w:World}{b:Nat}{z:List Zf}:∀ (n:Nat) (off:Nat),(∀ j off',j < n->off'=off+j*z.length->Zw I w b z off')->Zr I w b (List.replicate n z) off
 | 0,_,_=>by simp [Zr]
 | n+1,off,h=>by
  simp only [List.replicate_succ,Zr]
  refine⟨h 0 off O (by simp),Zw.rep n (off+z.length) fun j off' hj he=>h (j+1) off' O ?_⟩
  rw [he,Nat.add_mul,Nat.one_mul];omega
theorem Zbd2{t e:TypeId}{x y:Operand}{k bytes:Nat}{zero:List PV}{zs:List Zf}{kl kc:IntKind}{m c:Int}(l:Nat)(hlab:1000<=l)(ho:o.op = .makeSlice t x y)(hE:ElF P t e k bytes zero)(hzs:Zeb zero=some zs)
 (hx:Zp ρ x=some (.t (.int kl m))) (hy:Zp ρ y=some (.t (.int kc c))) (h0:0<=m) (hmc:m<=c) (hb:(bytes:Int)*c<=281474976710656) (h63:c<=9223372036854775807) :
 Zas P o ρ Z [] (.osl l m.toNat) [(l,.row k (List.replicate m.toNat zs))]:=
 Z5y (fun G β n tm Z' A w hop _ hf1 hf2 hr=>by
  have h1:=(hop x _ (by simp [ho,Op.operands]) hx).1
  have h2:=(hop y _ (by simp [ho,Op.operands]) hy).1
  simp only [VR,Z0] at h1 h2
  cases hi:P.info? e with
  | none=>have:=hE.info;simp [hi] at this
  | some i=>
   have hik:i.size=k/\i.bytes=bytes:=by have:=hE.info;simpa [hi] using this
   have hz:=hE.z
   unfold Zi6 at hz
   simp only [hi,Option.bind_some,Option.bind_eq_some_iff] at hz
   obtain⟨z,hiz,hz⟩:=hz
   have hzv:∀ c,VRs c zero z.cells.toList:=fun c=>Zhk hz
   have hzl:z.cells.size=k:=by have:=(hzv (ctx G β w Z')).length;rw [hE.len] at this;simpa using this
   have hzsl:zs.length=k:=by
    rw [<- hE.len]
    have htl:∀ {qs:List PV} {us:List Zf},Zeb qs=some us->us.length=qs.length:=by
     intro qs
     induction qs with
     | nil=>intro us h;simp only [Zeb,Option.some.injEq] at h;subst h;rfl
     | cons q qs ih=>
      intro us h
      simp only [Zeb] at h
      split at h
      .rename_i t ts' _ hts'
       cases h
       simp [ih hts']
      .cases h
    exact htl hzs
   have hrun:=run_make (P:=P) w t e i z hE.und hi hiz kl kc m c h0 hmc (by rw [hik.2];exact hb) h63
   rw [hik.1] at hrun
   have hsz:(madeCells z.cells (c.toNat*k)).size=c.toNat*k:=size_madeCells _ _
   have hcell:∀ j i',i' < c.toNat->j < k->(madeCells z.cells (c.toNat*k))[i'*k+j]?=z.cells[j]?:=by
    intro j i' hi' hj
    have hlt:i'*k+j < c.toNat*k:=by
     have:(i'+1)*k<=c.toNat*k:=Nat.mul_le_mul_right _ hi'
     rw [Nat.add_mul,Nat.one_mul] at this
     omega
    simp only [madeCells,Array.getElem?_map,Array.getElem?_range,hlt,if_true,Option.map_some,hzl]
    rw [Nat.mul_comm i' k,Nat.mul_add_mod,Nat.mod_eq_of_lt hj]
    have:j < z.cells.size:=by omega
    simp [this]
   obtain⟨hr',hrow,hI,hL⟩:=hr.allocOwn (madeCells z.cells (c.toNat*k)) e l (.row k (List.replicate m.toNat zs)) hlab trivial hf1 hf2 (fun hI _ hrow=>
    ⟨hE.pos,fun el hel=>by rw [List.eq_of_mem_replicate hel];exact hzsl,.inr ⟨w.heap.size,_,Zde _ _ _,hrow,by rw [List.length_replicate,hsz];exact Nat.mul_le_mul_right _ O,Zw.rep _ _ fun j off' hj he=>by
     refine Z7m (vs:=z.cells.toList) off' hzs (hzv _) fun j' v hv=>?_
     show (w.alloc _).cell? _=_
     have hj':j' < k:=by
      have:=(List.getElem?_eq_some_iff.1 hv).1
      simp at this;omega
     rw [World.cell?_alloc_new,he,Nat.zero_add,hzsl,hcell j' j O hj']
     simpa using hv⟩⟩)
   refine⟨.slice (some ⟨w.heap.size,0,none⟩) m.toNat c.toNat,_,?_,_,hr',?_⟩
   .simp only [execOp,ho,h1,h2,Sem.run_bind,hrun,Result.andThen_ok,Sem.run_pure]
   .simp only [VR]
    refine⟨fun k' es' hg=>?_,_,_,_,rfl⟩
    have hgs:get ((l,Blk.row k (List.replicate m.toNat zs))::Z') l=some (.row k (List.replicate m.toNat zs)):=by simp [get]
    have hg':some (Blk.row k' es')=some (.row k (List.replicate m.toNat zs)):=hg.symm.trans hgs
    cases hg'
    rw [List.length_replicate]
    exact⟨Nat.le_refl _,fun _=>⟨_,c.toNat,rfl,by omega,by simp only [maxLen];omega,.inr ⟨w.heap.size,_,rfl,Zde _ _ _,hrow,by rw [hsz];exact Nat.le_refl _⟩⟩⟩) (fun _ _ _ hx hq=>Zz3 l hx hq)
def fieldInfo(P:Program)(s:TypeId)(i:Nat):Option (Nat×Nat):=
 match P.underlying s with
 | some (.struct fs)=>(fs[i]?).bind fun f=>(P.info? f.type).map fun inf=>(f.offset,inf.size)
 | _=>none
theorem Zn6{s:TypeId}{i off size b q:Nat}(w:World)(hf:fieldInfo P s i=some (off,size))(hs:size≠0) :
 (Instr.fieldAt s (.pointer (some ⟨b,q,none⟩)) i).run P w = .ok (.pointer (some ⟨b,q+off,none⟩)) w:=by
 unfold fieldInfo at hf
 split at hf
 .rename_i fs hu
  simp only [Option.bind_eq_some_iff,Option.map_eq_some_iff] at hf
  obtain⟨f,hf,inf,hi,he⟩:=hf
  cases he
  simp [Instr.fieldAt,run_underlying hu,hf,Instr.sureAddr,fieldPlace,sizeOf,typeInfo,hi,hs,Addr.add_mid]
 .cases hf
theorem Za51{s:TypeId}{x:Operand}{i l q off size:Nat}{cs:List PV}(ho:o.op = .fieldAddr s x i)(hf:fieldInfo P s i=some (off,size))(hs:size≠0)(hx:Zp ρ x=some (.bptr l q))(hg:get Z l=some (.box cs)) :
 Zas P o ρ Z [l] (.bptr l (q+off)) []:=
 Zbp fun G β n tm Z' A w hop hneed _=>by
  have h1:=hop x _ (by simp [ho,Op.operands]) hx
  simp only [VR] at h1 ⊢
  have hgl:get Z' l=some (.box cs):=(hneed l (by simp)).trans hg
  obtain⟨b,hb,hv⟩:=h1.1 cs hgl
  refine⟨.pointer (some ⟨b,q+off,none⟩),?_,fun cs' hcs'=>⟨b,hb,rfl⟩,_,rfl⟩
  simp only [execOp,ho,hv,Sem.run_bind,Zn6 w hf hs,Result.andThen_ok,Sem.run_pure]
theorem Za52{s:TypeId}{x:Operand}{i l m j q off size k:Nat}{es:List (List Zf)}(ho:o.op = .fieldAddr s x i)(hf:fieldInfo P s i=some (off,size))(hs:size≠0)(hx:Zp ρ x=some (.rptr l m j q))
 (hg:get Z l=some (.row k es)) (hm:es.length=m):Zas P o ρ Z [l] (.rptr l m j (q+off)) []:=
 Zbp fun G β n tm Z' A w hop hneed _=>by
  have h1:=hop x _ (by simp [ho,Op.operands]) hx
  simp only [VR] at h1 ⊢
  have hgl:get Z' l=some (.row k es):=(hneed l (by simp)).trans hg
  obtain⟨b,hb,hv⟩:=(h1.1 k es hgl).2 hm.symm
  refine⟨.pointer (some ⟨b,j*k+q+off,none⟩),?_,fun k' es' hes'=>?_,_,rfl⟩
  .simp only [execOp,ho,hv,Sem.run_bind,Zn6 w hf hs,Result.andThen_ok,Sem.run_pure]
  .have:some (Blk.row k' es')=some (.row k es):=Eq.trans (Eq.symm hes') hgl
   cases this
   exact⟨by omega,fun _=>⟨b,hb,by rw [Nat.add_assoc]⟩⟩
theorem Zw.drop{I:Nat->Prop}{w:World}{b:Nat}:∀ (k:Nat) (ts:List Zf) (off:Nat),Zw I w b ts off->Zw I w b (ts.drop k) (off+k)
 | 0,ts,off,h=>by simpa using h
 | k+1,[],off,_=>by simp [Zw]
 | k+1,t::ts,off,h=>by
  simp only [Zw] at h
  have:=Zw.drop k ts (off+1) h.2
  rwa [List.drop_succ_cons,show off+(k+1)=off+1+k by omega]
theorem Za53{s:TypeId}{x:Operand}{i off size:Nat}{cs:List Zf}(ho:o.op = .fieldAddr s x i)(hf:fieldInfo P s i=some (off,size))(hs:size≠0)(hx:Zp ρ x=some (.vptr cs)):Zas P o ρ Z [] (.vptr (cs.drop off)) []:=
 Zbp fun G β n tm Z' A w hop _ _=>by
  have h1:=hop x _ (by simp [ho,Op.operands]) hx
  simp only [VR] at h1 ⊢
  obtain⟨b,q,hv,hI,hc⟩:=h1
  refine⟨.pointer (some ⟨b,q+off,none⟩),?_,b,q+off,rfl,fun hne=>hI (fun e=>hne (by rw [e];simp)),hc.drop off⟩
  simp only [execOp,ho,hv,Sem.run_bind,Zn6 w hf hs,Result.andThen_ok,Sem.run_pure]
def arrInfo(P:Program)(t:TypeId):Option (Nat×Nat):=
 match P.underlying t with
 | some (.array n e)=>(P.info? e).map fun i=>(n,i.size)
 | _=>none
theorem Zrs{t:TypeId}{len es b q:Nat}{k:IntKind}{i:Int}(w:World)(ha:arrInfo P t=some (len,es))(h0:0<=i)(h1:i < len) :
 (Instr.indexAt t (.pointer (some ⟨b,q,none⟩)) (.int k i)).run P w = .ok (.pointer (some ⟨b,q+i.toNat*es,none⟩)) w:=by
 unfold arrInfo at ha
 split at ha
 .rename_i n e hu
  simp only [Option.map_eq_some_iff] at ha
  obtain⟨inf,hi,he⟩:=ha
  cases he
  have hn:0<=i/\i < len:=⟨h0,h1⟩
  simp [Instr.indexAt,asIntOf,run_underlying hu,Instr.sureAddr,hn,sizeOf,typeInfo,hi,Addr.add_mid]
 .cases ha
theorem Za54{t:TypeId}{x y:Operand}{l q len es:Nat}{cs:List PV}{k:IntKind}{i:Int}(ho:o.op = .indexAddr t x y)(ha:arrInfo P t=some (len,es))(hx:Zp ρ x=some (.bptr l q))(hy:Zp ρ y=some (.t (.int k i)))
 (hg:get Z l=some (.box cs)) (h0:0<=i) (h1:i < len):Zas P o ρ Z [l] (.bptr l (q+i.toNat*es)) []:=
 Zbp fun G β n tm Z' A w hop hneed _=>by
  have e1:=hop x _ (by simp [ho,Op.operands]) hx
  have e2:=hop y _ (by simp [ho,Op.operands]) hy
  simp only [VR,Z0] at e1 e2 ⊢
  have hgl:get Z' l=some (.box cs):=(hneed l (by simp)).trans hg
  obtain⟨b,hb,hv⟩:=e1.1 cs hgl
  refine⟨.pointer (some ⟨b,q+i.toNat*es,none⟩),?_,fun cs' hcs'=>⟨b,hb,rfl⟩,_,rfl⟩
  simp only [execOp,ho,hv,e2,Sem.run_bind,Zrs w ha h0 h1,Result.andThen_ok,Sem.run_pure]
theorem Za2s{t:TypeId}{x y:Operand}{l m j q len es k:Nat}{els:List (List Zf)}{ki:IntKind}{i:Int}(ho:o.op = .indexAddr t x y)(ha:arrInfo P t=some (len,es))(hx:Zp ρ x=some (.rptr l m j q))(hy:Zp ρ y=some (.t (.int ki i)))
 (hg:get Z l=some (.row k els)) (hm:els.length=m) (h0:0<=i) (h1:i < len):Zas P o ρ Z [l] (.rptr l m j (q+i.toNat*es)) []:=
 Zbp fun G β n tm Z' A w hop hneed _=>by
  have e1:=hop x _ (by simp [ho,Op.operands]) hx
  have e2:=hop y _ (by simp [ho,Op.operands]) hy
  simp only [VR,Z0] at e1 e2 ⊢
  have hgl:get Z' l=some (.row k els):=(hneed l (by simp)).trans hg
  obtain⟨b,hb,hv⟩:=(e1.1 k els hgl).2 hm.symm
  refine⟨.pointer (some ⟨b,j*k+q+i.toNat*es,none⟩),?_,fun k' es' hes'=>?_,_,rfl⟩
  .simp only [execOp,ho,hv,e2,Sem.run_bind,Zrs w ha h0 h1,Result.andThen_ok,Sem.run_pure]
  .have:some (Blk.row k' es')=some (.row k els):=Eq.trans (Eq.symm hes') hgl
   cases this
   exact⟨by omega,fun _=>⟨b,hb,by rw [Nat.add_assoc]⟩⟩
theorem Za2t{t:TypeId}{x y:Operand}{len es:Nat}{cs:List Zf}{k:IntKind}{i:Int}(ho:o.op = .indexAddr t x y)(ha:arrInfo P t=some (len,es))(hx:Zp ρ x=some (.vptr cs))(hy:Zp ρ y=some (.t (.int k i)))
 (h0:0<=i) (h1:i < len):Zas P o ρ Z [] (.vptr (cs.drop (i.toNat*es))) []:=
 Zbp fun G β n tm Z' A w hop _ _=>by
  have e1:=hop x _ (by simp [ho,Op.operands]) hx
  have e2:=hop y _ (by simp [ho,Op.operands]) hy
  simp only [VR,Z0] at e1 e2 ⊢
  obtain⟨b,q,hv,hI,hc⟩:=e1
  refine⟨.pointer (some ⟨b,q+i.toNat*es,none⟩),?_,b,q+i.toNat*es,rfl,fun hne=>hI (fun e=>hne (by rw [e];simp)),hc.drop _⟩
  simp only [execOp,ho,hv,e2,Sem.run_bind,Zrs w ha h0 h1,Result.andThen_ok,Sem.run_pure]
def slInfo(P:Program)(t:TypeId):Option Nat:=
 match P.underlying t with
 | some (.slice e)=>(P.info? e).map fun i=>i.size
 | _=>none
theorem Zn7{t:TypeId}{es b q len cap:Nat}{k:IntKind}{i:Int}(w:World)(ha:slInfo P t=some es)(h0:0<=i)(h1:i < len) :
 (Instr.indexAt t (.slice (some ⟨b,q,none⟩) len cap) (.int k i)).run P w = .ok (.pointer (some ⟨b,q+i.toNat*es,none⟩)) w:=by
 unfold slInfo at ha
 split at ha
 .rename_i e hu
  simp only [Option.map_eq_some_iff] at ha
  obtain⟨inf,hi,he⟩:=ha
  cases he
  have hn:0<=i/\i < len:=⟨h0,h1⟩
  simp [Instr.indexAt,asIntOf,run_underlying hu,hn,sizeOf,typeInfo,hi,Addr.add_mid]
 .cases ha
theorem Zr.get{I:Nat->Prop}{w:World}{b k:Nat}:∀ {es:List (List Zf)} {off:Nat} (i:Nat) (e:List Zf),Zr I w b es off->(∀ el,el∈es->el.length=k)->es[i]?=some e->Zw I w b e (off+i*k)
 | [],_,i,e,_,_,h=>by simp at h
 | e0::es,off,0,e,h,_,he=>by
  simp only [Zr] at h
  simp at he;subst he
  simpa using h.1
 | e0::es,off,i+1,e,h,hk,he=>by
  simp only [Zr] at h
  have h0:=hk e0 (by simp)
  have:=Zr.get i e h.2 (fun el hel=>hk el (List.mem_cons_of_mem _ hel)) (by simpa using he)
  rw [h0] at this
  rwa [show off+(i+1)*k=off+k+i*k by rw [Nat.add_mul,Nat.one_mul];omega]
theorem Za55{t:TypeId}{x y:Operand}{k:Nat}{es:List (List Zf)}{e:List Zf}{ki:IntKind}{i:Int}(ho:o.op = .indexAddr t x y)(ha:slInfo P t=some k)(hx:Zp ρ x=some (.t (.sl es)))(hy:Zp ρ y=some (.t (.int ki i)))
 (hk:∀ el,el∈es->el.length=k) (h0:0<=i) (he:es[i.toNat]?=some e):Zas P o ρ Z [] (.vptr e) []:=
 Zbp fun G β n tm Z' A w hop _ _=>by
  have e1:=hop x _ (by simp [ho,Op.operands]) hx
  have e2:=hop y _ (by simp [ho,Op.operands]) hy
  simp only [VR,Z0] at e1 e2 ⊢
  obtain⟨a,cap,hv,hlc,hcm,h⟩:=e1
  have hlt:i.toNat < es.length:=(List.getElem?_eq_some_iff.1 he).1
  rcases h with h | ⟨b,q,ha',hI,hel⟩
  .subst h;simp at he
  .subst ha'
   refine⟨.pointer (some ⟨b,q+i.toNat*k,none⟩),?_,b,q+i.toNat*k,rfl,fun _=>hI,hel.get _ e hk he⟩
   simp only [execOp,ho,hv,e2,Sem.run_bind,Zn7 w ha h0 (by omega:i < es.length),Result.andThen_ok,Sem.run_pure]
theorem Za56{t:TypeId}{x y:Operand}{k l m:Nat}{es:List (List Zf)}{ki:IntKind}{i:Int}(ho:o.op = .indexAddr t x y)(ha:slInfo P t=some k)(hx:Zp ρ x=some (.osl l m))(hy:Zp ρ y=some (.t (.int ki i)))
 (hg:get Z l=some (.row k es)) (hm:es.length=m) (h0:0<=i) (h1:i < m):Zas P o ρ Z [l] (.rptr l m i.toNat 0) []:=
 Zbp fun G β n tm Z' A w hop hneed _=>by
  have e1:=hop x _ (by simp [ho,Op.operands]) hx
  have e2:=hop y _ (by simp [ho,Op.operands]) hy
  simp only [VR,Z0] at e1 e2 ⊢
  have hgl:get Z' l=some (.row k es):=(hneed l (by simp)).trans hg
  obtain⟨a,cap,hv,hmc,hcm,h⟩:=(e1.1 k es hgl).2 hm.symm
  rcases h with ⟨hc,_⟩ | ⟨b,sz,ha',hb,hrow,hsz⟩
  .omega
  .subst ha'
   refine⟨.pointer (some ⟨b,i.toNat*k,none⟩),?_,fun k' es' hes'=>?_,_,rfl⟩
   .simp only [execOp,ho,hv,e2,Sem.run_bind,Zn7 w ha h0 h1,Result.andThen_ok,Sem.run_pure,Nat.zero_add]
   .have:some (Blk.row k' es')=some (.row k es):=Eq.trans (Eq.symm hes') hgl
    cases this
    exact⟨by omega,fun _=>⟨b,hb,by simp⟩⟩
theorem Zazt{t e:TypeId}{x y:Operand}{len size:Nat}{agg:Bool}{cs:List PV}{p:PV}{k:IntKind}{i:Int}(ho:o.op = .index t x y)(hT:P.underlying t=some (.array len e))(hF:TyF P e agg size)(hx:Zp ρ x=some (.agg cs))(hy:Zp ρ y=some (.t (.int k i)))
 (h0:0<=i) (h1:i < len) (hp:Zda agg size (i.toNat*size) cs=some p):Zas P o ρ Z [] p []:=
 Zbp fun G β n tm Z' A w hop _ _=>by
  have e1:=hop x _ (by simp [ho,Op.operands]) hx
  have e2:=hop y _ (by simp [ho,Op.operands]) hy
  simp only [VR,Z0] at e1 e2
  obtain⟨vs,e1,hv⟩:=e1
  obtain⟨v,hr,hv⟩:=Zafe hF w hv hp
  refine⟨v,?_,hv⟩
  have hn:0<=i/\i < len:=⟨h0,h1⟩
  simp only [execOp,ho,e1,e2,Instr.index,asIntOf,Sem.run_bind,Sem.run_pure,run_underlying hT,Result.andThen_ok,hn,and_self,if_true,hF.run_sizeOf w,hr]
theorem Zazu{t:TypeId}{x y:Operand}{s:List UInt8}{b:UInt8}{k:IntKind}{i:Int}(ho:o.op = .index t x y)(hT:P.underlying t=some .string)(hx:Zp ρ x=some (.t (.str s)))(hy:Zp ρ y=some (.t (.int k i)))
 (h0:0<=i) (hb:s[i.toNat]?=some b):Zas P o ρ Z [] (.t (.int .u8 b.toNat)) []:=
 Zbp fun G β n tm Z' A w hop _ _=>by
  have e1:=hop x _ (by simp [ho,Op.operands]) hx
  have e2:=hop y _ (by simp [ho,Op.operands]) hy
  simp only [VR,Z0] at e1 e2 ⊢
  have hlt:=(List.getElem?_eq_some_iff.1 hb).1
  have hbb:=(List.getElem?_eq_some_iff.1 hb).2
  refine⟨.int .u8 b.toNat,?_,rfl⟩
  have hgb:(⟨s.toArray⟩:ByteArray)[i.toNat]?=some b:=by
   rw [getElem?_pos (⟨s.toArray⟩:ByteArray) i.toNat (by simpa [ByteArray.size] using hlt)]
   show some (s.toArray[i.toNat]'_)=_
   simp [hbb]
  simp only [execOp,ho,e1,e2,Instr.index,asIntOf,Sem.run_bind,Sem.run_pure,run_underlying hT,Result.andThen_ok,h0,if_true,hgb]
theorem Zqp{c:Ctx}{t:TypeId}{agg:Bool}{size b q off:Nat}(hT:TyF P t agg size)(w:World){ps:List PV}{vs:List Value}(hv:VRs c ps vs)(hc:∀ j v,vs[j]?=some v->w.cell? ⟨b,q+j,none⟩=some v){p:PV}(hp:Zda agg size off ps=some p) :
 ∃ v,(Instr.loadAt t (.pointer (some ⟨b,q+off,none⟩))).run P w = .ok v w/\VR c p v:=by
 cases agg with
 | false=>
  simp only [Zda,cond_false] at hp
  obtain⟨v,hv1,hv2⟩:=hv.get off p hp
  have:=hc off v hv1
  exact⟨v,by simp [Instr.loadAt,Instr.sureAddr,loadVar,hT.run_isAgg w,this],hv2⟩
 | true=>
  simp only [Zda,cond_true] at hp
  cases hb:Nat.ble (off+size) ps.length with
  | false=>simp [hb] at hp
  | true=>
   simp only [hb,cond_true,Option.some.injEq] at hp
   subst hp
   rw [Nat.ble_eq] at hb
   have hl:=hv.length
   obtain⟨d,hu,hd⟩:=hT.und
   have hlen:((vs.drop off).take size).length=size:=by simp;omega
   refine⟨.agg ((vs.drop off).take size).toArray,run_loadAt_mid w b (q+off) t _ d (fun j v hj=>?_) hu hd (by rw [hlen];exact hT.size),?_⟩
   .rw [List.getElem?_take] at hj
    split at hj
    .rw [List.getElem?_drop] at hj
     rw [Nat.add_assoc]
     exact hc _ v hj
    .cases hj
   .simp only [VR]
    exact⟨_,rfl,(hv.drop off).take size⟩
theorem Zw.vals{c:Ctx}{b:Nat}:∀ {ts:List Zf} {off:Nat},Zw c.I c.w b ts off->∃ vs,VRs c (ts.map .t) vs/\∀ j v,vs[j]?=some v->c.w.cell? ⟨b,off+j,none⟩=some v
 | [],_,_=>⟨[],by simp [VRs],by simp⟩
 | t::ts,off,h=>by
  simp only [Zw] at h
  obtain⟨⟨v,hv,ht⟩,hr⟩:=h
  obtain⟨vs,h1,h2⟩:=Zw.vals hr
  refine⟨v::vs,by simp only [List.map_cons,VRs];exact⟨v,vs,rfl,by simpa [VR] using ht,h1⟩,fun j u hu=>?_⟩
  cases j with
  | zero=>simp at hu;subst hu;simpa using hv
  | succ j=>
   have:=h2 j u (by simpa using hu)
   rwa [show off+(j+1)=off+1+j by omega]
theorem Zaun{t:TypeId}{x:Operand}{l q size:Nat}{agg:Bool}{cs:List PV}{p:PV}(ho:o.op = .load t x)(hT:TyF P t agg size)(hx:Zp ρ x=some (.bptr l q))(hg:get Z l=some (.box cs))(hp:Zda agg size q cs=some p):Zas P o ρ Z [l] p []:=
 Zbp fun G β n tm Z' A w hop hneed hr=>by
  have e1:=hop x _ (by simp [ho,Op.operands]) hx
  simp only [VR] at e1
  have hgl:get Z' l=some (.box cs):=(hneed l (by simp)).trans hg
  obtain⟨b,hb,hv⟩:=e1.1 cs hgl
  obtain⟨b',vs,hb',hrow,hc,hvs,_⟩:=hr.blk l _ hgl
  have:b'=b:=by have:=hb'.symm.trans hb;simpa using this
  subst this
  obtain⟨v,hrun,hpv⟩:=Zqp (q:=0) hT w hvs (fun j v hj=>by rw [Nat.zero_add];exact hc j v hj) hp
  rw [Nat.zero_add] at hrun
  exact⟨v,by simp only [execOp,ho,hv,Sem.run_bind,hrun,Result.andThen_ok,Sem.run_pure],hpv⟩
theorem Za89{t:TypeId}{x:Operand}{l m j q size k:Nat}{agg:Bool}{es:List (List Zf)}{e:List Zf}{p:PV}(ho:o.op = .load t x)(hT:TyF P t agg size)(hx:Zp ρ x=some (.rptr l m j q))(hg:get Z l=some (.row k es))(hm:es.length=m)
 (he:es[j]?=some e) (hp:Zda agg size q (e.map .t)=some p):Zas P o ρ Z [l] p []:=
 Zbp fun G β n tm Z' A w hop hneed hr=>by
  have e1:=hop x _ (by simp [ho,Op.operands]) hx
  simp only [VR] at e1
  have hgl:get Z' l=some (.row k es):=(hneed l (by simp)).trans hg
  obtain⟨b,hb,hv⟩:=(e1.1 k es hgl).2 hm.symm
  obtain⟨hk0,hkl,h⟩:=hr.blk l _ hgl
  rcases h with ⟨_,h⟩ | ⟨b',sz,hb',hrow,hsz,hel⟩
  .subst h;simp at he
  .have:b'=b:=by have:=hb'.symm.trans hb;simpa using this
   subst this
   have hc:=hel.get j e hkl he
   obtain⟨vs,h1,h2⟩:=Zw.vals (c:=ctx G β w Z') hc
   obtain⟨v,hrun,hpv⟩:=Zqp (q:=0+j*k) hT w h1 h2 hp
   rw [Nat.zero_add] at hrun
   exact⟨v,by simp only [execOp,ho,hv,Sem.run_bind,hrun,Result.andThen_ok,Sem.run_pure],hpv⟩
theorem Zauo{t:TypeId}{x:Operand}{size:Nat}{agg:Bool}{cs:List Zf}{p:PV}(ho:o.op = .load t x)(hT:TyF P t agg size)(hx:Zp ρ x=some (.vptr cs))(hp:Zda agg size 0 (cs.map .t)=some p):Zas P o ρ Z [] p []:=
 Zbp fun G β n tm Z' A w hop _ hr=>by
  have e1:=hop x _ (by simp [ho,Op.operands]) hx
  simp only [VR] at e1
  obtain⟨b,q,hv,hI,hc⟩:=e1
  obtain⟨vs,h1,h2⟩:=Zw.vals (c:=ctx G β w Z') hc
  obtain⟨v,hrun,hpv⟩:=Zqp (q:=q) hT w h1 h2 hp
  rw [Nat.add_zero] at hrun
  exact⟨v,by simp only [execOp,ho,hv,Sem.run_bind,hrun,Result.andThen_ok,Sem.run_pure],hpv⟩
end
end Go.PW
namespace Go.PW
open Go.RowKit
theorem Za3(b:Nat):∀ (vs:List Value) (o:Nat) (w:World) (k:Nat),k≠b->(w.setCells b o vs).heap[k]?=w.heap[k]?
 | [],_,_,_,_=>rfl
 | v::vs,o,w,k,h=>by
  simp only [World.setCells]
  rw [Za3 b vs (o+1) _ k h,Below.heap_setCell _ _ _ _ h]
theorem Zck(b:Nat):∀ (vs:List Value) (o:Nat) (w:World),(w.setCells b o vs).heap.size=w.heap.size
 | [],_,_=>rfl
 | v::vs,o,w=>by simp only [World.setCells];rw [Zck b vs];simp
theorem Za5(b:Nat):∀ (vs:List Value) (o:Nat) (w:World),(w.setCells b o vs).os=w.os/\(w.setCells b o vs).tape=w.tape/\(w.setCells b o vs).output=w.output
 | [],_,_=>⟨rfl,rfl,rfl⟩
 | v::vs,o,w=>by simp only [World.setCells];have:=Za5 b vs (o+1) (w.setCell ⟨b,o,none⟩ v);exact this
theorem Zazv{w:World}{b m:Nat}(a:Addr)(v:Value)(h:Za4 w b m):Za4 (w.setCell a v) b m:=by
 obtain⟨cs,e,fr,h1,h2,h3⟩:=h
 by_cases hb:a.block=b
 .subst hb
  refine⟨if a.spot.isSome then cs else cs.setIfInBounds a.off v,e,fr,?_,?_,h3⟩
  .simp only [World.setCell,Array.getElem?_modify,h1,Option.map_some,if_true]
  .split<;>simp [h2]
 .exact⟨cs,e,fr,(Below.heap_setCell w a v b (Ne.symm hb)).trans h1,h2,h3⟩
theorem Za8{b m:Nat}(b':Nat):∀ (vs:List Value) (o:Nat) (w:World),Za4 w b m->Za4 (w.setCells b' o vs) b m
 | [],_,_,h=>h
 | v::vs,o,w,h=>Za8 b' vs (o+1) _ (Zazv _ v h)
theorem Zj8{w:World}{b m o n:Nat}(h:Za4 w b m)(hn:o+n<=m):w.there b o n:=by
 obtain⟨cs,e,fr,h1,h2,h3⟩:=h
 intro j hj
 constructor
 .rw [cell_of_row w b (o+j) cs e fr h1]
  have:o+j < cs.size:=by omega
  simp [this]
 .unfold World.frozen?
  simp only [h1]
  rcases h3 with h3 | h3
  .rw [h3];simp
  .exact h3.elim
theorem Zoi{G:Frm}{β:Nat->Option Nat}{n:Nat}{tm:List (Nat×PV)}{Z:List (Nat×Blk)}{a:Act}{w:World}(h:Zan G β ⟨n,tm,Z⟩ a w){l b off:Nat}{blk blk':Blk}(vs:List Value)
 (hg:get Z l=some blk) (hb:β l=some b)
 (hkind:(∃ k es es',blk = .row k es/\blk' = .row k es'/\es.length<=es'.length)\/(∃ cs cs',blk = .box cs/\blk' = .box cs')\/(∃ k i es cs cs',blk = .prow k i es cs/\blk' = .prow k i es cs'))
 (hblk:(∀ b',(ctx G β w Z).I b'->(ctx G β (w.setCells b off vs) (put Z l blk')).I b'/\(ctx G β (w.setCells b off vs) (put Z l blk')).w.heap[b']?=(ctx G β w Z).w.heap[b']?) ->
  (∀ m,Zal (ctx G β w Z) (ctx G β (w.setCells b off vs) (put Z l blk')) m)->BR (ctx G β (w.setCells b off vs) (put Z l blk')) l blk') :
 Zan G β ⟨n,tm,put Z l blk'⟩ a (w.setCells b off vs) /\
 (∀ b',(ctx G β w Z).I b'->(ctx G β (w.setCells b off vs) (put Z l blk')).I b'/\(ctx G β (w.setCells b off vs) (put Z l blk')).w.heap[b']?=(ctx G β w Z).w.heap[b']?) /\
 (∀ m,Zal (ctx G β w Z) (ctx G β (w.setCells b off vs) (put Z l blk')) m):=by
 have hgs:get (put Z l blk') l=some blk':=Zca Z l blk'
 have hfl:blk.flat/\blk'.flat:=by rcases hkind with ⟨k,es,es',rfl,rfl,_⟩ | ⟨cs,cs',rfl,rfl⟩ | ⟨k,i,es,cs,cs',rfl,rfl⟩<;>exact⟨trivial,trivial⟩
 have hgo:∀ m,m≠l->get (put Z l blk') m=get Z m:=fun m hm=>Zb5 Z blk' (Ne.symm hm)
 have hsep:=h.sep l blk b hg (.inl hb)
 have hnI:∀ b',Imm G β w Z b'->b'≠b:=by
  rintro b' ⟨h1,h2,h3⟩ rfl
  exact h3 l blk hg (.inl hb)
 have hO:∀ m o,m≠l->get Z m=some o->∀ b',Zae β (w.setCells b off vs) m o b'->Zae β w m o b':=fun m o hm hgm b' ho=>ho.of_heap (fun b2 hb2=>Za3 b vs off w b2 (fun e=>by
  subst e
  exact hm (h.inj m l o blk _ hgm hg (.inl hb2) (.inl hb))))
 have hO':∀ b',Zae β (w.setCells b off vs) l blk' b'->Zae β w l blk b':=fun b' ho => .inl (ho.flat hfl.2)
 have hI:∀ b',(ctx G β w Z).I b'->(ctx G β (w.setCells b off vs) (put Z l blk')).I b'/\(ctx G β (w.setCells b off vs) (put Z l blk')).w.heap[b']?=(ctx G β w Z).w.heap[b']?:=fun b' hb'=>by
  refine⟨?_,Za3 b vs off w b' (hnI b' hb')⟩
  obtain⟨h1,h2,h3⟩:=hb'
  .refine⟨by rw [Zck];exact h1,h2,fun m o hm=>?_⟩
   by_cases hml:m=l
   .subst hml
    have:some o=some blk':=Eq.trans (Eq.symm hm) hgs
    cases this
    exact fun ho=>h3 m blk hg (hO' b' ho)
   .have hm':get Z m=some o:=by rw [<- hgo m hml];exact hm
    exact fun ho=>h3 m o hm' (hO m o hml hm' b' ho)
 have hL:∀ m,Zal (ctx G β w Z) (ctx G β (w.setCells b off vs) (put Z l blk')) m:=fun m=>by
  by_cases hml:m=l
  .subst hml
   rcases hkind with ⟨k,es,es',h1,h2,h3⟩ | ⟨cs,cs',h1,h2⟩ | ⟨k,i,es,cs,cs',h1,h2⟩
   .subst h1;subst h2
    have bad:∀ {x:Blk},get (put Z m (Blk.row k es')) m=some x->x = .row k es':=fun hg'=>Option.some.inj (Eq.trans (Eq.symm hg') hgs)
    refine⟨fun k' es'' hg'=>?_,fun cs' hg'=>absurd (bad hg') (by simp),fun k' q' es'' hg'=>absurd (bad hg') (by simp),fun k' es'' hg'=>absurd (bad hg') (by simp),fun _ _ _ _ hg'=>absurd (bad hg') (by simp)⟩
    cases bad hg'
    exact⟨es,hg,h3,fun _=>⟨rfl,fun b' sz _ hr=>Za8 b vs off w hr⟩⟩
   .subst h1;subst h2
    have bad:∀ {x:Blk},get (put Z m (Blk.box cs')) m=some x->x = .box cs':=fun hg'=>Option.some.inj (Eq.trans (Eq.symm hg') hgs)
    exact⟨fun k' es'' hg'=>absurd (bad hg') (by simp),fun cs'' hg'=>⟨cs,hg,rfl⟩,fun k' q' es'' hg'=>absurd (bad hg') (by simp),fun k' es'' hg'=>absurd (bad hg') (by simp),fun _ _ _ _ hg'=>absurd (bad hg') (by simp)⟩
   .subst h1;subst h2
    have bad:∀ {x:Blk},get (put Z m (Blk.prow k i es cs')) m=some x->x = .prow k i es cs':=fun hg'=>Option.some.inj (Eq.trans (Eq.symm hg') hgs)
    refine⟨fun k' es'' hg'=>absurd (bad hg') (by simp),fun cs'' hg'=>absurd (bad hg') (by simp),fun k' q' es'' hg'=>absurd (bad hg') (by simp),fun k' es'' hg'=>absurd (bad hg') (by simp),fun _ _ _ _ hg'=>?_⟩
    cases bad hg'
    exact⟨es,cs,hg,rfl,rfl,fun b' sz _ hr=>Za8 b vs off w hr⟩
  .have hg':get (put Z l blk') m=get Z m:=hgo m hml
   cases hgm:get Z m with
   | none=>exact Zal.none (hg'.trans hgm)
   | some o=>exact Zal.same hg' rfl (fun b2 hb2=>Za3 b vs off w b2 (fun e=>by
    subst e
    exact hml (h.inj m l o blk _ hgm hg (.inl hb2) (.inl hb))))
 refine⟨?_,hI,hL⟩
 have key:∀ m o b',get (put Z l blk') m=some o->Zae β (w.setCells b off vs) m o b'->∃ o2,get Z m=some o2/\Zae β w m o2 b':=fun m o b' hm hb'=>by
  by_cases hml:m=l
  .subst hml
   have:some o=some blk':=Eq.trans (Eq.symm hm) hgs
   cases this
   exact⟨blk,hg,hO' b' hb'⟩
  .have hm':get Z m=some o:=by rw [<- hgo m hml];exact hm
   exact⟨o,hm',hO m o hml hm' b' hb'⟩
 obtain⟨e1,e2,e3⟩:=Za5 b vs off w
 exact { defers := h.defers, sz := h.sz, base := by rw [Zck]; exact h.base, os := e1.trans h.os, tape := e2.trans h.tape, output := e3.trans h.output,
         old:=fun b' hb' ho=>by
          have:b'≠b:=by
           rintro rfl
           rcases hsep.2 with h4 | h4
           .omega
           .exact ho h4
          exact (Za3 b vs off w b' this).trans (h.old b' hb' ho),
         A:=h.A,gl:=h.gl,
         inj:=fun m m' o o' b' hm hm' hb1 hb2=>by
          obtain⟨o1,h1,k1⟩:=key m o b' hm hb1
          obtain⟨o2,h2,k2⟩:=key m' o' b' hm' hb2
          exact h.inj m m' o1 o2 b' h1 h2 k1 k2,
         sep:=fun m o b' hm hb'=>by
          rw [Zck]
          obtain⟨o1,h1,k1⟩:=key m o b' hm hb'
          exact h.sep m o1 b' h1 k1,
         fix:=fun m cs' h1 hm=>by
          by_cases hml:m=l
          .subst hml
           have:some (Blk.box cs')=some blk':=Eq.trans (Eq.symm hm) hgs
           cases this
           rcases hkind with ⟨k,es,es',h2,h3,_⟩ | ⟨cs,cs2,h2,h3⟩ | ⟨_,_,_,_,_,_,h3⟩
           .cases h3
           .subst h2;exact h.fix m cs h1 hg
           .cases h3
          .exact h.fix m cs' h1 (by rw [<- hgo m hml];exact hm),
         row0:=h.row0.step (fun m _=>hL m),
         blk:=fun m o hm=>by
          by_cases hml:m=l
          .subst hml
           have:some o=some blk':=Eq.trans (Eq.symm hm) hgs
           cases this
           exact hblk hI hL
          .have hm':get Z m=some o:=by rw [<- hgo m hml];exact hm
           refine BR.step hI rfl (fun b' hb'=>Za3 b vs off w b' ?_) (fun q _=>hL q) (h.blk m o hm')
           rintro rfl
           exact hml (h.inj m l o blk b' hm' hg hb' (.inl hb)),
         tm:=fun i p hp=>⟨(h.tm i p hp).1,VR.step hI p _ (fun q _=>hL q) (h.tm i p hp).2⟩ }
section
variable {P:Program} {o:Oper} {n:Nat} {tm:List (Nat×PV)} {Z:List (Nat×Blk)}
theorem opup {st' : St} (h : ∀ (G : Frm) (β : Nat -> Option Nat) (a : Act) (w : World), (∀ x q, Zp tm x = some q -> VR (ctx G β w Z) q (a.eval x)) -> Zan G β ⟨n, tm, Z⟩ a w ->
      ∃ v w',((execOp a.eval o).run P w = .ok (.value v) w'\/((execOp a.eval o).run P w = .ok .skip w'/\v=undef))/\∃ β',Zan G β' st' (a.put o.dst v) w'):Zxt P o ⟨n,tm,Z⟩ st':=by
 intro G a w K Q hr hK
 obtain⟨β,hr⟩:=hr
 obtain⟨v,w',hv,β',hr'⟩:=h G β a w (fun x q hq=>Zlh hr hq (fun t r _ hr'=>hr')) hr
 unfold Oper.wp
 rcases hv with hv | ⟨hv,rfl⟩
 .rw [hv];exact hK _ _ ⟨β',hr'⟩
 .rw [hv];exact hK _ _ ⟨β',hr'⟩
theorem opF {ρ : List (Nat × PV)} {need rm : List Nat} {p : PV} {news : List (Nat × Blk)} (h : ∀ (G : Frm) (β : Nat -> Option Nat) (n : Nat) (tm : List (Nat × PV)) (Z' : List (Nat × Blk)) (a : Act) (w : World),
      (∀ x q,x∈o.op.operands->Zp ρ x=some q->VR (ctx G β w Z') q (a.eval x))->(∀ l,l∈need->get Z' l=get Z l)->Zan G β ⟨n,tm,Z'⟩ a w ->
      ∃ v w',(execOp a.eval o).run P w = .ok (.value v) w'/\∃ β',Zan G β' ⟨n,tm,news++Zbo rm Z'⟩ a w'/\VR (ctx G β' w' (news++Zbo rm Z')) p v):OpF P o ρ Z need rm p news:=by
 intro G n tm Z' a w K Q hag hneed _ hr hK
 obtain⟨β,hr⟩:=hr
 obtain⟨v,w',hv,hp⟩:=h G β n tm Z' a w (fun x q hx hq=>Zlh hr hq (fun t r ht hr'=>hag t r (ht▸hx) hr')) hneed hr
 unfold Oper.wp
 rw [hv]
 exact hK v w' hp
theorem Z5z{c:Ctx}{ps:List PV}{vs:List Value}(h:VRs c ps vs)(h1:ps.all PV.one=true):∀ v,v∈vs->v.oneCell'=true:=by
 induction ps generalizing vs with
 | nil=>simp only [VRs] at h;subst h;intro v hv;cases hv
 | cons p ps ih=>
  simp only [VRs] at h
  obtain⟨v,rest,rfl,hv,hr⟩:=h
  simp only [List.all_cons,Bool.and_eq_true] at h1
  intro u hu
  rcases List.mem_cons.1 hu with hu | hu
  .subst hu;exact hv.oneCell h1.1
  .exact ih hr h1.2 u hu
theorem Zi7{c:Ctx}{t:TypeId}{agg:Bool}{size b q m:Nat}(hT:TyF P t agg size)(w:World){p:PV}{v:Value}(hv:VR c p v)(hs:(Z7 p).length=size)(h1:(Z7 p).all PV.one=true)(hr:Za4 w b m)(hm:q+size<=m) :
 (Instr.storeAt t (.pointer (some ⟨b,q,none⟩)) v).run P w = .ok () (w.setCells b q v.cells.toList):=by
 have hc:=hv.cells
 have hl:v.cells.size=size:=by rw [<- Array.length_toList,hc.length,hs]
 have hst:=run_storeCells_cells (P:=P) b q v.cells.toList 0 w (fun j hj=>by
  have:=Zj8 hr hm j (by simp at hj;omega)
  rw [Nat.add_zero];exact this.1) (fun j hj=>by
  have:=Zj8 hr hm j (by simp at hj;omega)
  rw [Nat.add_zero];exact this.2) (Z5z hc h1)
 rw [Nat.add_zero] at hst
 simp only [Instr.storeAt,Instr.sureAddr,Sem.run_bind,Sem.run_pure,Result.andThen_ok,storeVar,hT.run_sizeOf w,hl,ne_eq,not_true_eq_false,if_false,hst]
theorem Zi8{w:World}{b q:Nat}{vs us:List Value}(hc:Z5v w b vs)(hq:q+us.length<=vs.length):Z5v (w.setCells b q us) b (PW.splice vs q us):=by
 have hthere:∀ j,j < us.length->(w.cell? ⟨b,q+j,none⟩).isSome=true:=fun j hj=>by
  have:vs[q+j]?=some vs[q+j]:=List.getElem?_eq_getElem O
  rw [hc _ _ this];rfl
 intro j v hj
 unfold PW.splice at hj
 rcases Nat.lt_or_ge j q with h | h
 .rw [World.cell?_setCells_out b us q w ⟨b,j,none⟩ (fun _ _ => .inl h)]
  rw [List.append_assoc,List.getElem?_append_left (by simp;omega),List.getElem?_take,if_pos h] at hj
  exact hc j v hj
 .rcases Nat.lt_or_ge j (q+us.length) with h' | h'
  .have:=World.cell?_setCells_in b us q w hthere (j - q) O
   rw [show q+(j - q)=j by omega] at this
   rw [this]
   rw [List.append_assoc,List.getElem?_append_right (by simp;omega),List.getElem?_append_left (by simp;omega)] at hj
   have e:j - (vs.take q).length=j - q:=by simp;omega
   rw [e,List.getElem?_eq_getElem O] at hj
   exact hj
  .rw [World.cell?_setCells_out b us q w ⟨b,j,none⟩ (fun _ _ => .inr h')]
   rw [List.getElem?_append_right (by simp;omega),List.getElem?_drop] at hj
   have e:q+us.length+(j - (vs.take q++us).length)=j:=by simp;omega
   rw [e] at hj
   exact hc j v hj
theorem VRs.splice{c:Ctx}{ps qs:List PV}{vs us:List Value}(q:Nat)(h:VRs c ps vs)(k:VRs c qs us):VRs c (PW.splice ps q qs) (PW.splice vs q us):=by
 unfold PW.splice
 rw [k.length]
 exact ((h.take q).append k).append (h.drop _)
theorem Zm8{α:Type}(cs:List α)(q:Nat)(ds:List α)(h:q+ds.length<=cs.length):(splice cs q ds).length=cs.length:=by simp [splice];omega
theorem Zaqu{t:TypeId}{x y:Operand}{l q size:Nat}{agg:Bool}{cs:List PV}{p:PV}(ho:o.op = .store t x y)(hd:o.dst=none)(hT:TyF P t agg size)(hx:Zp tm x=some (.bptr l q))(hy:Zp tm y=some p)(hg:get Z l=some (.box cs))
 (hs:(Z7 p).length=size) (h1:(Z7 p).all PV.one=true) (hq:q+size<=cs.length):Zxt P o ⟨n,tm,Z⟩ ⟨n,tm,put Z l (.box (splice cs q (Z7 p)))⟩:=
 opup fun G β a w hop hr=>by
  have e1:=hop x _ hx
  have e2:=hop y _ hy
  simp only [VR] at e1
  obtain⟨b,hb,hv⟩:=e1.1 cs hg
  obtain⟨b',vs,hb',hrow,hc,hvs,hall⟩:=hr.blk l _ hg
  have:b'=b:=by have:=hb'.symm.trans hb;simpa using this
  subst this
  have hrun:=Zi7 hT w e2 hs h1 hrow hq
  have hcells:=e2.cells
  have hul:(a.eval y).cells.toList.length=size:=by rw [hcells.length,hs]
  obtain⟨hr',hI,hL⟩:=Zoi hr (off:=q) (blk' := .box (splice cs q (Z7 p))) (a.eval y).cells.toList hg hb (.inr (.inl ⟨cs,_,rfl,rfl⟩)) (fun hI hL=>
   ⟨b',splice vs q (a.eval y).cells.toList,hb,by rw [Zm8 _ _ _ (by rw [hs];exact hq)];exact Za8 _ _ _ _ hrow,Zi8 hc (by rw [hul,hvs.length];exact hq),
    (VRs.step hI _ _ (fun m _=>hL m) hvs).splice q (VRs.step hI _ _ (fun m _=>hL m) hcells),by
     unfold splice
     simp only [List.all_append,Bool.and_eq_true]
     exact⟨⟨List.all_eq_true.2 fun z hz=>List.all_eq_true.1 hall z (List.mem_of_mem_take hz),h1⟩,List.all_eq_true.2 fun z hz=>List.all_eq_true.1 hall z (List.mem_of_mem_drop hz)⟩⟩)
  refine⟨undef,w.setCells b' q (a.eval y).cells.toList,.inr ⟨?_,rfl⟩,β,?_⟩
  .simp only [execOp,ho,hv,Sem.run_bind,hrun,Result.andThen_ok,Sem.run_pure]
  .rw [hd];exact hr'
theorem Zaup{ρ:List (Nat×PV)}{σ0:List (Nat×Blk)}{t:TypeId}{x y:Operand}{l q size:Nat}{agg:Bool}{cs:List PV}{p:PV}(ho:o.op = .store t x y)(hd:o.dst=none)(hT:TyF P t agg size)(hx:Zp ρ x=some (.bptr l q))(hy:Zp ρ y=some p)(hg0:get σ0 l=some (.box cs))
 (hs:(Z7 p).length=size) (h1:(Z7 p).all PV.one=true) (hq:q+size<=cs.length):OpF P o ρ σ0 [l] [l] (.tup []) [(l,.box (splice cs q (Z7 p)))]:=by
 rintro G n tm Z a w K Q hag hneed _ ⟨β,hr⟩ hK
 have hg:get Z l=some (.box cs):=by rw [hneed l (by simp)];exact hg0
 have hop:∀ x q,x∈o.op.operands->Zp ρ x=some q->VR (ctx G β w Z) q (a.eval x):=fun x q hx hq=>Zlh hr hq (fun t r ht hr'=>hag t r (ht▸hx) hr')
 have e1:=hop x _ (by simp [ho,Op.operands]) hx
 have e2:=hop y _ (by simp [ho,Op.operands]) hy
 simp only [VR] at e1
 obtain⟨b,hb,hv⟩:=e1.1 cs hg
 obtain⟨b',vs,hb',hrow,hc,hvs,hall⟩:=hr.blk l _ hg
 have:b'=b:=by have:=hb'.symm.trans hb;simpa using this
 subst this
 have hrun:=Zi7 hT w e2 hs h1 hrow hq
 have hcells:=e2.cells
 have hul:(a.eval y).cells.toList.length=size:=by rw [hcells.length,hs]
 obtain⟨hr',hI,hL⟩:=Zoi hr (off:=q) (blk' := .box (splice cs q (Z7 p))) (a.eval y).cells.toList hg hb (.inr (.inl ⟨cs,_,rfl,rfl⟩)) (fun hI hL=>
  ⟨b',splice vs q (a.eval y).cells.toList,hb,by rw [Zm8 _ _ _ (by rw [hs];exact hq)];exact Za8 _ _ _ _ hrow,Zi8 hc (by rw [hul,hvs.length];exact hq),
   (VRs.step hI _ _ (fun m _=>hL m) hvs).splice q (VRs.step hI _ _ (fun m _=>hL m) hcells),by
    unfold splice
    simp only [List.all_append,Bool.and_eq_true]
    exact⟨⟨List.all_eq_true.2 fun z hz=>List.all_eq_true.1 hall z (List.mem_of_mem_take hz),h1⟩,List.all_eq_true.2 fun z hz=>List.all_eq_true.1 hall z (List.mem_of_mem_drop hz)⟩⟩)
 have hrun2:(execOp a.eval o).run P w = .ok .skip (w.setCells b' q (a.eval y).cells.toList):=by
  simp only [execOp,ho,hv,Sem.run_bind,hrun,Result.andThen_ok,Sem.run_pure]
 unfold Oper.wp
 rw [hrun2,Oper.upon_skip,hd]
 have:=hK (.tuple #[]) (w.setCells b' q (a.eval y).cells.toList) ⟨β,hr',by simp [VR,VRs]⟩
 rw [hd] at this
 exact this
theorem Z4l{qs:List PV}:∀ {us:List Zf},Zeb qs=some us->us.length=qs.length:=by
 induction qs with
 | nil=>intro us h;simp only [Zeb,Option.some.injEq] at h;subst h;rfl
 | cons q qs ih=>
  intro us h
  simp only [Zeb] at h
  split at h
  .rename_i t ts' _ hts'
   cases h
   simp [ih hts']
  .cases h
theorem Zoj{c:Ctx}:∀ {ps:List PV} {ts:List Zf} {vs:List Value},Zeb ps=some ts->VRs c ps vs->VRs c (ts.map .t) vs
 | [],ts,vs,h,hv=>by simp only [Zeb,Option.some.injEq] at h;subst h;exact hv
 | p::ps,ts,vs,h,hv=>by
  simp only [Zeb] at h
  split at h
  .rename_i t ts' ht hts
   cases h
   simp only [VRs] at hv
   obtain⟨v,rest,rfl,hv,hr⟩:=hv
   simp only [List.map_cons,VRs]
   exact⟨v,rest,rfl,by simpa [VR] using Zaum ht hv,Zoj hts hr⟩
  .cases h
theorem Zdx{c:Ctx}{b:Nat}:∀ {ts:List Zf} {vs:List Value} {off:Nat},VRs c (ts.map .t) vs->(∀ j v,vs[j]?=some v->c.w.cell? ⟨b,off+j,none⟩=some v)->Zw c.I c.w b ts off
 | [],_,_,_,_=>by simp [Zw]
 | t::ts,vs,off,h,hc=>by
  simp only [List.map_cons,VRs] at h
  obtain⟨v,rest,rfl,hv,hr⟩:=h
  simp only [Zw]
  refine⟨⟨v,by simpa using hc 0 v rfl,by simpa [VR] using hv⟩,Zdx hr fun j u hu=>?_⟩
  have:=hc (j+1) u (by simpa using hu)
  rwa [show off+(j+1)=off+1+j by omega] at this
theorem Zw.append{I:Nat->Prop}{w:World}{b:Nat}:∀ {ts us:List Zf} {off:Nat},Zw I w b (ts++us) off↔Zw I w b ts off/\Zw I w b us (off+ts.length)
 | [],us,off=>by simp [Zw]
 | t::ts,us,off=>by
  simp only [List.cons_append,Zw,Zw.append (ts:=ts),List.length_cons,and_assoc]
  rw [show off+(ts.length+1)=off+1+ts.length by omega]
theorem Zr.flat{I:Nat->Prop}{w:World}{b:Nat}:∀ {es:List (List Zf)} {off:Nat},Zr I w b es off↔Zw I w b es.flatten off
 | [],off=>by simp [Zr,Zw]
 | e::es,off=>by
  simp only [Zr,List.flatten_cons,Zw.append,Zr.flat (es:=es)]
theorem Zcz{k:Nat}:∀ {es:List (List Zf)},(∀ el,el∈es->el.length=k)->es.flatten.length=es.length*k
 | [],_=>by simp
 | e::es,h=>by
  rw [List.flatten_cons,List.length_append,Zcz (fun el hel=>h el (List.mem_cons_of_mem _ hel)),h e (by simp),List.length_cons,Nat.add_mul,Nat.one_mul];omega
theorem Z4m{k:Nat}:∀ {es:List (List Zf)} (j q:Nat) (e ts:List Zf),(∀ el,el∈es->el.length=k)->es[j]?=some e->q+ts.length<=k->(es.set j (splice e q ts)).flatten=splice es.flatten (j*k+q) ts
 | [],j,q,e,ts,_,h,_=>by simp at h
 | e0::es,0,q,e,ts,hk,h,hq=>by
  simp at h;subst h
  have h0:=hk e0 (by simp)
  simp only [List.set_cons_zero,List.flatten_cons,splice,Nat.zero_mul,Nat.zero_add]
  rw [List.take_append_of_le_length O,List.drop_append_of_le_length O]
  simp
 | e0::es,j+1,q,e,ts,hk,h,hq=>by
  have h0:=hk e0 (by simp)
  have ih:=Z4m j q e ts (fun el hel=>hk el (List.mem_cons_of_mem _ hel)) (by simpa using h) hq
  rw [List.set_cons_succ,List.flatten_cons,ih]
  simp only [List.flatten_cons,splice]
  have e1:(j+1)*k+q=k+(j*k+q):=by rw [Nat.add_mul,Nat.one_mul];omega
  rw [e1,List.take_append,List.drop_append,h0]
  have t1:e0.take (k+(j*k+q))=e0:=List.take_of_length_le O
  have t2:e0.drop (k+(j*k+q)+ts.length)=[]:=List.drop_eq_nil_of_le O
  rw [t1,t2,show k+(j*k+q) - k=j*k+q by omega,show k+(j*k+q)+ts.length - k=j*k+q+ts.length by omega]
  simp
theorem Za57{t:TypeId}{x y:Operand}{l m j q size k:Nat}{agg:Bool}{es:List (List Zf)}{e ts:List Zf}{p:PV}(ho:o.op = .store t x y)(hd:o.dst=none)(hT:TyF P t agg size)(hx:Zp tm x=some (.rptr l m j q))(hy:Zp tm y=some p)
 (hg:get Z l=some (.row k es)) (hm:es.length=m) (he:es[j]?=some e) (hts:Zeb (Z7 p)=some ts) (hs:ts.length=size) (hq:q+size<=k) :
 Zxt P o ⟨n,tm,Z⟩ ⟨n,tm,put Z l (.row k (es.set j (splice e q ts)))⟩:=
 opup fun G β a w hop hr=>by
  have e1:=hop x _ hx
  have e2:=hop y _ hy
  simp only [VR] at e1
  obtain⟨b,hb,hv⟩:=(e1.1 k es hg).2 hm.symm
  obtain⟨hk0,hkl,h⟩:=hr.blk l _ hg
  rcases h with ⟨_,h⟩ | ⟨b',sz,hb',hrow,hsz,hel⟩
  .subst h;simp at he
  .have:b'=b:=by have:=hb'.symm.trans hb;simpa using this
   subst this
   have hlt:j < es.length:=(List.getElem?_eq_some_iff.1 he).1
   have hle:(j+1)*k<=es.length*k:=Nat.mul_le_mul_right _ hlt
   rw [Nat.add_mul,Nat.one_mul] at hle
   have hcl:(Z7 p).length=size:=by rw [<- Z4l hts,hs]
   have hone:(Z7 p).all PV.one=true:=by
    rw [List.all_eq_true]
    intro z hz
    have:∀ {qs:List PV} {us:List Zf},Zeb qs=some us->∀ z,z∈qs->z.one=true:=by
     intro qs
     induction qs with
     | nil=>intro us _ z hz;cases hz
     | cons q qs ih=>
      intro us h z hz
      simp only [Zeb] at h
      split at h
      .rename_i t ts' ht hts'
       rcases List.mem_cons.1 hz with hz | hz
       .subst hz;cases z<;>simp_all [toT,PV.one]
       .exact ih hts' z hz
      .cases h
    exact this hts z hz
   have hrun:=Zi7 hT w e2 hcl hone hrow (q:=j*k+q) O
   have hcells:=Zoj hts e2.cells
   have hul:(a.eval y).cells.toList.length=size:=by rw [hcells.length];simpa using hs
   have hflat:=Zr.flat.1 hel
   obtain⟨vs,hvs,hcs⟩:=Zw.vals (c:=ctx G β w Z) hflat
   have hvl:vs.length=es.length*k:=by rw [hvs.length,List.length_map,Zcz hkl]
   obtain⟨hr',hI,hL⟩:=Zoi hr (off:=j*k+q) (blk' := .row k (es.set j (splice e q ts))) (a.eval y).cells.toList hg hb (.inl ⟨k,es,_,rfl,rfl,by simp⟩) (fun hI hL=>by
    refine⟨hk0,fun el hel'=>?_,.inr ⟨b',sz,hb,Za8 _ _ _ _ hrow,by simpa using hsz,Zr.flat.2 ?_⟩⟩
    .rcases List.mem_or_eq_of_mem_set hel' with h | h
     .exact hkl el h
     .subst h
      rw [Zm8 _ _ _ (by rw [hs,hkl e (List.mem_of_getElem? he)];exact hq)]
      exact hkl e (List.mem_of_getElem? he)
    .rw [Z4m j q e ts hkl he (by rw [hs];exact hq)]
     refine Zdx (vs:=splice vs (j*k+q) (a.eval y).cells.toList) ?_ (fun j' v hj'=>?_)
     .have h1:=VRs.step hI _ _ (fun m _=>hL m) hvs
      have h2:=VRs.step hI _ _ (fun m _=>hL m) hcells
      have:=h1.splice (j*k+q) h2
      unfold splice at this ⊢
      simpa using this
     .rw [Nat.zero_add]
      exact Zi8 (w:=w) (fun j v hj=>by have:=hcs j v hj;rwa [Nat.zero_add] at this) (by rw [hul,hvl];omega) j' v hj')
   refine⟨undef,w.setCells b' (j*k+q) (a.eval y).cells.toList,.inr ⟨?_,rfl⟩,β,?_⟩
   .simp only [execOp,ho,hv,Sem.run_bind,hrun,Result.andThen_ok,Sem.run_pure]
   .rw [hd];exact hr'
theorem Za9a{ρ:List (Nat×PV)}{σ0:List (Nat×Blk)}{t:TypeId}{x y:Operand}{l m j q size k:Nat}{agg:Bool}{es:List (List Zf)}{e ts:List Zf}{p:PV}(ho:o.op = .store t x y)(hd:o.dst=none)(hT:TyF P t agg size)(hx:Zp ρ x=some (.rptr l m j q))(hy:Zp ρ y=some p)
 (hg0:get σ0 l=some (.row k es)) (hm:es.length=m) (he:es[j]?=some e) (hts:Zeb (Z7 p)=some ts) (hs:ts.length=size) (hq:q+size<=k) :
 OpF P o ρ σ0 [l] [l] (.tup []) [(l,.row k (es.set j (splice e q ts)))]:=by
 rintro G n tm Z a w K Q hag hneed _ ⟨β,hr⟩ hK
 have hg:get Z l=some (.row k es):=by rw [hneed l (by simp)];exact hg0
 have hop:∀ x q,x∈o.op.operands->Zp ρ x=some q->VR (ctx G β w Z) q (a.eval x):=fun x q hx hq=>Zlh hr hq (fun t r ht hr'=>hag t r (ht▸hx) hr')
 have e1:=hop x _ (by simp [ho,Op.operands]) hx
 have e2:=hop y _ (by simp [ho,Op.operands]) hy
 simp only [VR] at e1
 obtain⟨b,hb,hv⟩:=(e1.1 k es hg).2 hm.symm
 obtain⟨hk0,hkl,h⟩:=hr.blk l _ hg
 rcases h with ⟨_,h⟩ | ⟨b',sz,hb',hrow,hsz,hel⟩
 .subst h;simp at he
 .have:b'=b:=by have:=hb'.symm.trans hb;simpa using this
  subst this
  have hlt:j < es.length:=(List.getElem?_eq_some_iff.1 he).1
  have hle:(j+1)*k<=es.length*k:=Nat.mul_le_mul_right _ hlt
  rw [Nat.add_mul,Nat.one_mul] at hle
  have hcl:(Z7 p).length=size:=by rw [<- Z4l hts,hs]
  have hone:(Z7 p).all PV.one=true:=by
   rw [List.all_eq_true]
   intro z hz
   have:∀ {qs:List PV} {us:List Zf},Zeb qs=some us->∀ z,z∈qs->z.one=true:=by
    intro qs
    induction qs with
    | nil=>intro us _ z hz;cases hz
    | cons q qs ih=>
     intro us h z hz
     simp only [Zeb] at h
     split at h
     .rename_i t ts' ht hts'
      rcases List.mem_cons.1 hz with hz | hz
      .subst hz;cases z<;>simp_all [toT,PV.one]
      .exact ih hts' z hz
     .cases h
   exact this hts z hz
  have hrun:=Zi7 hT w e2 hcl hone hrow (q:=j*k+q) O
  have hcells:=Zoj hts e2.cells
  have hul:(a.eval y).cells.toList.length=size:=by rw [hcells.length];simpa using hs
  have hflat:=Zr.flat.1 hel
  obtain⟨vs,hvs,hcs⟩:=Zw.vals (c:=ctx G β w Z) hflat
  have hvl:vs.length=es.length*k:=by rw [hvs.length,List.length_map,Zcz hkl]
  obtain⟨hr',hI,hL⟩:=Zoi hr (off:=j*k+q) (blk' := .row k (es.set j (splice e q ts))) (a.eval y).cells.toList hg hb (.inl ⟨k,es,_,rfl,rfl,by simp⟩) (fun hI hL=>by
   refine⟨hk0,fun el hel'=>?_,.inr ⟨b',sz,hb,Za8 _ _ _ _ hrow,by simpa using hsz,Zr.flat.2 ?_⟩⟩
   .rcases List.mem_or_eq_of_mem_set hel' with h | h
    .exact hkl el h
    .subst h
     rw [Zm8 _ _ _ (by rw [hs,hkl e (List.mem_of_getElem? he)];exact hq)]
     exact hkl e (List.mem_of_getElem? he)
   .rw [Z4m j q e ts hkl he (by rw [hs];exact hq)]
    refine Zdx (vs:=splice vs (j*k+q) (a.eval y).cells.toList) ?_ (fun j' v hj'=>?_)
    .have h1:=VRs.step hI _ _ (fun m _=>hL m) hvs
     have h2:=VRs.step hI _ _ (fun m _=>hL m) hcells
     have:=h1.splice (j*k+q) h2
     unfold splice at this ⊢
     simpa using this
    .rw [Nat.zero_add]
     exact Zi8 (w:=w) (fun j v hj=>by have:=hcs j v hj;rwa [Nat.zero_add] at this) (by rw [hul,hvl];omega) j' v hj')
  have hrun2:(execOp a.eval o).run P w = .ok .skip (w.setCells b' (j*k+q) (a.eval y).cells.toList):=by
   simp only [execOp,ho,hv,Sem.run_bind,hrun,Result.andThen_ok,Sem.run_pure]
  unfold Oper.wp
  rw [hrun2,Oper.upon_skip,hd]
  have:=hK (.tuple #[]) (w.setCells b' (j*k+q) (a.eval y).cells.toList) ⟨β,hr',by simp [VR,VRs]⟩
  rw [hd] at this
  exact this
end
end Go.PW
