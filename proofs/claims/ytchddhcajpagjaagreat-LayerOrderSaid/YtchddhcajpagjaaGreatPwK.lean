import Derived.Test.YtchddhcajpagjaaGreatPwJ
set_option linter.all false
namespace Go.PW
open Go.RowKit
def Zok(β:Nat->Option Nat)(l:Nat):Nat->Option Nat:=fun m=>if m=l then none else β m
theorem Zaka{G:Frm}{β:Nat->Option Nat}{n:Nat}{tm:List (Nat×PV)}{Z:List (Nat×Blk)}{a:Act}{w:World}(h:Zan G β ⟨n,tm,Z⟩ a w)(l k:Nat)(hk:0 < k)(hlab:1000<=l)
 (hf1:∀ i q,get tm i=some q->q.has l=false) (hf2:∀ m y,get Z m=some y->m≠l/\y.has l=false):Zan G (Zok β l) ⟨n,tm,(l,.row k [])::Z⟩ a w:=by
 have hβo:∀ m,m≠l->Zok β l m=β m:=fun m hm=>by simp [Zok,hm]
 have hβs:Zok β l l=none:=by simp [Zok]
 have hgl:∀ m,m≠l->get ((l,Blk.row k [])::Z) m=get Z m:=fun m hm=>by simp [get,Zgf (Ne.symm hm)]
 have hgs:get ((l,Blk.row k [])::Z) l=some (.row k []):=by simp [get]
 have hI:∀ b,(ctx G β w Z).I b->(ctx G (Zok β l) w ((l,.row k [])::Z)).I b/\(ctx G (Zok β l) w ((l,.row k [])::Z)).w.heap[b]?=(ctx G β w Z).w.heap[b]?:=fun b hb=>by
  refine⟨?_,rfl⟩
  obtain⟨h1,h2,h3⟩:=hb
  .refine⟨h1,h2,fun m o hm=>?_⟩
   by_cases hml:m=l
   .subst hml
    have:some o=some (.row k []):=Eq.trans (Eq.symm hm) hgs
    cases this
    intro ho
    have:=Zae.flat (o := .row _ _) trivial ho
    rw [hβs] at this;cases this
   .exact fun ho=>h3 m o ((hgl m hml).symm.trans hm) (ho.of (hβo m hml) (fun _ _=>rfl))
 have hL:∀ m,m≠l->Zal (ctx G β w Z) (ctx G (Zok β l) w ((l,.row k [])::Z)) m:=fun m hm=>Zal.same (hgl m hm) (hβo m hm) (fun _ _=>rfl)
 have hne:∀ m o b,get ((l,Blk.row k [])::Z) m=some o->Zae (Zok β l) w m o b->m≠l:=fun m o b hm ho e=>by
  subst e
  have:some o=some (.row k []):=Eq.trans (Eq.symm hm) hgs
  cases this
  have:=Zae.flat (o := .row _ _) trivial ho
  rw [hβs] at this;cases this
 exact { defers := h.defers, sz := h.sz, base := h.base, os := h.os, tape := h.tape, output := h.output, old := h.old, A := h.A, gl := h.gl,
         inj:=fun m m' o o' b hm hm' hb hb'=>by
          have h1:=hne m o b hm hb
          have h2:=hne m' o' b hm' hb'
          exact h.inj m m' o o' b ((hgl m h1).symm.trans hm) ((hgl m' h2).symm.trans hm') (hb.of (hβo m h1) (fun _ _=>rfl)) (hb'.of (hβo m' h2) (fun _ _=>rfl)),
         sep:=fun m o b hm hb=>by
          have h1:=hne m o b hm hb
          exact h.sep m o b ((hgl m h1).symm.trans hm) (hb.of (hβo m h1) (fun _ _=>rfl)),
         fix:=fun m cs' h1 hm=>by
          have h2:m≠l:=by omega
          rw [hβo m h2]
          exact h.fix m cs' h1 ((hgl m h2).symm.trans hm),
         row0:=h.row0.step (fun m hm=>hL m O),
         blk:=fun m o hm=>by
          by_cases h1:m=l
          .subst h1
           have:some o=some (.row k []):=Eq.trans (Eq.symm hm) hgs
           cases this
           exact⟨hk,(fun el h=>by cases h),.inl ⟨hβs,rfl⟩⟩
          .have hm':get Z m=some o:=(hgl m h1).symm.trans hm
           exact BR.step hI (hβo m h1) (fun _ _=>rfl) (fun q hq=>hL q (fun e=>by subst e;rw [(hf2 m o hm').2] at hq;cases hq)) (h.blk m o hm'),
         tm:=fun i p hp=>⟨(h.tm i p hp).1,VR.step hI p _ (fun q hq=>hL q (fun e=>by subst e;rw [hf1 i p hp] at hq;cases hq)) (h.tm i p hp).2⟩ }
theorem Za58{G:Frm}{β:Nat->Option Nat}{n:Nat}{tm:List (Nat×PV)}{Z:List (Nat×Blk)}{a:Act}{w:World}(h:Zan G β ⟨n,tm,Z⟩ a w)(cs:Array Value)(e:TypeId){l k:Nat}{es es':List (List Zf)}
 (hg:get Z l=some (.row k es)) (hlt:es.length < es'.length)
 (hblk:(∀ b,(ctx G β w Z).I b->(ctx G (Zh4 β l w.heap.size) (w.alloc (.cells cs e)) (put Z l (.row k es'))).I b/\(ctx G (Zh4 β l w.heap.size) (w.alloc (.cells cs e)) (put Z l (.row k es'))).w.heap[b]?=(ctx G β w Z).w.heap[b]?) ->
  Za4 (w.alloc (.cells cs e)) w.heap.size cs.size->BR (ctx G (Zh4 β l w.heap.size) (w.alloc (.cells cs e)) (put Z l (.row k es'))) l (.row k es')) :
 Zan G (Zh4 β l w.heap.size) ⟨n,tm,put Z l (.row k es')⟩ a (w.alloc (.cells cs e))/\Za4 (w.alloc (.cells cs e)) w.heap.size cs.size:=by
 have hgl:∀ m,m≠l->get (put Z l (.row k es')) m=get Z m:=fun m hm=>Zb5 Z _ (Ne.symm hm)
 have hgs:get (put Z l (.row k es')) l=some (.row k es'):=Zca Z l _
 have hltI:∀ b,Imm G β w Z b->b < w.heap.size:=fun b hb=>hb.1
 have hO:∀ m o,m≠l->get Z m=some o->∀ b,Zae (Zh4 β l w.heap.size) (w.alloc (.cells cs e)) m o b->Zae β w m o b:=fun m o hm hg b ho=>ho.of (Zj7 β _ hm) (fun b hb=>Zap w _ b (h.sep m o b hg (.inl hb)).1)
 have hrow:Za4 (w.alloc (.cells cs e)) w.heap.size cs.size:=⟨cs,e,(0,0),heap_alloc_new w _,rfl,.inl rfl⟩
 have hI:∀ b,(ctx G β w Z).I b->(ctx G (Zh4 β l w.heap.size) (w.alloc (.cells cs e)) (put Z l (.row k es'))).I b/\(ctx G (Zh4 β l w.heap.size) (w.alloc (.cells cs e)) (put Z l (.row k es'))).w.heap[b]?=(ctx G β w Z).w.heap[b]?:=fun b hb=>by
  refine⟨?_,Zap w _ b (hltI b hb)⟩
  have hbl:=hltI b hb
  obtain⟨h1,h2,h3⟩:=hb
  .refine⟨by simp;omega,h2,fun m o hm=>?_⟩
   by_cases hml:m=l
   .subst hml
    have:some o=some (.row k es'):=Eq.trans (Eq.symm hm) hgs
    cases this
    intro hh
    have:=Zae.flat (o := .row _ _) trivial hh
    rw [Zde] at this
    cases this;omega
   .have hm':=(hgl m hml).symm.trans hm
    exact fun ho=>h3 m o hm' (hO m o hml hm' b ho)
 have hL:∀ m,Zal (ctx G β w Z) (ctx G (Zh4 β l w.heap.size) (w.alloc (.cells cs e)) (put Z l (.row k es'))) m:=fun m=>by
  by_cases hml:m=l
  .subst hml
   refine⟨fun k' es'' hg'=>?_,fun cs' hg'=>?_,fun k' q' es'' hg'=>?_,fun k' es'' hg'=>?_,fun k' i' es'' cs' hg'=>?_⟩
   .have:some (Blk.row k' es'')=some (.row k es'):=Eq.trans (Eq.symm hg') hgs
    cases this
    exact⟨es,hg,Nat.le_of_lt hlt,fun he=>by omega⟩
   .have:some (Blk.box cs')=some (.row k es'):=Eq.trans (Eq.symm hg') hgs
    cases this
   .have:some (Blk.mat k' q' es'')=some (.row k es'):=Eq.trans (Eq.symm hg') hgs
    cases this
   .have:some (Blk.map k' es'')=some (.row k es'):=Eq.trans (Eq.symm hg') hgs
    cases this
   .have:some (Blk.prow k' i' es'' cs')=some (.row k es'):=Eq.trans (Eq.symm hg') hgs
    cases this
  .have hg':=hgl m hml
   cases hgm:get Z m with
   | none=>exact Zal.none (hg'.trans hgm)
   | some o=>exact Zal.same hg' (Zj7 β _ hml) (fun b hb=>Zap w _ b (h.sep m o b hgm (.inl hb)).1)
 have hns:∀ m o,m≠l->get (put Z l (.row k es')) m=some o->get Z m=some o:=fun m o hm hg=>(hgl m hm).symm.trans hg
 have hnew:∀ o b,get (put Z l (.row k es')) l=some o->Zae (Zh4 β l w.heap.size) (w.alloc (.cells cs e)) l o b->w.heap.size=b:=fun o b hm ho=>by
  have:some o=some (.row k es'):=Eq.trans (Eq.symm hm) hgs
  cases this
  have:=Zae.flat (o := .row _ _) trivial ho
  rw [Zde] at this
  exact Option.some.inj this
 refine⟨?_,hrow⟩
 exact { defers := h.defers, sz := h.sz, base := by simp; have := h.base; omega, os := h.os, tape := h.tape, output := h.output,
         old:=fun b hb ho=>(Zap w _ b (Nat.lt_of_lt_of_le hb h.base)).trans (h.old b hb ho),A:=h.A,gl:=h.gl,
         inj:=fun m m' o o' b hm hm' hb hb'=>by
          by_cases h1:m=l
          .by_cases h2:m'=l
           .rw [h1,h2]
           .subst h1
            have hb:=hnew o b hm hb
            have:=(h.sep m' o' b (hns m' o' h2 hm') (hO m' o' h2 (hns m' o' h2 hm') b hb')).1
            omega
          .by_cases h2:m'=l
           .subst h2
            have hb':=hnew o' b hm' hb'
            have:=(h.sep m o b (hns m o h1 hm) (hO m o h1 (hns m o h1 hm) b hb)).1
            omega
           .exact h.inj m m' o o' b (hns m o h1 hm) (hns m' o' h2 hm') (hO m o h1 (hns m o h1 hm) b hb) (hO m' o' h2 (hns m' o' h2 hm') b hb'),
         sep:=fun m o b hm hb=>by
          by_cases h1:m=l
          .subst h1
           have hb:=hnew o b hm hb
           subst hb
           exact⟨by simp,.inl h.base⟩
          .have:=h.sep m o b (hns m o h1 hm) (hO m o h1 (hns m o h1 hm) b hb)
           exact⟨by simp;omega,this.2⟩,
         fix:=fun m cs' h1 hm=>by
          have h2:m≠l:=fun e=>by
           subst e
           have:some (Blk.box cs')=some (.row k es'):=Eq.trans (Eq.symm hm) hgs
           cases this
          rw [Zj7 β _ h2]
          exact h.fix m cs' h1 (hns m _ h2 hm),
         row0:=h.row0.step (fun m _=>hL m),
         blk:=fun m o hm=>by
          by_cases h1:m=l
          .subst h1
           have:some o=some (.row k es'):=Eq.trans (Eq.symm hm) hgs
           cases this
           exact hblk hI hrow
          .have hm':=hns m o h1 hm
           exact BR.step hI (Zj7 β _ h1) (fun b hb=>Zap w _ b (h.sep m o b hm' hb).1) (fun q _=>hL q) (h.blk m o hm'),
         tm:=fun i p hp=>⟨(h.tm i p hp).1,VR.step hI p _ (fun q _=>hL q) (h.tm i p hp).2⟩ }
section
variable {P:Program} {o:Oper} {n:Nat} {tm:List (Nat×PV)} {Z:List (Nat×Blk)}
inductive Zsz (Z:List (Nat×Blk)):PV->List (List Zf)->Prop
 | tree (es:List (List Zf)):Zsz Z (.t (.sl es)) es
 | nils:Zsz Z .nils []
 | own (l m k:Nat) (es:List (List Zf)) (h:get Z l=some (.row k es)) (hm:es.length=m):Zsz Z (.osl l m) es
 | con (a:Option Addr) (c:Nat):Zsz Z (.t (.con (.slice a 0 c))) []
theorem Zsz.src{G:Frm}{β:Nat->Option Nat}{a:Act}{w:World}(hr:Zan G β ⟨n,tm,Z⟩ a w){p:PV}{es:List (List Zf)}{v:Value}{k:Nat}{tx e:TypeId}(h:Zsz Z p es)(hv:VR (ctx G β w Z) p v)
 (hk:∀ el,el∈es->el.length=k) (htx:P.underlying tx=some (.slice e)):∃ news,Src P k tx v es.length news w/\VRs (ctx G β w Z) (es.flatten.map .t) news:=by
 have fromCells:∀ (b off cap:Nat),Zr (ctx G β w Z).I (ctx G β w Z).w b es off->∃ news,Src P k tx (.slice (some ⟨b,off,none⟩) es.length cap) es.length news w/\VRs (ctx G β w Z) (es.flatten.map .t) news:=by
  intro b off cap hel
  obtain⟨vs,h1,h2⟩:=Zw.vals (Zr.flat.1 hel)
  refine⟨vs,Src.ofSlice w htx ⟨b,off,none⟩ es.length cap vs ?_ (fun j u hu=>by rw [Addr.add_mid];exact h2 j u hu) ?_,h1⟩
  .rw [h1.length,List.length_map,Zcz hk]
  .intro u hu
   refine Z5z h1 ?_ u hu
   rw [List.all_eq_true]
   intro x hx
   obtain⟨t,_,rfl⟩:=List.mem_map.1 hx
   rfl
 have empty:∀ (a':Option Addr) (cap:Nat),es=[]->∃ news,Src P k tx (.slice a' es.length cap) es.length news w/\VRs (ctx G β w Z) (es.flatten.map .t) news:=by
  intro a' cap he
  subst he
  cases a' with
  | none=>exact⟨[],Src.ofNil w htx cap,by simp [VRs]⟩
  | some ad=>exact⟨[],Src.ofSlice w htx ad 0 cap [] (by simp) (by simp) (by simp),by simp [VRs]⟩
 cases h with
 | tree es=>
  simp only [VR,Z0] at hv
  obtain⟨a',cap,rfl,_,_,h⟩:=hv
  rcases h with h | ⟨b,off,rfl,_,hel⟩
  .exact empty a' cap h
  .exact fromCells b off cap hel
 | nils=>
  simp only [VR] at hv
  obtain⟨a',rfl⟩:=hv
  exact empty a' 0 rfl
 | con a' c=>
  simp only [VR,Z0] at hv
  rw [hv.1]
  exact empty a' c rfl
 | own l m k' es h hm=>
  simp only [VR] at hv
  obtain⟨a',cap,rfl,_,_,h3⟩:=(hv.1 k' es h).2 hm.symm
  obtain⟨_,_,hb⟩:=hr.blk l _ h
  subst hm
  rcases hb with ⟨_,he⟩ | ⟨b,sz,hb,_,_,hel⟩
  .exact empty a' cap he
  .rcases h3 with ⟨hc,hb'⟩ | ⟨b',sz',ha,hb',_,_⟩
   .exact absurd (hb.symm.trans hb') (by simp)
   .have:b'=b:=by have:=hb'.symm.trans hb;simpa using this
    subst this;subst ha
    exact fromCells b' 0 cap hel
theorem Z2e(w:World)(t tx ty e:TypeId)(i:TypeInfo)(ht:P.underlying t=some (.slice e))(hi:P.info? e=some i)(a:Option Addr)(m cap:Nat)(hm:m<=cap)(x:Value)(hs:Src P i.size tx x 0 [] w) :
 (Builtin.append_ #[t,tx] ty #[.slice a m cap,x]).run P w = .ok (.slice a m cap) w:=by
 have hc:=hs.cells
 rcases hs.kind with ⟨e',hk⟩ | hk<;>cases a<;>simp [Builtin.append_,run_underlying ht,run_underlying hk,sizeOf,typeInfo,hi,hs.len,hm,hc,storeCells]
theorem Zaff{c:Ctx}{b:Nat}{olds news:List Value}{es es2:List (List Zf)}(h1:VRs c (es.flatten.map .t) olds)(h2:VRs c (es2.flatten.map .t) news)
 (hc:∀ j v,(olds++news)[j]?=some v->c.w.cell? ⟨b,j,none⟩=some v):Zr c.I c.w b (es++es2) 0:=by
 refine Zr.flat.2 (Zdx (vs:=olds++news) ?_ (fun j v hj=>by rw [Nat.zero_add];exact hc j v hj))
 rw [List.flatten_append,List.map_append]
 exact h1.append h2
theorem Zauq{ρ:List (Nat×PV)}{t tx e:TypeId}{x y:Operand}{k bytes:Nat}{zero:List PV}{es:List (List Zf)}{p:PV}{need:List Nat}(l:Nat)(hlab:1000<=l)(ho:o.op = .call { callee := .builtin .append,args := #[x,y],argTypes := #[t,tx] })
 (hE:ElF P t e k bytes zero) (htx:∃ e',P.underlying tx=some (.slice e')) (hx:Zp ρ x=some .nils) (hy:Zp ρ y=some p) (hsrc:Zsz Z p es) (hneed:∀ m,p.has m=true->m∈need)
 (hk:∀ el,el∈es->el.length=k) (h63:es.length<=9223372036854775807) (hby:es.length*bytes<=140737488355328):Zas P o ρ Z need (.osl l es.length) [(l,.row k es)]:=
 Z5y (fun G β n tm Z' A w hop hnd hf1 hf2 hr=>by
  obtain⟨e1,_⟩:=hop x _ (by simp [ho,Op.operands,Call.operands]) hx
  obtain⟨e2,_⟩:=hop y _ (by simp [ho,Op.operands,Call.operands]) hy
  simp only [VR] at e1
  obtain⟨a0,e1⟩:=e1
  obtain⟨e',htx⟩:=htx
  have hsrc':Zsz Z' p es:=by
   cases hsrc with
   | tree es=>exact .tree es
   | nils=>exact .nils
   | con a c=>exact .con a c
   | own l' m k' es h hm=>exact .own l' m k' es ((hnd l' (hneed l' (by simp [PV.has]))).trans h) hm
  obtain⟨news,hs,hnv⟩:=hsrc'.src (P:=P) (tx:=tx) hr e2 hk htx
  have hnewsl:news.length=es.length*k:=hs.newsLen
  cases hi:P.info? e with
  | none=>have:=hE.info;simp [hi] at this
  | some i=>
   have hik:i.size=k/\i.bytes=bytes:=by have:=hE.info;simpa [hi] using this
   have hz:=hE.z
   unfold Zi6 at hz
   simp only [hi,Option.bind_some,Option.bind_eq_some_iff] at hz
   obtain⟨z,hiz,hz⟩:=hz
   have hzl:z.cells.size=k:=by have:=(Zhk (c:=ctx G β w Z') hz).length;rw [hE.len] at this;simpa using this
   have hexec:∀ r,(Builtin.append_ #[t,tx] o.type #[.slice a0 0 0,A.eval y]).run P w=r->(execOp A.eval o).run P w=r.andThen fun v w => .ok (.value v) w:=by
    intro r hr
    simp only [execOp,ho,resolve,invoke,builtin,Sem.run_bind,Sem.run_pure,Result.andThen_ok,List.map_toArray,List.map_cons,List.map_nil,e1,hr]
   by_cases hem:es.length=0
   .have hes:es=[]:=List.eq_nil_of_length_eq_zero hem
    subst hes
    have hnil:news=[]:=List.eq_nil_of_length_eq_zero (by simpa using hnewsl)
    subst hnil
    have hrun:=Z2e w t tx o.type e i hE.und hi a0 0 0 (Nat.le_refl _) (A.eval y) (by rw [hik.1];exact hs)
    refine⟨.slice a0 0 0,w,by rw [hexec _ hrun];rfl,Zok β l,Zaka hr l k hE.pos hlab hf1 hf2,?_⟩
    simp only [VR]
    refine⟨fun k' es' hg=>?_,_,_,_,rfl⟩
    have hgs:get ((l,Blk.row k [])::Z') l=some (.row k []):=by simp [get]
    have:some (Blk.row k' es')=some (.row k []):=Eq.trans (Eq.symm hg) hgs
    cases this
    exact⟨Nat.le_refl _,fun _=>⟨a0,0,rfl,Nat.le_refl _,by simp [maxLen],.inl ⟨rfl,by simp [ctx,Zok]⟩⟩⟩
   .have hpos:0 < es.length:=Nat.pos_of_ne_zero hem
    have hrun:=run_append_grow_src (P:=P) w t tx o.type e i z hE.und hi hiz a0 0 0 [] (by cases a0<;>simp [Builtin.firstCells,loadCells,loadCellsFrom]) (A.eval y) es.length news (by rw [hik.1];exact hs) O O
     (by rw [hik.2];exact growslice_fits O (by simpa using hby))
    simp only [List.nil_append,Nat.zero_add] at hrun
    generalize hcs:news.toArray++Builtin.zeroCells z.cells (grownCap w es.length 0 e - es.length)=cs at hrun
    have hge:=grownCap_ge w es.length 0 e
    have hcm:grownCap w es.length 0 e<=maxLen:=grownCap_le_maxLen w es.length 0 e (by simp only [maxLen];omega)
    have hcsz:cs.size=grownCap w es.length 0 e*k:=by
     rw [<- hcs]
     simp only [Array.size_append,List.size_toArray,size_zeroCells,hzl,hnewsl,<- Nat.add_mul]
     congr 1;omega
    obtain⟨hr',hrow,hI,hL⟩:=(Zan.drew hr).allocOwn cs e l (.row k es) hlab trivial hf1 hf2 (fun hI hL hrow=>
     ⟨hE.pos,hk,.inr ⟨w.heap.size,cs.size,Zde _ _ _,hrow,by rw [hcsz];exact Nat.mul_le_mul_right _ hge,by
      refine Zr.flat.2 (Zdx (vs:=news) ?_ (fun j v hj=>?_))
      .exact VRs.step (c:=ctx G β w.drew Z') hI _ _ (fun q hq=>by rw [Zh3] at hq;cases hq) (VRs.step (c:=ctx G β w Z') (c':=ctx G β w.drew Z') (fun b hb=>⟨hb,rfl⟩) _ _ (fun q hq=>by rw [Zh3] at hq;cases hq) hnv)
      .show (w.drew.alloc _).cell? ⟨w.drew.heap.size,_,none⟩=_
       rw [World.cell?_alloc_new,Nat.zero_add,<- hcs]
       have hlt:=(List.getElem?_eq_some_iff.1 hj).1
       rw [Array.getElem?_append_left (by simpa using hlt)]
       simpa using hj⟩⟩)
    refine⟨.slice (some ⟨w.heap.size,0,none⟩) es.length (grownCap w es.length 0 e),_,by rw [hexec _ hrun];rfl,_,hr',?_⟩
    simp only [VR]
    refine⟨fun k' es' hg=>?_,_,_,_,rfl⟩
    have hgs:get ((l,Blk.row k es)::Z') l=some (.row k es):=by simp [get]
    have:some (Blk.row k' es')=some (.row k es):=Eq.trans (Eq.symm hg) hgs
    cases this
    exact⟨Nat.le_refl _,fun _=>⟨_,_,rfl,hge,hcm,.inr ⟨w.heap.size,cs.size,rfl,Zde _ _ _,hrow,by rw [hcsz];exact Nat.le_refl _⟩⟩⟩) (fun _ _ _ hx hq=>Zz3 l hx hq)
theorem Zsz.need{Z Z':List (Nat×Blk)}{p:PV}{es:List (List Zf)}(h:Zsz Z p es)(hn:∀ m,p.has m=true->get Z' m=get Z m):Zsz Z' p es:=by
 cases h with
 | tree es=>exact .tree es
 | nils=>exact .nils
 | con a c=>exact .con a c
 | own l' m k' es h hm=>exact .own l' m k' es ((hn l' (by simp [PV.has])).trans h) hm
theorem Za9b{ρ:List (Nat×PV)}{σ0:List (Nat×Blk)}{need:List Nat}{t tx e:TypeId}{x y:Operand}{k bytes l m:Nat}{zero:List PV}{es0 es:List (List Zf)}{p:PV}(ho:o.op = .call { callee := .builtin .append,args := #[x,y],argTypes := #[t,tx] })
 (hE:ElF P t e k bytes zero) (htx:∃ e',P.underlying tx=some (.slice e')) (hx:Zp ρ x=some (.osl l m)) (hg0:get σ0 l=some (.row k es0)) (hm:es0.length=m) (hy:Zp ρ y=some p) (hsrc0:Zsz σ0 p es) (hneed:∀ q,(q=l\/p.has q=true)->q∈need)
 (hk:∀ el,el∈es->el.length=k) (h63:m+es.length<=9223372036854775807) (hby:(m+es.length)*bytes<=140737488355328) :
 OpF P o ρ σ0 need [l] (.osl l (m+es.length)) [(l,.row k (es0++es))]:=
 opF fun G β n tm Z A w hop hnd hr=>by
  have e1:=hop x _ (by simp [ho,Op.operands,Call.operands]) hx
  have e2:=hop y _ (by simp [ho,Op.operands,Call.operands]) hy
  have hg:=(hnd l (hneed l (.inl rfl))).trans hg0
  have hsrc:=hsrc0.need (Z':=Z) (fun q hq=>hnd q (hneed q (.inr hq)))
  show ∃ v w',(execOp A.eval o).run P w = .ok (.value v) w'/\∃ β',Zan G β' ⟨n,tm,put Z l (.row k (es0++es))⟩ A w'/\VR (ctx G β' w' (put Z l (.row k (es0++es)))) (.osl l (m+es.length)) v
  simp only [VR] at e1
  obtain⟨a0,cap,hv,hmc,hcm0,h3⟩:=(e1.1 k es0 hg).2 hm.symm
  obtain⟨e',htx⟩:=htx
  obtain⟨news,hs,hnv⟩:=hsrc.src (P:=P) (tx:=tx) hr e2 hk htx
  have hnewsl:news.length=es.length*k:=hs.newsLen
  have hnv1:∀ u,u∈news->u.oneCell'=true:=hs.one
  obtain⟨hk0,hkl,hbr⟩:=hr.blk l _ hg
  have hkl':∀ el,el∈es0++es->el.length=k:=fun el hel=>(List.mem_append.1 hel).elim (hkl el) (hk el)
  cases hi:P.info? e with
  | none=>have:=hE.info;simp [hi] at this
  | some i=>
   have hik:i.size=k/\i.bytes=bytes:=by have:=hE.info;simpa [hi] using this
   have hz:=hE.z
   unfold Zi6 at hz
   simp only [hi,Option.bind_some,Option.bind_eq_some_iff] at hz
   obtain⟨z,hiz,hz⟩:=hz
   have hzl:z.cells.size=k:=by have:=(Zhk (c:=ctx G β w Z) hz).length;rw [hE.len] at this;simpa using this
   have hexec:∀ r,(Builtin.append_ #[t,tx] o.type #[.slice a0 m cap,A.eval y]).run P w=r->(execOp A.eval o).run P w=r.andThen fun v w => .ok (.value v) w:=by
    intro r hr
    simp only [execOp,ho,resolve,invoke,builtin,Sem.run_bind,Sem.run_pure,Result.andThen_ok,List.map_toArray,List.map_cons,List.map_nil,hv,hr]
   have holds:∃ olds,VRs (ctx G β w Z) (es0.flatten.map .t) olds/\(Builtin.firstCells i.size m (.slice a0 m cap)).run P w.drew = .ok olds.toArray w.drew /\
    (∀ b,β l=some b->∀ j v,olds[j]?=some v->w.cell? ⟨b,j,none⟩=some v):=by
    rcases hbr with ⟨hb,he⟩ | ⟨b,sz,hb,hrow,hsz,hel⟩
    .subst he
     have hm0:m=0:=by simpa using hm.symm
     subst hm0
     refine⟨[],by simp [VRs],by cases a0<;>simp [Builtin.firstCells,loadCells,loadCellsFrom],fun b hb'=>?_⟩
     intro j v hj;simp at hj
    .obtain⟨vs,hv1,hv2⟩:=Zw.vals (c:=ctx G β w Z) (Zr.flat.1 hel)
     refine⟨vs,hv1,?_,fun b' hb' j v hj=>?_⟩
     .rcases h3 with ⟨_,hb'⟩ | ⟨b',sz',ha,hb',_,_⟩
      .exact absurd (hb.symm.trans hb') (by simp)
      .have:b'=b:=by have:=hb'.symm.trans hb;simpa using this
       subst this;subst ha
       refine run_firstCells_some w.drew i.size m ⟨b',0,none⟩ m cap vs ?_ (fun j v hj=>?_)
       .rw [hv1.length,List.length_map,Zcz hkl,hm,hik.1]
       .rw [Addr.add_mid];exact hv2 j v hj
     .have:b'=b:=by have:=hb'.symm.trans hb;simpa using this
      subst this
      have:=hv2 j v hj
      rwa [Nat.zero_add] at this
   obtain⟨olds,hov,hold,hoc⟩:=holds
   have holl:olds.length=m*k:=by rw [hov.length,List.length_map,Zcz hkl,hm]
   by_cases hroom:m+es.length<=cap
   .rcases h3 with ⟨hc0,hb⟩ | ⟨b,sz,ha,hb,hrow,hsz⟩
    ·-- nothing there,nothing appended
     have hem:es.length=0:=by omega
     have hm0:m=0:=by omega
     have hes:es=[]:=List.eq_nil_of_length_eq_zero hem
     subst hes
     have hnil:news=[]:=List.eq_nil_of_length_eq_zero (by simpa using hnewsl)
     subst hnil
     have hrun:=Z2e w t tx o.type e i hE.und hi a0 m cap hmc (A.eval y) (by rw [hik.1];exact hs)
     refine⟨.slice a0 m cap,w,(by rw [hexec _ hrun];rfl),β,?_⟩
     have hsame:∀ q,get (put Z l (.row k (es0++[]))) q=get Z q:=fun q=>by
      by_cases hq:q=l
      .subst hq;rw [Zca,hg,List.append_nil]
      .exact Zb5 Z _ (Ne.symm hq)
     have hr2:Zan G β ⟨n,tm,put Z l (.row k (es0++[]))⟩ A w:=hr.sub (Nat.le_refl _) (fun i p hp=>⟨hp,(hr.tm i p hp).1⟩) (fun q o hq=>by rw [<- hsame q];exact hq)
     refine⟨hr2,?_⟩
     simp only [VR,List.length_nil,Nat.add_zero]
     refine⟨fun k' es' hg'=>?_,_,_,_,rfl⟩
     have hgl:get Z l=some (.row k' es'):=(hsame l).symm.trans hg'
     rw [hg] at hgl
     cases hgl
     exact⟨by omega,fun _=>⟨a0,cap,rfl,hmc,hcm0,.inl ⟨hc0,hb⟩⟩⟩
    ·-- in place
     subst ha
     have hle:(m+es.length)*k<=sz:=Nat.le_trans (Nat.mul_le_mul_right _ hroom) hsz
     rw [Nat.add_mul] at hle
     have hth:=Zj8 hrow (o:=m*k) (n:=es.length*k) hle
     have hrun:=run_append_room_src (P:=P) w t tx o.type e i hE.und hi b 0 m cap (A.eval y) es.length news (by rw [hik.1];exact hs) hroom (fun j hj=>by
      have:=(hth j O).1
      rwa [hik.1,Nat.zero_add]) (fun j hj=>by
      have:=(hth j O).2
      rwa [hik.1,Nat.zero_add])
     rw [hik.1,Nat.zero_add] at hrun
     obtain⟨hr',hI,hL⟩:=Zoi hr (off:=m*k) (blk' := .row k (es0++es)) news hg hb (.inl ⟨k,es0,_,rfl,rfl,by simp⟩) (fun hI hL=>by
      refine⟨hk0,hkl',.inr ⟨b,sz,hb,Za8 _ _ _ _ hrow,?_,?_⟩⟩
      .rw [List.length_append,Nat.add_mul,hm];exact hle
      .refine Zaff (olds:=olds) (news:=news) (VRs.step hI _ _ (fun q _=>hL q) hov) (VRs.step hI _ _ (fun q _=>hL q) hnv) (fun j v hj=>?_)
       show (w.setCells b (m*k) news).cell? _=_
       rcases Nat.lt_or_ge j olds.length with h | h
       .rw [List.getElem?_append_left h] at hj
        rw [World.cell?_setCells_out b news (m*k) w ⟨b,j,none⟩ (fun _ _ => .inl (by simp;omega))]
        exact hoc b hb j v hj
       .rw [List.getElem?_append_right h] at hj
        have hjl:=(List.getElem?_eq_some_iff.1 hj).1
        have:=World.cell?_setCells_in b news (m*k) w (fun j' hj'=>(hth j' O).1) (j - olds.length) hjl
        rw [show m*k+(j - olds.length)=j by omega] at this
        rw [this,<- hj,List.getElem?_eq_getElem hjl])
     refine⟨.slice (some ⟨b,0,none⟩) (m+es.length) cap,w.setCells b (m*k) news,(by rw [hexec _ hrun];rfl),β,hr',?_⟩
     simp only [VR]
     refine⟨fun k' es' hg'=>?_,_,_,_,rfl⟩
     have:some (Blk.row k' es')=some (.row k (es0++es)):=Eq.trans (Eq.symm hg') (Zca Z l _)
     cases this
     rw [List.length_append,hm]
     exact⟨Nat.le_refl _,fun _=>⟨_,cap,rfl,hroom,hcm0,.inr ⟨b,sz,rfl,hb,Za8 _ _ _ _ hrow,hsz⟩⟩⟩
   ·-- a new row
    have hgt:cap < m+es.length:=by omega
    have hpos:0 < es.length:=by omega
    have hrun:=run_append_grow_src (P:=P) w t tx o.type e i z hE.und hi hiz a0 m cap olds hold (A.eval y) es.length news (by rw [hik.1];exact hs) hgt O (by rw [hik.2];exact growslice_fits hgt hby)
    generalize hcs:(olds++news).toArray++Builtin.zeroCells z.cells (grownCap w (m+es.length) cap e - (m+es.length))=cs at hrun
    have hge:=grownCap_ge w (m+es.length) cap e
    have hcm:grownCap w (m+es.length) cap e<=maxLen:=grownCap_le_maxLen w (m+es.length) cap e (by simp only [maxLen];omega)
    have hcsz:cs.size=grownCap w (m+es.length) cap e*k:=by
     rw [<- hcs]
     simp only [Array.size_append,List.size_toArray,List.length_append,size_zeroCells,hzl,hnewsl,holl,<- Nat.add_mul]
     congr 1;omega
    have hdrew:∀ {ts:List Zf} {vs:List Value},VRs (ctx G β w Z) (ts.map .t) vs->VRs (ctx G β w.drew Z) (ts.map .t) vs:=fun h=>
     VRs.step (c:=ctx G β w Z) (c':=ctx G β w.drew Z) (fun b hb=>⟨hb,rfl⟩) _ _ (fun q _=>Zal.same rfl rfl (fun _ _=>rfl)) h
    obtain⟨hr',hrow⟩:=Za58 (Zan.drew hr) cs e (es':=es0++es) hg (by simp;omega) (fun hI hrow=>
     ⟨hk0,hkl',.inr ⟨w.heap.size,cs.size,Zde _ _ _,hrow,by rw [hcsz,List.length_append,hm];exact Nat.mul_le_mul_right _ hge,by
      refine Zaff (olds:=olds) (news:=news) (VRs.step hI _ _ (fun q hq=>by rw [Zh3] at hq;cases hq) (hdrew hov)) (VRs.step hI _ _ (fun q hq=>by rw [Zh3] at hq;cases hq) (hdrew hnv)) (fun j v hj=>?_)
      show (w.drew.alloc _).cell? ⟨w.drew.heap.size,_,none⟩=_
      rw [World.cell?_alloc_new,<- hcs]
      have hlt:=(List.getElem?_eq_some_iff.1 hj).1
      rw [Array.getElem?_append_left (by simpa using hlt)]
      simpa using hj⟩⟩)
    refine⟨.slice (some ⟨w.heap.size,0,none⟩) (m+es.length) (grownCap w (m+es.length) cap e),_,(by rw [hexec _ hrun];rfl),_,hr',?_⟩
    simp only [VR]
    refine⟨fun k' es' hg'=>?_,_,_,_,rfl⟩
    have:some (Blk.row k' es')=some (.row k (es0++es)):=Eq.trans (Eq.symm hg') (Zca Z l _)
    cases this
    rw [List.length_append,hm]
    exact⟨Nat.le_refl _,fun _=>⟨_,_,rfl,hge,hcm,.inr ⟨w.heap.size,cs.size,rfl,Zde _ _ _,hrow,by rw [hcsz];exact Nat.le_refl _⟩⟩⟩
end
end Go.PW
