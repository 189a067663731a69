import Derived.Test.YtchddhcajpagjaaGreatPwG
import Derived.Laws.MakeOwn
set_option linter.all false
namespace Go.PW
open Go.RowKit
def Z6:PV->List PV
 | .agg cs=>cs
 | p=>[p]
def splice{α:Type}(cells:List α)(off:Nat)(cs:List α):List α:=cells.take off++cs++cells.drop (off+cs.length)
def Zj0(places:List (Nat×Nat))(cells:List PV):List (Nat×PV)->Option (List PV)
 | []=>some cells
 | (i,p)::rest=>
  match places[i]? with
  | none=>none
  | some (off,size)=>bif Nat.beq (Z6 p).length size&&Nat.ble (off+size) cells.length then Zj0 places (splice cells off (Z6 p)) rest else none
theorem VR.cells{c:Ctx}{p:PV}{v:Value}(h:VR c p v):VRs c (Z6 p) v.cells.toList:=by
 cases p
 case agg cs=>simp only [VR] at h;obtain⟨vs,rfl,h⟩:=h;simpa [Z6,Value.cells] using h
 all_goals
  simp only [Z6,VRs]
  refine⟨v,[],?_,h,rfl⟩
  cases v<;>first
   | rfl
   | (exfalso;simp only [VR] at h;first
    | (have:=Z1.oneCell h;simp [Value.oneCell'] at this;done)
    | (obtain⟨a,h⟩:=h;cases h;done)
    | (obtain⟨_,a,m,cap,h⟩:=h;cases h;done)
    | (obtain⟨_,a,h⟩:=h;cases h;done)
    | (obtain⟨b,off,h,_⟩:=h;cases h;done)
    | (obtain⟨vs,h,_⟩:=h;cases h;done)
    | (cases h;done))
theorem Zajy(off:Nat):∀ (L:List Value) (k:Nat) (A:Array Value),off+k+L.length<=A.size ->
 ((L.zipIdx k).foldl (fun cs (x:Value×Nat)=>cs.setIfInBounds (off+x.2) x.1) A).toList=A.toList.take (off+k)++L++A.toList.drop (off+k+L.length)
 | [],k,A,_=>by simp
 | v::L,k,A,h=>by
  simp only [List.length_cons] at h
  simp only [List.zipIdx_cons,List.foldl_cons]
  rw [Zajy off L (k+1) _ (by simp;omega)]
  have hlt:off+k < A.toList.length:=by simp;omega
  have e1:(A.setIfInBounds (off+k) v).toList=A.toList.take (off+k)++v::A.toList.drop (off+k+1):=by
   rw [Array.toList_setIfInBounds,List.set_eq_take_append_cons_drop,if_pos hlt]
  rw [e1]
  have hl:(A.toList.take (off+k)).length=off+k:=by rw [List.length_take];omega
  rw [show off+(k+1)=off+k+1 by omega]
  have t1:(A.toList.take (off+k)++v::A.toList.drop (off+k+1)).take (off+k+1)=A.toList.take (off+k)++[v]:=by
   rw [List.take_append,hl,show off+k+1 - (off+k)=1 by omega,List.take_of_length_le (by rw [hl];omega)]
   rfl
  have t2:(A.toList.take (off+k)++v::A.toList.drop (off+k+1)).drop (off+k+1+L.length)=A.toList.drop (off+k+(L.length+1)):=by
   rw [List.drop_append,hl,List.drop_eq_nil_of_le (by rw [hl];omega),List.nil_append,show off+k+1+L.length - (off+k)=L.length+1 by omega,List.drop_succ_cons,List.drop_drop]
   congr 1;omega
  rw [t1,t2]
  simp
theorem VRs.append{c:Ctx}:∀ {ps qs:List PV} {vs us:List Value},VRs c ps vs->VRs c qs us->VRs c (ps++qs) (vs++us)
 | [],qs,vs,us,h,k=>by simp only [VRs] at h;subst h;simpa using k
 | p::ps,qs,vs,us,h,k=>by
  simp only [VRs] at h
  obtain⟨v,rest,rfl,hv,hr⟩:=h
  simp only [List.cons_append,VRs]
  exact⟨v,_,rfl,hv,hr.append k⟩
def VPs(c:Ctx):List (Nat×PV)->List (Nat×Value)->Prop
 | [],vs=>vs=[]
 | (i,p)::ps,vs=>∃ v rest,vs=(i,v)::rest/\VR c p v/\VPs c ps rest
theorem Zaeb{c:Ctx}(pl:List (Nat×Nat))(f:Nat->Option (Nat×Nat))(hf:∀ i x,pl[i]?=some x->f i=some x):∀ (parts:List (Nat×PV)) (vals:List (Nat×Value)) (cells:List PV) (vs:List Value) (out:List PV),
 VPs c parts vals->VRs c cells vs->Zj0 pl cells parts=some out->∃ us,Instr.fill f vs.toArray vals=some us.toArray/\VRs c out us
 | [],vals,cells,vs,out,hp,hv,h=>by
  simp only [VPs] at hp
  subst hp
  simp only [Zj0,Option.some.injEq] at h
  subst h
  exact⟨vs,rfl,hv⟩
 | (i,p)::parts,vals,cells,vs,out,hp,hv,h=>by
  simp only [VPs] at hp
  obtain⟨v,rest,rfl,hpv,hr⟩:=hp
  simp only [Zj0] at h
  cases hpl:pl[i]? with
  | none=>simp [hpl] at h
  | some x=>
   obtain⟨off,size⟩:=x
   simp only [hpl] at h
   have hc:=hpv.cells
   have hcl:=hc.length
   have hvl:=hv.length
   cases hb:Nat.beq (Z6 p).length size&&Nat.ble (off+size) cells.length with
   | false=>simp [hb] at h
   | true=>
    simp only [hb,cond_true] at h
    simp only [Bool.and_eq_true,Z2,Nat.ble_eq] at hb
    have hsz:v.cells.size=size:=by rw [<- Array.length_toList,hcl,hb.1]
    have hfill:(v.cells.zipIdx.foldl (fun cs (x:Value×Nat)=>cs.setIfInBounds (off+x.2) x.1) vs.toArray)=(splice vs off v.cells.toList).toArray:=by
     apply Array.ext'
     rw [<- Array.foldl_toList,Array.toList_zipIdx,Zajy off v.cells.toList 0 vs.toArray (by simp;omega)]
     simp [splice]
    obtain⟨us,hu,hus⟩:=Zaeb pl f hf parts rest (splice cells off (Z6 p)) (splice vs off v.cells.toList) out hr (((hv.take off).append hc).append (by rw [hcl];exact hv.drop _)) h
    refine⟨us,?_,hus⟩
    simp only [Instr.fill,hf i _ hpl]
    have hn:¬ (v.cells.size≠size\/off+v.cells.size > vs.toArray.size):=by simp;omega
    have hcond:(decide (v.cells.size≠size)||decide (off+v.cells.size > vs.toArray.size))=false:=by simp;omega
    rw [if_neg (by simpa using hn)]
    rw [hfill];exact hu
def Zsx(P:Program)(t:TypeId):Option (List (Nat×Nat)):=
 match P.underlying t with
 | some (.struct fs)=>fs.toList.mapM fun f=>(P.info? f.type).map fun i=>(f.offset,i.size)
 | _=>none
def Zaa4(P:Program)(t:TypeId):Option (List (Nat×Nat)):=
 match P.underlying t with
 | some (.array n e)=>(P.info? e).map fun i=>(List.range n).map fun j=>(j*i.size,i.size)
 | _=>none
def Zi3(P:Program)(t:TypeId):Option (List PV):=((P.info? t).bind (·.zero)).bind fun z=>z.cells.toList.mapM Zk8
theorem Zhp{c:Ctx}:∀ {vs:List Value} {ps:List PV},vs.mapM Zk8=some ps->VRs c ps vs
 | [],ps,h=>by simp at h;subst h;simp [VRs]
 | v::vs,ps,h=>by
  rw [List.mapM_cons] at h
  simp only [bind,Option.bind_eq_some_iff,pure,Option.some.injEq] at h
  obtain⟨p,hp,qs,hq,rfl⟩:=h
  simp only [VRs]
  exact⟨v,vs,rfl,Zajw hp,Zhp hq⟩
structure BuF (P:Program) (t:TypeId) (places:List (Nat×Nat)) (zero:List PV):Prop where
 pl:Zsx P t=some places\/Zaa4 P t=some places
 z:Zi3 P t=some zero
theorem BuF.run{P:Program}{t:TypeId}{places:List (Nat×Nat)}{zero out:List PV}(h:BuF P t places zero){c:Ctx}(w:World){parts:List (Nat×PV)}{vals:Array (Nat×Value)}
 (hp:VPs c parts vals.toList) (hf:Zj0 places zero parts=some out):∃ us,(Instr.build t vals).run P w = .ok (.agg us.toArray) w/\VRs c out us:=by
 have hz:=h.z
 unfold Zi3 at hz
 simp only [Option.bind_eq_some_iff] at hz
 obtain⟨z,⟨i,hi,hiz⟩,hz⟩:=hz
 have hzv:VRs c zero z.cells.toList:=Zhp hz
 rcases h.pl with hpl | hpl
 .unfold Zsx at hpl
  split at hpl
  .rename_i fs hu
   obtain⟨us,h1,h2⟩:=Zaeb (c:=c) places (fun x=>places.toArray[x]?) (fun j x hx=>by simpa using hx) parts vals.toList zero z.cells.toList out hp hzv hf
   refine⟨us,run_build w t vals us.toArray ?_,h2⟩
   simp only [Program.built,hi,hu,hiz,hpl]
   simpa using h1
  .cases hpl
 .unfold Zaa4 at hpl
  split at hpl
  .rename_i n e hu
   simp only [Option.map_eq_some_iff] at hpl
   obtain⟨ie,hie,rfl⟩:=hpl
   obtain⟨us,h1,h2⟩:=Zaeb (c:=c) _ (fun j=>some (j*ie.size,ie.size)) (fun j x hx=>by
    simp only [List.getElem?_map,Option.map_eq_some_iff] at hx
    obtain⟨j',hj,rfl⟩:=hx
    have:j'=j:=by
     rcases Nat.lt_or_ge j n with h | h
     .simpa [h] using hj.symm
     .simp [h] at hj
    rw [this]) parts vals.toList zero z.cells.toList out hp hzv hf
   refine⟨us,run_build w t vals us.toArray ?_,h2⟩
   simp only [Program.built,hi,hu,hiz,hie]
   simpa using h1
  .cases hpl
def Zg4(ρ:List (Nat×PV)):List (Nat×Operand)->Option (List (Nat×PV))
 | []=>some []
 | (i,x)::l=>
  match Zp ρ x,Zg4 ρ l with
  | some p,some ps=>some ((i,p)::ps)
  | _,_=>none
section
variable {P:Program} {o:Oper} {ρ:List (Nat×PV)} {σ:List (Nat×Blk)}
theorem Zpf{c:Ctx}(f:Operand->Value):∀ (l:List (Nat×Operand)) (ps:List (Nat×PV)),(∀ x q,x∈l.map (·.2)->Zp ρ x=some q->VR c q (f x))->Zg4 ρ l=some ps->VPs c ps (l.map fun (i,x)=>(i,f x))
 | [],ps,_,h=>by simp only [Zg4,Option.some.injEq] at h;subst h;simp [VPs]
 | (i,x)::l,ps,hop,h=>by
  simp only [Zg4] at h
  split at h
  .rename_i p qs hp hqs
   cases h
   simp only [List.map_cons,VPs]
   exact⟨f x,_,rfl,hop x p (by simp) hp,Zpf f l qs (fun y q hy=>hop y q (by simp only [List.map_cons,List.mem_cons];exact .inr hy)) hqs⟩
  .cases h
theorem Zatr{t:TypeId}{parts:Array (Nat×Operand)}{places:List (Nat×Nat)}{zero out:List PV}{ps:List (Nat×PV)}(ho:o.op = .build t parts)(hB:BuF P t places zero)
 (hp:Zg4 ρ parts.toList=some ps) (hf:Zj0 places zero ps=some out):Zap P o ρ σ [] (.agg out) []:=
 Zbo fun G β n tm σ' A w hop _ _=>by
  have hv:=Zpf (ρ:=ρ) (c:=ctx G β w σ') A.eval parts.toList ps (fun x q hx hq=>hop x q (by simpa [ho,Op.operands] using hx) hq) hp
  obtain⟨us,h1,h2⟩:=hB.run (c:=ctx G β w σ') (vals:=parts.map fun (i,x)=>(i,A.eval x)) w (by rw [Array.toList_map];exact hv) hf
  refine⟨.agg us.toArray,?_,by simp only [VR];exact⟨us,rfl,h2⟩⟩
  simp only [execOp,ho,Sem.run_bind,h1,Result.andThen_ok,Sem.run_pure]
theorem Zam(w:World)(ob:Obj)(b:Nat)(h:b < w.heap.size):(w.alloc ob).heap[b]?=w.heap[b]?:=Below.heap_alloc w ob b h
theorem Zal.allocImm{G:Frm}{β:Nat->Option Nat}{st:St}{a:Act}{w:World}(h:Zal G β st a w)(ob:Obj):Zal G β st a (w.alloc ob) /\
 (∀ b,(ctx G β w st.σ).I b->(ctx G β (w.alloc ob) st.σ).I b/\(ctx G β (w.alloc ob) st.σ).w.heap[b]?=(ctx G β w st.σ).w.heap[b]?)/\(ctx G β (w.alloc ob) st.σ).I w.heap.size /\
 (∀ l,Zak (ctx G β w st.σ) (ctx G β (w.alloc ob) st.σ) l):=by
 have hlt:∀ b,Imm G β w st.σ b->b < w.heap.size:=fun b hb=>hb.1
 have hO:∀ l o,get st.σ l=some o->∀ b,Zaf β (w.alloc ob) l o b->Zaf β w l o b:=fun l o hl b ho=>ho.of_heap (fun b hb=>Zam w ob b (h.sep l o b hl (.inl hb)).1)
 have hI:∀ b,(ctx G β w st.σ).I b->(ctx G β (w.alloc ob) st.σ).I b/\(ctx G β (w.alloc ob) st.σ).w.heap[b]?=(ctx G β w st.σ).w.heap[b]?:=fun b hb=>by
  refine⟨?_,Zam w ob b (hlt b hb)⟩
  exact⟨by have:=hb.1;simp;omega,hb.2.1,fun l o hl ho=>hb.2.2 l o hl (hO l o hl b ho)⟩
 have hL:∀ l,Zak (ctx G β w st.σ) (ctx G β (w.alloc ob) st.σ) l:=fun l=>by
  cases hg:get st.σ l with
  | none=>exact Zak.none hg
  | some o=>exact Zak.same rfl rfl (fun b hb=>Zam w ob b (h.sep l o b hg (.inl hb)).1)
 refine⟨?_,hI,⟨by simp [ctx],.inl h.base,fun l o hl hb=>by have:=(h.sep l o _ hl (hO l o hl _ hb)).1;omega⟩,hL⟩
 exact { defers := h.defers, sz := h.sz, base := by simp; have := h.base; omega, os := h.os, tape := h.tape, output := h.output,
         old:=fun b hb ho=>(Zam w ob b (Nat.lt_of_lt_of_le hb h.base)).trans (h.old b hb ho),A:=h.A,gl:=h.gl,inj:=fun l l' o o' b hl hl' hb hb'=>h.inj l l' o o' b hl hl' (hO l o hl b hb) (hO l' o' hl' b hb'),
         sep:=fun l o b hl hb=>by have:=h.sep l o b hl (hO l o hl b hb);exact⟨by simp;omega,this.2⟩,
         fix:=h.fix,row0:=h.row0.step (fun l _=>hL l),
         blk:=fun l o hl=>BR.step hI rfl (fun b hb=>Zam w ob b (h.sep l o b hl hb).1) (fun m _=>hL m) (h.blk l o hl),
         tm:=fun i p hp=>⟨(h.tm i p hp).1,VR.step hI p _ (fun m _=>hL m) (h.tm i p hp).2⟩ }
def Zh6(β:Nat->Option Nat)(l b:Nat):Nat->Option Nat:=fun m=>if m=l then some b else β m
theorem Zdc(β:Nat->Option Nat)(l b:Nat):Zh6 β l b l=some b:=by simp [Zh6]
theorem Zj1(β:Nat->Option Nat){l m:Nat}(b:Nat)(h:m≠l):Zh6 β l b m=β m:=by simp [Zh6,h]
theorem Zal.allocOwn{G:Frm}{β:Nat->Option Nat}{n:Nat}{tm:List (Nat×PV)}{σ:List (Nat×Blk)}{a:Act}{w:World}(h:Zal G β ⟨n,tm,σ⟩ a w)(cs:Array Value)(e:TypeId)(l:Nat)(blk:Blk)(hlab:1000<=l)(hflat:blk.flat)
 (hf1:∀ i q,get tm i=some q->q.has l=false) (hf2:∀ m y,get σ m=some y->m≠l/\y.has l=false)
 (hblk:(∀ b,(ctx G β w σ).I b->(ctx G (Zh6 β l w.heap.size) (w.alloc (.cells cs e)) ((l,blk)::σ)).I b/\(ctx G (Zh6 β l w.heap.size) (w.alloc (.cells cs e)) ((l,blk)::σ)).w.heap[b]?=(ctx G β w σ).w.heap[b]?) ->
  (∀ m,m≠l->Zak (ctx G β w σ) (ctx G (Zh6 β l w.heap.size) (w.alloc (.cells cs e)) ((l,blk)::σ)) m)->Za1 (w.alloc (.cells cs e)) w.heap.size cs.size ->
  BR (ctx G (Zh6 β l w.heap.size) (w.alloc (.cells cs e)) ((l,blk)::σ)) l blk) :
 Zal G (Zh6 β l w.heap.size) ⟨n,tm,(l,blk)::σ⟩ a (w.alloc (.cells cs e))/\Za1 (w.alloc (.cells cs e)) w.heap.size cs.size /\
 (∀ b,(ctx G β w σ).I b->(ctx G (Zh6 β l w.heap.size) (w.alloc (.cells cs e)) ((l,blk)::σ)).I b/\(ctx G (Zh6 β l w.heap.size) (w.alloc (.cells cs e)) ((l,blk)::σ)).w.heap[b]?=(ctx G β w σ).w.heap[b]?) /\
 (∀ m,m≠l->Zak (ctx G β w σ) (ctx G (Zh6 β l w.heap.size) (w.alloc (.cells cs e)) ((l,blk)::σ)) m):=by
 have hgl:∀ m,m≠l->get ((l,blk)::σ) m=get σ m:=fun m hm=>by simp [get,Zgi (Ne.symm hm)]
 have hgs:get ((l,blk)::σ) l=some blk:=by simp [get]
 have hgn:get σ l=none:=by
  cases hg:get σ l with
  | none=>rfl
  | some y=>exact absurd rfl (hf2 l y hg).1
 have hlt:∀ b,Imm G β w σ b->b < w.heap.size:=fun b hb=>hb.1
 have hO:∀ m o,m≠l->get σ m=some o->∀ b,Zaf (Zh6 β l w.heap.size) (w.alloc (.cells cs e)) m o b->Zaf β w m o b:=fun m o hm hg b ho=>ho.of (Zj1 β _ hm) (fun b hb=>Zam w _ b (h.sep m o b hg (.inl hb)).1)
 have hrow:Za1 (w.alloc (.cells cs e)) w.heap.size cs.size:=⟨cs,e,(0,0),heap_alloc_new w _,rfl,.inl rfl⟩
 have hI:∀ b,(ctx G β w σ).I b->(ctx G (Zh6 β l w.heap.size) (w.alloc (.cells cs e)) ((l,blk)::σ)).I b/\(ctx G (Zh6 β l w.heap.size) (w.alloc (.cells cs e)) ((l,blk)::σ)).w.heap[b]?=(ctx G β w σ).w.heap[b]?:=fun b hb=>by
  refine⟨?_,Zam w _ b (hlt b hb)⟩
  have hbl:=hlt b hb
  obtain⟨h1,h2,h3⟩:=hb
  .refine⟨by simp;omega,h2,fun m o hm=>?_⟩
   by_cases hml:m=l
   .subst hml
    rw [hgs] at hm
    cases hm
    intro hh
    have:=hh.flat hflat
    rw [Zdc] at this
    cases this;omega
   .have hm':get σ m=some o:=by rw [<- hgl m hml];exact hm
    exact fun ho=>h3 m o hm' (hO m o hml hm' b ho)
 have hL:∀ m,m≠l->Zak (ctx G β w σ) (ctx G (Zh6 β l w.heap.size) (w.alloc (.cells cs e)) ((l,blk)::σ)) m:=fun m hm=>by
  have hg':get ((l,blk)::σ) m=get σ m:=hgl m hm
  cases hg:get σ m with
  | none=>exact Zak.none (hg'.trans hg)
  | some o=>exact Zak.same hg' (Zj1 β _ hm) (fun b hb=>Zam w _ b (h.sep m o b hg (.inl hb)).1)
 refine⟨?_,hrow,hI,hL⟩
 have hns:∀ m o,m≠l->get ((l,blk)::σ) m=some o->get σ m=some o:=fun m o hm hg=>(hgl m hm).symm.trans hg
 exact { defers := h.defers, sz := h.sz, base := by simp; have := h.base; omega, os := h.os, tape := h.tape, output := h.output,
         old:=fun b hb ho=>(Zam w _ b (Nat.lt_of_lt_of_le hb h.base)).trans (h.old b hb ho),A:=h.A,gl:=h.gl,
         inj:=fun m m' o o' b hm hm' hb hb'=>by
          by_cases h1:m=l
          .by_cases h2:m'=l
           .rw [h1,h2]
           .subst h1
            rw [hgs] at hm
            cases hm
            have hb:=hb.flat hflat
            simp only [Zdc,Option.some.injEq] at hb
            have:=(h.sep m' o' b (hns m' o' h2 hm') (hO m' o' h2 (hns m' o' h2 hm') b hb')).1
            omega
          .by_cases h2:m'=l
           .subst h2
            rw [hgs] at hm'
            cases hm'
            have hb':=hb'.flat hflat
            simp only [Zdc,Option.some.injEq] at hb'
            have:=(h.sep m o b (hns m o h1 hm) (hO m o h1 (hns m o h1 hm) b hb)).1
            omega
           .exact h.inj m m' o o' b (hns m o h1 hm) (hns m' o' h2 hm') (hO m o h1 (hns m o h1 hm) b hb) (hO m' o' h2 (hns m' o' h2 hm') b hb'),
         sep:=fun m o b hm hb=>by
          by_cases h1:m=l
          .subst h1
           rw [hgs] at hm
           cases hm
           have hb:=hb.flat hflat
           simp only [Zdc,Option.some.injEq] at hb
           subst hb
           exact⟨by simp,.inl h.base⟩
          .have:=h.sep m o b (hns m o h1 hm) (hO m o h1 (hns m o h1 hm) b hb)
           exact⟨by simp;omega,this.2⟩,
         fix:=fun m cs' h1 hm=>by
          have h2:m≠l:=by omega
          rw [Zj1 β _ h2]
          exact h.fix m cs' h1 (hns m _ h2 hm),
         row0:=h.row0.step (fun m hm=>hL m (by omega)),
         blk:=fun m o hm=>by
          by_cases h1:m=l
          .subst h1
           simp only [hgs,Option.some.injEq] at hm
           subst hm
           exact hblk hI hL hrow
          .have hm':=hns m o h1 hm
           exact BR.step hI (Zj1 β _ h1) (fun b hb=>Zam w _ b (h.sep m o b hm' hb).1) (fun q hq=>hL q (fun e=>by subst e;rw [(hf2 m o hm').2] at hq;cases hq)) (h.blk m o hm'),
         tm:=fun i p hp=>⟨(h.tm i p hp).1,VR.step hI p _ (fun q hq=>hL q (fun e=>by subst e;rw [hf1 i p hp] at hq;cases hq)) (h.tm i p hp).2⟩ }
theorem Z55 {need : List Nat} {p : PV} {l : Nat} {blk : Blk} (h : ∀ (G : Frm) (β : Nat -> Option Nat) (n : Nat) (tm : List (Nat × PV)) (σ' : List (Nat × Blk)) (a : Act) (w : World),
      (∀ x q,x∈o.op.operands->Zp ρ x=some q->VR (ctx G β w σ') q (a.eval x)/\q.has l=false)->(∀ m,m∈need->get σ' m=get σ m) ->
      (∀ i q,get tm i=some q->q.has l=false)->(∀ m y,get σ' m=some y->m≠l/\y.has l=false)->Zal G β ⟨n,tm,σ'⟩ a w ->
      ∃ v w',(execOp a.eval o).run P w = .ok (.value v) w'/\∃ β',Zal G β' ⟨n,tm,(l,blk)::σ'⟩ a w'/\VR (ctx G β' w' ((l,blk)::σ')) p v)
 (hcl:∀ x q,x∈o.op.operands->(∀ t,x ≠ .tmp t)->Zp ρ x=some q->q.has l=false):Zap P o ρ σ need p [(l,blk)]:=by
 intro G n tm σ' a w K Q hag hneed hfresh hr hK
 obtain⟨β,hr⟩:=hr
 obtain⟨hf1,hf2⟩:=hfresh l blk (by simp)
 obtain⟨v,w',hv,hp⟩:=h G β n tm σ' a w (fun x q hx hq=>⟨Zk9 hr hq (fun t r ht hr'=>hag t r (ht▸hx) hr'),by
  cases x with
  | tmp t=>exact hf1 t q (hag t q hx hq)
  | const _=>exact hcl _ q hx (fun t e=>by cases e) hq
  | global _=>exact hcl _ q hx (fun t e=>by cases e) hq
  | func _=>exact hcl _ q hx (fun t e=>by cases e) hq⟩) hneed hf1 hf2 hr
 unfold Oper.wp
 rw [hv]
 exact hK v w' hp
theorem Zayt{v:Value}{p:PV}(h:Zk8 v=some p)(l:Nat):p.has l=false:=by
 unfold Zk8 at h
 split at h<;>cases h<;>rfl
theorem Z0b{x:Operand}{q:PV}(l:Nat)(hx:∀ t,x ≠ .tmp t)(h:Zp ρ x=some q):q.has l=false:=by
 cases x with
 | tmp t=>exact absurd rfl (hx t)
 | const v=>exact Zayt h l
 | func f=>simp only [Zp,Option.some.injEq] at h;subst h;rfl
 | global g=>
  simp only [Zp] at h
  obtain⟨ts,_,rfl⟩:=Z2d h
  rfl
theorem VRs.cellsAt(w:World)(vs:List Value)(e:TypeId):Z52 (w.alloc (.cells vs.toArray e)) w.heap.size vs:=fun j v hv=>by
 rw [World.cell?_alloc_new];simpa using hv
theorem Zart{p:PV}{l:Nat}(h:p.has l=false):PV.hasAny l (Z6 p)=false:=by
 cases p<;>simp_all [Z6,PV.has,PV.hasAny]
theorem Zbct{T:TypeId}{x:Operand}{p:PV}(l:Nat)(hlab:1000<=l)(ho:o.op = .box T x)(hx:Zp ρ x=some p)(h1:(Z6 p).all PV.one=true):Zap P o ρ σ [] (.bptr l 0) [(l,.box (Z6 p))]:=
 Z55 (fun G β n tm σ' A w hop _ hf1 hf2 hr=>by
  obtain⟨hv,hhas⟩:=hop x p (by simp [ho,Op.operands]) hx
  have hc:=hv.cells
  obtain⟨hr',hrow,hI,hL⟩:=hr.allocOwn (A.eval x).cells T l (.box (Z6 p)) hlab trivial hf1 hf2 (fun hI hL hrow=>⟨w.heap.size,(A.eval x).cells.toList,Zdc _ _ _,by rw [<- hc.length,Array.length_toList];exact hrow,
   fun j v hv'=>by
    show (w.alloc _).cell? _=_
    rw [World.cell?_alloc_new];simpa using hv',VRs.step hI _ _ (fun q hq=>hL q (fun e=>by subst e;rw [Zart hhas] at hq;cases hq)) hc,h1⟩)
  refine⟨.pointer (some ⟨w.heap.size,0,none⟩),w.alloc (.cells (A.eval x).cells T),?_,_,hr',?_⟩
  .simp [execOp,ho,Instr.box,newVar,newRow]
  .simp only [VR]
   exact⟨fun cs hcs=>⟨w.heap.size,Zdc _ _ _,rfl⟩,_,rfl⟩) (fun _ _ _ hx hq=>Z0b l hx hq)
theorem Za6q{T:TypeId}{zero:List PV}(l:Nat)(hlab:1000<=l)(ho:o.op = .alloc T)(hz:Zi3 P T=some zero):Zap P o ρ σ [] (.bptr l 0) [(l,.box zero)]:=
 Z55 (fun G β n tm σ' A w hop _ hf1 hf2 hr=>by
  unfold Zi3 at hz
  simp only [Option.bind_eq_some_iff] at hz
  obtain⟨z,⟨i,hi,hiz⟩,hz⟩:=hz
  have h1:zero.all PV.one=true:=by
   generalize z.cells.toList=vs at hz
   clear hf1 hf2 hop hr
   induction vs generalizing zero with
   | nil=>simp at hz;subst hz;rfl
   | cons v vs ih=>
    rw [List.mapM_cons] at hz
    simp only [bind,Option.bind_eq_some_iff,pure,Option.some.injEq] at hz
    obtain⟨p,hp,qs,hq,rfl⟩:=hz
    simp [Zayq hp,ih hq]
  have hc:∀ c:Ctx,VRs c zero z.cells.toList:=fun c=>Zhp hz
  obtain⟨hr',hrow,hI,hL⟩:=hr.allocOwn z.cells T l (.box zero) hlab trivial hf1 hf2 (fun hI hL hrow=>⟨w.heap.size,z.cells.toList,Zdc _ _ _,by rw [<- (hc (ctx G β w σ')).length,Array.length_toList];exact hrow,
   fun j v hv'=>by
    show (w.alloc _).cell? _=_
    rw [World.cell?_alloc_new];simpa using hv',hc _,h1⟩)
  refine⟨.pointer (some ⟨w.heap.size,0,none⟩),w.alloc (.cells z.cells T),?_,_,hr',?_⟩
  .simp [execOp,ho,Instr.alloc,zeroValue,typeInfo,hi,hiz,newVar,newRow]
  .simp only [VR]
   exact⟨fun cs hcs=>⟨w.heap.size,Zdc _ _ _,rfl⟩,_,rfl⟩) (fun _ _ _ hx hq=>Z0b l hx hq)
def toT:PV->Option Zf
 | .t x=>some x
 | .nils=>some (.sl [])
 | _=>none
def Zec:List PV->Option (List Zf)
 | []=>some []
 | p::ps=>
  match toT p,Zec ps with
  | some t,some ts=>some (t::ts)
  | _,_=>none
def chunk(k:Nat):Nat->List Zf->List (List Zf)
 | 0,_=>[]
 | n+1,ts=>ts.take k::chunk k n (ts.drop k)
theorem Zats{c:Ctx}{p:PV}{t:Zf}{v:Value}(h:toT p=some t)(hv:VR c p v):Z1 c.I c.w t v:=by
 cases p<;>simp only [toT,Option.some.injEq] at h<;>first | (subst h) | (cases h)
 .simpa [VR] using hv
 .simp only [VR] at hv
  obtain⟨a,rfl⟩:=hv
  simp only [Z1]
  exact⟨a,0,rfl,by simp,by simp [maxLen],.inl trivial⟩
theorem Z7s{c:Ctx}{b:Nat}:∀ {ps:List PV} {ts:List Zf} {vs:List Value} (off:Nat),Zec ps=some ts->VRs c ps vs->(∀ j v,vs[j]?=some v->c.w.cell? ⟨b,off+j,none⟩=some v)->Zx c.I c.w b ts off
 | [],ts,vs,off,h,_,_=>by simp only [Zec,Option.some.injEq] at h;subst h;simp [Zx]
 | p::ps,ts,vs,off,h,hv,hc=>by
  simp only [Zec] at h
  split at h
  .rename_i t ts' ht hts
   cases h
   simp only [VRs] at hv
   obtain⟨v,rest,rfl,hv,hr⟩:=hv
   simp only [Zx]
   refine⟨⟨v,by simpa using hc 0 v rfl,Zats ht hv⟩,Z7s (off+1) hts hr fun j u hu=>?_⟩
   have:=hc (j+1) u (by simpa using hu)
   rwa [show off+(j+1)=off+1+j by omega] at this
  .cases h
theorem Zx.split{I:Nat->Prop}{w:World}{b:Nat}:∀ (k:Nat) (ts:List Zf) (off:Nat),Zx I w b ts off->Zx I w b (ts.take k) off/\Zx I w b (ts.drop k) (off+(ts.take k).length)
 | 0,ts,off,h=>by simpa [Zx] using h
 | k+1,[],off,h=>by simp [Zx]
 | k+1,t::ts,off,h=>by
  simp only [Zx] at h
  obtain⟨h1,h2⟩:=Zx.split k ts (off+1) h.2
  simp only [List.take_succ_cons,List.drop_succ_cons,Zx,List.length_cons]
  exact⟨⟨h.1,h1⟩,by rwa [show off+((ts.take k).length+1)=off+1+(ts.take k).length by omega]⟩
theorem Zr.chunk{I:Nat->Prop}{w:World}{b k:Nat}:∀ (n:Nat) (ts:List Zf) (off:Nat),Zx I w b ts off->Zr I w b (chunk k n ts) off
 | 0,_,_,_=>by simp [PW.chunk,Zr]
 | n+1,ts,off,h=>by
  obtain⟨h1,h2⟩:=Zx.split k ts off h
  simp only [PW.chunk,Zr]
  exact⟨h1,Zr.chunk n _ _ h2⟩
theorem Zn7(k:Nat):∀ (n:Nat) (ts:List Zf),(chunk k n ts).length=n
 | 0,_=>rfl
 | n+1,ts=>by simp [PW.chunk,Zn7 k n]
theorem Zap5(k:Nat):∀ (n:Nat) (ts:List Zf),ts.length=n*k->∀ el,el∈chunk k n ts->el.length=k
 | 0,_,_,el,h=>by simp [PW.chunk] at h
 | n+1,ts,hl,el,h=>by
  rw [Nat.add_mul,Nat.one_mul] at hl
  simp only [PW.chunk,List.mem_cons] at h
  rcases h with h | h
  .subst h;simp;omega
  .exact Zap5 k n _ (by simp;omega) el h
structure ElF (P:Program) (t e:TypeId) (k bytes:Nat) (zero:List PV):Prop where
 und:P.underlying t=some (.slice e)
 info:(P.info? e).map (fun i=>(i.size,i.bytes))=some (k,bytes)
 z:Zi3 P e=some zero
 pos:0 < k
 len:zero.length=k
def rep{α:Type}:Nat->List α->List α
 | 0,_=>[]
 | n+1,l=>l++rep n l
def Zma(k n:Nat):List (Nat×Nat):=(List.range n).map fun j=>(j*k,k)
theorem Z88{z:Array Value}{k:Nat}(hz:z.size=k)(hk:0 < k):∀ n,(madeCells z (n*k)).toList=rep n z.toList
 | 0=>by simp [madeCells,rep]
 | n+1=>by
  rw [rep,<- Z88 hz hk n]
  apply List.ext_getElem?
  intro j
  simp only [madeCells,Array.toList_map,Array.toList_range,List.getElem?_map]
  rcases Nat.lt_or_ge j k with h | h
  .rw [List.getElem?_append_left (by simp;omega)]
   have h1:j < (n+1)*k:=by rw [Nat.add_mul];omega
   simp [h1,hz,Nat.mod_eq_of_lt h,h]
  .rw [List.getElem?_append_right (by simp;omega)]
   simp only [Array.length_toList,hz,List.getElem?_map]
   have e1:(n+1)*k=n*k+k:=by rw [Nat.add_mul,Nat.one_mul]
   by_cases h2:j < (n+1)*k
   .have h3:j - k < n*k:=by omega
    rw [List.getElem?_range h2,List.getElem?_range h3]
    simp only [Option.map_some]
    have:j % k=(j - k) % k:=by rw [Nat.mod_eq_sub_mod h]
    rw [this]
   .have h3:¬ j - k < n*k:=by omega
    rw [List.getElem?_eq_none (by simp;omega),List.getElem?_eq_none (by simp;omega)]
theorem VRs.rep{c:Ctx}{ps:List PV}{vs:List Value}(h:VRs c ps vs):∀ n,VRs c (PW.rep n ps) (PW.rep n vs)
 | 0=>by simp [PW.rep,VRs]
 | n+1=>by simp only [PW.rep];exact h.append (h.rep n)
theorem Zaec{t e:TypeId}{k bytes:Nat}{zero:List PV}(hE:ElF P t e k bytes zero){c:Ctx}(w:World){len:Nat}{parts:List (Nat×PV)}{vals:Array (Nat×Value)}{out:List PV}(hp:VPs c parts vals.toList)
 (hsmall:len*k<=16777216) (hf:Zj0 (Zma k len) (rep len zero) parts=some out) :
 ∃ us,(Instr.buildSlice t len vals).run P w = .ok (.slice (some ⟨w.heap.size,0,none⟩) len len) (w.alloc (.cells us.toArray e))/\VRs c out us:=by
 cases hi:P.info? e with
 | none=>have:=hE.info;simp [hi] at this
 | some i=>
  have hik:i.size=k:=by have:=hE.info;simp [hi] at this;exact this.1
  have hz:=hE.z
  unfold Zi3 at hz
  simp only [hi,Option.bind_some,Option.bind_eq_some_iff] at hz
  obtain⟨z,hiz,hz⟩:=hz
  have hzv:VRs c zero z.cells.toList:=Zhp hz
  have hzl:z.cells.size=k:=by have:=hzv.length;rw [hE.len] at this;simpa using this
  have hpos:=hE.pos
  have hrep:=hzv.rep len
  rw [<- Z88 hzl hpos len] at hrep
  obtain⟨us,h1,h2⟩:=Zaeb (c:=c) (Zma k len) (fun j=>some (j*k,k)) (fun j x hx=>by
   simp only [Zma,List.getElem?_map,Option.map_eq_some_iff] at hx
   obtain⟨j',hj,rfl⟩:=hx
   have:j'=j:=by
    rcases Nat.lt_or_ge j len with h | h
    .simpa [h] using hj.symm
    .simp [h] at hj
   rw [this]) parts vals.toList (rep len zero) _ out hp hrep hf
  refine⟨us,?_,h2⟩
  by_cases hn:len=0
  .subst hn
   have hmade:madeCells z.cells (0*k) = #[]:=by simp [madeCells]
   have h1':Instr.fill (fun j=>some (j*k,k)) #[] vals.toList=some us.toArray:=by rw [hmade] at h1;simpa using h1
   simp only [Instr.buildSlice,Sem.run_bind,run_underlying hE.und,Result.andThen_ok,sizeOf,typeInfo,run_program,hi,Sem.run_pure,Nat.zero_mul,hik]
   have hmap:∀ f:Nat->Value,Array.map f (Array.range 0) = #[]:=fun f=>by simp
   simp only [Nat.not_lt_zero,gt_iff_lt,if_false,if_true,Sem.run_bind,Sem.run_pure,Result.andThen_ok,hmap,h1',newRow]
   simp
  .have hne:¬ len*i.size=0:=by rw [hik];exact Nat.ne_of_gt (Nat.mul_pos (by omega) hpos)
   refine run_buildSlice w t e len vals us.toArray i z hE.und hi hiz (by rw [hik];omega) hne ?_
   rw [hik]
   rw [Array.toArray_toList] at h1
   exact h1
end
end Go.PW
