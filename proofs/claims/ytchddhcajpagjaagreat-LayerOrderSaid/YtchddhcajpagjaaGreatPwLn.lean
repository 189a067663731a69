import Derived.Test.YtchddhcajpagjaaGreatPwLm
set_option linter.all false
namespace Go.PW
open Go.RowKit
def Zeg(β:Nat->Option Nat)(l:Nat)(b:Option Nat):Nat->Option Nat:=fun m=>if m=l then b else β m
theorem Zau(β:Nat->Option Nat)(l:Nat)(b:Option Nat):Zeg β l b l=b:=by simp [Zeg]
theorem Zs4(β:Nat->Option Nat){l m:Nat}(b:Option Nat)(h:m≠l):Zeg β l b m=β m:=by simp [Zeg,h]
theorem Zakj{G:Frm}{β:Nat->Option Nat}{n:Nat}{tm:List (Nat×PV)}{Z:List (Nat×Blk)}{a:Act}{w:World}(h:Zan G β ⟨n,tm,Z⟩ a w)(w':World)(bL:Option Nat)(L:Nat)(blk:Blk)(rm:List Nat)
 (hsz:w.heap.size<=w'.heap.size) (hos:w'.os=w.os) (htp:w'.tape=w.tape) (hout:w'.output=w.output) (hnb:(∀ cs,blk ≠ .box cs)/\(1000<=L\/∀ k es,blk ≠ .row k es))
 (hheap:∀ b,b < w.heap.size->(∀ l o,l∈rm->get Z l=some o->¬ Zae β w l o b)->w'.heap[b]?=w.heap[b]?)
 (hown:∀ c,Zae (Zeg β L bL) w' L blk c->(w.heap.size<=c/\c < w'.heap.size)\/∃ l o,l∈rm/\get Z l=some o/\Zae β w l o c)
 (hV:(∀ b,(ctx G β w Z).I b->(ctx G (Zeg β L bL) w' ((L,blk)::Zbo rm Z)).I b/\w'.heap[b]?=w.heap[b]?)->(∀ m,m≠L->Zal (ctx G β w Z) (ctx G (Zeg β L bL) w' ((L,blk)::Zbo rm Z)) m) ->
  (∀ i p v,get tm i=some p->VR (ctx G β w Z) p v->VR (ctx G (Zeg β L bL) w' ((L,blk)::Zbo rm Z)) p v) /\
  (∀ q o,q≠L->get Z q=some o->(∀ b,Zae β w q o b->w'.heap[b]?=w.heap[b]?)->BR (ctx G β w Z) q o->BR (ctx G (Zeg β L bL) w' ((L,blk)::Zbo rm Z)) q o))
 (hblk:(∀ b,(ctx G β w Z).I b->(ctx G (Zeg β L bL) w' ((L,blk)::Zbo rm Z)).I b/\w'.heap[b]?=w.heap[b]?)->BR (ctx G (Zeg β L bL) w' ((L,blk)::Zbo rm Z)) L blk) :
 Zan G (Zeg β L bL) ⟨n,tm,(L,blk)::Zbo rm Z⟩ a w':=by
 have hget:∀ m o,get ((L,blk)::Zbo rm Z) m=some o->(m=L/\o=blk)\/(m≠L/\m∉rm/\get Z m=some o):=fun m o hg=>by
  simp only [PW.get] at hg
  cases hb:Nat.beq L m with
  | true=>
   have:L=m:=(Z1 _ _).1 hb
   simp only [hb,cond_true,Option.some.injEq] at hg
   exact .inl ⟨this.symm,hg.symm⟩
  | false=>
   simp only [hb,cond_false] at hg
   have:=Zz2 hg
   exact .inr ⟨fun e=>by subst e;simp at hb,this.1,this.2⟩
 have hgo:∀ m,m≠L->get ((L,blk)::Zbo rm Z) m=get (Zbo rm Z) m:=fun m hm=>by simp only [PW.get,Zgf (Ne.symm hm),cond_false]
 have hkeep:∀ m o,m∉rm->get Z m=some o->∀ b,Zae β w m o b->w'.heap[b]?=w.heap[b]?:=fun m o hm hg b ho=>hheap b (h.sep m o b hg ho).1 (fun l o' hl hg' ho'=>by
  have:=h.inj m l o o' b hg hg' ho ho'
  subst this
  exact hm hl)
 have hO:∀ m o,m≠L->m∉rm->get Z m=some o->∀ b,Zae (Zeg β L bL) w' m o b->Zae β w m o b:=fun m o hm hr hg b ho=>ho.of (Zs4 β bL hm) (fun b hb=>hkeep m o hr hg b (.inl hb))
 have hI:∀ b,(ctx G β w Z).I b->(ctx G (Zeg β L bL) w' ((L,blk)::Zbo rm Z)).I b/\w'.heap[b]?=w.heap[b]?:=fun b hb=>by
  refine⟨⟨Nat.lt_of_lt_of_le hb.1 hsz,hb.2.1,fun m o hm ho=>?_⟩,hheap b hb.1 (fun l o _ hg ho=>hb.2.2 l o hg ho)⟩
  rcases hget m o hm with ⟨rfl,rfl⟩ | ⟨h1,h2,h3⟩
  .rcases hown b ho with ⟨h4,_⟩ | ⟨l,o,_,h5,h6⟩
   .have:=hb.1;omega
   .exact hb.2.2 l o h5 h6
  .exact hb.2.2 m o h3 (hO m o h1 h2 h3 b ho)
 have hL:∀ m,m≠L->Zal (ctx G β w Z) (ctx G (Zeg β L bL) w' ((L,blk)::Zbo rm Z)) m:=fun m hm=>by
  have hgm:get (ctx G (Zeg β L bL) w' ((L,blk)::Zbo rm Z)).Z m=get (Zbo rm Z) m:=hgo m hm
  cases hg:get (Zbo rm Z) m with
  | none=>exact Zal.none (hgm.trans hg)
  | some o=>
   obtain⟨h1,h2⟩:=Zz2 hg
   exact Zal.same ((hgm.trans hg).trans h2.symm) (Zs4 β bL hm) (fun b hb=>hkeep m o h1 h2 b (.inl hb))
 obtain⟨hLt,hLs⟩:=hV hI hL
 exact { defers := h.defers, sz := h.sz, base := Nat.le_trans h.base hsz, os := hos.trans h.os, tape := htp.trans h.tape, output := hout.trans h.output,
         old:=fun b hb hn=>(hheap b (Nat.lt_of_lt_of_le hb h.base) (fun l o _ hg ho=>by
          rcases (h.sep l o b hg ho).2 with h1 | h1
          .omega
          .exact hn h1)).trans (h.old b hb hn),
         A:=h.A,gl:=h.gl,
         inj:=fun m m' o o' b hm hm' hb hb'=>by
          rcases hget m o hm with ⟨rfl,rfl⟩ | ⟨h1,h2,h3⟩<;>rcases hget m' o' hm' with ⟨rfl,rfl⟩ | ⟨h1',h2',h3'⟩
          .rfl
          .exfalso
           have hb':=hO m' o' h1' h2' h3' b hb'
           rcases hown b hb with ⟨h4,_⟩ | ⟨l,o,h4,h5,h6⟩
           .have:=(h.sep m' o' b h3' hb').1;omega
           .have:=h.inj m' l o' o b h3' h5 hb' h6
            subst this;exact h2' h4
          .exfalso
           have hb:=hO m o h1 h2 h3 b hb
           rcases hown b hb' with ⟨h4,_⟩ | ⟨l,o2,h4,h5,h6⟩
           .have:=(h.sep m o b h3 hb).1;omega
           .have:=h.inj m l o o2 b h3 h5 hb h6
            subst this;exact h2 h4
          .exact h.inj m m' o o' b h3 h3' (hO m o h1 h2 h3 b hb) (hO m' o' h1' h2' h3' b hb'),
         sep:=fun m o b hm hb=>by
          rcases hget m o hm with ⟨rfl,rfl⟩ | ⟨h1,h2,h3⟩
          .rcases hown b hb with ⟨h4,h5⟩ | ⟨l,o,_,h5,h6⟩
           .exact⟨h5,.inl (Nat.le_trans h.base h4)⟩
           .have:=h.sep l o b h5 h6
            exact⟨Nat.lt_of_lt_of_le this.1 hsz,this.2⟩
          .have:=h.sep m o b h3 (hO m o h1 h2 h3 b hb)
           exact⟨Nat.lt_of_lt_of_le this.1 hsz,this.2⟩,
         fix:=fun m cs h1 hm=>by
          rcases hget m _ hm with ⟨_,h2⟩ | ⟨h2,_,h3⟩
          .exact absurd h2.symm (hnb.1 cs)
          .rw [Zs4 β bL h2];exact h.fix m cs h1 h3,
         row0:=fun m k es' hm hg=>by
          by_cases e:m=L
          .rcases hget m _ hg with ⟨_,h2⟩ | ⟨h2,_,_⟩
           .exact hnb.2.elim (fun h=>by omega) (fun h=>absurd h2.symm (h k es'))
           .exact absurd e h2
          .exact h.row0.one (hL m e) hm hg,
         blk:=fun m o hm=>by
          rcases hget m o hm with ⟨rfl,rfl⟩ | ⟨h1,h2,h3⟩
          .exact hblk hI
          .exact hLs m o h1 h3 (fun b hb=>hkeep m o h2 h3 b hb) (h.blk m o h3),
         tm:=fun i p hp=>⟨(h.tm i p hp).1,hLt i p _ hp (h.tm i p hp).2⟩ }
theorem Zj9{G:Frm}{β:Nat->Option Nat}{n:Nat}{tm:List (Nat×PV)}{Z:List (Nat×Blk)}{a:Act}{w:World}(h:Zan G β ⟨n,tm,Z⟩ a w)(w':World)(bL:Option Nat)(L:Nat)(blk:Blk)(rm:List Nat)
 (hsz:w.heap.size<=w'.heap.size) (hos:w'.os=w.os) (htp:w'.tape=w.tape) (hout:w'.output=w.output) (hnb:(∀ cs,blk ≠ .box cs)/\(1000<=L\/∀ k es,blk ≠ .row k es))
 (hheap:∀ b,b < w.heap.size->(∀ l o,l∈rm->get Z l=some o->¬ Zae β w l o b)->w'.heap[b]?=w.heap[b]?)
 (hown:∀ c,Zae (Zeg β L bL) w' L blk c->(w.heap.size<=c/\c < w'.heap.size)\/∃ l o,l∈rm/\get Z l=some o/\Zae β w l o c)
 (hLL:Zal (ctx G β w Z) (ctx G (Zeg β L bL) w' ((L,blk)::Zbo rm Z)) L\/((∀ i q,get tm i=some q->q.has L=false)/\(∀ m y,get Z m=some y->y.has L=false)))
 (hblk:(∀ b,(ctx G β w Z).I b->(ctx G (Zeg β L bL) w' ((L,blk)::Zbo rm Z)).I b/\w'.heap[b]?=w.heap[b]?)->BR (ctx G (Zeg β L bL) w' ((L,blk)::Zbo rm Z)) L blk) :
 Zan G (Zeg β L bL) ⟨n,tm,(L,blk)::Zbo rm Z⟩ a w':=
 Zakj h w' bL L blk rm hsz hos htp hout hnb hheap hown (fun hI hL=>⟨fun i p v hp hv=>VR.step hI p v (fun m hm=>by
  by_cases e:m=L
  .subst e
   rcases hLL with h1 | ⟨h1,_⟩
   .exact h1
   .rw [h1 i p hp] at hm;cases hm
  .exact hL m e) hv,fun q o hq hg hk hb=>BR.step hI (Zs4 β bL hq) hk (fun m hm=>by
  by_cases e:m=L
  .subst e
   rcases hLL with h1 | ⟨_,h1⟩
   .exact h1
   .rw [h1 q o hg] at hm;cases hm
  .exact hL m e) hb⟩) hblk
structure Ze4 (w:World) (b:Nat) (es:List (List Zf)) (vs:List Value):Prop where
 len:vs.length=es.length
 cell:∀ (j:Nat) v,vs[j]?=some v->w.cell? ⟨b,j,none⟩=some v
 inn:∀ (j:Nat) e v,es[j]?=some e->vs[j]?=some v->∃ inner a cap,e=[.sl inner]/\v = .slice a inner.length cap/\inner.length<=cap/\cap<=maxLen/\(∀ x,x∈inner->∃ t,x=[t]/\t.scal=true) /\
  (inner=[]\/∃ d m,a=some ⟨d,0,none⟩/\d≠b/\Za4 w d m/\cap<=m/\Zr (fun _=>True) w d inner 0)
 dis:∀ (i j:Nat) d l l' c c',vs[i]?=some (.slice (some ⟨d,0,none⟩) l c)->vs[j]?=some (.slice (some ⟨d,0,none⟩) l' c')->l≠0->l'≠0->i=j
theorem Z7r{inner:List (List Zf)}(h:∀ x,x∈inner->∃ t,x=[t]/\t.scal=true):∀ el,el∈inner->∀ x,x∈el->Zf.scal x=true:=fun el hel x hx=>by
 obtain⟨t,rfl,ht⟩:=h el hel
 simp only [List.mem_singleton] at hx
 subst hx;exact ht
theorem Ze4.br{c:Ctx}{L b m:Nat}{es:List (List Zf)}{vs:List Value}(h:Ze4 c.w b es vs)(hb:c.β L=some b)(hr:Za4 c.w b m)(hm:es.length<=m):BR c L (.mat 1 0 es):=by
 have hcell:∀ (j:Nat) v,vs[j]?=some v->c.w.cell? ⟨b,j*1+0,none⟩=some v:=fun j v hv=>by rw [Nat.mul_one,Nat.add_zero];exact h.cell j v hv
 have hv:∀ j,j < es.length->∃ v,vs[j]?=some v:=fun j hj=>⟨vs[j]'(by rw [h.len];exact hj),List.getElem?_eq_getElem _⟩
 refine⟨Nat.zero_lt_one,fun el hel=>?_,.inr ⟨b,m,hb,hr,by rw [Nat.mul_one];exact hm,?_,?_,?_⟩⟩
 .obtain⟨j,hj,he⟩:=List.getElem_of_mem hel
  obtain⟨v,hv⟩:=hv j hj
  obtain⟨inner,a,cap,rfl,_⟩:=h.inn j el v (by rw [List.getElem?_eq_getElem hj,he]) hv
  rfl
 .have key:∀ (k:Nat) (fs:List (List Zf)),es.drop k=fs->Zr (fun d=>c.I d\/Subs c.w b 1 0 es.length d) c.w b fs k:=by
   intro k fs
   induction fs generalizing k with
   | nil=>intro _;simp [Zr]
   | cons e fs ih=>
    intro he
    have hk:k < es.length:=by
     rcases Nat.lt_or_ge k es.length with h | h
     .exact h
     .rw [List.drop_eq_nil_of_le h] at he;cases he
    have hek:es[k]?=some e:=by rw [<- List.head?_drop,he];rfl
    obtain⟨v,hv⟩:=hv k hk
    obtain⟨inner,a,cap,rfl,rfl,h1,h2,h3,h4⟩:=h.inn k e v hek hv
    simp only [Zr,Zw,and_true,List.length_cons,List.length_nil]
    refine⟨⟨_,h.cell k _ hv,?_⟩,ih (k+1) (by rw [<- List.drop_drop,he];rfl)⟩
    simp only [Z0]
    refine⟨a,cap,rfl,h1,h2,?_⟩
    rcases h4 with h4 | ⟨d,m',h5,h6,h7,h8,h9⟩
    .exact .inl h4
    .by_cases hi:inner=[]
     .exact .inl hi
     .exact .inr ⟨d,0,h5,.inr ⟨k,hk,inner.length,cap,fun e=>hi (List.eq_nil_of_length_eq_zero e),by rw [Nat.mul_one,Nat.add_zero,h.cell k _ hv,h5]⟩,Zr.scal inner 0 (Z7r h3) h9⟩
  exact key 0 es (by simp)
 .intro i j d len len' cap cap' hi hj hl hl' h1 h2
  obtain⟨v,hv1⟩:=hv i hi
  obtain⟨v',hv2⟩:=hv j hj
  rw [hcell i v hv1] at h1;rw [hcell j v' hv2] at h2
  cases h1;cases h2
  exact h.dis i j d len len' cap cap' hv1 hv2 hl hl'
 .intro j e he
  obtain⟨v,hv1⟩:=hv j (List.getElem?_eq_some_iff.1 he).1
  obtain⟨inner,a,cap,rfl,rfl,h1,h2,h3,h4⟩:=h.inn j e v he hv1
  refine⟨inner,a,inner.length,cap,rfl,h3,hcell j _ hv1,fun hl=>?_⟩
  rcases h4 with h4 | ⟨d,m',h5,h6,h7,h8,h9⟩
  .rw [h4] at hl;exact absurd rfl hl
  .exact⟨d,m',h5,h6,h7,h8⟩
theorem Ze4.of{c:Ctx}{L:Nat}{es:List (List Zf)}(h:BR c L (.mat 1 0 es)):(c.β L=none/\es=[])\/∃ b m vs,c.β L=some b/\Za4 c.w b m/\es.length<=m/\Ze4 c.w b es vs:=by
 obtain⟨_,hk,h⟩:=h
 rcases h with h | ⟨b,m,hb,hr,hm,hel,hdis,hin⟩
 .exact .inl h
 refine .inr ⟨b,m,(List.range es.length).map (fun j=>(c.w.cell? ⟨b,j,none⟩).getD undef),hb,hr,by rwa [Nat.mul_one] at hm,?_⟩
 have hc:∀ (j:Nat) e,es[j]?=some e->∃ inner v,e=[.sl inner]/\c.w.cell? ⟨b,j,none⟩=some v/\Z0 (fun d=>c.I d\/Subs c.w b 1 0 es.length d) c.w (.sl inner) v/\(∀ x,x∈inner->∃ t,x=[t]/\t.scal=true) /\
  (∀ a len cap,v = .slice a len cap->len≠0->∃ d m',a=some ⟨d,0,none⟩/\d≠b/\Za4 c.w d m'/\cap<=m'):=fun j e he=>by
  obtain⟨inner,a,len,cap,h1,h2,h3,h4⟩:=hin j e he
  have hl:=hk e (List.mem_of_getElem? he)
  have hee:e=[.sl inner]:=by
   match e,hl,h1 with
   | [x],_,h1=>simp at h1;rw [h1]
  subst hee
  have ht:=hel.get j _ hk he
  simp only [Zw,and_true,Nat.zero_add,Nat.mul_one] at ht
  obtain⟨v,hv,ht⟩:=ht
  rw [Nat.mul_one,Nat.add_zero] at h3
  refine⟨inner,v,rfl,hv,ht,h2,fun a' len' cap' he' hl'=>?_⟩
  rw [h3] at hv;cases hv
  cases he'
  exact h4 hl'
 have hvs:∀ (j:Nat) v,((List.range es.length).map (fun j=>(c.w.cell? ⟨b,j,none⟩).getD undef))[j]?=some v->j < es.length/\c.w.cell? ⟨b,j,none⟩=some v:=fun j v hv=>by
  simp only [List.getElem?_map,Option.map_eq_some_iff] at hv
  obtain⟨i,hi,hv⟩:=hv
  have hj:j < es.length:=by have:=(List.getElem?_eq_some_iff.1 hi).1;simpa using this
  have:i=j:=by rw [List.getElem?_range hj] at hi;cases hi;rfl
  subst this
  obtain⟨inner,v',_,h2,_⟩:=hc i _ (List.getElem?_eq_getElem hj)
  rw [h2] at hv ⊢
  exact⟨hj,by simpa using hv⟩
 refine⟨by simp,fun j v hv=>(hvs j v hv).2,fun j e v he hv=>?_,fun i j d l l' cp cp' h1 h2 hl hl'=>?_⟩
 .obtain⟨inner,v',rfl,h2,h3,h4,h5⟩:=hc j e he
  rw [(hvs j v hv).2] at h2
  cases h2
  simp only [Z0] at h3
  obtain⟨a,cap,rfl,h6,h7,h8⟩:=h3
  refine⟨inner,a,cap,rfl,rfl,h6,h7,h4,?_⟩
  by_cases hi:inner=[]
  .exact .inl hi
  .obtain⟨d,m',e1,e2,e3,e4⟩:=h5 a inner.length cap rfl (fun e=>hi (List.eq_nil_of_length_eq_zero e))
   rcases h8 with h8 | ⟨d',off,e5,_,e6⟩
   .exact absurd h8 hi
   .rw [e1] at e5;cases e5
    exact .inr ⟨d,m',e1,e2,e3,e4,Zr.scal inner 0 (Z7r h4) e6⟩
 .obtain⟨a1,a2⟩:=hvs i _ h1
  obtain⟨a3,a4⟩:=hvs j _ h2
  exact hdis i j d l l' cp cp' a1 a3 hl hl' (by rw [Nat.mul_one,Nat.add_zero];exact a2) (by rw [Nat.mul_one,Nat.add_zero];exact a4)
theorem Ze4.subs{w:World}{b:Nat}{es:List (List Zf)}{vs:List Value}(h:Ze4 w b es vs){d:Nat}:Subs w b 1 0 es.length d↔∃ (j l c:Nat),vs[j]?=some (Value.slice (some ⟨d,0,none⟩) l c)/\l≠0:=by
 constructor
 .rintro ⟨j,hj,len,cap,hl,hc⟩
  rw [Nat.mul_one,Nat.add_zero] at hc
  have hv:vs[j]?=some (vs[j]'(by rw [h.len];exact hj)):=List.getElem?_eq_getElem _
  rw [h.cell j _ hv] at hc
  cases hc2:vs[j]'(by rw [h.len];exact hj) with
  | slice a l c=>rw [hc2] at hc hv;cases hc;exact⟨j,len,cap,hv,hl⟩
  | _=>rw [hc2] at hc;cases hc
 .rintro ⟨j,l,c,hv,hl⟩
  exact⟨j,by rw [<- h.len];exact (List.getElem?_eq_some_iff.1 hv).1,l,c,hl,by rw [Nat.mul_one,Nat.add_zero];exact h.cell j _ hv⟩
theorem Zr.mono'{w w':World}{d:Nat}{es:List (List Zf)}(hh:w'.heap[d]?=w.heap[d]?)(hsc:∀ x,x∈es->∃ t,x=[t]/\t.scal=true)(h:Zr (fun _=>True) w d es 0):Zr (fun _=>True) w' d es 0:=by
 have hT:∀ {t:Zf} {v:Value},t.scal=true->Z0 (fun _=>True) w t v->Z0 (fun _=>True) w' t v:=fun {t v} hs h=>Z0.scal hs h
 have key:∀ (es:List (List Zf)) (off:Nat),(∀ x,x∈es->∃ t,x=[t]/\t.scal=true)->Zr (fun _=>True) w d es off->Zr (fun _=>True) w' d es off:=by
  intro es
  induction es with
  | nil=>intro off _ _;simp [Zr]
  | cons e es ih=>
   intro off hs h
   obtain⟨t,rfl,ht⟩:=hs e (by simp)
   simp only [Zr,Zw,and_true] at h ⊢
   obtain⟨⟨c,h1,h2⟩,h3⟩:=h
   exact⟨⟨c,(World.cell?_of_block (w:=w) hh).trans h1,hT ht h2⟩,ih _ (fun x hx=>hs x (List.mem_cons_of_mem _ hx)) h3⟩
 exact key es 0 hsc h
def SC1(es:List (List Zf)):Prop:=∀ x,x∈es->∃ t,x=[t]/\t.scal=true
theorem Ze4.nil(w:World)(b:Nat):Ze4 w b [] []:=⟨rfl,by simp,by simp,by simp⟩
theorem Ze4.app{w w':World}{b b3 bN:Nat}{es0 es3:List (List Zf)}{vs0 vs3:List Value}(h0:Ze4 w b es0 vs0)(h3:Ze4 w b3 es3 vs3)(hc:∀ (j:Nat) v,(vs0++vs3)[j]?=some v->w'.cell? ⟨bN,j,none⟩=some v)
 (hin:∀ d l c (j:Nat),(vs0++vs3)[j]?=some (Value.slice (some ⟨d,0,none⟩) l c)->l≠0->d≠bN/\w'.heap[d]?=w.heap[d]?)
 (hx:∀ (i j:Nat) d l l' c c',vs0[i]?=some (Value.slice (some ⟨d,0,none⟩) l c)->vs3[j]?=some (Value.slice (some ⟨d,0,none⟩) l' c')->l≠0->l'≠0->False):Ze4 w' bN (es0++es3) (vs0++vs3):=by
 have hlen:=h0.len
 refine⟨by simp [h0.len,h3.len],hc,fun j e v he hv=>?_,fun i j d l l' c c' h1 h2 hl hl'=>?_⟩
 .have key:∃ inner a cap,e=[.sl inner]/\v = .slice a inner.length cap/\inner.length<=cap/\cap<=maxLen/\(∀ x,x∈inner->∃ t,x=[t]/\t.scal=true) /\
   (inner=[]\/∃ d m,a=some ⟨d,0,none⟩/\Za4 w d m/\cap<=m/\Zr (fun _=>True) w d inner 0):=by
   rcases Nat.lt_or_ge j es0.length with h | h
   .rw [List.getElem?_append_left h] at he
    rw [List.getElem?_append_left O] at hv
    obtain⟨inner,a,cap,e1,e2,e3,e4,e5,e6⟩:=h0.inn j e v he hv
    exact⟨inner,a,cap,e1,e2,e3,e4,e5,e6.imp id fun⟨d,m,f1,_,f2⟩=>⟨d,m,f1,f2⟩⟩
   .rw [List.getElem?_append_right h] at he
    rw [List.getElem?_append_right O,hlen] at hv
    obtain⟨inner,a,cap,e1,e2,e3,e4,e5,e6⟩:=h3.inn _ e v he hv
    exact⟨inner,a,cap,e1,e2,e3,e4,e5,e6.imp id fun⟨d,m,f1,_,f2⟩=>⟨d,m,f1,f2⟩⟩
  obtain⟨inner,a,cap,e1,e2,e3,e4,e5,e6⟩:=key
  refine⟨inner,a,cap,e1,e2,e3,e4,e5,?_⟩
  by_cases hi:inner=[]
  .exact .inl hi
  .rcases e6 with h | ⟨d,m,f1,f2,f3,f4⟩
   .exact .inl h
   .obtain⟨g1,g2⟩:=hin d inner.length cap j (by rw [hv,e2,f1]) (fun e=>hi (List.eq_nil_of_length_eq_zero e))
    exact .inr ⟨d,m,f1,g1,f2.of_heap g2,f3,Zr.mono' g2 e5 f4⟩
 .rcases Nat.lt_or_ge i vs0.length with hi | hi<;>rcases Nat.lt_or_ge j vs0.length with hj | hj
  .rw [List.getElem?_append_left hi] at h1;rw [List.getElem?_append_left hj] at h2
   exact h0.dis i j d l l' c c' h1 h2 hl hl'
  .rw [List.getElem?_append_left hi] at h1;rw [List.getElem?_append_right hj] at h2
   exact (hx _ _ d l l' c c' h1 h2 hl hl').elim
  .rw [List.getElem?_append_right hi] at h1;rw [List.getElem?_append_left hj] at h2
   exact (hx _ _ d l' l c' c h2 h1 hl' hl).elim
  .rw [List.getElem?_append_right hi] at h1;rw [List.getElem?_append_right hj] at h2
   have:=h3.dis _ _ d l l' c c' h1 h2 hl hl'
   omega
section
variable {P:Program} {o:Oper} {ρ:List (Nat×PV)} {σ0:List (Nat×Blk)}
theorem opFn {need rm : List Nat} {p : PV} {news : List (Nat × Blk)} (h : ∀ (G : Frm) (β : Nat -> Option Nat) (n : Nat) (tm : List (Nat × PV)) (Z' : List (Nat × Blk)) (a : Act) (w : World),
      (∀ x q,x∈o.op.operands->Zp ρ x=some q->VR (ctx G β w Z') q (a.eval x))->(∀ l,l∈need->get Z' l=get σ0 l) ->
      (∀ l x,(l,x)∈news->l∉rm->(∀ i q,get tm i=some q->q.has l=false)/\(∀ m y,get Z' m=some y->m≠l/\y.has l=false))->Zan G β ⟨n,tm,Z'⟩ a w ->
      ∃ v w',(execOp a.eval o).run P w = .ok (.value v) w'/\∃ β',Zan G β' ⟨n,tm,news++Zbo rm Z'⟩ a w'/\VR (ctx G β' w' (news++Zbo rm Z')) p v):OpF P o ρ σ0 need rm p news:=by
 intro G n tm Z' a w K Q hag hneed hfr hr hK
 obtain⟨β,hr⟩:=hr
 obtain⟨v,w',hv,hp⟩:=h G β n tm Z' a w (fun x q hx hq=>Zlh hr hq (fun t r ht hr'=>hag t r (ht▸hx) hr')) hneed hfr hr
 unfold Oper.wp
 rw [hv]
 exact hK v w' hp
theorem Zaq0{G:Frm}{β:Nat->Option Nat}{n:Nat}{tm:List (Nat×PV)}{Z:List (Nat×Blk)}{a:Act}{w:World}(hr:Zan G β ⟨n,tm,Z⟩ a w){l m:Nat}{es:List (List Zf)}(hg:get Z l=some (.row 1 es))(hm:es.length=m){v:Value}(hv:OSl (ctx G β w Z) l m v)(hsc:SC1 es) :
 ∃ ad cap,v = .slice ad es.length cap/\es.length<=cap/\cap<=maxLen/\(es=[]\/∃ d sz,ad=some ⟨d,0,none⟩/\β l=some d/\Za4 w d sz/\cap<=sz/\Zr (fun _=>True) w d es 0):=by
 obtain⟨ad,cap,hv,hmc,hcm,h3⟩:=(hv 1 es hg).2 hm.symm
 refine⟨ad,cap,by rw [hm];exact hv,by omega,hcm,?_⟩
 obtain⟨_,_,hb⟩:=hr.blk l _ hg
 rcases hb with ⟨_,he⟩ | ⟨b,sz,hb,_,_,hel⟩
 .exact .inl he
 .rcases h3 with ⟨hc,_⟩ | ⟨b',sz',ha,hb',hrow,hs⟩
  .exact .inl (List.eq_nil_of_length_eq_zero O)
  .have:b'=b:=by have:=hb'.symm.trans hb;simpa using this
   subst this
   exact .inr ⟨b',sz',ha,hb,hrow,by simpa using hs,Zr.scal es 0 (Z7r hsc) hel⟩
theorem Zbd6{t e:TypeId}{parts:Array (Nat×Operand)}{bytes l2 n2:Nat}{zero:List PV}{es2:List (List Zf)}(L:Nat)(hlab:1000<=L)(ho:o.op = .buildSlice t 1 parts)(hE:ElF P t e 1 bytes zero)(hp:Zgv ρ parts.toList=some [(0,.osl l2 n2)])
 (hf:Zj6 (Zmi 1 1) (rep 1 zero) [(0,.osl l2 n2)]=some [.osl l2 n2]) (hg0:get σ0 l2=some (.row 1 es2)) (hm:es2.length=n2) (hsc:SC1 es2) (hL:L≠l2):OpF P o ρ σ0 [l2] [l2] (.own L (.msl 1)) [(L,.mat 1 0 [[.sl es2]])]:=
 opFn fun G β n tm Z A w hop hnd hfr hr=>by
  have hg:get Z l2=some (.row 1 es2):=(hnd l2 (by simp)).trans hg0
  obtain⟨hf1,hf2⟩:=hfr L (.mat 1 0 [[.sl es2]]) (by simp) (by simpa using hL)
  have hv:=Zpo (ρ:=ρ) (c:=ctx G β w Z) A.eval parts.toList _ (fun x q hx hq=>hop x q (by simpa [ho,Op.operands] using hx) hq) hp
  obtain⟨us,h1,h2⟩:=Zad7 hE (c:=ctx G β w Z) w (vals:=parts.map fun (i,x)=>(i,A.eval x)) (by rw [Z2d];exact hv) O hf
  simp only [VRs] at h2
  obtain⟨v,rest,rfl,h2,rfl⟩:=h2
  simp only [VR] at h2
  obtain⟨ad,cap,rfl,hic,hcm,hin⟩:=Zaq0 hr hg hm h2.1 hsc
  have hcell:(w.alloc (.cells [Value.slice ad es2.length cap].toArray e)).cell? ⟨w.heap.size,0,none⟩=some (.slice ad es2.length cap):=by rw [World.cell?_alloc_new];rfl
  have hmat:Ze4 (w.alloc (.cells [Value.slice ad es2.length cap].toArray e)) w.heap.size [[.sl es2]] [.slice ad es2.length cap]:=by
   refine⟨rfl,fun j v hj=>?_,fun j e v he hj=>?_,fun i j d l l' c c' h1 h2 _ _=>?_⟩
   .match j,hj with
    | 0,hj=>cases hj;exact hcell
   .match j,hj,he with
    | 0,hj,he=>
     cases hj;cases he
     refine⟨es2,ad,cap,rfl,rfl,hic,hcm,hsc,hin.imp id fun⟨d,sz,g1,g2,g3,g4,g5⟩=>?_⟩
     have hlt:=(hr.sep l2 _ d hg (.inl g2)).1
     have hh:=Zap w (.cells [Value.slice ad es2.length cap].toArray e) d hlt
     exact⟨d,sz,g1,by omega,g3.of_heap hh,g4,Zr.mono' hh hsc g5⟩
   .match i,j,h1,h2 with
    | 0,0,_,_=>rfl
  have hrow:Za4 (w.alloc (.cells [Value.slice ad es2.length cap].toArray e)) w.heap.size 1:=⟨_,e,(0,0),heap_alloc_new w _,rfl,.inl rfl⟩
  have habs:=Zj9 hr (w.alloc (.cells [Value.slice ad es2.length cap].toArray e)) (some w.heap.size) L (.mat 1 0 [[.sl es2]]) [l2] (by simp) rfl rfl rfl (by simp)
   (fun b hb _=>Zap w _ b hb) (fun c hc=>?_) (.inr ⟨hf1,fun m y hy=>(hf2 m y hy).2⟩) (fun _=>hmat.br (Zau _ _ _) hrow (by simp))
  .refine⟨.slice (some ⟨w.heap.size,0,none⟩) 1 1,w.alloc (.cells [Value.slice ad es2.length cap].toArray e),?_,_,habs,?_⟩
   .simp only [execOp,ho,Sem.run_bind,h1,Result.andThen_ok,Sem.run_pure]
   .simp only [VR]
    refine⟨fun k q es' hg'=>?_,rfl⟩
    have:some (Blk.mat k q es')=some (.mat 1 0 [[.sl es2]]):=Eq.trans (Eq.symm hg') (by simp [ctx,PW.get])
    cases this
    exact⟨by simp,fun _=>⟨_,1,rfl,by simp,by simp [maxLen],.inr ⟨w.heap.size,1,rfl,Zau _ _ _,hrow,by simp⟩⟩⟩
  .rcases hc with hc | ⟨k,q,es,b0,h3,h4,h5⟩
   .rw [Zau] at hc;cases hc
    exact .inl ⟨Nat.le_refl _,by simp⟩
   .cases h3
    rw [Zau] at h4;cases h4
    obtain⟨j,l,c',hv,hl⟩:=hmat.subs.1 h5
    match j,hv with
    | 0,hv=>
     cases hv
     rcases hin with h | ⟨d,sz,g1,g2,_⟩
     .subst h;exact absurd rfl hl
     .cases g1
      exact .inr ⟨l2,_,by simp,hg,.inl g2⟩
theorem Zaom{G:Frm}{β:Nat->Option Nat}{n:Nat}{tm:List (Nat×PV)}{Z:List (Nat×Blk)}{a:Act}{w:World}(hr:Zan G β ⟨n,tm,Z⟩ a w){l m:Nat}{es:List (List Zf)}(hg:get Z l=some (.mat 1 0 es))(hm:es.length=m){v:Value}(hv:ODR (ctx G β w Z) l v (.msl m)) :
 ∃ ad cap vs,v = .slice ad m cap/\m<=cap/\cap<=maxLen/\((cap=0/\β l=none/\es=[]/\vs=[])\/∃ b sz,ad=some ⟨b,0,none⟩/\β l=some b/\Za4 w b sz/\cap<=sz/\es.length<=sz/\Ze4 w b es vs):=by
 obtain⟨ad,cap,hv,hmc,hcm,h3⟩:=(hv 1 0 es hg).2 hm.symm
 rcases Ze4.of (hr.blk l _ hg) with ⟨hb,he⟩ | ⟨b,sz,vs,hb,hrow,hsz,hmat⟩
 .rcases h3 with ⟨hc,_⟩ | ⟨b,sz,_,hb',_⟩
  .exact⟨ad,cap,[],hv,hmc,hcm,.inl ⟨hc,hb,he,rfl⟩⟩
  .exact absurd (hb.symm.trans hb') (by simp)
 .rcases h3 with ⟨_,hb'⟩ | ⟨b',sz',ha,hb',hrow',hs⟩
  .exact absurd (hb.symm.trans hb') (by simp)
  .have:b'=b:=by have:=hb'.symm.trans hb;simpa using this
   subst this
   have hss:sz'=sz:=by
    obtain⟨cs1,e1,f1,g1,g2,_⟩:=hrow
    obtain⟨cs2,e2,f2,g3,g4,_⟩:=hrow'
    have g1:w.heap[b']?=_:=g1
    have g3:w.heap[b']?=_:=g3
    rw [g1] at g3;cases g3
    omega
   subst hss
   exact⟨ad,cap,vs,hv,hmc,hcm,.inr ⟨b',sz',ha,hb,hrow,by simpa using hs,hsz,hmat⟩⟩
theorem Ze4.one{w:World}{b:Nat}{es:List (List Zf)}{vs:List Value}(h:Ze4 w b es vs):∀ u,u∈vs->u.oneCell'=true:=fun u hu=>by
 obtain⟨j,hj,he⟩:=List.getElem_of_mem hu
 obtain⟨inner,a,cap,_,h2,_⟩:=h.inn j (es[j]'(by rw [<- h.len];exact hj)) u (List.getElem?_eq_getElem _) (by rw [List.getElem?_eq_getElem hj,he])
 subst h2;rfl
theorem Ze4.ne{w:World}{b:Nat}{es:List (List Zf)}{vs:List Value}(h:Ze4 w b es vs){j d l c:Nat}(hv:vs[j]?=some (Value.slice (some ⟨d,0,none⟩) l c))(hl:l≠0):d≠b:=by
 have hj:j < es.length:=by rw [<- h.len];exact (List.getElem?_eq_some_iff.1 hv).1
 obtain⟨inner,a,cap,_,h2,_,_,_,h3⟩:=h.inn j _ _ (List.getElem?_eq_getElem hj) hv
 cases h2
 rcases h3 with h3 | ⟨d',m,h4,h5,_⟩
 .subst h3;exact absurd rfl hl
 .cases h4;exact h5
theorem Zbgb{t tx e:TypeId}{x y:Operand}{bytes l m l3 m3:Nat}{zero:List PV}{es0 es3:List (List Zf)}(ho:o.op = .call { callee := .builtin .append,args := #[x,y],argTypes := #[t,tx] })
 (hE:ElF P t e 1 bytes zero) (htx:∃ e',P.underlying tx=some (.slice e')) (hx:Zp ρ x=some (.own l (.msl m))) (hg0:get σ0 l=some (.mat 1 0 es0)) (hm:es0.length=m) (hy:Zp ρ y=some (.own l3 (.msl m3))) (hg3:get σ0 l3=some (.mat 1 0 es3)) (hm3:es3.length=m3)
 (hpos:0 < m3) (hll:l≠l3) (h63:m+m3<=9223372036854775807) (hby:(m+m3)*bytes<=140737488355328) :
 OpF P o ρ σ0 [l,l3] [l,l3] (.own l (.msl (m+m3))) [(l,.mat 1 0 (es0++es3))]:=
 opF fun G β n tm Z A w hop hnd hr=>by
  have e1:=hop x _ (by simp [ho,Op.operands,Call.operands]) hx
  have e2:=hop y _ (by simp [ho,Op.operands,Call.operands]) hy
  have hg:get Z l=some (.mat 1 0 es0):=(hnd l (by simp)).trans hg0
  have hg':get Z l3=some (.mat 1 0 es3):=(hnd l3 (by simp)).trans hg3
  simp only [VR] at e1 e2
  obtain⟨a0,cap,vs0,hv,hmc,hcm0,h3⟩:=Zaom hr hg hm e1.1
  obtain⟨a3,cap3,vs3,hv3,hmc3,hcm3,h4⟩:=Zaom hr hg' hm3 e2.1
  rcases h4 with ⟨hc,_⟩ | ⟨b3,sz3,ha3,hb3,hrow3,hcs3,hes3,hmat3⟩
  .omega
  obtain⟨e',htx⟩:=htx
  have hO3:∀ (j d l c:Nat),vs3[j]?=some (Value.slice (some ⟨d,0,none⟩) l c)->l≠0->Zae β w l3 (.mat 1 0 es3) d:=fun j d l c h hl => .inr ⟨1,0,es3,b3,rfl,hb3,hmat3.subs.2 ⟨j,l,c,h,hl⟩⟩
  have hvl0:vs0.length=m:=by
   rcases h3 with ⟨_,_,he,hv0⟩ | ⟨b,sz,_,_,_,_,_,hmat⟩
   .subst he;subst hv0;simpa using hm
   .rw [hmat.len,hm]
  have hO0:∀ (j d l' c:Nat),vs0[j]?=some (Value.slice (some ⟨d,0,none⟩) l' c)->l'≠0->Zae β w l (.mat 1 0 es0) d:=fun j d l' c h hl=>by
   rcases h3 with ⟨_,_,he,hv0⟩ | ⟨b,sz,_,hb,_,_,_,hmat⟩
   .subst hv0;simp at h
   .exact .inr ⟨1,0,es0,b,rfl,hb,hmat.subs.2 ⟨j,l',c,h,hl⟩⟩
  have hcross:∀ d,Zae β w l (.mat 1 0 es0) d->Zae β w l3 (.mat 1 0 es3) d->False:=fun d h h'=>hll (hr.inj l l3 _ _ d hg hg' h h')
  have hvl3:vs3.length=m3:=by rw [hmat3.len,hm3]
  cases hi:P.info? e with
  | none=>have:=hE.info;simp [hi] at this
  | some i=>
   have hik:i.size=1/\i.bytes=bytes:=by have:=hE.info;simpa [hi] using this
   have hz:=hE.z
   unfold Zi6 at hz
   simp only [hi,Option.bind_some,Option.bind_eq_some_iff] at hz
   obtain⟨z,hiz,hz⟩:=hz
   have hzl:z.cells.size=1:=by have:=(Zhk (c:=ctx G β w Z) hz).length;rw [hE.len] at this;simpa using this
   have hexec:∀ r,(Builtin.append_ #[t,tx] o.type #[.slice a0 m cap,A.eval y]).run P w=r->(execOp A.eval o).run P w=r.andThen fun v w => .ok (.value v) w:=by
    intro r hr
    simp only [execOp,ho,resolve,invoke,builtin,Sem.run_bind,Sem.run_pure,Result.andThen_ok,List.map_toArray,List.map_cons,List.map_nil,hv,hr]
   have hs:Src P i.size tx (A.eval y) m3 vs3 w:=by
    rw [hv3,ha3]
    exact Src.ofSlice w htx ⟨b3,0,none⟩ m3 cap3 vs3 (by rw [hvl3,hik.1,Nat.mul_one]) (fun j u hu=>by rw [Addr.add_mid];simpa using hmat3.cell j u hu) hmat3.one
   have hLS:∀ (β':Nat->Option Nat) (w':World),Zal (ctx G β w Z) (ctx G β' w' ((l,.mat 1 0 (es0++es3))::Zbo [l,l3] Z)) l:=fun β' w'=>by
    have hgs:get (ctx G β' w' ((l,.mat 1 0 (es0++es3))::Zbo [l,l3] Z)).Z l=some (.mat 1 0 (es0++es3)):=by simp [ctx,PW.get]
    refine⟨fun k' es' h=>?_,fun cs' h=>?_,fun k' q' es' h=>?_,fun k' es' h=>?_,fun k' i' es' cs' h=>?_⟩
    .rw [hgs] at h;cases h
    .rw [hgs] at h;cases h
    .rw [hgs] at h;cases h
     exact⟨es0,hg,by simp,fun he=>by rw [List.length_append] at he;omega⟩
    .rw [hgs] at h;cases h
    .rw [hgs] at h;cases h
   by_cases hroom:m+m3<=cap
   .rcases h3 with ⟨hc0,_⟩ | ⟨b,sz,ha,hb,hrow,hcs,hes,hmat⟩
    .omega
    subst ha
    have hth:=Zj8 hrow (o:=m*1) (n:=m3) O
    have hrun:=run_append_room_src (P:=P) w t tx o.type e i hE.und hi b 0 m cap (A.eval y) m3 vs3 hs hroom (fun j hj=>by
     have:=(hth j O).1
     rwa [hik.1,Nat.zero_add]) (fun j hj=>by
     have:=(hth j O).2
     rwa [hik.1,Nat.zero_add])
    rw [hik.1,Nat.zero_add,Nat.mul_one] at hrun
    have hneb:∀ (j d l' c:Nat),(vs0++vs3)[j]?=some (Value.slice (some ⟨d,0,none⟩) l' c)->l'≠0->d≠b:=fun j d l' c h hl=>by
     rcases Nat.lt_or_ge j vs0.length with hj | hj
     .rw [List.getElem?_append_left hj] at h
      exact hmat.ne h hl
     .rw [List.getElem?_append_right hj] at h
      rintro rfl
      exact hcross d (.inl hb) (hO3 _ d l' c h hl)
    have hmatN:Ze4 (w.setCells b m vs3) b (es0++es3) (vs0++vs3):=by
     refine Ze4.app hmat hmat3 (fun j v hj=>?_) (fun d l' c j h hl=>⟨hneb j d l' c h hl,Za3 b vs3 m w d (hneb j d l' c h hl)⟩) (fun i j d l' l'' c c' h1 h2 hl hl'=>hcross d (hO0 i d l' c h1 hl) (hO3 j d l'' c' h2 hl'))
     rcases Nat.lt_or_ge j vs0.length with h | h
     .rw [List.getElem?_append_left h] at hj
      rw [World.cell?_setCells_out b vs3 m w ⟨b,j,none⟩ (fun _ _ => .inl (by simp;omega))]
      exact hmat.cell j v hj
     .rw [List.getElem?_append_right h] at hj
      have hjl:=(List.getElem?_eq_some_iff.1 hj).1
      have:=World.cell?_setCells_in b vs3 m w (fun j' hj'=>by have:=(hth j' O).1;rwa [Nat.mul_one] at this) (j - vs0.length) hjl
      rw [show m+(j - vs0.length)=j by omega] at this
      rw [this,<- hj,List.getElem?_eq_getElem hjl]
    have hrowN:=Za8 b vs3 m w hrow
    have habs:=Zj9 hr (w.setCells b m vs3) (some b) l (.mat 1 0 (es0++es3)) [l,l3] (by rw [Zck];exact Nat.le_refl _) (Za5 b vs3 m w).1 (Za5 b vs3 m w).2.1 (Za5 b vs3 m w).2.2 (by simp)
     (fun b' _ hn=>Za3 b vs3 m w b' (fun e=>hn l _ (by simp) hg (.inl (by rw [e];exact hb)))) (fun c hc => .inr ?_) (.inl (hLS _ _)) (fun _=>hmatN.br (Zau _ _ _) hrowN (by rw [List.length_append,hm,hm3];omega))
    .refine⟨.slice (some ⟨b,0,none⟩) (m+m3) cap,w.setCells b m vs3,(by rw [hexec _ hrun];rfl),_,habs,?_⟩
     simp only [VR]
     refine⟨fun k' q' es' hg''=>?_,rfl⟩
     have:some (Blk.mat k' q' es')=some (.mat 1 0 (es0++es3)):=Eq.trans (Eq.symm hg'') (by simp [ctx,PW.get])
     cases this
     exact⟨by simp;omega,fun _=>⟨_,cap,rfl,hroom,hcm0,.inr ⟨b,sz,rfl,Zau _ _ _,hrowN,by omega⟩⟩⟩
    .rcases hc with hc | ⟨k,q,es,b0,g3,g4,g5⟩
     .rw [Zau] at hc;cases hc
      exact⟨l,_,by simp,hg,.inl hb⟩
     .cases g3
      rw [Zau] at g4;cases g4
      obtain⟨j,l',c',hv,hl⟩:=hmatN.subs.1 g5
      rcases Nat.lt_or_ge j vs0.length with h | h
      .rw [List.getElem?_append_left h] at hv
       exact⟨l,_,by simp,hg,hO0 j c l' c' hv hl⟩
      .rw [List.getElem?_append_right h] at hv
       exact⟨l3,_,by simp,hg',hO3 _ c l' c' hv hl⟩
   .have hgt:cap < m+m3:=by omega
    have hold:(Builtin.firstCells i.size m (.slice a0 m cap)).run P w.drew = .ok vs0.toArray w.drew:=by
     rcases h3 with ⟨_,_,he,hv0⟩ | ⟨b,sz,ha,hb,hrow,hcs,hes,hmat⟩
     .subst he;subst hv0
      have hm0:m=0:=by simpa using hm.symm
      subst hm0
      cases a0<;>simp [Builtin.firstCells,loadCells,loadCellsFrom]
     .subst ha
      exact run_firstCells_some w.drew i.size m ⟨b,0,none⟩ m cap vs0 (by rw [hvl0,hik.1,Nat.mul_one]) (fun j v hj=>by rw [Addr.add_mid];simpa using hmat.cell j v hj)
    have hrun:=run_append_grow_src (P:=P) w t tx o.type e i z hE.und hi hiz a0 m cap vs0 hold (A.eval y) m3 vs3 hs hgt O (by rw [hik.2];exact growslice_fits hgt hby)
    generalize hcs:(vs0++vs3).toArray++Builtin.zeroCells z.cells (grownCap w (m+m3) cap e - (m+m3))=cs at hrun
    have hge:=grownCap_ge w (m+m3) cap e
    have hcm:grownCap w (m+m3) cap e<=maxLen:=grownCap_le_maxLen w (m+m3) cap e (by simp only [maxLen];omega)
    have hcsz:cs.size=grownCap w (m+m3) cap e:=by
     rw [<- hcs]
     simp only [Array.size_append,List.size_toArray,List.length_append,size_zeroCells,hzl,hvl0,hvl3]
     omega
    have hd:=Zan.drew hr
    have hltO:∀ d l' o',get Z l'=some o'->Zae β w l' o' d->d < w.heap.size:=fun d l' o' h1 h2=>(hr.sep l' o' d h1 h2).1
    have hOw:∀ (j d l' c:Nat),(vs0++vs3)[j]?=some (Value.slice (some ⟨d,0,none⟩) l' c)->l'≠0->d < w.heap.size:=fun j d l' c h hl=>by
     rcases Nat.lt_or_ge j vs0.length with hj | hj
     .rw [List.getElem?_append_left hj] at h
      exact hltO d l _ hg (hO0 j d l' c h hl)
     .rw [List.getElem?_append_right hj] at h
      exact hltO d l3 _ hg' (hO3 _ d l' c h hl)
    have hheap:∀ d,d < w.heap.size->(w.drew.alloc (.cells cs e)).heap[d]?=w.heap[d]?:=fun d hd=>Zap w.drew _ d hd
    have hmat0:∃ b,Ze4 w b es0 vs0:=by
     rcases h3 with ⟨_,_,he,hv0⟩ | ⟨b,sz,_,_,_,_,_,hmat⟩
     .subst he;subst hv0;exact⟨0,Ze4.nil w 0⟩
     .exact⟨b,hmat⟩
    obtain⟨bq,hmat0⟩:=hmat0
    have hmatN:Ze4 (w.drew.alloc (.cells cs e)) w.heap.size (es0++es3) (vs0++vs3):=by
     refine Ze4.app hmat0 hmat3 (fun j v hj=>?_) (fun d l' c j h hl=>⟨by have:=hOw j d l' c h hl;omega,hheap d (hOw j d l' c h hl)⟩) (fun i j d l' l'' c c' h1 h2 hl hl'=>hcross d (hO0 i d l' c h1 hl) (hO3 j d l'' c' h2 hl'))
     show (w.drew.alloc _).cell? ⟨w.drew.heap.size,_,none⟩=_
     rw [World.cell?_alloc_new,<- hcs]
     have hlt:=(List.getElem?_eq_some_iff.1 hj).1
     rw [Array.getElem?_append_left (by simpa using hlt)]
     simpa using hj
    have hrowN:Za4 (w.drew.alloc (.cells cs e)) w.heap.size cs.size:=⟨cs,e,(0,0),heap_alloc_new w.drew _,rfl,.inl rfl⟩
    have habs:=Zj9 hd (w.drew.alloc (.cells cs e)) (some w.heap.size) l (.mat 1 0 (es0++es3)) [l,l3] (by simp) rfl rfl rfl (by simp)
     (fun b' hb' _=>Zap w.drew _ b' hb') (fun c hc=>?_) (.inl ?_) (fun _=>hmatN.br (Zau _ _ _) hrowN (by rw [hcsz,List.length_append,hm,hm3];exact hge))
    .refine⟨.slice (some ⟨w.heap.size,0,none⟩) (m+m3) (grownCap w (m+m3) cap e),_,(by rw [hexec _ hrun];rfl),_,habs,?_⟩
     simp only [VR]
     refine⟨fun k' q' es' hg''=>?_,rfl⟩
     have:some (Blk.mat k' q' es')=some (.mat 1 0 (es0++es3)):=Eq.trans (Eq.symm hg'') (by simp [ctx,PW.get])
     cases this
     exact⟨by simp;omega,fun _=>⟨_,_,rfl,hge,hcm,.inr ⟨w.heap.size,cs.size,rfl,Zau _ _ _,hrowN,by rw [hcsz];omega⟩⟩⟩
    .have hw:∀ l' o',Zae β w l' o' c->Zae β w.drew l' o' c:=fun l' o' h=>h.of_cell (fun _=>rfl)
     rcases hc with hc | ⟨k,q,es,b0,g3,g4,g5⟩
     .rw [Zau] at hc;cases hc
      exact .inl ⟨Nat.le_refl _,by simp⟩
     .cases g3
      rw [Zau] at g4;cases g4
      obtain⟨j,l',c',hv,hl⟩:=hmatN.subs.1 g5
      refine .inr ?_
      rcases Nat.lt_or_ge j vs0.length with h | h
      .rw [List.getElem?_append_left h] at hv
       exact⟨l,_,by simp,hg,hw _ _ (hO0 j c l' c' hv hl)⟩
      .rw [List.getElem?_append_right h] at hv
       exact⟨l3,_,by simp,hg',hw _ _ (hO3 _ c l' c' hv hl)⟩
    .have hgs:get (ctx G (Zeg β l (some w.heap.size)) (w.drew.alloc (.cells cs e)) ((l,.mat 1 0 (es0++es3))::Zbo [l,l3] Z)).Z l=some (.mat 1 0 (es0++es3)):=by simp [ctx,PW.get]
     refine⟨fun k' es' h=>?_,fun cs' h=>?_,fun k' q' es' h=>?_,fun k' es' h=>?_,fun k' i' es' cs' h=>?_⟩
     .rw [hgs] at h;cases h
     .rw [hgs] at h;cases h
     .rw [hgs] at h;cases h
      exact⟨es0,hg,by simp,fun he=>by rw [List.length_append] at he;omega⟩
     .rw [hgs] at h;cases h
     .rw [hgs] at h;cases h
variable {Z:List (Nat×Blk)}
theorem Za6e{t:TypeId}{x y:Operand}{l m:Nat}{es:List (List Zf)}{ki:IntKind}{i:Int}(ho:o.op = .indexAddr t x y)(ha:slInfo P t=some 1)(hx:Zp ρ x=some (.own l (.msl m)))(hy:Zp ρ y=some (.t (.int ki i)))
 (hg:get Z l=some (.mat 1 0 es)) (hm:es.length=m) (h0:0<=i) (h1:i < m):Zas P o ρ Z [l] (.own l (.mpt m i.toNat 0)) []:=
 Zbp fun G β n tm Z' A w hop hneed hr=>by
  have e1:=hop x _ (by simp [ho,Op.operands]) hx
  have e2:=hop y _ (by simp [ho,Op.operands]) hy
  simp only [VR,Z0] at e1 e2 ⊢
  have hgl:get Z' l=some (.mat 1 0 es):=(hneed l (by simp)).trans hg
  obtain⟨ad,cap,vs,hv,hmc,hcm,h3⟩:=Zaom hr hgl hm e1.1
  rcases h3 with ⟨hc,_⟩ | ⟨b,sz,ha',hb,_⟩
  .omega
  .subst ha'
   refine⟨.pointer (some ⟨b,i.toNat*1,none⟩),?_,fun k q es' hg'=>?_,rfl⟩
   .simp only [execOp,ho,hv,e2,Sem.run_bind,Zn7 w ha h0 h1,Result.andThen_ok,Sem.run_pure,Nat.zero_add]
   .have:some (Blk.mat k q es')=some (.mat 1 0 es):=Eq.trans (Eq.symm hg') hgl
    cases this
    exact⟨by omega,fun _=>⟨b,hb,by simp⟩⟩
theorem Za9q{t:TypeId}{x:Operand}{l m j:Nat}{es:List (List Zf)}(ho:o.op = .load t x)(hT:TyF P t false 1)(hx:Zp ρ x=some (.own l (.mpt m j 0)))(hg:get Z l=some (.mat 1 0 es))(hm:es.length=m)(hj:j < m):Zas P o ρ Z [l] (.own l (.mrow m j)) []:=
 Zbp fun G β n tm Z' A w hop hneed hr=>by
  have e1:=hop x _ (by simp [ho,Op.operands]) hx
  simp only [VR] at e1 ⊢
  have hgl:get Z' l=some (.mat 1 0 es):=(hneed l (by simp)).trans hg
  obtain⟨b,hb,hv⟩:=(e1.1 1 0 es hgl).2 hm.symm
  rcases Ze4.of (hr.blk l _ hgl) with ⟨hb',_⟩ | ⟨b',sz,vs,hb',hrow,hsz,hmat⟩
  .exact absurd (hb'.symm.trans hb) (by simp)
  .have:b'=b:=by have:=hb'.symm.trans hb;simpa using this
   subst this
   have hvj:vs[j]?=some (vs[j]'(by rw [hmat.len];omega)):=List.getElem?_eq_getElem _
   have hc:w.cell? ⟨b',j*1+0,none⟩=some (vs[j]'(by rw [hmat.len];omega)):=by rw [Nat.mul_one,Nat.add_zero];exact hmat.cell j _ hvj
   refine⟨vs[j]'(by rw [hmat.len];omega),?_,⟨hj,fun k q es' hg'=>?_⟩,hmat.one _ (List.getElem_mem _)⟩
   .have hrun:(Instr.loadAt t (.pointer (some ⟨b',j*1+0,none⟩))).run P w = .ok (vs[j]'(by rw [hmat.len];omega)) w:=by
     have hc':w.cell? ⟨b',j,none⟩=some (vs[j]'(by rw [hmat.len];omega)):=hmat.cell j _ hvj
     rw [Nat.mul_one,Nat.add_zero]
     simp [Instr.loadAt,Instr.sureAddr,loadVar,hT.run_isAgg w,hc']
    simp only [execOp,ho,hv,Sem.run_bind,hrun,Result.andThen_ok,Sem.run_pure]
   .have:some (Blk.mat k q es')=some (.mat 1 0 es):=Eq.trans (Eq.symm hg') hgl
    cases this
    exact⟨by omega,fun _=>⟨b',hb,hc⟩⟩
theorem Za2y{t:TypeId}{x y:Operand}{l m j:Nat}{es inner:List (List Zf)}{ki:IntKind}{i:Int}(ho:o.op = .indexAddr t x y)(ha:slInfo P t=some 1)(hx:Zp ρ x=some (.own l (.mrow m j)))(hy:Zp ρ y=some (.t (.int ki i)))
 (hg:get Z l=some (.mat 1 0 es)) (hm:es.length=m) (he:es[j]?=some [.sl inner]) (h0:0<=i) (h1:i < inner.length):Zas P o ρ Z [l] (.own l (.mel m j i.toNat)) []:=
 Zbp fun G β n tm Z' A w hop hneed hr=>by
  have e1:=hop x _ (by simp [ho,Op.operands]) hx
  have e2:=hop y _ (by simp [ho,Op.operands]) hy
  simp only [VR,Z0] at e1 e2 ⊢
  have hgl:get Z' l=some (.mat 1 0 es):=(hneed l (by simp)).trans hg
  obtain⟨b,hb,hv⟩:=(e1.1.2 1 0 es hgl).2 hm.symm
  rw [Nat.mul_one,Nat.add_zero] at hv
  rcases Ze4.of (hr.blk l _ hgl) with ⟨hb',_⟩ | ⟨b',sz,vs,hb',hrow,hsz,hmat⟩
  .exact absurd (hb'.symm.trans hb) (by simp)
  .have:b'=b:=by have:=hb'.symm.trans hb;simpa using this
   subst this
   have hjl:j < es.length:=(List.getElem?_eq_some_iff.1 he).1
   have hvj:vs[j]?=some (vs[j]'(by rw [hmat.len];exact hjl)):=List.getElem?_eq_getElem _
   obtain⟨inner',a,cap,g1,g2,g3,g4,g5,g6⟩:=hmat.inn j _ _ he hvj
   have hc:=hmat.cell j _ hvj
   cases g1
   have hve:A.eval x = .slice a inner.length cap:=by
    have:some (A.eval x)=some (vs[j]'(by rw [hmat.len];exact hjl)):=hv.symm.trans hc
    rw [g2] at this;exact Option.some.inj this
   rcases g6 with g6 | ⟨d,sz',k1,k2,k3,k4,k5⟩
   .subst g6;simp at h1;omega
   .subst k1
    refine⟨.pointer (some ⟨d,0+i.toNat*1,none⟩),?_,⟨e1.1.1,fun k q es' hg'=>?_⟩,rfl⟩
    .simp only [execOp,ho,hve,e2,Sem.run_bind,Zn7 w ha h0 h1,Result.andThen_ok,Sem.run_pure]
    .have:some (Blk.mat k q es')=some (.mat 1 0 es):=Eq.trans (Eq.symm hg') hgl
     cases this
     exact⟨by omega,fun _=>⟨b',d,inner.length,cap,hb,by rw [Nat.mul_one,Nat.add_zero];exact hc.trans (by rw [g2]),by simp⟩⟩
end
theorem Zr.setCell{w:World}{d:Nat}{inner:List (List Zf)}{i:Nat}{z:Zf}{v:Value}(hsc:∀ x,x∈inner->∃ t,x=[t]/\t.scal=true)(hi:i < inner.length)(hz:z.scal=true)(hv:Z0 (fun _=>True) w z v)(h:Zr (fun _=>True) w d inner 0) :
 Zr (fun _=>True) (w.setCells d i [v]) d (inner.set i [z]) 0:=by
 have hT:∀ {w':World} {t:Zf} {v:Value},t.scal=true->Z0 (fun _=>True) w t v->Z0 (fun _=>True) w' t v:=fun {w' t v} hs h=>Z0.scal hs h
 have hk:∀ el,el∈inner->el.length=1:=fun el hel=>by obtain⟨t,rfl,_⟩:=hsc el hel;rfl
 have hthere:(w.cell? ⟨d,i,none⟩).isSome=true:=by
  have:=h.get i _ hk (List.getElem?_eq_getElem hi)
  obtain⟨t,ht,_⟩:=hsc _ (List.getElem_mem hi)
  rw [ht] at this
  simp only [Zw,and_true,Nat.zero_add,Nat.mul_one] at this
  obtain⟨c,hc,_⟩:=this
  rw [hc];rfl
 have hin:(w.setCells d i [v]).cell? ⟨d,i,none⟩=some v:=by
  have:=World.cell?_setCells_in d [v] i w (fun j hj=>by
   have hj0:j=0:=by simpa using hj
   rw [hj0,Nat.add_zero];exact hthere) 0 (by simp)
  simpa using this
 have hout:∀ j,j≠i->(w.setCells d i [v]).cell? ⟨d,j,none⟩=w.cell? ⟨d,j,none⟩:=fun j hj=>World.cell?_setCells_out d [v] i w ⟨d,j,none⟩ (fun _ _=>by simp;omega)
 have key:∀ (k:Nat) (fs:List (List Zf)),(inner.set i [z]).drop k=fs->Zr (fun _=>True) (w.setCells d i [v]) d fs k:=by
  intro k fs
  induction fs generalizing k with
  | nil=>intro _;simp [Zr]
  | cons e fs ih=>
   intro he
   have hk':k < inner.length:=by
    rcases Nat.lt_or_ge k inner.length with h | h
    .exact h
    .rw [List.drop_eq_nil_of_le (by simpa using h)] at he;cases he
   have hek:(inner.set i [z])[k]?=some e:=by rw [<- List.head?_drop,he];rfl
   have hrest:(inner.set i [z]).drop (k+1)=fs:=by rw [<- List.drop_drop,he];rfl
   by_cases hki:k=i
   .subst hki
    rw [List.getElem?_set_self hk'] at hek
    cases hek
    simp only [Zr,Zw,and_true]
    exact⟨⟨v,hin,hT hz hv⟩,ih (k+1) hrest⟩
   .rw [List.getElem?_set_ne (fun e=>hki e.symm)] at hek
    have hget:=h.get k _ hk hek
    obtain⟨t,rfl,ht⟩:=hsc e (List.mem_of_getElem? hek)
    simp only [Zr,Zw,and_true,Nat.zero_add,Nat.mul_one] at hget ⊢
    obtain⟨c,hc,hr⟩:=hget
    exact⟨⟨c,(hout k hki).trans hc,hT ht hr⟩,ih (k+1) hrest⟩
 exact key 0 _ rfl
section
variable {P:Program} {o:Oper} {n:Nat} {tm:List (Nat×PV)} {Z:List (Nat×Blk)}
theorem Zaz1{t:TypeId}{x y:Operand}{l m j i:Nat}{es inner:List (List Zf)}{p:PV}{z:Zf}(ho:o.op = .store t x y)(hd:o.dst=none)(hT:TyF P t false 1)(hx:Zp tm x=some (.own l (.mel m j i)))(hy:Zp tm y=some p)(hp:p = .t z)(hz:z.scal=true)
 (hg:get Z l=some (.mat 1 0 es)) (hm:es.length=m) (he:es[j]?=some [.sl inner]) (hi:i < inner.length):Zxt P o ⟨n,tm,Z⟩ ⟨n,tm,put Z l (.mat 1 0 (es.set j [.sl (inner.set i [z])]))⟩:=
 opup fun G β A w hop hr=>by
  subst hp
  have e1:=hop x _ hx
  have e2:=hop y _ hy
  simp only [VR] at e1
  obtain⟨b,d,len,cap,hb,hcell,hv⟩:=(e1.1.2 1 0 es hg).2 hm.symm
  rw [Nat.mul_one,Nat.add_zero] at hcell
  rcases Ze4.of (hr.blk l _ hg) with ⟨hb',_⟩ | ⟨b',sz,vs,hb',hrow,hsz,hmat⟩
  .exact absurd (hb'.symm.trans hb) (by simp)
  have:b'=b:=by have:=hb'.symm.trans hb;simpa using this
  subst this
  have hjl:j < es.length:=(List.getElem?_eq_some_iff.1 he).1
  have hvj:vs[j]?=some (vs[j]'(by rw [hmat.len];exact hjl)):=List.getElem?_eq_getElem _
  obtain⟨inner',a,cap',g1,g2,g3,g4,g5,g6⟩:=hmat.inn j _ _ he hvj
  have hc:=hmat.cell j _ hvj
  cases g1
  rw [g2] at hc hvj
  rw [hc] at hcell
  cases hcell
  rcases g6 with g6 | ⟨d',sz',k1,k2,k3,k4,k5⟩
  .subst g6;simp at hi
  cases k1
  have hstore:=Zi7 (P:=P) (c:=ctx G β w Z) hT w e2 (by simp [Z7]) (by simp [Z7,PV.one]) k3 (q:=i) O
  have e2':Z0 (ctx G β w Z).I w z (A.eval y):=e2
  have hcv:(A.eval y).cells.toList=[A.eval y]:=by
   have h1:=e2'.oneCell
   revert h1
   generalize A.eval y=u
   intro h1
   cases u<;>first | rfl | (simp [Value.oneCell'] at h1;done)
  rw [hcv] at hstore
  have hzv:Z0 (fun _=>True) w z (A.eval y):=Z0.mono (I:=(ctx G β w Z).I) (fun _ _=>⟨trivial,rfl⟩) _ _ e2'
  have hdn:∀ (q d2 l' c:Nat),vs[q]?=some (Value.slice (some ⟨d2,0,none⟩) l' c)->l'≠0->q≠j->d2≠d:=fun q d2 l' c h hl hq e=>by
   subst e
   exact hq (hmat.dis q j d2 l' inner.length c cap h hvj hl O)
  have hoth:∀ d2,d2≠d->(w.setCells d i [A.eval y]).heap[d2]?=w.heap[d2]?:=fun d2 h=>Za3 d [A.eval y] i w d2 h
  have hmatN:Ze4 (w.setCells d i [A.eval y]) b' (es.set j [.sl (inner.set i [z])]) vs:=by
   refine⟨by simpa using hmat.len,fun q v hq=>(World.cell?_of_block (w:=w) (hoth b' (Ne.symm k2))).trans (hmat.cell q v hq),fun q e v he' hq=>?_,hmat.dis⟩
   by_cases hqj:q=j
   .subst hqj
    rw [List.getElem?_set_self hjl] at he'
    cases he'
    rw [hvj] at hq
    cases hq
    refine⟨inner.set i [z],_,cap,rfl,by rw [List.length_set],by rw [List.length_set];exact g3,g4,fun x hx=>?_,.inr ⟨d,sz',rfl,k2,Za8 d [A.eval y] i w k3,k4,Zr.setCell g5 hi hz hzv k5⟩⟩
    rcases List.mem_or_eq_of_mem_set hx with h | h
    .exact g5 x h
    .exact⟨z,h,hz⟩
   .rw [List.getElem?_set_ne (fun e=>hqj e.symm)] at he'
    obtain⟨inn,a2,cap2,f1,f2,f3,f4,f5,f6⟩:=hmat.inn q e v he' hq
    refine⟨inn,a2,cap2,f1,f2,f3,f4,f5,?_⟩
    by_cases hie:inn=[]
    .exact .inl hie
    .rcases f6 with f6 | ⟨d2,s2,m1,m2,m3,m4,m5⟩
     .exact .inl f6
     .have hne:d2≠d:=hdn q d2 inn.length cap2 (by rw [hq,f2,m1]) (fun e=>hie (List.eq_nil_of_length_eq_zero e)) hqj
      exact .inr ⟨d2,s2,m1,m2,m3.of_heap (hoth d2 hne),m4,Zr.mono' (hoth d2 hne) f5 m5⟩
  have hOd:Zae β w l (.mat 1 0 es) d := .inr ⟨1,0,es,b',rfl,hb,hmat.subs.2 ⟨j,inner.length,cap,hvj,by omega⟩⟩
  have habs:=Zj9 hr (w.setCells d i [A.eval y]) (some b') l (.mat 1 0 (es.set j [.sl (inner.set i [z])])) [l] (by rw [Zck];exact Nat.le_refl _) (Za5 d _ i w).1 (Za5 d _ i w).2.1 (Za5 d _ i w).2.2 (by simp)
   (fun b2 _ hn=>hoth b2 (fun e=>hn l _ (by simp) hg (by rw [e];exact hOd))) (fun c hc => .inr ?_) (.inl ?_) (fun _=>hmatN.br (Zau _ _ _) (Za8 d [A.eval y] i w hrow) (by simpa using hsz))
  .refine⟨undef,w.setCells d i [A.eval y],.inr ⟨?_,rfl⟩,Zeg β l (some b'),?_⟩
   .simp only [execOp,ho,hv,Sem.run_bind,hstore,Result.andThen_ok,Sem.run_pure]
   .rw [hd];exact habs
  .rcases hc with hc | ⟨k,q,es',b0,f1,f2,f3⟩
   .rw [Zau] at hc;cases hc
    exact⟨l,_,by simp,hg,.inl hb⟩
   .cases f1
    rw [Zau] at f2;cases f2
    obtain⟨q,l',c',hv,hl⟩:=hmatN.subs.1 f3
    exact⟨l,_,by simp,hg,.inr ⟨1,0,es,b',rfl,hb,hmat.subs.2 ⟨q,l',c',hv,hl⟩⟩⟩
  .have hgs:get (ctx G (Zeg β l (some b')) (w.setCells d i [A.eval y]) ((l,.mat 1 0 (es.set j [.sl (inner.set i [z])]))::Zbo [l] Z)).Z l=some (.mat 1 0 (es.set j [.sl (inner.set i [z])])):=by simp [ctx,PW.get]
   refine⟨fun k' es' h=>?_,fun cs' h=>?_,fun k' q' es' h=>?_,fun k' es' h=>?_,fun k' i' es' cs' h=>?_⟩
   .rw [hgs] at h;cases h
   .rw [hgs] at h;cases h
   .rw [hgs] at h;cases h
    refine⟨es,hg,by simp,fun _=>⟨by show Zeg β l (some b') l=β l;rw [Zau];exact hb.symm,fun b2 hb2=>?_⟩⟩
    have:b'=b2:=by have:=hb.symm.trans hb2;simpa using this
    subst this
    exact⟨fun m hr=>Za8 d [A.eval y] i w hr,fun q _=>by
     show (w.setCells d i [A.eval y]).cell? _=w.cell? _
     exact World.cell?_of_block (w:=w) (hoth b' (Ne.symm k2))⟩
   .rw [hgs] at h;cases h
   .rw [hgs] at h;cases h
end
section
variable {P:Program} {o:Oper} {ρ:List (Nat×PV)} {σ0:List (Nat×Blk)}
theorem Za9r{t e:TypeId}{parts:Array (Nat×Operand)}{bytes:Nat}{zero:List PV}(L:Nat)(ho:o.op = .buildSlice t 0 parts)(hE:ElF P t e 1 bytes zero)(hp:Zgv ρ parts.toList=some []):OpF P o ρ σ0 [] [] (.own L (.msl 0)) [(L,.mat 1 0 [])]:=
 opFn fun G β n tm Z A w hop hnd hfr hr=>by
  obtain⟨hf1,hf2⟩:=hfr L (.mat 1 0 []) (by simp) (by simp)
  have hv:=Zpo (ρ:=ρ) (c:=ctx G β w Z) A.eval parts.toList _ (fun x q hx hq=>hop x q (by simpa [ho,Op.operands] using hx) hq) hp
  obtain⟨us,h1,h2⟩:=Zad7 hE (c:=ctx G β w Z) w (len:=0) (out:=[]) (vals:=parts.map fun (i,x)=>(i,A.eval x)) (by rw [Z2d];exact hv) O rfl
  simp only [VRs] at h2
  subst h2
  have habs:=Zj9 hr (w.alloc (.cells [].toArray e)) none L (.mat 1 0 []) [] (by simp) rfl rfl rfl (by simp)
   (fun b hb _=>Zap w _ b hb) (fun c hc=>?_) (.inr ⟨hf1,fun m y hy=>(hf2 m y hy).2⟩) (fun _=>⟨Nat.zero_lt_one,by simp,.inl ⟨Zau _ _ _,rfl⟩⟩)
  .refine⟨.slice (some ⟨w.heap.size,0,none⟩) 0 0,w.alloc (.cells [].toArray e),?_,_,habs,?_⟩
   .simp only [execOp,ho,Sem.run_bind,h1,Result.andThen_ok,Sem.run_pure]
   .simp only [VR]
    refine⟨fun k q es' hg'=>?_,rfl⟩
    have:some (Blk.mat k q es')=some (.mat 1 0 []):=Eq.trans (Eq.symm hg') (by simp [ctx,PW.get])
    cases this
    exact⟨by simp,fun _=>⟨_,0,rfl,by simp,by simp [maxLen],.inl ⟨rfl,Zau _ _ _⟩⟩⟩
  .rcases hc with hc | ⟨k,q,es,b0,h3,h4,h5⟩
   .rw [Zau] at hc;cases hc
   .rw [Zau] at h4;cases h4
end
end Go.PW
