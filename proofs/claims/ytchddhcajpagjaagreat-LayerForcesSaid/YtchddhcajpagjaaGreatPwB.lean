import Derived.Test.YtchddhcajpagjaaGreatPwA
import Derived.Scope
set_option linter.all false
namespace Go.PW
open Go.RowKit
theorem Imm.sub{G:Frm}{β:Nat->Option Nat}{w:World}{σ σ':List (Nat×Blk)}(hσ:∀ l o,get σ' l=some o->get σ l=some o)(b:Nat)(h:Imm G β w σ b):Imm G β w σ' b:=by
 obtain⟨h1,h2,h3⟩:=h
 exact⟨h1,h2,fun l o hl=>h3 l o (hσ l o hl)⟩
theorem Zaj.sub{G:Frm}{β:Nat->Option Nat}{w:World}{σ σ':List (Nat×Blk)}(hσ:∀ l o,get σ' l=some o->get σ l=some o)(l:Nat):Zaj (ctx G β w σ) (ctx G β w σ') l:=
 ⟨fun _ es' h=>⟨es',hσ l _ h,Nat.le_refl _,fun _=>⟨rfl,fun _ _ _ h=>h⟩⟩,fun cs' h=>⟨cs',hσ l _ h,rfl⟩,fun _ _ es' h=>⟨es',hσ l _ h,Nat.le_refl _,fun _=>⟨rfl,fun _ _=>⟨fun _ h=>h,fun _ _=>rfl⟩⟩⟩,fun _ es' h=>⟨es',hσ l _ h,rfl⟩⟩
theorem Subs.of_heap{w w':World}{b k q n d:Nat}(h:w'.heap[b]?=w.heap[b]?)(hs:Subs w' b k q n d):Subs w b k q n d:=by
 obtain⟨j,hj,len,cap,hl,hc⟩:=hs
 exact⟨j,hj,len,cap,hl,(World.cell?_of_block (w:=w) h).symm.trans hc⟩
theorem Zaa.of_heap{β:Nat->Option Nat}{w w':World}{l:Nat}{o:Blk}{b:Nat}(h:∀ b,β l=some b->w'.heap[b]?=w.heap[b]?)(ho:Zaa β w' l o b):Zaa β w l o b:=by
 rcases ho with ho | ⟨k,q,es,b0,h1,h2,h3⟩
 .exact .inl ho
 .exact .inr ⟨k,q,es,b0,h1,h2,h3.of_heap (h b0 h2)⟩
theorem Zaa.of{β β':Nat->Option Nat}{w w':World}{l:Nat}{o:Blk}{b:Nat}(hβ:β' l=β l)(h:∀ b,β l=some b->w'.heap[b]?=w.heap[b]?)(ho:Zaa β' w' l o b):Zaa β w l o b:=by
 rcases ho with ho | ⟨k,q,es,b0,h1,h2,h3⟩
 .exact .inl (hβ▸ho)
 .rw [hβ] at h2;exact .inr ⟨k,q,es,b0,h1,h2,h3.of_heap (h b0 h2)⟩
theorem Zaa.of_cell{β:Nat->Option Nat}{w w':World}{l:Nat}{o:Blk}{b:Nat}(h:∀ a,w'.cell? a=w.cell? a)(ho:Zaa β w' l o b):Zaa β w l o b:=by
 rcases ho with ho | ⟨k,q,es,b0,h1,h2,j,hj,len,cap,hl,hc⟩
 .exact .inl ho
 .exact .inr ⟨k,q,es,b0,h1,h2,j,hj,len,cap,hl,(h _).symm.trans hc⟩
def Blk.flat:Blk->Prop
 | .mat _ _ _=>False
 | _=>True
theorem Zaa.flat{β:Nat->Option Nat}{w:World}{l:Nat}{o:Blk}{b:Nat}(hf:o.flat)(ho:Zaa β w l o b):β l=some b:=by
 rcases ho with ho | ⟨k,q,es,b0,rfl,_⟩
 .exact ho
 .exact hf.elim
theorem Zaz.of_heap{w w':World}{b m:Nat}(h:w'.heap[b]?=w.heap[b]?)(hr:Zaz w b m):Zaz w' b m:=by unfold Zaz;rw [h];exact hr
theorem BR.step{c c':Ctx}(hI:∀ b,c.I b->c'.I b/\c'.w.heap[b]?=c.w.heap[b]?){l:Nat}{o:Blk}(hβ:c'.β l=c.β l)(hh:∀ b,Zaa c.β c.w l o b->c'.w.heap[b]?=c.w.heap[b]?)
 (hl:∀ m,o.has m=true->Zaj c c' m) (h:BR c l o):BR c' l o:=by
 have hrow:∀ b m,c.β l=some b->Zaz c.w b m->Zaz c'.w b m:=fun b m hb h=>h.of_heap (hh b (.inl hb))
 cases o with
 | box ps=>
  obtain⟨b,vs,hb,hr,hcs,hv,h1⟩:=h
  exact⟨b,vs,hβ.trans hb,hrow b _ hb hr,fun j v hj=>(World.cell?_of_block (w:=c.w) (hh b (.inl hb))).trans (hcs j v hj),VRs.step hI _ _ (fun m hm=>hl m hm) hv,h1⟩
 | row k es=>
  obtain⟨h0,hk,h⟩:=h
  refine⟨h0,hk,?_⟩
  rcases h with ⟨hb,he⟩ | ⟨b,m,hb,hr,hsz,het⟩
  .exact .inl ⟨hβ.trans hb,he⟩
  .exact .inr ⟨b,m,hβ.trans hb,hrow b m hb hr,hsz,Zq.mono hI (hh b (.inl hb)) _ _ het⟩
 | mat k q es=>
  obtain⟨h0,hk,h⟩:=h
  refine⟨h0,hk,?_⟩
  rcases h with ⟨hb,he⟩ | ⟨b,m,hb,hr,hsz,het,hd,hin⟩
  .exact .inl ⟨hβ.trans hb,he⟩
  .have hbh:=hh b (.inl hb)
   have hc:∀ j,c'.w.cell? ⟨b,j*k+q,none⟩=c.w.cell? ⟨b,j*k+q,none⟩:=fun j=>World.cell?_of_block (w:=c.w) hbh
   refine .inr ⟨b,m,hβ.trans hb,hrow b m hb hr,hsz,Zq.mono (fun d hd=>?_) hbh _ _ het,fun i j d len len' cap cap' hi hj hl hl' h1 h2=>hd i j d len len' cap cap' hi hj hl hl' ((hc i).symm.trans h1) ((hc j).symm.trans h2),fun j e he=>?_⟩
   .rcases hd with hd | hd
    .exact⟨.inl (hI d hd).1,(hI d hd).2⟩
    .refine⟨.inr ?_,hh d (.inr ⟨k,q,es,b,rfl,hb,hd⟩)⟩
     obtain⟨j,hj,len,cap,hl,hcc⟩:=hd
     exact⟨j,hj,len,cap,hl,(hc j).trans hcc⟩
   .obtain⟨inner,a,len,cap,h1,h2,h3,h4⟩:=hin j e he
    refine⟨inner,a,len,cap,h1,h2,(hc j).trans h3,fun hl=>?_⟩
    obtain⟨d,m',h5,h6,h7,h8⟩:=h4 hl
    have hj:=(List.getElem?_eq_some_iff.1 he).1
    exact⟨d,m',h5,h6,h7.of_heap (hh d (.inr ⟨k,q,es,b,rfl,hb,j,hj,len,cap,hl,by rw [h3,h5]⟩)),h8⟩
 | map ag es=>
  obtain⟨b,ents,clock,hb,hm,he⟩:=h
  exact⟨b,ents,clock,hβ.trans hb,(hh b (.inl hb)).trans hm,he.step hI⟩
theorem Zaj.none{c c':Ctx}{l:Nat}(h:get c'.σ l=none):Zaj c c' l:=
 ⟨fun _ _ hg=>(by rw [h] at hg;cases hg),fun _ hg=>(by rw [h] at hg;cases hg),fun _ _ _ hg=>(by rw [h] at hg;cases hg),fun _ _ hg=>(by rw [h] at hg;cases hg)⟩
theorem Zaj.same{c c':Ctx}{l:Nat}(hσ:get c'.σ l=get c.σ l)(hβ:c'.β l=c.β l)(hw:∀ b,c.β l=some b->c'.w.heap[b]?=c.w.heap[b]?):Zaj c c' l:=
 ⟨fun _ es' h=>⟨es',hσ▸h,Nat.le_refl _,fun _=>⟨hβ,fun b _ hb hr=>hr.of_heap (hw b hb)⟩⟩,fun cs' h=>⟨cs',hσ▸h,hβ⟩,
  fun _ _ es' h=>⟨es',hσ▸h,Nat.le_refl _,fun _=>⟨hβ,fun b hb=>⟨fun _ hr=>hr.of_heap (hw b hb),fun _ _=>World.cell?_of_block (w:=c.w) (hw b hb)⟩⟩⟩,fun _ es' h=>⟨es',hσ▸h,hβ⟩⟩
theorem Zai.sub{G:Frm}{β:Nat->Option Nat}{st st':St}{a:Act}{w:World}(h:Zai G β st a w)(hn:st'.n<=st.n)(ht:∀ i p,get st'.tm i=some p->get st.tm i=some p/\i < st'.n)
 (hσ:∀ l o,get st'.σ l=some o->get st.σ l=some o):Zai G β st' a w:=by
 have hI:∀ b,(ctx G β w st.σ).I b->(ctx G β w st'.σ).I b/\(ctx G β w st'.σ).w.heap[b]?=(ctx G β w st.σ).w.heap[b]?:=fun b hb=>⟨Imm.sub hσ b hb,rfl⟩
 exact { defers := h.defers, sz := Nat.le_trans hn h.sz, base := h.base, os := h.os, tape := h.tape, output := h.output, old := h.old, A := h.A, gl := h.gl,
         inj:=fun l l' o o' b hl hl'=>h.inj l l' o o' b (hσ l o hl) (hσ l' o' hl'),
         sep:=fun l o b hl=>h.sep l o b (hσ l o hl),
         fix:=fun l cs h1 hl=>h.fix l cs h1 (hσ l _ hl),row0:=h.row0.sub hσ,
         blk:=fun l o hl=>BR.step hI rfl (fun _ _=>rfl) (fun m _=>Zaj.sub hσ m) (h.blk l o (hσ l o hl)),
         tm:=fun i p hi=>⟨(ht i p hi).2,VR.step hI p _ (fun m _=>Zaj.sub hσ m) (h.tm i p (ht i p hi).1).2⟩ }
def Wk(st st':St):Prop:=∀ G a w,Rel G st a w->Rel G st' a w
theorem Wk.refl(st:St):Wk st st:=fun _ _ _ h=>h
theorem Wk.trans{a b c:St}(h:Wk a b)(k:Wk b c):Wk a c:=fun G x w r=>k G x w (h G x w r)
section rules
variable {P:Program} {Q Q':Exit->St->Prop} {st:St}
theorem PW.weaken{c:Code}{st':St}(hw:Wk st st')(h:PW P c Q st'):PW P c Q st:=fun G a w hr=>h G a w (hw G a w hr)
theorem PW.skip(h:Q .normal st):PW P .skip Q st:=fun _ _ _ hr=>wp_skip ⟨st,h,hr⟩
theorem PW.label{l:Nat}(h:Q .normal st):PW P (.label l) Q st:=fun _ _ _ hr=>wp_label ⟨st,h,hr⟩
theorem PW.exit{id:Nat}(h:Q (.exit id) st):PW P (.exit id) Q st:=fun _ _ _ hr=>wp_exit ⟨st,h,hr⟩
theorem PW.ret(h:Q .ret st):PW P .ret Q st:=fun _ _ _ hr=>wp_ret ⟨st,h,hr⟩
def Zwg(next:St->Prop)(Q:Exit->St->Prop):Exit->St->Prop
 | .normal,st=>next st
 | e,st=>Q e st
theorem PW.seq{x y:Code}(h:PW P x (Zwg (PW P y Q) Q) st):PW P (.seq x y) Q st:=by
 intro G a w hr
 refine wp_seq (wp_mono (h G a w hr) ?_)
 rintro e a' w' ⟨st',hq,hr'⟩
 cases e<;>simp only [Zwg,Exit.then] at hq ⊢
 case normal=>exact hq G a' w' hr'
 all_goals exact⟨st',hq,hr'⟩
theorem PW.cond{c:Operand}{x y:Code}{t:Nat}{b:Bool}(hc:c = .tmp t)(hg:get st.tm t=some (.t (.bool b)))(ht:b=true->PW P x Q st)(hf:b=false->PW P y Q st) :
 PW P (.cond c x y) Q st:=by
 intro G a w hr
 obtain⟨β,h⟩:=hr
 have hv:=(h.tm t _ hg).2
 simp only [VR,Zy] at hv
 subst hc
 exact wp_cond_split (t:=b) hv (fun hb=>ht hb G a w ⟨β,h⟩) (fun hb=>hf hb G a w ⟨β,h⟩)
theorem PW.condConst{x y:Code}{b:Bool}(ht:b=true->PW P x Q st)(hf:b=false->PW P y Q st) :
 PW P (.cond (.const (.bool b)) x y) Q st:=by
 intro G a w hr
 exact wp_cond_split (t:=b) rfl (fun hb=>ht hb G a w hr) (fun hb=>hf hb G a w hr)
def Zwa(id:Nat)(Q:Exit->St->Prop):Exit->St->Prop
 | .exit id',st=>if id'=id then Q .normal st else Q (.exit id') st
 | e,st=>Q e st
theorem PW.block{id:Nat}{c:Code}(h:PW P c (Zwa id Q) st):PW P (.block id c) Q st:=by
 intro G a w hr
 refine wp_block (wp_mono (h G a w hr) ?_)
 rintro e a' w' ⟨st',hq,hr'⟩
 cases e<;>simp only [Zwa,Exit.inBlock] at hq ⊢
 case exit id'=>
  split
  .rename_i he;simp only [he,if_true] at hq;exact⟨st',hq,hr'⟩
  .rename_i he;simp only [he,if_false] at hq;exact⟨st',hq,hr'⟩
 all_goals exact⟨st',hq,hr'⟩
def NoGo(Q:Exit->St->Prop):Exit->St->Prop
 | .goto _,_=>False
 | e,st=>Q e st
theorem PW.scope{c:Code}(h:PW P c (NoGo Q) st):PW P (.scope c) Q st:=by
 intro G a w hr
 refine wp_scope_straight (wp_mono (h G a w hr) ?_)
 rintro e a' w' ⟨st',hq,hr'⟩
 cases e<;>simp only [NoGo,Exit.noGoto] at hq ⊢
 all_goals exact⟨st',hq,hr'⟩
end rules
def Zak(P:Program)(o:Oper)(ρ:List (Nat×PV))(σ:List (Nat×Blk))(need:List Nat)(p:PV)(news:List (Nat×Blk)):Prop:=
 ∀ (G:Frm) (n:Nat) (tm:List (Nat×PV)) (σ':List (Nat×Blk)) (a:Act) (w:World) (K:Act->World->Prop) (Q:Exit->Act->World->Prop),
  (∀ t q,Operand.tmp t∈o.op.operands->get ρ t=some q->get tm t=some q) ->
  (∀ l,l∈need->get σ' l=get σ l) ->
  (∀ l x,(l,x)∈news->(∀ i q,get tm i=some q->q.has l=false)/\(∀ m y,get σ' m=some y->m≠l/\y.has l=false)) ->
  Rel G ⟨n,tm,σ'⟩ a w ->
  (∀ v w',(∃ β,Zai G β ⟨n,tm,news++σ'⟩ a w'/\VR (ctx G β w' (news++σ')) p v)->K (a.put o.dst v) w') ->
  o.wp P a w K Q
def Zq3(P:Program)(o:Oper)(st st':St):Prop:=
 ∀ (G:Frm) (a:Act) (w:World) (K:Act->World->Prop) (Q:Exit->Act->World->Prop),Rel G st a w->(∀ a' w',Rel G st' a' w'->K a' w')->o.wp P a w K Q
theorem Zai.put{G:Frm}{β:Nat->Option Nat}{n:Nat}{tm:List (Nat×PV)}{σ:List (Nat×Blk)}{a:Act}{w:World}{d:Nat}{p:PV}{v:Value}
 (h:Zai G β ⟨n,tm,σ⟩ a w) (hd:d < n) (hv:VR (ctx G β w σ) p v):Zai G β ⟨n,put tm d p,σ⟩ (a.put (some d) v) w:=by
 have hsz:d < a.tmps.size:=Nat.lt_of_lt_of_le hd h.sz
 exact { defers := h.defers, sz := by simpa [Act.put] using h.sz, base := h.base, os := h.os, tape := h.tape, output := h.output, old := h.old, A := h.A, gl := h.gl, inj := h.inj, sep := h.sep, fix := h.fix, row0 := h.row0, blk := h.blk,
         tm:=fun i q hq=>by
          by_cases hi:d=i
          .subst hi
           rw [Zbl] at hq
           cases hq
           refine⟨hd,?_⟩
           simpa [Act.put,hsz] using hv
          .rw [Zbj _ _ hi] at hq
           refine⟨(h.tm i q hq).1,?_⟩
           have:=(h.tm i q hq).2
           simpa [Act.put,Array.getElem?_setIfInBounds_ne hi] using this }
def Zbb{α:Type}:List Nat->List (Nat×α)->List (Nat×α)
 | [],σ=>σ
 | l::ls,σ=>Zbb ls (del σ l)
theorem Zwh{α:Type}:∀ {ls:List Nat} {σ:List (Nat×α)} {m:Nat} {o:α},get (Zbb ls σ) m=some o->m∉ls/\get σ m=some o
 | [],σ,m,o,h=>⟨by simp,h⟩
 | l::ls,σ,m,o,h=>by
  obtain⟨h1,h2⟩:=Zwh (ls:=ls) h
  by_cases hm:l=m
  .subst hm;rw [Zant] at h2;cases h2
  .rw [Ztz _ hm] at h2
   exact⟨by simp [h1,Ne.symm hm],h2⟩
theorem Z26{α:Type}:∀ {ls:List Nat} {σ:List (Nat×α)} {m:Nat},m∉ls->get (Zbb ls σ) m=get σ m
 | [],σ,m,_=>rfl
 | l::ls,σ,m,h=>by
  simp only [List.mem_cons,not_or] at h
  rw [Zbb,Z26 h.2,Ztz _ (Ne.symm h.1)]
def OpF(P:Program)(o:Oper)(ρ:List (Nat×PV))(σ:List (Nat×Blk))(need rm:List Nat)(p:PV)(news:List (Nat×Blk)):Prop:=
 ∀ (G:Frm) (n:Nat) (tm:List (Nat×PV)) (σ':List (Nat×Blk)) (a:Act) (w:World) (K:Act->World->Prop) (Q:Exit->Act->World->Prop),
  (∀ t q,Operand.tmp t∈o.op.operands->get ρ t=some q->get tm t=some q) ->
  (∀ l,l∈need->get σ' l=get σ l) ->
  (∀ l x,(l,x)∈news->l∉rm->(∀ i q,get tm i=some q->q.has l=false)/\(∀ m y,get σ' m=some y->m≠l/\y.has l=false)) ->
  Rel G ⟨n,tm,σ'⟩ a w ->
  (∀ v w',(∃ β,Zai G β ⟨n,tm,news++Zbb rm σ'⟩ a w'/\VR (ctx G β w' (news++Zbb rm σ')) p v)->K (a.put o.dst v) w') ->
  o.wp P a w K Q
theorem Zak.toF{P:Program}{o:Oper}{ρ:List (Nat×PV)}{σ:List (Nat×Blk)}{need:List Nat}{p:PV}{news:List (Nat×Blk)}(h:Zak P o ρ σ need p news):OpF P o ρ σ need [] p news:=
 fun G n tm σ' a w K Q h1 h2 h3 hr hK=>h G n tm σ' a w K Q h1 h2 (fun l x hx=>h3 l x hx (by simp)) hr hK
end Go.PW
