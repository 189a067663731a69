import Derived.Test.YtchddhcajpagjaaGreatPwK
set_option linter.all false
namespace Go.PW
open Go.RowKit
def Znx:List PV->Option (List Zf)
 | []=>some []
 | .t x::ps=>(Znx ps).map (x :: ·)
 | _::_=>none
theorem Zpp:∀ {ps:List PV} {ts:List Zf},Znx ps=some ts->ps=ts.map .t
 | [],ts,h=>by simp only [Znx,Option.some.injEq] at h;subst h;rfl
 | p::ps,ts,h=>by
  cases p<;>simp only [Znx] at h<;>try cases h
  simp only [Option.map_eq_some_iff] at h
  obtain⟨ts',h,rfl⟩:=h
  rw [Zpp h];rfl
theorem Za9c{c c':Ctx}{l o:Nat}{ts:List Zf}{v:Value}(hb:BR c l (.box (ts.map .t)))(hg:get c.Z l=some (.box (ts.map .t)))(hv:VR c (.bptr l o) v)(hI:∀ b,c.I b->c'.I b/\c'.w.heap[b]?=c.w.heap[b]?)(hf:∀ b,c.β l=some b->c'.I b/\c'.w.heap[b]?=c.w.heap[b]?) :
 VR c' (.vptr (ts.drop o)) v:=by
 simp only [VR] at hv ⊢
 obtain⟨b,hb1,hv⟩:=hv.1 _ hg
 obtain⟨b',vs,hb',_,hcs,hvs,_⟩:=hb
 have:b'=b:=by have:=hb'.symm.trans hb1;simpa using this
 subst this
 have h1:=Zdx (off:=0) hvs (fun j v hj=>by rw [Nat.zero_add];exact hcs j v hj)
 have h2:=Zw.drop o ts 0 h1
 rw [Nat.zero_add] at h2
 exact⟨b',o,hv,fun _=>(hf b' hb1).1,Zw.mono hI (hf b' hb1).2 _ _ h2⟩
mutual
def Frz(Z Z':List (Nat×Blk)):PV->PV->Prop
 | .t x,q=>q = .t x
 | .nils,q=>q = .t (.sl [])\/q = .nils
 | .osl l n,q=>q = .osl l n\/∃ k es,get Z l=some (.row k es)/\es.length=n/\get Z' l=none/\q = .t (.sl es)
 | .bptr l o,q=>q = .bptr l o\/∃ ts:List Zf,get Z l=some (.box (ts.map .t))/\get Z' l=none/\q = .vptr (ts.drop o)
 | .rptr l n i o,q=>q = .rptr l n i o
 | .vptr cs,q=>q = .vptr cs
 | .agg cs,q=>∃ ds,q = .agg ds/\Zaw Z Z' cs ds
 | .tup cs,q=>∃ ds,q = .tup ds/\Zaw Z Z' cs ds
 | .fn f cs,q=>∃ ds,q = .fn f ds/\Zaw Z Z' cs ds
 | .own l d,q=>q = .own l d\/∃ n k q0 es,d = .msl n/\get Z l=some (.mat k q0 es)/\es.length=n/\get Z' l=none/\q = .t (.sl es)
def Zaw(Z Z':List (Nat×Blk)):List PV->List PV->Prop
 | [],qs=>qs=[]
 | p::ps,qs=>∃ q rs,qs=q::rs/\Frz Z Z' p q/\Zaw Z Z' ps rs
end
def Zcw(Z Z':List (Nat×Blk)):Blk->Blk->Prop
 | .row k es,b=>b = .row k es
 | .box cs,b=>∃ ds,b = .box ds/\Zaw Z Z' cs ds
 | .mat k q es,b=>b = .mat k q es
 | .map ag es,b=>b = .map ag es
 | .prow k i es cs,b=>∃ ds,b = .prow k i es ds/\Zaw Z Z' cs ds
structure FrzC (c c':Ctx):Prop where
 I:∀ b,c.I b->c'.I b/\c'.w.heap[b]?=c.w.heap[b]?
 L:∀ l,Zal c c' l
 blk:∀ l o,get c.Z l=some o->BR c l o
 fz:∀ l o b,get c.Z l=some o->get c'.Z l=none->Zae c.β c.w l o b->c'.I b/\c'.w.heap[b]?=c.w.heap[b]?
mutual
theorem Frz.ok{c c':Ctx}(h:FrzC c c'):∀ (p q:PV) (v:Value),Frz c.Z c'.Z p q->VR c p v->VR c' q v
 | .t x,q,v,hf,hv=>by simp only [Frz] at hf;subst hf;exact VR.step h.I (.t x) v (fun l _=>h.L l) hv
 | .nils,q,v,hf,hv=>by
  simp only [Frz] at hf
  rcases hf with rfl | rfl
  .simp only [VR] at hv ⊢
   obtain⟨a,rfl⟩:=hv
   simp only [Z0]
   exact⟨a,0,rfl,by simp,by simp [maxLen],.inl trivial⟩
  .exact hv
 | .osl l n,q,v,hf,hv=>by
  simp only [Frz] at hf
  rcases hf with rfl | ⟨k,es,hg,hn,hg',rfl⟩
  .exact VR.step h.I (.osl l n) v (fun l _=>h.L l) hv
  .simp only [VR] at hv ⊢
   obtain⟨a,cap,rfl,hc1,hc2,h3⟩:=(hv.1 k es hg).2 hn.symm
   simp only [Z0]
   subst hn
   refine⟨a,cap,rfl,hc1,hc2,?_⟩
   obtain⟨_,_,hb⟩:=h.blk l _ hg
   rcases hb with ⟨_,he⟩ | ⟨b,sz,hb,_,_,hel⟩
   .exact .inl he
   .rcases h3 with ⟨_,hb'⟩ | ⟨b',sz',ha,hb',_,_⟩
    .exact absurd (hb.symm.trans hb') (by simp)
    .have:b'=b:=by have:=hb'.symm.trans hb;simpa using this
     subst this
     obtain⟨hI,hh⟩:=h.fz l _ b' hg hg' (.inl hb)
     exact .inr ⟨b',0,ha,hI,Zr.mono h.I hh es 0 hel⟩
 | .bptr l o,q,v,hf,hv=>by
  simp only [Frz] at hf
  rcases hf with rfl | ⟨ts,hg,hg',rfl⟩
  .exact VR.step h.I (.bptr l o) v (fun l _=>h.L l) hv
  .exact Za9c (h.blk l _ hg) hg hv h.I (fun b hb=>h.fz l _ b hg hg' (.inl hb))
 | .rptr l n i o,q,v,hf,hv=>by simp only [Frz] at hf;subst hf;exact VR.step h.I (.rptr l n i o) v (fun l _=>h.L l) hv
 | .vptr cs,q,v,hf,hv=>by simp only [Frz] at hf;subst hf;exact VR.step h.I (.vptr cs) v (fun l _=>h.L l) hv
 | .agg cs,q,v,hf,hv=>by
  simp only [Frz] at hf
  obtain⟨ds,rfl,hd⟩:=hf
  simp only [VR] at hv ⊢
  obtain⟨vs,hv,hs⟩:=hv
  exact⟨vs,hv,Zaw.ok h cs ds vs hd hs⟩
 | .tup cs,q,v,hf,hv=>by
  simp only [Frz] at hf
  obtain⟨ds,rfl,hd⟩:=hf
  simp only [VR] at hv ⊢
  obtain⟨vs,hv,hs⟩:=hv
  exact⟨vs,hv,Zaw.ok h cs ds vs hd hs⟩
 | .fn f cs,q,v,hf,hv=>by
  simp only [Frz] at hf
  obtain⟨ds,rfl,hd⟩:=hf
  simp only [VR] at hv ⊢
  obtain⟨vs,hv,hs⟩:=hv
  exact⟨vs,hv,Zaw.ok h cs ds vs hd hs⟩
 | .own l d,q,v,hf,hv=>by
  simp only [Frz] at hf
  rcases hf with rfl | ⟨n,k,q0,es,rfl,hg,hn,hg',rfl⟩
  .exact VR.step h.I (.own l d) v (fun l _=>h.L l) hv
  .simp only [VR] at hv ⊢
   obtain⟨a,cap,rfl,hc1,hc2,h3⟩:=(hv.1 k q0 es hg).2 hn.symm
   simp only [Z0]
   subst hn
   refine⟨a,cap,rfl,hc1,hc2,?_⟩
   obtain⟨_,_,hb⟩:=h.blk l _ hg
   rcases hb with ⟨_,he⟩ | ⟨b,sz,hb,_,_,hel,_⟩
   .exact .inl he
   .rcases h3 with ⟨_,hb'⟩ | ⟨b',sz',ha,hb',_,_⟩
    .exact absurd (hb.symm.trans hb') (by simp)
    .have:b'=b:=by have:=hb'.symm.trans hb;simpa using this
     subst this
     obtain⟨hI,hh⟩:=h.fz l _ b' hg hg' (.inl hb)
     refine .inr ⟨b',0,ha,hI,Zr.mono (fun d hd=>?_) hh es 0 hel⟩
     rcases hd with hd | hd
     .exact h.I d hd
     .exact h.fz l _ d hg hg' (.inr ⟨k,q0,es,b',rfl,hb,hd⟩)
theorem Zaw.ok{c c':Ctx}(h:FrzC c c'):∀ (ps qs:List PV) (vs:List Value),Zaw c.Z c'.Z ps qs->VRs c ps vs->VRs c' qs vs
 | [],qs,vs,hf,hv=>by simp only [Zaw] at hf;subst hf;exact hv
 | p::ps,qs,vs,hf,hv=>by
  simp only [Zaw] at hf
  obtain⟨q,rs,rfl,hq,hr⟩:=hf
  simp only [VRs] at hv ⊢
  obtain⟨v,rest,rfl,hv,hrest⟩:=hv
  exact⟨v,rest,rfl,Frz.ok h p q v hq hv,Zaw.ok h ps rs rest hr hrest⟩
end
theorem Frz.one{Z Z':List (Nat×Blk)}{p q:PV}(h:Frz Z Z' p q)(h1:p.one=true):q.one=true:=by
 cases p<;>simp only [Frz] at h<;>simp only [PV.one,Bool.false_eq_true] at h1
 case t=>subst h;rfl
 case nils=>rcases h with rfl | rfl<;>rfl
 case osl=>rcases h with rfl | ⟨_,_,_,_,_,rfl⟩<;>rfl
 case bptr=>rcases h with rfl | ⟨_,_,_,rfl⟩<;>rfl
 case rptr=>subst h;rfl
 case vptr=>subst h;rfl
 case fn=>obtain⟨ds,rfl,_⟩:=h;rfl
 case own=>rcases h with rfl | ⟨_,_,_,_,_,_,_,_,rfl⟩<;>rfl
theorem Zaw.one{Z Z':List (Nat×Blk)}:∀ {ps qs:List PV},Zaw Z Z' ps qs->ps.all PV.one=true->qs.all PV.one=true
 | [],qs,h,_=>by simp only [Zaw] at h;subst h;rfl
 | p::ps,qs,h,h1=>by
  simp only [Zaw] at h
  obtain⟨q,rs,rfl,hq,hr⟩:=h
  simp only [List.all_cons,Bool.and_eq_true] at h1 ⊢
  exact⟨hq.one h1.1,Zaw.one hr h1.2⟩
theorem Zaw.length{Z Z':List (Nat×Blk)}:∀ {ps qs:List PV},Zaw Z Z' ps qs->qs.length=ps.length
 | [],qs,h=>by simp only [Zaw] at h;subst h;rfl
 | p::ps,qs,h=>by
  simp only [Zaw] at h
  obtain⟨q,rs,rfl,_,hr⟩:=h
  simp [Zaw.length hr]
theorem Zaw.trees{Z Z':List (Nat×Blk)}:∀ (ts:List Zf),Zaw Z Z' (ts.map .t) (ts.map .t)
 | []=>by simp only [List.map_nil,Zaw]
 | t::ts=>by simp only [List.map_cons,Zaw];exact⟨_,_,rfl,rfl,Zaw.trees ts⟩
theorem Zaw.app{Z Z':List (Nat×Blk)}:∀ {ps qs ps' qs':List PV},Zaw Z Z' ps ps'->Zaw Z Z' qs qs'->Zaw Z Z' (ps++qs) (ps'++qs')
 | [],qs,ps',qs',h1,h2=>by simp only [Zaw] at h1;subst h1;exact h2
 | p::ps,qs,ps',qs',h1,h2=>by
  simp only [Zaw] at h1
  obtain⟨q,rs,rfl,h3,h4⟩:=h1
  simp only [List.cons_append,Zaw]
  exact⟨q,_,rfl,h3,Zaw.app h4 h2⟩
theorem Zaw.prow{Z Z':List (Nat×Blk)}{i:Nat}{es:List (List Zf)}{cs ds:List PV}(h:Zaw Z Z' cs ds):Zaw Z Z' (Zf1 i es cs) (Zf1 i es ds):=
 (Zaw.trees _).app (h.app (Zaw.trees _))
mutual
theorem Frz.need{Z σ1 Z':List (Nat×Blk)}:∀ (p q:PV),(∀ m,p.has m=true->get σ1 m=get Z m)->Frz Z Z' p q->Frz σ1 Z' p q
 | .t _,_,_,h=>h
 | .nils,_,_,h=>h
 | .osl l n,q,hm,h=>by
  simp only [Frz] at h ⊢
  rcases h with h | ⟨k,es,h1,h2,h3,h4⟩
  .exact .inl h
  .exact .inr ⟨k,es,(hm l (by simp [PV.has])).trans h1,h2,h3,h4⟩
 | .bptr l _,q,hm,h=>by
  simp only [Frz] at h ⊢
  rcases h with h | ⟨ts,h1,h2⟩
  .exact .inl h
  .exact .inr ⟨ts,(hm l (by simp [PV.has])).trans h1,h2⟩
 | .rptr _ _ _ _,_,_,h=>h
 | .vptr _,_,_,h=>h
 | .agg cs,q,hm,h=>by simp only [Frz] at h ⊢;obtain⟨ds,h1,h2⟩:=h;exact⟨ds,h1,Zaw.need cs ds (fun m hh=>hm m (by simpa [PV.has] using hh)) h2⟩
 | .tup cs,q,hm,h=>by simp only [Frz] at h ⊢;obtain⟨ds,h1,h2⟩:=h;exact⟨ds,h1,Zaw.need cs ds (fun m hh=>hm m (by simpa [PV.has] using hh)) h2⟩
 | .fn f cs,q,hm,h=>by simp only [Frz] at h ⊢;obtain⟨ds,h1,h2⟩:=h;exact⟨ds,h1,Zaw.need cs ds (fun m hh=>hm m (by simpa [PV.has] using hh)) h2⟩
 | .own l d,q,hm,h=>by
  simp only [Frz] at h ⊢
  rcases h with h | ⟨n,k,q0,es,h0,h1,h2⟩
  .exact .inl h
  .exact .inr ⟨n,k,q0,es,h0,(hm l (by simp [PV.has])).trans h1,h2⟩
theorem Zaw.need{Z σ1 Z':List (Nat×Blk)}:∀ (ps qs:List PV),(∀ m,PV.hasAny m ps=true->get σ1 m=get Z m)->Zaw Z Z' ps qs->Zaw σ1 Z' ps qs
 | [],_,_,h=>h
 | p::ps,qs,hm,h=>by
  simp only [Zaw] at h ⊢
  obtain⟨q,rs,h1,h2,h3⟩:=h
  exact⟨q,rs,h1,Frz.need p q (fun m hh=>hm m (by simp [PV.hasAny,hh])) h2,Zaw.need ps rs (fun m hh=>hm m (by simp [PV.hasAny,hh])) h3⟩
end
def Zxv(Z Z':List (Nat×Blk)):Prop:=∀ l o',get Z' l=some o'->∃ o,get Z l=some o/\Zcw Z Z' o o'
theorem Zcw.lstep{G:Frm}{β:Nat->Option Nat}{w:World}{Z Z':List (Nat×Blk)}(hσ:Zxv Z Z')(l:Nat):Zal (ctx G β w Z) (ctx G β w Z') l:=by
 refine⟨fun k es' hg=>?_,fun cs' hg=>?_,fun k q es' hg=>?_,fun k es' hg=>?_,fun k i es' cs' hg=>?_⟩
 .obtain⟨o,ho,hf⟩:=hσ l _ hg
  cases o with
  | row k2 es2=>simp only [Zcw] at hf;cases hf;exact⟨es',ho,Nat.le_refl _,fun _=>⟨rfl,fun _ _ _ h=>h⟩⟩
  | box cs=>simp only [Zcw] at hf;obtain⟨ds,h,_⟩:=hf;cases h
  | mat k2 q2 es2=>simp only [Zcw] at hf;cases hf
  | map k2 es2=>simp only [Zcw] at hf;cases hf
  | prow k2 i2 es2 cs2=>simp only [Zcw] at hf;obtain⟨ds,h,_⟩:=hf;cases h
 .obtain⟨o,ho,hf⟩:=hσ l _ hg
  cases o with
  | row k2 es2=>simp only [Zcw] at hf;cases hf
  | box cs=>exact⟨cs,ho,rfl⟩
  | mat k2 q2 es2=>simp only [Zcw] at hf;cases hf
  | map k2 es2=>simp only [Zcw] at hf;cases hf
  | prow k2 i2 es2 cs2=>simp only [Zcw] at hf;obtain⟨ds,h,_⟩:=hf;cases h
 .obtain⟨o,ho,hf⟩:=hσ l _ hg
  cases o with
  | row k2 es2=>simp only [Zcw] at hf;cases hf
  | box cs=>simp only [Zcw] at hf;obtain⟨ds,h,_⟩:=hf;cases h
  | mat k2 q2 es2=>simp only [Zcw] at hf;cases hf;exact⟨es',ho,Nat.le_refl _,fun _=>⟨rfl,fun _ _=>⟨fun _ h=>h,fun _ _=>rfl⟩⟩⟩
  | map k2 es2=>simp only [Zcw] at hf;cases hf
  | prow k2 i2 es2 cs2=>simp only [Zcw] at hf;obtain⟨ds,h,_⟩:=hf;cases h
 .obtain⟨o,ho,hf⟩:=hσ l _ hg
  cases o with
  | row k2 es2=>simp only [Zcw] at hf;cases hf
  | box cs=>simp only [Zcw] at hf;obtain⟨ds,h,_⟩:=hf;cases h
  | mat k2 q2 es2=>simp only [Zcw] at hf;cases hf
  | map k2 es2=>simp only [Zcw] at hf;cases hf;exact⟨es',ho,rfl⟩
  | prow k2 i2 es2 cs2=>simp only [Zcw] at hf;obtain⟨ds,h,_⟩:=hf;cases h
 .obtain⟨o,ho,hf⟩:=hσ l _ hg
  cases o with
  | row k2 es2=>simp only [Zcw] at hf;cases hf
  | box cs=>simp only [Zcw] at hf;obtain⟨ds,h,_⟩:=hf;cases h
  | mat k2 q2 es2=>simp only [Zcw] at hf;cases hf
  | map k2 es2=>simp only [Zcw] at hf;cases hf
  | prow k2 i2 es2 cs2=>simp only [Zcw] at hf;obtain⟨ds,h,_⟩:=hf;cases h;exact⟨_,cs2,ho,rfl,rfl,fun _ _ _ h=>h⟩
theorem Zcw.own{β:Nat->Option Nat}{w:World}{Z Z':List (Nat×Blk)}{l:Nat}{o o':Blk}{b:Nat}(hf:Zcw Z Z' o o')(h:Zae β w l o' b):Zae β w l o b:=by
 cases o with
 | row k es=>simp only [Zcw] at hf;subst hf;exact h
 | mat k q es=>simp only [Zcw] at hf;subst hf;exact h
 | map ag es=>simp only [Zcw] at hf;subst hf;exact h
 | prow k i es cs=>simp only [Zcw] at hf;obtain⟨ds,rfl,_⟩:=hf;exact .inl (Zae.flat (o := .prow k i es ds) trivial h)
 | box cs=>simp only [Zcw] at hf;obtain⟨ds,rfl,_⟩:=hf;exact .inl (Zae.flat (o := .box ds) trivial h)
theorem Za09{G:Frm}{β:Nat->Option Nat}{n:Nat}{tm:List (Nat×PV)}{Z Z':List (Nat×Blk)}{a:Act}{w:World}(h:Zan G β ⟨n,tm,Z⟩ a w)(hσ:Zxv Z Z'):FrzC (ctx G β w Z) (ctx G β w Z') where
 I:=fun b hb=>⟨⟨hb.1,hb.2.1,fun l o hl=>by obtain⟨o2,ho2,hf⟩:=hσ l o hl;exact fun ho=>hb.2.2 l o2 ho2 (hf.own ho)⟩,rfl⟩
 L:=Zcw.lstep hσ
 blk:=fun l o hg=>h.blk l _ hg
 fz:=fun l o b hg hg' hb=>by
  refine⟨⟨(h.sep l o b hg hb).1,?_,fun l' o' hl' hb'=>?_⟩,rfl⟩
  .rcases (h.sep l o b hg hb).2 with h1 | h1
   .exact .inl h1
   .exact .inr (.inr h1)
  .obtain⟨o2,ho2,hf⟩:=hσ l' o' hl'
   have:=h.inj l' l o2 o b ho2 hg (hf.own hb') hb
   subst this
   rw [show get Z' l'=none from hg'] at hl';cases hl'
theorem Zaur{G:Frm}{β:Nat->Option Nat}{n:Nat}{tm tm':List (Nat×PV)}{Z Z':List (Nat×Blk)}{a:Act}{w:World}(h:Zan G β ⟨n,tm,Z⟩ a w)(hσ:Zxv Z Z')
 (ht:∀ i q,get tm' i=some q->∃ p,get tm i=some p/\Frz Z Z' p q):Zan G β ⟨n,tm',Z'⟩ a w:=by
 have hc:=Za09 h hσ
 exact { defers := h.defers, sz := h.sz, base := h.base, os := h.os, tape := h.tape, output := h.output, old := h.old, A := h.A, gl := h.gl,
         inj:=fun l l' o o' b hl hl' hb hb'=>by
          obtain⟨o1,h1,f1⟩:=hσ l o hl
          obtain⟨o2,h2,f2⟩:=hσ l' o' hl'
          exact h.inj l l' o1 o2 b h1 h2 (f1.own hb) (f2.own hb'),
         sep:=fun l o b hl hb=>by obtain⟨o1,h1,f1⟩:=hσ l o hl;exact h.sep l o1 b h1 (f1.own hb),
         fix:=fun l cs h1 hl=>by
          obtain⟨o1,h2,hf⟩:=hσ l _ hl
          cases o1 with
          | row k es=>simp only [Zcw] at hf;cases hf
          | mat k q es=>simp only [Zcw] at hf;cases hf
          | map ag es=>simp only [Zcw] at hf;cases hf
          | prow k i es cs=>simp only [Zcw] at hf;obtain⟨ds,h3,_⟩:=hf;cases h3
          | box cs0=>exact h.fix l cs0 h1 h2,
         row0:=h.row0.step (fun m _=>hc.L m),
         blk:=fun l o hl=>by
          obtain⟨o1,h2,hf⟩:=hσ l o hl
          have hb:=h.blk l o1 h2
          cases o1 with
          | row k es=>simp only [Zcw] at hf;subst hf;exact BR.step hc.I rfl (fun _ _=>rfl) (fun m _=>hc.L m) hb
          | mat k q es=>simp only [Zcw] at hf;subst hf;exact BR.step hc.I rfl (fun _ _=>rfl) (fun m _=>hc.L m) hb
          | map ag es=>simp only [Zcw] at hf;subst hf;exact BR.step hc.I rfl (fun _ _=>rfl) (fun m _=>hc.L m) hb
          | prow k i es cs0=>
           simp only [Zcw] at hf
           obtain⟨ds,rfl,hd⟩:=hf
           obtain⟨h0,h1,h3,h4,h5,b,m,vs,h6,h7,h8,h9,h10⟩:=hb
           exact⟨h0,h1,h3,by rw [hd.length];exact h4,hd.one h5,b,m,vs,h6,h7,h8,h9,Zaw.ok hc _ _ _ (Zaw.prow hd) h10⟩
          | box cs0=>
           simp only [Zcw] at hf
           obtain⟨ds,rfl,hd⟩:=hf
           obtain⟨b,vs,h3,h4,h5,h6,h7⟩:=hb
           exact⟨b,vs,h3,by rw [hd.length];exact h4,h5,Zaw.ok hc _ _ _ hd h6,hd.one h7⟩,
         tm:=fun i q hq=>by
          obtain⟨p,hp,hf⟩:=ht i q hq
          exact⟨(h.tm i p hp).1,Frz.ok hc p q _ hf (h.tm i p hp).2⟩ }
theorem Wk.frz{n:Nat}{tm tm':List (Nat×PV)}{Z Z':List (Nat×Blk)}(hσ:Zxv Z Z')(ht:∀ i q,get tm' i=some q->∃ p,get tm i=some p/\Frz Z Z' p q):Wk ⟨n,tm,Z⟩ ⟨n,tm',Z'⟩:=
 fun _ _ _ ⟨β,h⟩=>⟨β,Zaur h hσ ht⟩
def idx:Nat->List PV->List (Nat×PV)
 | _,[]=>[]
 | i,p::ps=>(i,p)::idx (i+1) ps
theorem Zzy:∀ (ps:List PV) (i j:Nat),get (idx i ps) j=if i<=j then ps[j - i]? else none
 | [],i,j=>by simp [idx,get]
 | p::ps,i,j=>by
  simp only [idx,get]
  by_cases h:i=j
  .subst h;simp
  .rw [Zgf h,cond_false,Zzy ps (i+1) j]
   by_cases h1:i+1<=j
   .rw [if_pos h1,if_pos O,show j - i=(j - (i+1))+1 by omega,List.getElem?_cons_succ]
   .rw [if_neg h1,if_neg O]
def FnOk (P : Program) (f : FuncId) : Prop := ∃ fn c, P.funcs[f]? = some fn /\ fn.body = some c /\ (fn.name == "runtime.NumGoroutine") = false
def Zbci(β:Nat->Option Nat)(w:World)(Z:List (Nat×Blk))(b:Nat):Prop:=∃ l o,get Z l=some o/\Zae β w l o b
def Zbr(β:Nat->Option Nat)(Z:List (Nat×Blk))(A:Nat->Prop)(w:World):Frm:=⟨w.heap.size,w,Zbci β w Z,A,β,get Z⟩
def FnG(P:Program)(f:FuncId)(Z:List (Nat×Blk))(args:List PV)(Z':List (Nat×Blk))(res:PV):Prop:=
 FnOk P f/\∀ (A:Nat->Prop) (β:Nat->Option Nat) (w:World) (vals:List Value),vals.length=args.length ->
  Zan (Zbr β Z A w) β ⟨args.length,idx 0 args,Z⟩ ⟨vals.toArray,[]⟩ w ->
  Calls P f vals.toArray w fun e w'=>∃ v β',e = .returned v/\Zan (Zbr β Z A w) β' ⟨1,[(0,res)],Z'⟩ ⟨#[v],[]⟩ w'
def Fn(P:Program)(f:FuncId)(args:List PV)(res:PV):Prop:=FnG P f [] args [] res
inductive RV where
 | t (t:Nat)
 | c (a t:Nat) (agg:Bool) (size:Nat)
def RV.to:RV->ResultVar
 | .t i => .tmp i
 | .c a i _ _ => .cell a i
def Za2u(st:St):RV->Option PV
 | .t t=>get st.tm t
 | .c a _ agg size=>
  match get st.tm a with
  | some (.bptr l q)=>
   match get st.Z l with
   | some (.box cs)=>Zda agg size q cs
   | _=>none
  | _=>none
def Z2f(st:St):List RV->Option (List PV)
 | []=>some []
 | r::rs=>
  match Za2u st r,Z2f st rs with
  | some p,some ps=>some (p::ps)
  | _,_=>none
def Zatz(Z Z':List (Nat×Blk))(ps:List PV)(res:PV):Prop:=
 match ps with
 | [p]=>Frz Z Z' p res
 | ps=>∃ ds,res = .tup ds/\Zaw Z Z' ps ds
def Zakb(rs:List RV)(Z':List (Nat×Blk))(res:PV)(st:St):Prop:=∃ ps,Z2f st rs=some ps/\Zxv st.Z Z'/\Zatz st.Z Z' ps res
def Zz4(rs:List RV)(Z':List (Nat×Blk))(res:PV):Exit->St->Prop
 | .normal,st | .ret,st=>Zakb rs Z' res st
 | _,_=>False
theorem Zazw{P:Program}{G:Frm}{β:Nat->Option Nat}{st:St}{a:Act}{w:World}(hr:Zan G β st a w){r:RV}{p:PV}(hty:∀ x t ag sz,r = .c x t ag sz->TyF P t ag sz)(hs:Za2u st r=some p)
 (g:ResultVar->Sem Value) (h1:∀ t,g (.tmp t)=pure (a.tmps.getD t undef)) (h2:∀ x t,g (.cell x t)=(do loadVar t (<- asAddr (a.tmps.getD x undef)))):∃ v,(g r.to).run P w = .ok v w/\VR (ctx G β w st.Z) p v:=by
 cases r with
 | t t=>exact⟨_,by simp only [RV.to,h1,Sem.run_pure],(hr.tm t p hs).2⟩
 | c x t ag sz=>
  simp only [Za2u] at hs
  split at hs
  .rename_i l q hx
   split at hs
   .rename_i cs hg
    have e1:=(hr.tm x _ hx).2
    simp only [VR] at e1
    obtain⟨b,hb,hv⟩:=e1.1 cs hg
    obtain⟨b',vs,hb',hrow,hc,hvs,_⟩:=hr.blk l _ hg
    have:b'=b:=by have:=hb'.symm.trans hb;simpa using this
    subst this
    obtain⟨v,hrun,hpv⟩:=Zqp (q:=0) (hty x t ag sz rfl) w hvs (fun j v hj=>by rw [Nat.zero_add];exact hc j v hj) hs
    rw [Nat.zero_add] at hrun
    have hrun':(loadVar t ⟨b',q,none⟩).run P w = .ok v w:=by
     have:=hrun
     simp only [Instr.loadAt,Instr.sureAddr] at this
     simpa using this
    exact⟨v,by simp only [RV.to,h2,hv,asAddr,Sem.run_bind,Sem.run_pure,Result.andThen_ok,hrun'],hpv⟩
   .cases hs
  .cases hs
theorem Zazx{P:Program}{fn:Func}{rs:List RV}(h:fn.results=(rs.map RV.to).toArray)(hty:∀ x t ag sz,RV.c x t ag sz∈rs->TyF P t ag sz){G:Frm}{β:Nat->Option Nat}{st:St}{a:Act}{w:World}(hr:Zan G β st a w){ps:List PV}(hs:Z2f st rs=some ps) :
 ∃ vs,VRs (ctx G β w st.Z) ps vs/\(results fn a.tmps).run P w = .ok (match vs with | [v]=>v | vs => .tuple vs.toArray) w:=by
 have hm:∀ (g:ResultVar->Sem Value),(∀ t,g (.tmp t)=pure (a.tmps.getD t undef))->(∀ x t,g (.cell x t)=(do loadVar t (<- asAddr (a.tmps.getD x undef))))->∀ (rs:List RV) (ps:List PV),(∀ x t ag sz,RV.c x t ag sz∈rs->TyF P t ag sz)->Z2f st rs=some ps ->
  ∃ vs,VRs (ctx G β w st.Z) ps vs/\((rs.map RV.to).mapM g).run P w = .ok vs w:=by
  intro g h1 h2 rs
  induction rs with
  | nil=>intro ps _ hs;simp only [Z2f,Option.some.injEq] at hs;subst hs;exact⟨[],by simp [VRs],rfl⟩
  | cons r rs ih=>
   intro ps hty hs
   simp only [Z2f] at hs
   split at hs
   .rename_i p qs hp hq
    cases hs
    obtain⟨v,hv1,hv2⟩:=Zazw hr (fun x t ag sz e=>hty x t ag sz (by rw [e];simp)) hp g h1 h2
    obtain⟨vs,h3,h4⟩:=ih qs (fun x t ag sz hm=>hty x t ag sz (List.mem_cons_of_mem _ hm)) hq
    refine⟨v::vs,by simp only [VRs];exact⟨v,vs,rfl,hv2,h3⟩,?_⟩
    simp only [List.map_cons,List.mapM_cons,Sem.run_bind,hv1,Result.andThen_ok,h4,Sem.run_pure]
   .cases hs
 obtain⟨g,hg,g1,g2⟩:∃ g:ResultVar->Sem Value,results fn a.tmps=(do
  let vs <- fn.results.mapM g
  pure (if h:vs.size=1 then vs[0] else .tuple vs))/\(∀ t,g (.tmp t)=pure (a.tmps.getD t undef))/\(∀ x t,g (.cell x t)=(do loadVar t (<- asAddr (a.tmps.getD x undef)))):=
  ⟨_,rfl,fun _=>rfl,fun _ _=>rfl⟩
 rw [hg,h,Array.mapM_eq_mapM_toList]
 obtain⟨vs,h1,h2⟩:=hm g g1 g2 rs ps hty hs
 refine⟨vs,h1,?_⟩
 simp only [bind_map_left,Sem.run_bind,h2,Result.andThen_ok,Sem.run_pure]
 match vs with
 | []=>rfl
 | [r]=>rfl
 | r::r'::rs=>simp
theorem FnG.of_pw {P : Program} {f : FuncId} {Z Z' : List (Nat × Blk)} {args : List PV} {res : PV} {fn : Func} {c : Code} (hf : P.funcs[f]? = some fn) (hb : fn.body = some c) (hname : (fn.name == "runtime.NumGoroutine") = false)
 (n:Nat) (hn:fn.ntmps=n) (hna:args.length<=n) (rs:List RV) (hres:fn.results=(rs.map RV.to).toArray) (hty:∀ x t ag sz,RV.c x t ag sz∈rs->TyF P t ag sz) (h:PW P c (Zz4 rs Z' res) ⟨n,idx 0 args,Z⟩):FnG P f Z args Z' res:=by
 refine⟨⟨fn,c,hf,hb,hname⟩,fun A β w vals hvl hr=>?_⟩
 refine calls_of_wp hf hb ?_
 have hr':Zan (Zbr β Z A w) β ⟨n,idx 0 args,Z⟩ { tmps:=vals.toArray++Array.replicate (fn.ntmps - vals.toArray.size) undef,defers:=[] } w:=
  { defers:=rfl,sz:=by simp;omega,base:=hr.base,os:=hr.os,tape:=hr.tape,output:=hr.output,old:=hr.old,A:=hr.A,gl:=hr.gl,inj:=hr.inj,sep:=hr.sep,fix:=hr.fix,row0:=hr.row0,blk:=hr.blk,
    tm:=fun i p hp=>by
     obtain⟨h1,h2⟩:=hr.tm i p hp
     refine⟨by simp at h1 ⊢;omega,?_⟩
     have hlt:i < vals.length:=by simp at h1;omega
     have:(vals.toArray++Array.replicate (fn.ntmps - vals.toArray.size) undef).getD i undef=vals.toArray.getD i undef:=by
      simp [Array.getElem?_append_left,hlt]
     rw [this];exact h2 }
 refine wp_mono (h _ _ w ⟨β,hr'⟩) ?_
 rintro e a' w' ⟨st',hq,β',hrel⟩
 have key:Zakb rs Z' res st'->a'.defers=[]/\∃ v,(results fn a'.tmps).run P w' = .ok v w'/\∃ v0 β',Ending.returned v = .returned v0/\Zan (Zbr β Z A w) β' ⟨1,[(0,res)],Z'⟩ ⟨#[v0],[]⟩ w':=by
  rintro ⟨ps,hs,hσ,hres'⟩
  obtain⟨vs,hv,hrun⟩:=Zazx hres hty hrel hs
  refine⟨hrel.defers,_,hrun,_,β',rfl,?_⟩
  have hc:=Za09 (n:=st'.n) (tm:=st'.tm) (Z:=st'.Z) hrel hσ
  have hempty:=Zaur (n:=st'.n) (tm:=st'.tm) (Z:=st'.Z) (tm':=[]) hrel hσ (fun i q hq=>by simp [get] at hq)
  refine { defers:=rfl,sz:=by simp,base:=hempty.base,os:=hempty.os,tape:=hempty.tape,output:=hempty.output,old:=hempty.old,A:=hempty.A,gl:=hempty.gl,inj:=hempty.inj,sep:=hempty.sep,fix:=hempty.fix,row0:=hempty.row0,blk:=hempty.blk,tm:=fun i p hp=>?_ }
  simp only [get] at hp
  cases hi:Nat.beq 0 i with
  | false=>simp [hi] at hp
  | true=>
   have:i=0:=((Z1 _ _).1 hi).symm
   subst this
   simp only [hi,cond_true,Option.some.injEq] at hp
   subst hp
   refine⟨by simp,?_⟩
   rw [show ∀ X:Value,(#[X]:Array Value).getD 0 undef=X from fun _=>rfl]
   unfold Zatz at hres'
   match vs,ps,hv,hres' with
   | [v],[p],hv,hres'=>
    simp only [VRs] at hv
    obtain⟨v',rest,he,hv,_⟩:=hv
    cases he
    exact Frz.ok hc p res _ hres' hv
   | [],[],hv,hres'=>
    obtain⟨ds,rfl,hd⟩:=hres'
    simp only [VR]
    exact⟨_,rfl,Zaw.ok hc _ _ _ hd hv⟩
   | v::v2::vs,p::p2::ps,hv,hres'=>
    obtain⟨ds,rfl,hd⟩:=hres'
    simp only [VR]
    exact⟨_,rfl,Zaw.ok hc _ _ _ hd hv⟩
   | [],_::_,hv,_=>have:=hv.length;simp at this
   | [_],[],hv,_=>have:=hv.length;simp at this
   | [_],_::_::_,hv,_=>have:=hv.length;simp at this
   | _::_::_,[],hv,_=>have:=hv.length;simp at this
   | _::_::_,[_],hv,_=>have:=hv.length;simp at this
 cases e<;>simp only [Zz4] at hq
 case normal=>exact key hq
 case ret=>exact key hq
theorem Zxv.nil(Z:List (Nat×Blk)):Zxv Z []:=fun l o h=>by simp [PW.get] at h
theorem Zaut{G:Frm}{β:Nat->Option Nat}{st:St}{a:Act}{w w':World}(h:Zan G β st a w)(hs:w.heap.size<=w'.heap.size)(hh:∀ b,b < w.heap.size->w'.heap[b]?=w.heap[b]?)
 (hos:w'.os=w.os) (htp:w'.tape=w.tape) (hout:w'.output=w.output):Zan G β st a w' /\
 (∀ b,(ctx G β w st.Z).I b->(ctx G β w' st.Z).I b/\(ctx G β w' st.Z).w.heap[b]?=(ctx G β w st.Z).w.heap[b]?)/\(∀ l,Zal (ctx G β w st.Z) (ctx G β w' st.Z) l):=by
 have hO:∀ l o,get st.Z l=some o->∀ b,Zae β w' l o b->Zae β w l o b:=fun l o hl b ho=>ho.of_heap (fun b hb=>hh b (h.sep l o b hl (.inl hb)).1)
 have hI:∀ b,(ctx G β w st.Z).I b->(ctx G β w' st.Z).I b/\(ctx G β w' st.Z).w.heap[b]?=(ctx G β w st.Z).w.heap[b]?:=fun b hb=>⟨⟨Nat.lt_of_lt_of_le hb.1 hs,hb.2.1,fun l o hl ho=>hb.2.2 l o hl (hO l o hl b ho)⟩,hh b hb.1⟩
 have hL:∀ l,Zal (ctx G β w st.Z) (ctx G β w' st.Z) l:=fun l=>by
  cases hg:get st.Z l with
  | none=>exact Zal.none hg
  | some o=>exact Zal.same rfl rfl (fun b hb=>hh b (h.sep l o b hg (.inl hb)).1)
 refine⟨?_,hI,hL⟩
 exact { defers := h.defers, sz := h.sz, base := Nat.le_trans h.base hs, os := hos.trans h.os, tape := htp.trans h.tape, output := hout.trans h.output,
         old:=fun b hb ho=>(hh b (Nat.lt_of_lt_of_le hb h.base)).trans (h.old b hb ho),A:=h.A,gl:=h.gl,inj:=fun l l' o o' b hl hl' hb hb'=>h.inj l l' o o' b hl hl' (hO l o hl b hb) (hO l' o' hl' b hb'),
         sep:=fun l o b hl hb=>by have:=h.sep l o b hl (hO l o hl b hb);exact⟨Nat.lt_of_lt_of_le this.1 hs,this.2⟩,fix:=h.fix,row0:=h.row0.step (fun m _=>hL m),
         blk:=fun l o hl=>BR.step hI rfl (fun b hb=>hh b (h.sep l o b hl hb).1) (fun m _=>hL m) (h.blk l o hl),
         tm:=fun i p hp=>⟨(h.tm i p hp).1,VR.step hI p _ (fun m _=>hL m) (h.tm i p hp).2⟩ }
mutual
def PV.free:PV->Bool
 | .t _=>true
 | .nils=>true
 | .vptr _=>true
 | .agg cs=>PV.frees cs
 | .tup cs=>PV.frees cs
 | .fn _ cs=>PV.frees cs
 | _=>false
def PV.frees:List PV->Bool
 | []=>true
 | p::ps=>p.free&&PV.frees ps
end
mutual
theorem PV.free_has(l:Nat):∀ (p:PV),p.free=true->p.has l=false
 | .t _,_=>rfl
 | .nils,_=>rfl
 | .vptr _,_=>rfl
 | .agg cs,h=>by simp only [PV.has];exact PV.frees_has l cs (by simpa [PV.free] using h)
 | .tup cs,h=>by simp only [PV.has];exact PV.frees_has l cs (by simpa [PV.free] using h)
 | .fn _ cs,h=>by simp only [PV.has];exact PV.frees_has l cs (by simpa [PV.free] using h)
 | .osl _ _,h=>by simp [PV.free] at h
 | .bptr _ _,h=>by simp [PV.free] at h
 | .rptr _ _ _ _,h=>by simp [PV.free] at h
theorem PV.frees_has(l:Nat):∀ (ps:List PV),PV.frees ps=true->PV.hasAny l ps=false
 | [],_=>rfl
 | p::ps,h=>by
  simp only [PV.frees,Bool.and_eq_true] at h
  simp [PV.hasAny,PV.free_has l p h.1,PV.frees_has l ps h.2]
end
mutual
def PV.scal:PV->Bool
 | .t x=>x.scal
 | .agg cs=>PV.scals cs
 | .tup cs=>PV.scals cs
 | _=>false
def PV.scals:List PV->Bool
 | []=>true
 | p::ps=>p.scal&&PV.scals ps
end
mutual
theorem VR.scal{c c':Ctx}:∀ (p:PV) (v:Value),p.scal=true->VR c p v->VR c' p v
 | .t x,v,h,hv=>by
  simp only [VR] at hv ⊢
  cases x
  case sl es=>
   cases es with
   | nil=>
    simp only [Z0] at hv ⊢
    obtain⟨a,cap,hv,h1,h2,_⟩:=hv
    exact⟨a,cap,hv,h1,h2,.inl trivial⟩
   | cons e es=>simp [PV.scal,Zf.scal] at h
  all_goals simpa [Z0] using hv
 | .agg cs,v,h,hv=>by
  simp only [VR] at hv ⊢
  obtain⟨vs,hv,hs⟩:=hv
  exact⟨vs,hv,VRs.scals cs vs (by simpa [PV.scal] using h) hs⟩
 | .tup cs,v,h,hv=>by
  simp only [VR] at hv ⊢
  obtain⟨vs,hv,hs⟩:=hv
  exact⟨vs,hv,VRs.scals cs vs (by simpa [PV.scal] using h) hs⟩
 | .nils,_,h,_=>by simp [PV.scal] at h
 | .osl _ _,_,h,_=>by simp [PV.scal] at h
 | .bptr _ _,_,h,_=>by simp [PV.scal] at h
 | .rptr _ _ _ _,_,h,_=>by simp [PV.scal] at h
 | .vptr _,_,h,_=>by simp [PV.scal] at h
 | .fn _ _,_,h,_=>by simp [PV.scal] at h
theorem VRs.scals{c c':Ctx}:∀ (ps:List PV) (vs:List Value),PV.scals ps=true->VRs c ps vs->VRs c' ps vs
 | [],vs,_,h=>h
 | p::ps,vs,hs,h=>by
  simp only [PV.scals,Bool.and_eq_true] at hs
  simp only [VRs] at h ⊢
  obtain⟨v,rest,rfl,hv,hr⟩:=h
  exact⟨v,rest,rfl,VR.scal p v hs.1 hv,VRs.scals ps rest hs.2 hr⟩
end
section
variable {P:Program} {o:Oper} {ρ:List (Nat×PV)} {Z:List (Nat×Blk)}
theorem Za2v{f:FuncId}{fo:Operand}{xs:Array Operand}{ats:Array TypeId}{cv:Array Value}(hok:FnOk P f)(ho:o.op = .call { callee := .value fo,args:=xs,argTypes:=ats })(A:Act)(w:World)(hfo:A.eval fo = .func (.func f) #[] cv) :
 (execOp A.eval o).run P w = .ok (.enter f (xs.map A.eval++cv)) w:=by
 obtain⟨fn,c,hf,hb,hn⟩:=hok
 simp [execOp,ho,resolve,hfo,Deferred.ofValue,invoke,callFunc,hf,hb]
 simpa using hn
theorem Zbd3{G:Frm}{β:Nat->Option Nat}{n:Nat}{tm:List (Nat×PV)}{Z':List (Nat×Blk)}{a:Act}{w:World}{f:FuncId}{fo:Operand}{caps:List PV}{xs:Array Operand}{ats:Array TypeId}(hr:Zan G β ⟨n,tm,Z'⟩ a w)
 (ho:o.op = .call { callee := .value fo,args:=xs,argTypes:=ats }) (hfo:Zp ρ fo=some (.fn f caps)) (hag:∀ t q,Operand.tmp t∈o.op.operands->PW.get ρ t=some q->PW.get tm t=some q):∃ vs,a.eval fo = .func (.func f) #[] vs.toArray/\VRs (ctx G β w Z') caps vs:=by
 have hv:=Zlh hr hfo (fun t r ht hr'=>hag t r (by subst ht;simp [ho,Op.operands,Call.operands]) hr')
 simp only [VR] at hv
 exact hv
theorem Zazy{fo:Operand}{xs:Array Operand}{ats:Array TypeId}(ho:o.op = .call { callee := .value fo,args:=xs,argTypes:=ats }){x:Operand}(hx:x∈xs.toList):x∈o.op.operands:=by
 simp only [ho,Op.operands,Call.operands]
 exact Array.mem_append.2 (.inr (by simpa using hx))
theorem Zaqv{c:Ctx}(f:Operand->Value):∀ {xs:List Operand} {ps:List PV},xs.mapM (Zp ρ)=some ps->(∀ x q,x∈xs->Zp ρ x=some q->VR c q (f x))->VRs c ps (xs.map f)
 | [],ps,h,_=>by simp at h;subst h;simp [VRs]
 | x::xs,ps,h,hall=>by
  rw [List.mapM_cons] at h
  simp only [bind,Option.bind_eq_some_iff,pure,Option.some.injEq] at h
  obtain⟨q,hq,qs,hqs,rfl⟩:=h
  simp only [List.map_cons,VRs]
  exact⟨_,_,rfl,hall x q (by simp) hq,Zaqv f hqs (fun y r hy=>hall y r (List.mem_cons_of_mem _ hy))⟩
theorem VRs.app{c:Ctx}:∀ {ps qs:List PV} {vs us:List Value},VRs c ps vs->VRs c qs us->VRs c (ps++qs) (vs++us)
 | [],qs,vs,us,h,k=>by simp only [VRs] at h;subst h;exact k
 | p::ps,qs,vs,us,h,k=>by
  simp only [VRs] at h
  obtain⟨v,rest,rfl,hv,hr⟩:=h
  simp only [List.cons_append,VRs]
  exact⟨v,_,rfl,hv,VRs.app hr k⟩
theorem Z7n{f:FuncId}{fo:Operand}{caps ps:List PV}{xs:Array Operand}{ats:Array TypeId}(ho:o.op = .call { callee := .value fo,args:=xs,argTypes:=ats })(hfo:Zp ρ fo=some (.fn f caps))(hps:(xs.toList.mapM (Zp ρ)).map (· ++ caps)=some ps)
 {G:Frm} {β:Nat->Option Nat} {n:Nat} {tm:List (Nat×PV)} {Z':List (Nat×Blk)} {a:Act} {w:World} (hr:Zan G β ⟨n,tm,Z'⟩ a w) (hag:∀ t q,Operand.tmp t∈o.op.operands->PW.get ρ t=some q->PW.get tm t=some q) :
 ∃ vals,VRs (ctx G β w Z') ps vals/\(FnOk P f->(execOp a.eval o).run P w = .ok (.enter f vals.toArray) w):=by
 obtain⟨vs,hev,hcv⟩:=Zbd3 hr ho hfo hag
 simp only [Option.map_eq_some_iff] at hps
 obtain⟨ps0,hps,rfl⟩:=hps
 have hv:=Zaqv (c:=ctx G β w Z') a.eval hps (fun x q hx hq=>Zlh hr hq (fun t r ht hr'=>hag t r (ht▸Zazy ho hx) hr'))
 refine⟨xs.toList.map a.eval++vs,hv.app hcv,fun hok=>?_⟩
 rw [Za2v hok ho a w hev]
 simp
theorem Zah3{f:FuncId}{qs:List PV}{res:PV}(hfn:Fn P f qs res){w:World}{vals:List Value}(A:Nat->Prop)(hA:∀ b,A b->b < w.heap.size)(hgA:∀ g k,(g,k)∈gset->A g)(hgl:Zaj4 w)(hv:VRs ⟨fun _=>none,A,w,[]⟩ qs vals) :
 Calls P f vals.toArray w fun e w'=>∃ v,e = .returned v/\VR ⟨fun _=>none,fun b=>b < w'.heap.size/\(w.heap.size<=b\/A b),w',[]⟩ res v/\w.heap.size<=w'.heap.size/\(∀ b,b < w.heap.size->w'.heap[b]?=w.heap[b]?) /\
  w'.os=w.os/\w'.tape=w.tape/\w'.output=w.output:=by
 have hlen:=hv.length
 refine (hfn.2 A (fun _=>none) w vals hlen ?_).mono ?_
 .refine { defers := rfl, sz := by simp [hlen], base := Nat.le_refl _, os := rfl, tape := rfl, output := rfl, old := fun _ _ _ => rfl, A := fun b hb => ⟨hA b hb, fun ⟨l, o, h, _⟩ => by simp [get] at h⟩, gl := fun g k hg => ⟨(hgl g k hg).1, fun ⟨l, o, h, _⟩ => by simp [get] at h, hgA g k hg, (hgl g k hg).2⟩, inj := fun l _ o _ _ h => by simp [get] at h,
           sep:=fun l o _ h=>by simp [get] at h,fix:=fun l _ _ h=>by simp [get] at h,row0:=fun l _ _ _ h=>by simp [get] at h,blk:=fun l o h=>by simp [get] at h,tm:=fun i p hp=>?_ }
  rw [Zzy] at hp
  simp only [Nat.zero_le,if_true,Nat.sub_zero] at hp
  obtain⟨v,hv1,hv2⟩:=hv.get i p hp
  refine⟨(List.getElem?_eq_some_iff.1 hp).1,?_⟩
  simp only [Array.getD_eq_getD_getElem?,List.getElem?_toArray,hv1,Option.getD_some]
  exact VR.step (c:=⟨fun _=>none,A,w,[]⟩) (c':=ctx (Zbr (fun _=>none) [] A w) (fun _=>none) w []) (fun b hb=>⟨⟨hA b hb,.inr (.inl hb),fun l o h=>by simp [get] at h⟩,rfl⟩) p v (fun l _=>Zal.none rfl) hv2
 .rintro e w' ⟨v,β',he,hr⟩
  have hv:=(hr.tm 0 res (by simp [get])).2
  refine⟨v,he,?_,hr.base,fun b hb=>hr.old b hb (fun⟨l,o,h,_⟩=>by simp [get] at h),hr.os,hr.tape,hr.output⟩
  refine VR.step (c:=ctx (Zbr (fun _=>none) [] A w) β' w' []) (c':=⟨fun _=>none,fun b=>b < w'.heap.size/\(w.heap.size<=b\/A b),w',[]⟩) (fun b hb=>⟨⟨hb.1,?_⟩,rfl⟩) res v (fun l _=>Zal.none rfl) (by simpa using hv)
  rcases hb.2.1 with h | h | h
  .exact .inl h
  .exact .inr h
  .obtain⟨l,o,h,_⟩:=h;simp [get] at h
theorem Za9e{f:FuncId}{fo:Operand}{xs:Array Operand}{ats:Array TypeId}{caps ps qs:List PV}{res:PV}{need:List Nat}(hfn:Fn P f qs res)(ho:o.op = .call { callee := .value fo,args:=xs,argTypes:=ats })(hfo:Zp ρ fo=some (.fn f caps))
 (hps:(xs.toList.mapM (Zp ρ)).map (· ++ caps)=some ps) (hfz:Zaw Z [] ps qs) (hneed:∀ m,PV.hasAny m ps=true->m∈need) (hs:res.scal=true):Zas P o ρ Z need res []:=by
 intro G n tm Z' a w K Q hag hnd _ hr hK
 obtain⟨β,hr⟩:=hr
 obtain⟨vals,hv,hrun⟩:=Z7n (P:=P) ho hfo hps hr hag
 have hfz':Zaw Z' [] ps qs:=Zaw.need ps qs (fun m hm=>hnd m (hneed m hm)) hfz
 have hv2:VRs ⟨fun _=>none,fun b=>b < w.heap.size,w,[]⟩ qs vals:=by
  refine Zaw.ok (c:=ctx G β w Z') (c':=⟨fun _=>none,fun b=>b < w.heap.size,w,[]⟩) ⟨fun b hb=>⟨hb.1,rfl⟩,fun l=>Zal.none rfl,fun l o hg=>hr.blk l _ hg,fun l o b hg _ hb=>⟨(hr.sep l o b hg hb).1,rfl⟩⟩ ps qs _ hfz' hv
 have hcall:=Zah3 hfn (fun b=>b < w.heap.size) (fun b hb=>hb) (fun g k hg=>(hr.glw g k hg).1) hr.glw hv2
 unfold Oper.wp
 rw [hrun hfn.1,Oper.upon_enter]
 refine hcall.mono ?_
 rintro e w' ⟨v,rfl,hres,hsz,hh,h1,h2,h3⟩
 obtain⟨hr',_,_⟩:=Zaut hr hsz hh h1 h2 h3
 exact hK v w' ⟨β,hr',VR.scal res v hs hres⟩
theorem Za9f{f:FuncId}{fo:Operand}{xs:Array Operand}{ats:Array TypeId}{caps ps qs:List PV}{res:PV}(hfn:Fn P f qs res)(ho:o.op = .call { callee := .value fo,args:=xs,argTypes:=ats })(hfo:Zp ρ fo=some (.fn f caps))
 (hps:(xs.toList.mapM (Zp ρ)).map (· ++ caps)=some ps) (hfz:Zaw [] [] ps qs) (hfree:res.free=true):Zas P o ρ Z [] res []:=by
 intro G n tm Z' a w K Q hag _ _ hr hK
 obtain⟨β,hr⟩:=hr
 obtain⟨vals,hv,hrun⟩:=Z7n (P:=P) ho hfo hps hr hag
 have hv1:VRs ⟨fun _=>none,(ctx G β w Z').I,w,[]⟩ ps vals:=VRs.step (c:=ctx G β w Z') (c':=⟨fun _=>none,(ctx G β w Z').I,w,[]⟩) (fun b hb=>⟨hb,rfl⟩) _ _ (fun l _=>Zal.none rfl) hv
 have hv2:VRs ⟨fun _=>none,(ctx G β w Z').I,w,[]⟩ qs vals:=
  Zaw.ok (c:=⟨fun _=>none,(ctx G β w Z').I,w,[]⟩) (c':=⟨fun _=>none,(ctx G β w Z').I,w,[]⟩) ⟨fun b hb=>⟨hb,rfl⟩,fun l=>Zal.none rfl,fun l o hg=>by simp [get] at hg,fun l o b hg=>by simp [get] at hg⟩ ps qs _ hfz hv1
 have hcall:=Zah3 hfn (ctx G β w Z').I (fun b hb=>hb.1) (fun g k hg=>hr.glI hg) hr.glw hv2
 unfold Oper.wp
 rw [hrun hfn.1,Oper.upon_enter]
 refine hcall.mono ?_
 rintro e w' ⟨v,rfl,hres,hsz,hh,h1,h2,h3⟩
 obtain⟨hr',hI,_⟩:=Zaut hr hsz hh h1 h2 h3
 refine hK v w' ⟨β,hr',VR.step (c:=⟨fun _=>none,fun b=>b < w'.heap.size/\(w.heap.size<=b\/(ctx G β w Z').I b),w',[]⟩) (c':=ctx G β w' Z') (fun b hb=>⟨?_,rfl⟩) res v (fun l hl=>?_) hres⟩
 .rcases hb.2 with h | h
  .exact⟨hb.1,.inl (Nat.le_trans hr.base h),fun l o hl hb'=>by have:=(hr.sep l o b hl (hb'.of_heap (fun b hb=>hh b (hr.sep l o b hl (.inl hb)).1))).1;omega⟩
  .exact (hI b h).1
 .rw [PV.free_has l res hfree] at hl;cases hl
end
end Go.PW
