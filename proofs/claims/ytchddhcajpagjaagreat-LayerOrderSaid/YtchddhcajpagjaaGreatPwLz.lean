import Derived.Test.YtchddhcajpagjaaGreatPwLy
set_option linter.all false
namespace Go.PW
open Go.RowKit
def Zom:List Nat->Nat->Option Nat
 | [],_=>none
 | L::ls,m=>bif Nat.beq L m then some 0 else (Zom ls m).map (· + 1)
theorem Zz7:∀ {ls:List Nat} {m i:Nat},Zom ls m=some i->ls[i]?=some m
 | [],m,i,h=>by cases h
 | L::ls,m,i,h=>by
  simp only [Zom] at h
  cases hb:Nat.beq L m with
  | true=>
   simp only [hb,cond_true,Option.some.injEq] at h
   subst h
   simp [(Z1 _ _).1 hb]
  | false=>
   simp only [hb,cond_false,Option.map_eq_some_iff] at h
   obtain⟨j,hj,rfl⟩:=h
   simpa using Zz7 hj
theorem Zaqw:∀ {ls:List Nat} {m:Nat},Zom ls m=none->∀ (i:Nat),ls[i]?≠some m
 | [],m,_,i,h=>by simp at h
 | L::ls,m,hn,i,h=>by
  simp only [Zom] at hn
  cases hb:Nat.beq L m with
  | true=>simp [hb] at hn
  | false=>
   simp only [hb,cond_false,Option.map_eq_none_iff] at hn
   cases i with
   | zero=>simp only [List.getElem?_cons_zero,Option.some.injEq] at h;subst h;simp at hb
   | succ i=>exact Zaqw hn i (by simpa using h)
def Z7o(ls:List Nat)(Z:List (Nat×Blk)):PV->Option (List Prop×Zf)
 | .t x=>some ([],x)
 | .nils=>some ([],.sl [])
 | .osl l n=>
  match Zom ls l,get Z l with
  | none,some (.row _ es)=>some ([es.length=n],.sl es)
  | _,_=>none
 | .own l (.msl n)=>
  match Zom ls l,get Z l with
  | none,some (.mat _ _ es)=>some ([es.length=n],.sl es)
  | _,_=>none
 | _=>none
def Zwa(ls:List Nat)(Z:List (Nat×Blk)):List PV->Option (List Prop×List Zf)
 | []=>some ([],[])
 | c::cs=>
  match Z7o ls Z c,Zwa ls Z cs with
  | some (ps,d),some (qs,ds)=>some (ps++qs,d::ds)
  | _,_=>none
theorem Za2x{ls:List Nat}{Z Z':List (Nat×Blk)}(p:PV)(h:∀ m,p.has m=true->get Z' m=get Z m):Z7o ls Z' p=Z7o ls Z p:=by
 cases p with
 | osl l n=>simp only [Z7o];rw [h l (by simp [PV.has])]
 | own l d=>cases d<;>simp only [Z7o];rw [h l (by simp [PV.has])]
 | _=>rfl
theorem Zafi{ls:List Nat}{Z Z':List (Nat×Blk)}:∀ (ps:List PV),(∀ m,PV.hasAny m ps=true->get Z' m=get Z m)->Zwa ls Z' ps=Zwa ls Z ps
 | [],_=>rfl
 | p::ps,h=>by
  simp only [Zwa]
  rw [Za2x p (fun m hm=>h m (by simp [PV.hasAny,hm])),Zafi ps (fun m hm=>h m (by simp [PV.hasAny,hm]))]
mutual
def PV.deep(Z:List (Nat×Blk))(m:Nat):PV->Bool
 | .bptr L _=>match get Z L with | some (.box cs)=>PV.hasAny m cs | _=>false
 | .agg cs=>PV.deeps Z m cs
 | .tup cs=>PV.deeps Z m cs
 | .fn _ cs=>PV.deeps Z m cs
 | _=>false
def PV.deeps(Z:List (Nat×Blk))(m:Nat):List PV->Bool
 | []=>false
 | p::ps=>p.deep Z m||PV.deeps Z m ps
end
mutual
def Zdy(S:Bool)(ls:List Nat)(Z:List (Nat×Blk)):PV->Option (List Prop×PV)
 | .t x=>some ([],.t x)
 | .nils=>some ([],.t (.sl []))
 | .osl l n=>
  match Zom ls l with
  | some i=>some ([],.osl i n)
  | none=>
   match S,get Z l with
   | true,some (.row _ es)=>some ([es.length=n],.t (.sl es))
   | _,_=>none
 | .bptr L o=>
  match Zom ls L with
  | some i=>some ([],.bptr i o)
  | none=>
   match S,get Z L with
   | true,some (.box cs)=>match Zwa ls Z cs with | some (ps,ts)=>some (ps,.vptr (ts.drop o)) | none=>none
   | _,_=>none
 | .rptr _ _ _ _=>none
 | .vptr cs=>some ([],.vptr cs)
 | .agg cs=>match Ze7 S ls Z cs with | some (ps,ds)=>some (ps,.agg ds) | none=>none
 | .tup cs=>match Ze7 S ls Z cs with | some (ps,ds)=>some (ps,.tup ds) | none=>none
 | .fn f cs=>match Ze7 S ls Z cs with | some (ps,ds)=>some (ps,.fn f ds) | none=>none
 | .own l d=>
  match Zom ls l with
  | some i=>some ([],.own i d)
  | none=>
   match S,d,get Z l with
   | true,.msl n,some (.mat _ _ es)=>some ([es.length=n],.t (.sl es))
   | _,_,_=>none
def Ze7(S:Bool)(ls:List Nat)(Z:List (Nat×Blk)):List PV->Option (List Prop×List PV)
 | []=>some ([],[])
 | c::cs=>
  match Zdy S ls Z c,Ze7 S ls Z cs with
  | some (ps,d),some (qs,ds)=>some (ps++qs,d::ds)
  | _,_=>none
end
mutual
theorem Za6c{S:Bool}{ls:List Nat}{Z Z':List (Nat×Blk)}:∀ (p:PV),(∀ m,p.has m=true\/p.deep Z m=true->get Z' m=get Z m)->Zdy S ls Z' p=Zdy S ls Z p
 | .t _,_=>by simp only [Zdy]
 | .nils,_=>by simp only [Zdy]
 | .osl l n,h=>by simp only [Zdy];rw [h l (.inl (by simp [PV.has]))]
 | .bptr l o,h=>by
  simp only [Zdy]
  rw [h l (.inl (by simp [PV.has]))]
  cases Zom ls l with
  | some i=>rfl
  | none=>
   cases S with
   | false=>rfl
   | true=>
    cases hg:get Z l with
    | none=>rfl
    | some b=>
     cases b with
     | box cs=>simp only;rw [Zafi cs (fun m hm=>h m (.inr (by simp only [PV.deep,hg];exact hm)))]
     | row k es=>rfl
     | mat k q es=>rfl
     | map ag es=>rfl
     | prow k i es cs=>rfl
 | .rptr _ _ _ _,_=>by simp only [Zdy]
 | .vptr _,_=>by simp only [Zdy]
 | .agg cs,h=>by simp only [Zdy];rw [Zpr cs (fun m hm=>h m (by simpa [PV.has,PV.deep] using hm))]
 | .tup cs,h=>by simp only [Zdy];rw [Zpr cs (fun m hm=>h m (by simpa [PV.has,PV.deep] using hm))]
 | .fn _ cs,h=>by simp only [Zdy];rw [Zpr cs (fun m hm=>h m (by simpa [PV.has,PV.deep] using hm))]
 | .own l d,h=>by simp only [Zdy];rw [h l (.inl (by simp [PV.has]))]
theorem Zpr{S:Bool}{ls:List Nat}{Z Z':List (Nat×Blk)}:∀ (ps:List PV),(∀ m,PV.hasAny m ps=true\/PV.deeps Z m ps=true->get Z' m=get Z m)->Ze7 S ls Z' ps=Ze7 S ls Z ps
 | [],_=>by simp only [Ze7]
 | p::ps,h=>by
  simp only [Ze7]
  rw [Za6c p (fun m hm=>h m (by rcases hm with hm | hm<;>simp [PV.hasAny,PV.deeps,hm])),Zpr ps (fun m hm=>h m (by rcases hm with hm | hm<;>simp [PV.hasAny,PV.deeps,hm]))]
end
structure Z7p (S:Bool) (ls:List Nat) (Z:List (Nat×Blk)) (c c':Ctx):Prop where
 cσ:c.Z=Z
 I:∀ b,c.I b->c'.I b/\c'.w.heap[b]?=c.w.heap[b]?
 S:S=true->∀ l o,Zom ls l=none->get Z l=some o->∀ b,Zae c.β c.w l o b->c'.I b/\c'.w.heap[b]?=c.w.heap[b]?
 blk:∀ l o,get Z l=some o->BR c l o
 box:∀ (i L:Nat) cs,ls[i]?=some L->get c'.Z i=some (.box cs)->(∃ cs0,get Z L=some (.box cs0))/\c'.β i=c.β L
 rowp:∀ (i L:Nat) k es,ls[i]?=some L->get c'.Z i=some (.row k es)->get Z L=some (.row k es)/\c'.β i=c.β L/\∀ b m,Za4 c.w b m->Za4 c'.w b m
 matp:∀ (i L:Nat) k q es,ls[i]?=some L->get c'.Z i=some (.mat k q es)->get Z L=some (.mat k q es)/\c'.β i=c.β L/\(∀ b m,Za4 c.w b m->Za4 c'.w b m)/\∀ a,c'.w.cell? a=c.w.cell? a
 mapp:∀ (i L:Nat) ag es,ls[i]?=some L->get c'.Z i=some (.map ag es)->get Z L=some (.map ag es)/\c'.β i=c.β L
 np:∀ (i k j:Nat) es cs,get c'.Z i≠some (.prow k j es cs)
theorem Z7p.rstep{S:Bool}{ls:List Nat}{Z:List (Nat×Blk)}{c c':Ctx}(h:Z7p S ls Z c c'){i L:Nat}(hi:ls[i]?=some L):Zad8 c c' L i:=
 ⟨fun k es hg=>by obtain⟨h1,h2,h3⟩:=h.rowp i L k es hi hg;exact⟨by rw [h.cσ];exact h1,h2,fun b s _ hr=>h3 b s hr⟩,
  fun cs hg=>by obtain⟨⟨cs0,h1⟩,h2⟩:=h.box i L cs hi hg;exact⟨cs0,by rw [h.cσ];exact h1,h2⟩,
  fun k q es hg=>by obtain⟨h1,h2,h3,h4⟩:=h.matp i L k q es hi hg;exact⟨by rw [h.cσ];exact h1,h2,fun b _=>⟨h3 b,fun j=>h4 _⟩⟩,
  fun ag es hg=>by obtain⟨h1,h2⟩:=h.mapp i L ag es hi hg;exact⟨by rw [h.cσ];exact h1,h2⟩,
  fun k j es cs hg=>absurd hg (h.np i k j es cs)⟩
theorem Za9j{ls:List Nat}{Z:List (Nat×Blk)}{c c':Ctx}(h:Z7p true ls Z c c'){l n k:Nat}{es:List (List Zf)}{v:Value}(hpn:Zom ls l=none)(hg:get Z l=some (.row k es))(hn:es.length=n)(hv:VR c (.osl l n) v):Z0 c'.I c'.w (.sl es) v:=by
 simp only [VR] at hv
 obtain⟨a,cap,rfl,hc1,hc2,h3⟩:=(hv.1 k es (by rw [h.cσ];exact hg)).2 hn.symm
 simp only [Z0]
 subst hn
 refine⟨a,cap,rfl,hc1,hc2,?_⟩
 obtain⟨_,_,hb⟩:=h.blk l _ hg
 rcases hb with ⟨_,he⟩ | ⟨b,sz,hb,_,_,hel⟩
 .exact .inl he
 .rcases h3 with ⟨_,hb'⟩ | ⟨b',sz',ha,hb',_,_⟩
  .exact absurd (hb.symm.trans hb') (by simp)
  .have:b'=b:=by have:=hb'.symm.trans hb;simpa using this
   subst this
   obtain⟨hI,hh⟩:=h.S rfl l _ hpn hg b' (.inl hb)
   exact .inr ⟨b',0,ha,hI,Zr.mono h.I hh es 0 hel⟩
theorem Za9k{ls:List Nat}{Z:List (Nat×Blk)}{c c':Ctx}(h:Z7p true ls Z c c'){l n k q0:Nat}{es:List (List Zf)}{v:Value}(hpn:Zom ls l=none)(hg:get Z l=some (.mat k q0 es))(hn:es.length=n)(hv:VR c (.own l (.msl n)) v):Z0 c'.I c'.w (.sl es) v:=by
 simp only [VR] at hv
 obtain⟨a,cap,rfl,hc1,hc2,h3⟩:=(hv.1 k q0 es (by rw [h.cσ];exact hg)).2 hn.symm
 simp only [Z0]
 subst hn
 refine⟨a,cap,rfl,hc1,hc2,?_⟩
 obtain⟨_,_,hb⟩:=h.blk l _ hg
 rcases hb with ⟨_,he⟩ | ⟨b,sz,hb,_,_,hel,_⟩
 .exact .inl he
 .rcases h3 with ⟨_,hb'⟩ | ⟨b',sz',ha,hb',_,_⟩
  .exact absurd (hb.symm.trans hb') (by simp)
  .have:b'=b:=by have:=hb'.symm.trans hb;simpa using this
   subst this
   obtain⟨hI,hh⟩:=h.S rfl l _ hpn hg b' (.inl hb)
   refine .inr ⟨b',0,ha,hI,Zr.mono (fun d hd=>?_) hh es 0 hel⟩
   rcases hd with hd | hd
   .exact h.I d hd
   .exact h.S rfl l _ hpn hg d (.inr ⟨k,q0,es,b',rfl,hb,hd⟩)
theorem Za9l{ls:List Nat}{Z:List (Nat×Blk)}{c c':Ctx}(h:Z7p true ls Z c c'){p:PV}{ps:List Prop}{x:Zf}{v:Value}(hf:Z7o ls Z p=some (ps,x))(hc:Zak ps)(hv:VR c p v):Z0 c'.I c'.w x v:=by
 unfold Z7o at hf
 split at hf
 .cases hf
  have:=VR.step (c:=c) (c':=c') h.I (.t x) v (fun l hl=>by simp [PV.has] at hl) hv
  simpa only [VR] using this
 .cases hf
  simp only [VR] at hv
  obtain⟨a,rfl⟩:=hv
  simp only [Z0]
  exact⟨a,0,rfl,by simp,by simp [maxLen],.inl trivial⟩
 .split at hf
  .rename_i _ k es hp hg
   cases hf
   exact Za9j h hp hg hc.1 hv
  .cases hf
 .split at hf
  .rename_i _ k q es hp hg
   cases hf
   exact Za9k h hp hg hc.1 hv
  .cases hf
 .cases hf
theorem Zaqx{ls:List Nat}{Z:List (Nat×Blk)}{c c':Ctx}(h:Z7p true ls Z c c'){b:Nat}:∀ {cs:List PV} {ps:List Prop} {ts:List Zf} {vs:List Value} (off:Nat),Zwa ls Z cs=some (ps,ts)->Zak ps->VRs c cs vs ->
 (∀ (j:Nat) v,vs[j]?=some v->c'.w.cell? ⟨b,off+j,none⟩=some v)->Zw c'.I c'.w b ts off
 | [],ps,ts,vs,off,hf,_,_,_=>by
  simp only [Zwa,Option.some.injEq,Prod.mk.injEq] at hf
  rw [<- hf.2];trivial
 | p::cs,ps,ts,vs,off,hf,hc,hv,hcl=>by
  simp only [Zwa] at hf
  split at hf
  .rename_i ps1 d ps2 ds h1 h2
   cases hf
   obtain⟨c1,c2⟩:=Zx.1 hc
   simp only [VRs] at hv
   obtain⟨v,rest,rfl,hv,hr⟩:=hv
   simp only [Zw]
   refine⟨⟨v,by simpa using hcl 0 v rfl,Za9l h h1 c1 hv⟩,Zaqx h (off+1) h2 c2 hr (fun j u hj=>?_)⟩
   rw [Nat.add_assoc,Nat.add_comm 1 j]
   exact hcl (j+1) u (by simpa using hj)
  .cases hf
mutual
theorem Zbd4{S:Bool}{ls:List Nat}{Z:List (Nat×Blk)}{c c':Ctx}(h:Z7p S ls Z c c'):∀ (p q:PV) (ps:List Prop) (v:Value),Zdy S ls Z p=some (ps,q)->Zak ps->VR c p v->VR c' q v
 | .t x,q,ps,v,ha,_,hv=>by simp only [Zdy,Option.some.injEq,Prod.mk.injEq] at ha;rw [<- ha.2];exact VR.step h.I (.t x) v (fun l hl=>by simp [PV.has] at hl) hv
 | .nils,q,ps,v,ha,_,hv=>by
  simp only [Zdy,Option.some.injEq,Prod.mk.injEq] at ha
  rw [<- ha.2]
  simp only [VR] at hv ⊢
  obtain⟨a,rfl⟩:=hv
  simp only [Z0]
  exact⟨a,0,rfl,by simp,by simp [maxLen],.inl trivial⟩
 | .osl l n,q,ps,v,ha,hc,hv=>by
  simp only [Zdy] at ha
  split at ha
  .rename_i i hi
   cases ha
   simp only [VR] at hv ⊢
   refine⟨fun k es hg=>?_,hv.2⟩
   obtain⟨h1,h2,h3⟩:=h.rowp i l k es (Zz7 hi) hg
   obtain⟨g1,g2⟩:=hv.1 k es (by rw [h.cσ];exact h1)
   refine⟨g1,fun hn=>?_⟩
   obtain⟨a,cap,hv',e1,e2,e3⟩:=g2 hn
   refine⟨a,cap,hv',e1,e2,?_⟩
   rcases e3 with ⟨hc,hb⟩ | ⟨b,m,ha,hb,hr,hs⟩
   .exact .inl ⟨hc,h2.trans hb⟩
   .exact .inr ⟨b,m,ha,h2.trans hb,h3 b m hr,hs⟩
  rename_i hpn
  split at ha
  .rename_i k es hg
   cases ha
   have hn:es.length=n:=hc.1
   simp only [VR] at hv ⊢
   obtain⟨a,cap,rfl,hc1,hc2,h3⟩:=(hv.1 k es (by rw [h.cσ];exact hg)).2 hn.symm
   simp only [Z0]
   subst hn
   refine⟨a,cap,rfl,hc1,hc2,?_⟩
   obtain⟨_,_,hb⟩:=h.blk l _ hg
   rcases hb with ⟨_,he⟩ | ⟨b,sz,hb,_,_,hel⟩
   .exact .inl he
   .rcases h3 with ⟨_,hb'⟩ | ⟨b',sz',ha,hb',_,_⟩
    .exact absurd (hb.symm.trans hb') (by simp)
    .have:b'=b:=by have:=hb'.symm.trans hb;simpa using this
     subst this
     obtain⟨hI,hh⟩:=h.S rfl l _ hpn hg b' (.inl hb)
     exact .inr ⟨b',0,ha,hI,Zr.mono h.I hh es 0 hel⟩
  .cases ha
 | .bptr L o,q,ps,v,ha,hc,hv=>by
  simp only [Zdy] at ha
  split at ha
  .rename_i i hi
   cases ha
   simp only [VR] at hv ⊢
   refine⟨fun cs hg=>?_,hv.2⟩
   obtain⟨⟨cs0,h1⟩,h2⟩:=h.box i L cs (Zz7 hi) hg
   obtain⟨b,hb,hv'⟩:=hv.1 cs0 (by rw [h.cσ];exact h1)
   exact⟨b,h2.trans hb,hv'⟩
  rename_i hpn
  split at ha
  .rename_i cs hg
   split at ha
   .rename_i ts hts
    cases ha
    simp only [VR] at hv ⊢
    obtain⟨b,hb1,hv⟩:=hv.1 _ (by rw [h.cσ];exact hg)
    obtain⟨b',vs,hb',_,hcs,hvs,_⟩:=h.blk L _ hg
    have:b'=b:=by have:=hb'.symm.trans hb1;simpa using this
    subst this
    obtain⟨hI,hh⟩:=h.S rfl L _ hpn hg b' (.inl hb1)
    have h1:=Zaqx h (b:=b') 0 hts hc hvs (fun j v hj=>by rw [Nat.zero_add];exact (World.cell?_of_block (w:=c.w) hh).trans (hcs j v hj))
    have h2:=Zw.drop o ts 0 h1
    rw [Nat.zero_add] at h2
    exact⟨b',o,hv,fun _=>hI,h2⟩
   .cases ha
  .cases ha
 | .rptr _ _ _ _,q,ps,v,ha,_,hv=>by simp [Zdy] at ha
 | .vptr cs,q,ps,v,ha,_,hv=>by simp only [Zdy,Option.some.injEq,Prod.mk.injEq] at ha;rw [<- ha.2];exact VR.step h.I (.vptr cs) v (fun l hl=>by simp [PV.has] at hl) hv
 | .agg cs,q,ps,v,ha,hc,hv=>by
  simp only [Zdy] at ha
  split at ha
  .rename_i ps' ds hd
   cases ha
   simp only [VR] at hv ⊢
   obtain⟨vs,hv,hs⟩:=hv
   exact⟨vs,hv,Zuw h cs ds ps vs hd hc hs⟩
  .cases ha
 | .tup cs,q,ps,v,ha,hc,hv=>by
  simp only [Zdy] at ha
  split at ha
  .rename_i ps' ds hd
   cases ha
   simp only [VR] at hv ⊢
   obtain⟨vs,hv,hs⟩:=hv
   exact⟨vs,hv,Zuw h cs ds ps vs hd hc hs⟩
  .cases ha
 | .fn f cs,q,ps,v,ha,hc,hv=>by
  simp only [Zdy] at ha
  split at ha
  .rename_i ps' ds hd
   cases ha
   simp only [VR] at hv ⊢
   obtain⟨vs,hv,hs⟩:=hv
   exact⟨vs,hv,Zuw h cs ds ps vs hd hc hs⟩
  .cases ha
 | .own l d,q,ps,v,ha,hc,hv=>by
  simp only [Zdy] at ha
  split at ha
  .rename_i i hi
   cases ha
   simp only [VR] at hv ⊢
   exact⟨hv.1.ren (h.rstep (Zz7 hi)),hv.2⟩
  rename_i hpn
  split at ha
  .rename_i n k q0 es hg
   cases ha
   have hn:es.length=n:=hc.1
   simp only [VR] at hv ⊢
   obtain⟨a,cap,rfl,hc1,hc2,h3⟩:=(hv.1 k q0 es (by rw [h.cσ];exact hg)).2 hn.symm
   simp only [Z0]
   subst hn
   refine⟨a,cap,rfl,hc1,hc2,?_⟩
   obtain⟨_,_,hb⟩:=h.blk l _ hg
   rcases hb with ⟨_,he⟩ | ⟨b,sz,hb,_,_,hel,_⟩
   .exact .inl he
   .rcases h3 with ⟨_,hb'⟩ | ⟨b',sz',ha,hb',_,_⟩
    .exact absurd (hb.symm.trans hb') (by simp)
    .have:b'=b:=by have:=hb'.symm.trans hb;simpa using this
     subst this
     obtain⟨hI,hh⟩:=h.S rfl l _ hpn hg b' (.inl hb)
     refine .inr ⟨b',0,ha,hI,Zr.mono (fun d hd=>?_) hh es 0 hel⟩
     rcases hd with hd | hd
     .exact h.I d hd
     .exact h.S rfl l _ hpn hg d (.inr ⟨k,q0,es,b',rfl,hb,hd⟩)
  .cases ha
theorem Zuw{S:Bool}{ls:List Nat}{Z:List (Nat×Blk)}{c c':Ctx}(h:Z7p S ls Z c c'):∀ (cs qs:List PV) (ps:List Prop) (vs:List Value),Ze7 S ls Z cs=some (ps,qs)->Zak ps->VRs c cs vs->VRs c' qs vs
 | [],qs,ps,vs,ha,_,hv=>by simp only [Ze7,Option.some.injEq,Prod.mk.injEq] at ha;rw [<- ha.2];exact hv
 | p::cs,qs,ps,vs,ha,hc,hv=>by
  simp only [Ze7] at ha
  split at ha
  .rename_i ps1 d ps2 ds h1 h2
   cases ha
   obtain⟨c1,c2⟩:=Zx.1 hc
   simp only [VRs] at hv ⊢
   obtain⟨v,rest,rfl,hv,hr⟩:=hv
   exact⟨v,rest,rfl,Zbd4 h p d ps1 v h1 c1 hv,Zuw h cs ds ps2 rest h2 c2 hr⟩
  .cases ha
end
mutual
theorem Za9m{ls:List Nat}{Z Z':List (Nat×Blk)}:∀ (p:PV),Zdy false ls Z' p=Zdy false ls Z p
 | .t _=>by simp only [Zdy]
 | .nils=>by simp only [Zdy]
 | .osl l n=>by simp only [Zdy]
 | .bptr l _=>by simp only [Zdy]
 | .rptr _ _ _ _=>by simp only [Zdy]
 | .vptr _=>by simp only [Zdy]
 | .agg cs=>by simp only [Zdy];rw [Zwb cs]
 | .tup cs=>by simp only [Zdy];rw [Zwb cs]
 | .fn _ cs=>by simp only [Zdy];rw [Zwb cs]
 | .own l d=>by simp only [Zdy]
theorem Zwb{ls:List Nat}{Z Z':List (Nat×Blk)}:∀ (ps:List PV),Ze7 false ls Z' ps=Ze7 false ls Z ps
 | []=>by simp only [Ze7]
 | p::ps=>by simp only [Ze7];rw [Za9m p,Zwb ps]
end
def Zakf(ls:List Nat)(cs:List PV):Option (List PV):=
 bif PV.frees cs then some cs else
 match Ze7 false ls [] cs with
 | some ([],ds)=>bif ds.all PV.one then some ds else none
 | _=>none
def Zs1(ls0:List Nat)(Z:List (Nat×Blk)):Nat->List Nat->Option (List (Nat×Blk))
 | _,[]=>some []
 | i,L::ls=>
  match get Z L,Zs1 ls0 Z (i+1) ls with
  | some (.box cs),some r=>match Zakf ls0 cs with | some ds=>some ((i,.box ds)::r) | none=>none
  | some (.row k es),some r=>some ((i,.row k es)::r)
  | _,_=>none
def Zv1(ls0:List Nat)(o o':Blk):Prop:=(o'=o/\∀ cs,o ≠ .box cs/\∀ k i es,o ≠ .prow k i es cs)\/∃ cs ds,o = .box cs/\o' = .box ds/\Zakf ls0 cs=some ds
theorem Zv1.same{ls0:List Nat}{o o':Blk}(h:Zv1 ls0 o o'):Zat1 o o':=by
 rcases h with ⟨h,_⟩ | ⟨cs,ds,h1,h2,_⟩
 .exact .inl h
 .exact .inr ⟨cs,ds,h1,h2⟩
theorem Zaqy{ls0:List Nat}{Z:List (Nat×Blk)}:∀ {ls:List Nat} {i:Nat} {σa:List (Nat×Blk)},Zs1 ls0 Z i ls=some σa ->
 (∀ j o,get σa j=some o->∃ m L o0,j=i+m/\ls[m]?=some L/\get Z L=some o0/\Zv1 ls0 o0 o)/\(∀ (m L:Nat),ls[m]?=some L->∃ o,get σa (i+m)=some o)
 | [],i,σa,h=>by
  simp only [Zs1,Option.some.injEq] at h
  subst h
  exact⟨(fun j o h=>nomatch h),(fun m L h=>by simp at h)⟩
 | L0::ls,i,σa,h=>by
  have key:∀ (b:Blk) (o0:Blk) (r:List (Nat×Blk)),get Z L0=some o0->Zv1 ls0 o0 b->Zs1 ls0 Z (i+1) ls=some r->σa=(i,b)::r ->
   (∀ j o,get σa j=some o->∃ m L o0,j=i+m/\(L0::ls)[m]?=some L/\get Z L=some o0/\Zv1 ls0 o0 o)/\(∀ (m L:Nat),(L0::ls)[m]?=some L->∃ o,get σa (i+m)=some o):=by
   intro b o0 r hg hp hr hσ
   subst hσ
   obtain⟨h1,h2⟩:=Zaqy hr
   refine⟨fun j o ho=>?_,fun m L hm=>?_⟩
   .simp only [PW.get] at ho
    cases hb:Nat.beq i j with
    | true=>
     simp only [hb,cond_true,Option.some.injEq] at ho
     subst ho
     exact⟨0,L0,o0,((Z1 _ _).1 hb).symm,rfl,hg,hp⟩
    | false=>
     simp only [hb,cond_false] at ho
     obtain⟨m,L,o1,e1,e2,e3⟩:=h1 j o ho
     exact⟨m+1,L,o1,by omega,by simpa using e2,e3⟩
   .cases m with
    | zero=>exact⟨b,by simp [PW.get]⟩
    | succ m=>
     obtain⟨o,ho⟩:=h2 m L (by simpa using hm)
     refine⟨o,?_⟩
     simp only [PW.get]
     rw [Zgf O,cond_false,show i+(m+1)=i+1+m by omega]
     exact ho
  simp only [Zs1] at h
  split at h
  .rename_i cs r hg hr
   split at h
   .rename_i ds hd
    exact key _ _ r hg (.inr ⟨cs,ds,rfl,rfl,hd⟩) hr (Option.some.inj h).symm
   .cases h
  .rename_i k es r hg hr
   exact key _ _ r hg (.inl ⟨rfl,fun cs=>by simp⟩) hr (Option.some.inj h).symm
  .cases h
theorem Zakg{ls0:List Nat}{Z Z':List (Nat×Blk)}:∀ {ls:List Nat} {i:Nat},(∀ m,m∈ls->get Z' m=get Z m)->Zs1 ls0 Z' i ls=Zs1 ls0 Z i ls
 | [],i,_=>rfl
 | L::ls,i,h=>by
  simp only [Zs1]
  rw [h L (by simp),Zakg (fun m hm=>h m (List.mem_cons_of_mem _ hm))]
def okB(ls:List Nat):List PV->Bool
 | []=>true
 | .t _::ps=>okB ls ps
 | .osl l _::ps=>(match Zom ls l with | some _=>true | none=>false)&&okB ls ps
 | _::_=>false
def Zri(ls:List Nat):List PV->List PV
 | []=>[]
 | .osl l n::ps => .osl ((Zom ls l).getD 0) n::Zri ls ps
 | p::ps=>p::Zri ls ps
theorem Zah5{ls:List Nat}{d:Nat}:∀ {cs:List PV},okB ls cs=true->Ze7 false ls [] cs=some ([],Zri ls cs)/\PV.rens (Zb6 ls d) (Zri ls cs)=cs/\(Zri ls cs).all PV.one=true
 | [],_=>⟨rfl,rfl,rfl⟩
 | p::cs,h=>by
  cases p<;>simp only [okB,Bool.and_eq_true,Bool.false_eq_true] at h
  case t x=>
   obtain⟨h1,h2,h3⟩:=Zah5 (d:=d) h
   refine⟨by simp only [Ze7,Zdy,h1,Zri];rfl,by simp only [Zri,PV.rens,PV.ren,h2],by simp only [Zri,List.all_cons,h3];rfl⟩
  case osl l n=>
   obtain⟨h1,h2,h3⟩:=Zah5 (d:=d) h.2
   cases hp:Zom ls l with
   | none=>rw [hp] at h;exact absurd h.1 (by decide)
   | some i=>
    refine⟨by simp only [Ze7,Zdy,hp,h1,Zri,Option.getD_some];rfl,?_,by simp only [Zri,List.all_cons,h3];rfl⟩
    simp only [Zri,hp,Option.getD_some,PV.rens,PV.ren,h2,Zb6,Zz7 hp]
def Zs2(ls0:List Nat)(Z:List (Nat×Blk)):Nat->List Nat->Option (List (Nat×Blk))
 | _,[]=>some []
 | i,L::ls=>
  match get Z L,Zs2 ls0 Z (i+1) ls with
  | some (.box cs),some r=>bif PV.frees cs then some ((i,.box cs)::r) else bif okB ls0 cs then some ((i,.box (Zri ls0 cs))::r) else none
  | some (.row k es),some r=>some ((i,.row k es)::r)
  | _,_=>none
theorem Zaqz{ls0:List Nat}{d:Nat}{Z:List (Nat×Blk)}:∀ {ls:List Nat} {i:Nat} {σa:List (Nat×Blk)},Zs2 ls0 Z i ls=some σa ->
 (∀ j o,get σa j=some o->∃ m L o0,j=i+m/\ls[m]?=some L/\get Z L=some o0/\Zv1 ls0 o0 o/\o.ren (Zb6 ls0 d)=o0)/\(∀ (m L:Nat),ls[m]?=some L->∃ o,get σa (i+m)=some o)
 | [],i,σa,h=>by
  simp only [Zs2,Option.some.injEq] at h
  subst h
  exact⟨(fun j o h=>nomatch h),(fun m L h=>by simp at h)⟩
 | L0::ls,i,σa,h=>by
  have key:∀ (b:Blk) (o0:Blk) (r:List (Nat×Blk)),get Z L0=some o0->Zv1 ls0 o0 b->b.ren (Zb6 ls0 d)=o0->Zs2 ls0 Z (i+1) ls=some r->σa=(i,b)::r ->
   (∀ j o,get σa j=some o->∃ m L o0,j=i+m/\(L0::ls)[m]?=some L/\get Z L=some o0/\Zv1 ls0 o0 o/\o.ren (Zb6 ls0 d)=o0)/\(∀ (m L:Nat),(L0::ls)[m]?=some L->∃ o,get σa (i+m)=some o):=by
   intro b o0 r hg hp hb0 hr hσ
   subst hσ
   obtain⟨h1,h2⟩:=Zaqz (d:=d) hr
   refine⟨fun j o ho=>?_,fun m L hm=>?_⟩
   .simp only [PW.get] at ho
    cases hb:Nat.beq i j with
    | true=>
     simp only [hb,cond_true,Option.some.injEq] at ho
     subst ho
     exact⟨0,L0,o0,((Z1 _ _).1 hb).symm,rfl,hg,hp,hb0⟩
    | false=>
     simp only [hb,cond_false] at ho
     obtain⟨m,L,o1,e1,e2,e3⟩:=h1 j o ho
     exact⟨m+1,L,o1,by omega,by simpa using e2,e3⟩
   .cases m with
    | zero=>exact⟨b,by simp [PW.get]⟩
    | succ m=>
     obtain⟨o,ho⟩:=h2 m L (by simpa using hm)
     refine⟨o,?_⟩
     simp only [PW.get]
     rw [Zgf O,cond_false,show i+(m+1)=i+1+m by omega]
     exact ho
  simp only [Zs2] at h
  split at h
  .rename_i cs r hg hr
   cases hf:PV.frees cs with
   | true=>
    simp only [hf,cond_true,Option.some.injEq] at h
    exact key _ _ r hg (.inr ⟨cs,cs,rfl,rfl,by unfold Zakf;rw [hf];rfl⟩) (by simp only [Blk.ren,PV.rens_free cs hf]) hr h.symm
   | false=>
    simp only [hf,cond_false] at h
    cases ho:okB ls0 cs with
    | false=>simp [ho] at h
    | true=>
     simp only [ho,cond_true,Option.some.injEq] at h
     obtain⟨b1,b2,b3⟩:=Zah5 (d:=d) ho
     exact key _ _ r hg (.inr ⟨cs,_,rfl,rfl,by unfold Zakf;rw [hf,cond_false,b1];simp only [b3,cond_true]⟩) (by simp only [Blk.ren,b2]) hr h.symm
  .rename_i k es r hg hr
   simp only [Option.some.injEq] at h
   exact key _ _ r hg (.inl ⟨rfl,fun cs=>⟨fun e=>(by cases e),fun _ _ _ e=>(by cases e)⟩⟩) rfl hr h.symm
  .cases h
theorem Zakh{ls0:List Nat}{Z Z':List (Nat×Blk)}:∀ {ls:List Nat} {i:Nat},(∀ m,m∈ls->get Z' m=get Z m)->Zs2 ls0 Z' i ls=Zs2 ls0 Z i ls
 | [],i,_=>rfl
 | L::ls,i,h=>by
  simp only [Zs2]
  rw [h L (by simp),Zakh (fun m hm=>h m (List.mem_cons_of_mem _ hm))]
section
variable {P:Program} {o:Oper}
structure Zat2 (ls:List Nat) (d:Nat) (σa σ1:List (Nat×Blk)) (res:PV):Prop where
 nd:∀ (i j L:Nat),ls[i]?=some L->ls[j]?=some L->i=j
 len:ls.length<=1000
 box:∀ (l:Nat) o,get σ1 l=some o->∀ L,ls[l]?=some L->(∃ cs cs0,o = .box cs/\get σa l=some (.box cs0))\/∃ k es es0,o = .row k es/\get σa l=some (.row k es0)
 ge:∀ (l:Nat) o,get σ1 l=some o->ls[l]?=none->1000<=l+d
 cl:∀ l,(res.has l=true\/∃ m o,get σ1 m=some o/\o.has l=true)->∃ o,get σ1 l=some o
theorem Za6d{f:FuncId}{fo:Operand}{xs:Array Operand}{ats:Array TypeId}{caps ps qs:List PV}{res:PV}{σa σ1:List (Nat×Blk)}{ls:List Nat}{d:Nat}{S:Bool}{cs:List Prop}(hfn:FnG P f σa qs σ1 res)(ho:o.op = .call { callee := .value fo,args:=xs,argTypes:=ats })
 {ρ:List (Nat×PV)} (hfo:Zp ρ fo=some (.fn f caps)) (hps:(xs.toList.mapM (Zp ρ)).map (· ++ caps)=some ps) {G:Frm} {n:Nat} {tm:List (Nat×PV)} {Z:List (Nat×Blk)} {a:Act} {w:World} {β:Nat->Option Nat} (hr:Zan G β ⟨n,tm,Z⟩ a w)
 (hag:∀ t q,Operand.tmp t∈o.op.operands->PW.get ρ t=some q->PW.get tm t=some q)
 (hq:Ze7 S ls Z ps=some (cs,qs)) (hcs:Zak cs) (hp:(∀ j o,PW.get σa j=some o->∃ m L o0,j=0+m/\ls[m]?=some L/\PW.get Z L=some o0/\Zv1 ls o0 o)/\(∀ (m L:Nat),ls[m]?=some L->∃ o,PW.get σa (0+m)=some o)) (hok:Zat2 ls d σa σ1 res) (hfr:∀ (l:Nat) o,get σ1 l=some o->ls[l]?=none->(∀ i q,get tm i=some q->q.has (l+d)=false)/\(∀ m y,get Z m=some y->m≠l+d/\y.has (l+d)=false))
 (hS:S=true->res.sc=true/\∀ l o,get σ1 l=some o->o.SC) {K:Act->World->Prop} {Q:Exit->Act->World->Prop}
 (hK:∀ v w',(∃ b2,Zan G b2 ⟨n,tm,Zcr (Zb6 ls d) σ1++Zbo ls Z⟩ a w'/\VR (ctx G b2 w' (Zcr (Zb6 ls d) σ1++Zbo ls Z)) (res.ren (Zb6 ls d)) v)->K (a.put o.dst v) w'):o.wp P a w K Q:=by
 obtain⟨p1,p2⟩:=hp
 have hbox:∀ (l:Nat) o,get σ1 l=some o->∀ L,ls[l]?=some L->(∃ cs cs0,o = .box cs/\get Z L=some (.box cs0))\/∃ k es es0,o = .row k es/\get Z L=some (.row k es0):=fun l o h L hL=>by
  rcases hok.box l o h L hL with ⟨cs,cs0,h1,h2⟩ | ⟨k,es,es0,h1,h2⟩
  .obtain⟨m,L',o0,e1,e2,e3,e4⟩:=p1 l _ h2
   rw [Nat.zero_add] at e1;subst e1
   rw [hL] at e2;cases e2
   rcases e4 with ⟨e4,_⟩ | ⟨cs1,_,rfl,_⟩
   .exact .inl ⟨cs,cs0,h1,e4▸e3⟩
   .exact .inl ⟨cs,cs1,h1,e3⟩
  .obtain⟨m,L',o0,e1,e2,e3,e4⟩:=p1 l _ h2
   rw [Nat.zero_add] at e1;subst e1
   rw [hL] at e2;cases e2
   rcases e4 with ⟨e4,_⟩ | ⟨_,_,_,e4,_⟩
   .exact .inr ⟨k,es,es0,h1,e4▸e3⟩
   .cases e4
 have hnp:∀ (i k j:Nat) es cs,get σa i≠some (.prow k j es cs):=fun i k j es cs h=>by
  obtain⟨m,L,o0,_,_,_,e4⟩:=p1 i _ h
  rcases e4 with ⟨e5,e6⟩ | ⟨_,_,_,e5,_⟩
  .subst e5;exact (e6 cs).2 k j es rfl
  .cases e5
 have hC:Zake ls d tm Z σa σ1 res:={ nd:=hok.nd,len:=hok.len,sa:=fun i o h=>by obtain⟨m,L,o0,e1,e2,e3,e4⟩:=p1 i o h;rw [Nat.zero_add] at e1;subst e1;exact⟨L,e2,o0,e3,e4.same⟩,all:=fun i L h=>by simpa using p2 i L h,np:=hnp,box:=hbox,fr:=fun l o h hn=>⟨hok.ge l o h hn,hfr l o h hn⟩,cl:=hok.cl }
 have hpass:∀ (i L:Nat),ls[i]?=some L->∃ o,get Z L=some o:=fun i L h=>by
  obtain⟨o,ho⟩:=hC.all i L h
  obtain⟨L',h1,o0,h2,_⟩:=hC.sa i o ho
  rw [h] at h1;cases h1
  exact⟨o0,h2⟩
 obtain⟨vals,hv,hrun⟩:=Z7n (P:=P) ho hfo hps hr hag
 let A:Nat->Prop:=fun b=>bif S then b < w.heap.size/\∀ (i L:Nat) (o:Blk),ls[i]?=some L->get Z L=some o->¬ Zae β w L o b else Imm G β w Z b
 have hAT:∀ b,Imm G β w Z b->A b:=fun b hb=>by
  cases S with
  | true=>exact⟨hb.1,fun i L o hL hg=>hb.2.2 L o hg⟩
  | false=>exact hb
 have hA:∀ b,A b->b < w.heap.size/\∀ (i L:Nat) (o:Blk),ls[i]?=some L->get Z L=some o->¬ Zae β w L o b:=fun b hb=>by
  cases S with
  | true=>exact hb
  | false=>exact⟨hb.1,fun i L o hL hg=>hb.2.2 L o hg⟩
 have hAc:∀ b,A b->Imm (Zbr (βc β ls) σa A w) (βc β ls) w σa b:=fun b hb=>⟨(hA b hb).1,.inr (.inl hb),fun i o ho hb'=>by
  obtain⟨L,h1,o0,h2,h3⟩:=hC.sa i o ho
  exact (hA b hb).2 i L o0 h1 h2 (h3.own (hb'.lab (show βc β ls i=β L by simp [βc,h1])))⟩
 have hAC:∀ S',(S'=true->S=true)->Z7p S' ls Z (ctx G β w Z) (ctx (Zbr (βc β ls) σa A w) (βc β ls) w σa):=by
  intro S' hS'
  refine⟨rfl,fun b hb=>⟨hAc b (hAT b hb),rfl⟩,fun hs l o hpn hg b hb=>⟨hAc b (?_:A b),rfl⟩,fun l o hg=>hr.blk l _ hg,fun i L cs hL hg=>?_,fun i L k es hL hg=>?_,fun i L k q es hL hg=>?_,fun i L ag es hL hg=>?_,fun i k j es cs=>?_⟩
  .simp only [A,hS' hs,cond_true]
   refine⟨(hr.sep l _ b hg hb).1,fun i L o' hL hg' hb'=>?_⟩
   have:=hr.inj l L _ _ b hg hg' hb hb'
   subst this
   exact Zaqw hpn i hL
  .obtain⟨L',h1,o0,h3,h4⟩:=hC.sa i _ hg
   rw [hL] at h1;cases h1
   refine⟨?_,by simp [ctx,βc,hL]⟩
   rcases h4 with h4 | ⟨cs0,_,h4,_⟩
   .exact⟨cs,h4▸h3⟩
   .exact⟨cs0,h4▸h3⟩
  .obtain⟨L',h1,o0,h3,h4⟩:=hC.sa i _ hg
   rw [hL] at h1;cases h1
   obtain rfl:o0 = .row k es:=by
    rcases h4 with h4 | ⟨_,_,_,h4⟩
    .exact h4.symm
    .cases h4
   exact⟨h3,by simp [ctx,βc,hL],fun _ _ h=>h⟩
  .obtain⟨L',h1,o0,h3,h4⟩:=hC.sa i _ hg
   rw [hL] at h1;cases h1
   obtain rfl:o0 = .mat k q es:=by
    rcases h4 with h4 | ⟨_,_,_,h4⟩
    .exact h4.symm
    .cases h4
   exact⟨h3,by simp [ctx,βc,hL],fun _ _ h=>h,fun _=>rfl⟩
  .obtain⟨L',h1,o0,h3,h4⟩:=hC.sa i _ hg
   rw [hL] at h1;cases h1
   obtain rfl:o0 = .map ag es:=by
    rcases h4 with h4 | ⟨_,_,_,h4⟩
    .exact h4.symm
    .cases h4
   exact⟨h3,by simp [ctx,βc,hL]⟩
  .exact hC.np i k j es cs
 have hv2:VRs (ctx (Zbr (βc β ls) σa A w) (βc β ls) w σa) qs vals:=by
  exact Zuw (hAC S id) ps qs cs _ hq hcs hv
 have hlen:vals.length=qs.length:=hv2.length
 have hcall:=callU hfn hr hC (sc:=S) hlen A hA hAT (fun hs b hb=>by simpa only [A,hs,cond_false] using hb) hS hv2 (fun i L cs0 cs hL hg ha vs hvs h1=>by
  obtain⟨m,L',o0,e1,e2,e3,e4⟩:=p1 i _ ha
  rw [Nat.zero_add] at e1;subst e1
  rw [hL] at e2;cases e2
  rw [hg] at e3;cases e3
  rcases e4 with ⟨_,e4⟩ | ⟨_,_,e5,e6,e7⟩
  .exact absurd rfl (e4 _).1
  .cases e5;cases e6
   unfold Zakf at e7
   cases hf:PV.frees cs0 with
   | true=>
    simp only [hf,cond_true,Option.some.injEq] at e7
    subst e7
    exact⟨VRs.step (c:=ctx G β w Z) (c':=ctx (Zbr (βc β ls) σa A w) (βc β ls) w σa) (fun b hb=>⟨hAc b (hAT b hb),rfl⟩) cs0 vs (fun l hl=>by rw [PV.frees_has l cs0 hf] at hl;cases hl) hvs,h1⟩
   | false=>
    simp only [hf,cond_false] at e7
    split at e7
    .rename_i ds hd
     cases ho:ds.all PV.one with
     | false=>simp [ho] at e7
     | true=>
      simp only [ho,cond_true,Option.some.injEq] at e7
      subst e7
      rw [Zwb (Z:=Z)] at hd
      exact⟨Zuw (hAC false (fun h=>by cases h)) cs0 ds [] vs hd trivial hvs,ho⟩
    .cases e7)
 unfold Oper.wp
 rw [hrun hfn.1,Oper.upon_enter]
 refine hcall.mono ?_
 rintro e w' ⟨v,b2,rfl,h1,h2⟩
 exact hK v w' ⟨b2,h1,h2⟩
theorem Zau1{f:Nat->Nat}{l:Nat}{o:Blk}:∀ {fr:List (Nat×Blk)},get fr l=some o->(f l,o.ren f)∈Zcr f fr
 | [],h=>by cases h
 | (j,b)::r,h=>by
  simp only [PW.get] at h
  cases hb:Nat.beq j l with
  | true=>
   simp only [hb,cond_true,Option.some.injEq] at h
   have:=(Z1 _ _).1 hb
   subst this;subst h
   simp [Zcr]
  | false=>simp only [hb,cond_false] at h;simp only [Zcr];exact List.mem_cons_of_mem _ (Zau1 h)
theorem Zbf9{f:FuncId}{fo:Operand}{xs:Array Operand}{ats:Array TypeId}{caps ps qs:List PV}{res:PV}{σa σ1:List (Nat×Blk)}{ls:List Nat}{d:Nat}{S:Bool}{cs:List Prop}{ρ:List (Nat×PV)}{Z:List (Nat×Blk)}{need:List Nat}(hfn:FnG P f σa qs σ1 res)(ho:o.op = .call { callee := .value fo,args:=xs,argTypes:=ats })
 (hfo:Zp ρ fo=some (.fn f caps)) (hps:(xs.toList.mapM (Zp ρ)).map (· ++ caps)=some ps) (hq:Ze7 S ls Z ps=some (cs,qs)) (hcs:Zak cs) (hσa:Zs1 ls Z 0 ls=some σa) (hok:Zat2 ls d σa σ1 res)
 (hS:S=true->res.sc=true/\∀ l o,get σ1 l=some o->o.SC) (hneed:∀ m,(m∈ls\/PV.hasAny m ps=true\/PV.deeps Z m ps=true)->m∈need) (hnin:∀ (l:Nat) o,get σ1 l=some o->ls[l]?=none->l+d∉ls):OpF P o ρ Z need ls (res.ren (Zb6 ls d)) (Zcr (Zb6 ls d) σ1):=by
 rintro G n tm Z' a w K Q hag hnd hnews ⟨β,hr⟩ hK
 have hq':Ze7 S ls Z' ps=some (cs,qs):=by rw [Zpr ps (fun m hm=>hnd m (hneed m (.inr hm)))];exact hq
 have hσa':Zs1 ls Z' 0 ls=some σa:=by rw [Zakg (fun m hm=>hnd m (hneed m (.inl hm)))];exact hσa
 refine Za6d hfn ho hfo hps hr hag hq' hcs (Zaqy hσa') hok (fun l o h hn=>?_) hS hK
 have:=hnews _ _ (Zau1 h)
 simp only [Zb6,hn] at this
 exact this (hnin l o h hn)
theorem Za9n{f:FuncId}{fo:Operand}{xs:Array Operand}{ats:Array TypeId}{caps ps qs:List PV}{res:PV}{σa fr:List (Nat×Blk)}{ls:List Nat}{d:Nat}{S:Bool}{cs:List Prop}{ρ:List (Nat×PV)}{Z:List (Nat×Blk)}{need:List Nat}(hfn:FnG P f σa qs (fr++σa) res)(ho:o.op = .call { callee := .value fo,args:=xs,argTypes:=ats })
 (hfo:Zp ρ fo=some (.fn f caps)) (hps:(xs.toList.mapM (Zp ρ)).map (· ++ caps)=some ps) (hq:Ze7 S ls Z ps=some (cs,qs)) (hcs:Zak cs) (hσa:Zs2 ls Z 0 ls=some σa) (hok:Zat2 ls d σa (fr++σa) res)
 (hS:S=true->res.sc=true/\∀ l o,get (fr++σa) l=some o->o.SC) (hneed:∀ m,(m∈ls\/PV.hasAny m ps=true\/PV.deeps Z m ps=true)->m∈need):Zas P o ρ Z need (res.ren (Zb6 ls d)) (Zcr (Zb6 ls d) fr):=by
 intro G n tm Z' a w K Q hag hnd hnews hr hK
 obtain⟨β,hr⟩:=hr
 have hq':Ze7 S ls Z' ps=some (cs,qs):=by rw [Zpr ps (fun m hm=>hnd m (hneed m (.inr hm)))];exact hq
 have hσa':Zs2 ls Z' 0 ls=some σa:=by rw [Zakh (fun m hm=>hnd m (hneed m (.inl hm)))];exact hσa
 obtain⟨p1,p2⟩:=Zaqz (d:=d) hσa'
 have hpG:(∀ j o,get σa j=some o->∃ m L o0,j=0+m/\ls[m]?=some L/\get Z' L=some o0/\Zv1 ls o0 o)/\(∀ (m L:Nat),ls[m]?=some L->∃ o,get σa (0+m)=some o):=⟨fun j o h=>by
  obtain⟨m,L,o0,e1,e2,e3,e4,_⟩:=p1 j o h
  exact⟨m,L,o0,e1,e2,e3,e4⟩,p2⟩
 have hfrget:∀ l o,get (fr++σa) l=some o->ls[l]?=none->∃ o',get fr l=some o':=fun l o h hn=>by
  rw [Zj5] at h
  cases hg:get fr l with
  | some o'=>exact⟨o',rfl⟩
  | none=>
   rw [hg] at h
   obtain⟨m,L,_,e1,e2,_⟩:=p1 l o h
   rw [Nat.zero_add] at e1;subst e1
   rw [hn] at e2;cases e2
 have hmem:∀ l o,get fr l=some o->(Zb6 ls d l,o.ren (Zb6 ls d))∈Zcr (Zb6 ls d) fr:=fun l o h=>by
  have:∀ (l:Nat) (o:Blk) (fr:List (Nat×Blk)),get fr l=some o->(Zb6 ls d l,o.ren (Zb6 ls d))∈Zcr (Zb6 ls d) fr:=by
   intro l o fr
   induction fr with
   | nil=>intro h;cases h
   | cons x r ih=>
    obtain⟨j,b⟩:=x
    intro h
    simp only [PW.get] at h
    cases hb:Nat.beq j l with
    | true=>
     simp only [hb,cond_true,Option.some.injEq] at h
     have:=(Z1 _ _).1 hb
     subst this;subst h
     simp [Zcr]
    | false=>simp only [hb,cond_false] at h;simp only [Zcr];exact List.mem_cons_of_mem _ (ih h)
  exact this l o fr h
 refine Za6d hfn ho hfo hps hr hag hq' hcs hpG hok (fun l o h hn=>?_) hS ?_
 .obtain⟨o',h'⟩:=hfrget l o h hn
  have:=hnews _ _ (hmem l o' h')
  simpa [Zb6,hn] using this
 .rintro v w' ⟨b2,h1,h2⟩
  have hsub:∀ l o,get (Zcr (Zb6 ls d) fr++Z') l=some o->get (Zcr (Zb6 ls d) (fr++σa)++Zbo ls Z') l=some o:=by
   intro m o hm
   rw [Zafh,List.append_assoc,Zj5]
   rw [Zj5] at hm
   cases hg:get (Zcr (Zb6 ls d) fr) m with
   | some o'=>rw [hg] at hm;exact hm
   | none=>
    rw [hg] at hm
    simp only at hm ⊢
    rw [Zj5]
    cases hg2:get (Zcr (Zb6 ls d) σa) m with
    | some o2=>
     obtain⟨l,o1,_,e2,e3,e4⟩:=Zz5 hg2
     obtain⟨i,L,o0,f1,f2,f4,_,f5⟩:=p1 l o1 e2
     rw [Nat.zero_add] at f1;subst f1
     have:L=m:=by simpa [Zb6,f2] using e4
     subst this
     rw [f4] at hm
     have hoo:o0=o:=Option.some.inj hm
     rw [e3,f5,hoo]
    | none=>
     simp only
     by_cases hin:m∈ls
     .obtain⟨i,hi⟩:=List.getElem?_of_mem hin
      obtain⟨o3,ho3⟩:=p2 i m hi
      rw [Nat.zero_add] at ho3
      obtain⟨l',hk⟩:=Zz6 (f:=Zb6 ls d) ho3
      rw [show Zb6 ls d i=m by simp [Zb6,hi]] at hk
      obtain⟨_,_,o4,ho4⟩:=Zs0 hk
      rw [hg2] at ho4;cases ho4
     .rw [Z7j hin];exact hm
  refine hK v w' ⟨b2,h1.sub (Nat.le_refl _) (fun i p hp=>⟨hp,(h1.tm i p hp).1⟩) hsub,?_⟩
  exact VR.step (c:=ctx G b2 w' (Zcr (Zb6 ls d) (fr++σa)++Zbo ls Z')) (c':=ctx G b2 w' (Zcr (Zb6 ls d) fr++Z')) (fun b hb=>⟨Imm.sub hsub b hb,rfl⟩) _ v (fun l _=>Zal.sub hsub l) h2
end
theorem FnG.frz{P:Program}{f:FuncId}{Z σ1 σ2:List (Nat×Blk)}{args:List PV}{res q:PV}(h:FnG P f Z args σ1 res)(hσ:Zxv σ1 σ2)(hq:Frz σ1 σ2 res q):FnG P f Z args σ2 q:=by
 refine⟨h.1,fun A β w vals hl hr=>(h.2 A β w vals hl hr).mono ?_⟩
 rintro e w' ⟨v,β',he,hc⟩
 refine⟨v,β',he,Zaur hc hσ (fun i p hp=>?_)⟩
 simp only [PW.get] at hp ⊢
 cases hb:Nat.beq 0 i with
 | true=>simp only [hb,cond_true,Option.some.injEq] at hp ⊢;subst hp;exact⟨_,rfl,hq⟩
 | false=>simp [hb] at hp
theorem FnG.toFn{P:Program}{f:FuncId}{args:List PV}{σ1:List (Nat×Blk)}{res q:PV}(h:FnG P f [] args σ1 res)(hq:Frz σ1 [] res q):Fn P f args q:=h.frz (Zxv.nil _) hq
theorem Zbga{G:Frm}{β:Nat->Option Nat}{n:Nat}{tm:List (Nat×PV)}{Z:List (Nat×Blk)}{a:Act}{w:World}(h:Zan G β ⟨n,tm,Z⟩ a w)(l m:Nat)(hm:1000<=m)
 (hf1:∀ i q,get tm i=some q->q.has m=false) (hf2:∀ j y,get Z j=some y->j≠m/\y.has m=false) :
 ∃ β',Zan G β' ⟨n,tm.map (fun x=>(x.1,x.2.ren (fun j=>bif Nat.beq j l then m else j))),Zcr (fun j=>bif Nat.beq j l then m else j) Z⟩ a w:=by
 let f:Nat->Nat:=fun j=>bif Nat.beq j l then m else j
 have hfl:f l=m:=by simp [f]
 have hfo:∀ j,j≠l->f j=j:=fun j h=>by simp [f,Zgf h]
 let β':Nat->Option Nat:=fun j=>bif Nat.beq j m then β l else β j
 have hβm:β' m=β l:=by simp [β']
 have hβo:∀ j,j≠m->β' j=β j:=fun j h=>by simp [β',Zgf h]
 have hget:∀ j o,get (Zcr f Z) j=some o->∃ l0 o0,get Z l0=some o0/\o=o0.ren f/\f l0=j/\β' j=β l0:=by
  intro j o hg
  obtain⟨l0,o0,_,h2,h3,h4⟩:=Zz5 hg
  refine⟨l0,o0,h2,h3,h4,?_⟩
  by_cases e:l0=l
  .subst e;rw [hfl] at h4;subst h4;exact hβm
  .rw [hfo _ e] at h4;subst h4;exact hβo _ (hf2 _ _ h2).1
 have hI:∀ b,Imm G β w Z b->Imm G β' w (Zcr f Z) b:=fun b hb=>⟨hb.1,hb.2.1,fun j o hj hb'=>by obtain⟨l0,o0,h2,rfl,_,h5⟩:=hget j o hj;exact hb.2.2 l0 o0 h2 (hb'.unren.lab h5)⟩
 have hR:∀ j,j≠m->Zad8 (ctx G β w Z) (ctx G β' w (Zcr f Z)) j (f j):=by
  intro j hj
  have key:∀ o,get (Zcr f Z) (f j)=some o->∃ o0,get Z j=some o0/\o=o0.ren f/\β' (f j)=β j:=by
   intro o hg
   obtain⟨l0,o0,h2,h3,h4,h5⟩:=hget _ o hg
   have:l0=j:=by
    by_cases e:l0=l
    .subst e
     rw [hfl] at h4
     by_cases e2:j=l0
     .exact e2.symm
     .rw [hfo _ e2] at h4;exact absurd h4.symm hj
    .rw [hfo _ e] at h4
     by_cases e2:j=l
     .subst e2;rw [hfl] at h4;exact absurd h4 (hf2 _ _ h2).1
     .rw [hfo _ e2] at h4;exact h4
   subst this
   exact⟨o0,h2,h3,h5⟩
  refine⟨fun k es hg=>?_,fun cs hg=>?_,fun k q es hg=>?_,fun ag es hg=>?_,fun k i es cs hg=>?_⟩
  .obtain⟨o0,h1,h2,h3⟩:=key _ hg
   cases o0 with
   | box cs=>simp [Blk.ren] at h2
   | mat k0 q0 es0=>simp [Blk.ren] at h2
   | map k0 es0=>simp [Blk.ren] at h2
   | prow k0 i0 es0 cs0=>simp [Blk.ren] at h2
   | row k0 es0=>simp only [Blk.ren,Blk.row.injEq] at h2;obtain⟨rfl,rfl⟩:=h2;exact⟨h1,h3,fun _ _ _ h=>h⟩
  .obtain⟨o0,h1,h2,h3⟩:=key _ hg
   cases o0 with
   | box cs0=>exact⟨cs0,h1,h3⟩
   | row k0 es0=>simp [Blk.ren] at h2
   | mat k0 q0 es0=>simp [Blk.ren] at h2
   | map k0 es0=>simp [Blk.ren] at h2
   | prow k0 i0 es0 cs0=>simp [Blk.ren] at h2
  .obtain⟨o0,h1,h2,h3⟩:=key _ hg
   cases o0 with
   | box cs=>simp [Blk.ren] at h2
   | row k0 es0=>simp [Blk.ren] at h2
   | mat k0 q0 es0=>simp only [Blk.ren,Blk.mat.injEq] at h2;obtain⟨rfl,rfl,rfl⟩:=h2;exact⟨h1,h3,fun _ _=>⟨fun _ h=>h,fun _=>rfl⟩⟩
   | map k0 es0=>simp [Blk.ren] at h2
   | prow k0 i0 es0 cs0=>simp [Blk.ren] at h2
  .obtain⟨o0,h1,h2,h3⟩:=key _ hg
   cases o0 with
   | box cs=>simp [Blk.ren] at h2
   | row k0 es0=>simp [Blk.ren] at h2
   | mat k0 q0 es0=>simp [Blk.ren] at h2
   | map k0 es0=>simp only [Blk.ren,Blk.map.injEq] at h2;obtain⟨rfl,rfl⟩:=h2;exact⟨h1,h3⟩
   | prow k0 i0 es0 cs0=>simp [Blk.ren] at h2
  .obtain⟨o0,h1,h2,h3⟩:=key _ hg
   cases o0 with
   | box cs=>simp [Blk.ren] at h2
   | row k0 es0=>simp [Blk.ren] at h2
   | mat k0 q0 es0=>simp [Blk.ren] at h2
   | map k0 es0=>simp [Blk.ren] at h2
   | prow k0 i0 es0 cs0=>simp only [Blk.ren,Blk.prow.injEq] at h2;obtain⟨rfl,rfl,rfl,rfl⟩:=h2;exact⟨cs0,h1,h3,fun _ _ _ h=>h⟩
 have hV:∀ p v,p.has m=false->VR (ctx G β w Z) p v->VR (ctx G β' w (Zcr f Z)) (p.ren f) v:=fun p v hp hv=>
  VR.ren (c:=ctx G β w Z) (c':=ctx G β' w (Zcr f Z)) (sc:=false) (fun _ b hb=>⟨hI b hb,rfl⟩) p v (fun e=>by cases e) (fun j hj=>hR j (fun e=>by subst e;rw [hp] at hj;cases hj)) hv
 refine⟨β',{ defers:=h.defers,sz:=h.sz,base:=h.base,os:=h.os,tape:=h.tape,output:=h.output,old:=h.old,A:=h.A,gl:=h.gl,inj:=fun j j' o o' b hj hj' hb hb'=>?_,sep:=fun j o b hj hb=>?_,fix:=fun j cs hj hg=>?_,row0:=fun j k es' hj hg=>?_,blk:=fun j o hj=>?_,tm:=fun i p hp=>?_ }⟩
 .obtain⟨l0,o0,h2,h3,h4,h5⟩:=hget j o hj
  obtain⟨l1,o1,h2',h3',h4',h5'⟩:=hget j' o' hj'
  subst h3;subst h3'
  have:=h.inj l0 l1 _ _ b h2 h2' (hb.unren.lab h5) (hb'.unren.lab h5')
  subst this
  exact h4.symm.trans h4'
 .obtain⟨l0,o0,h2,h3,h4,h5⟩:=hget j o hj
  subst h3
  exact h.sep l0 o0 b h2 (hb.unren.lab h5)
 .obtain⟨l0,o0,h2,h3,h4,h5⟩:=hget j _ hg
  cases o0 with
  | row k es=>simp [Blk.ren] at h3
  | mat k q es=>simp [Blk.ren] at h3
  | map ag es=>simp [Blk.ren] at h3
  | prow k0 i0 es0 cs0=>simp [Blk.ren] at h3
  | box cs0=>
   by_cases e:l0=l
   .subst e;rw [hfl] at h4;omega
   .rw [hfo _ e] at h4;subst h4
    rw [h5];exact h.fix l0 cs0 hj h2
 .obtain⟨l0,o0,h2,h3,h4,h5⟩:=hget j _ hg
  cases o0 with
  | box cs=>simp [Blk.ren] at h3
  | mat k q es=>simp [Blk.ren] at h3
  | map ag es=>simp [Blk.ren] at h3
  | prow k0 i0 es0 cs0=>simp [Blk.ren] at h3
  | row k0 es0=>
   simp only [Blk.ren,Blk.row.injEq] at h3
   obtain⟨rfl,rfl⟩:=h3
   by_cases e:l0=l
   .subst e;rw [hfl] at h4;omega
   .rw [hfo _ e] at h4;subst h4
    rw [h5];exact h.row0 l0 _ _ hj h2
 .obtain⟨l0,o0,h2,h3,h4,h5⟩:=hget j o hj
  have hb:=h.blk l0 o0 h2
  subst h3
  cases o0 with
  | box cs=>
   obtain⟨b,vs,f1,f2,f3,f4,f5⟩:=hb
   refine⟨b,vs,h5.trans f1,by rw [PV.rens_length];exact f2,f3,?_,by rw [PV.rens_one];exact f5⟩
   have hh:=(hf2 l0 _ h2).2
   exact VRs.ren (c:=ctx G β w Z) (c':=ctx G β' w (Zcr f Z)) (sc:=false) (fun _ b hb=>⟨hI b hb,rfl⟩) cs vs (fun e=>by cases e) (fun j hj2=>hR j (fun e=>by subst e;simp only [Blk.has] at hh;rw [hh] at hj2;cases hj2)) f4
  | row k es=>
   obtain⟨f0,f1,f2⟩:=hb
   refine⟨f0,f1,?_⟩
   rcases f2 with ⟨f2,f3⟩ | ⟨b,s,f2,f3,f4,f5⟩
   .exact .inl ⟨h5.trans f2,f3⟩
   .exact .inr ⟨b,s,h5.trans f2,f3,f4,Zr.mono (w:=w) (w':=w) (fun b hb=>⟨hI b hb,rfl⟩) rfl es 0 f5⟩
  | mat k q es=>
   obtain⟨f0,f1,f2⟩:=hb
   refine⟨f0,f1,?_⟩
   rcases f2 with ⟨f2,f3⟩ | ⟨b,s,f2,f3,f4,f5,f6⟩
   .exact .inl ⟨h5.trans f2,f3⟩
   .exact .inr ⟨b,s,h5.trans f2,f3,f4,Zr.mono (w:=w) (w':=w) (fun d hd=>⟨hd.imp (hI d) id,rfl⟩) rfl es 0 f5,f6⟩
  | prow k0 i0 es0 cs0=>
   obtain⟨g0,g1,g2,g3,g4,b,s,vs,f1,f2,f3,f4,f5⟩:=hb
   refine⟨g0,g1,g2,by rw [PV.rens_length];exact g3,by rw [PV.rens_one];exact g4,b,s,vs,h5.trans f1,f2,f3,f4,?_⟩
   have hh:=(hf2 l0 _ h2).2
   rw [<- Zakd]
   exact VRs.ren (c:=ctx G β w Z) (c':=ctx G β' w (Zcr f Z)) (sc:=false) (fun _ b hb=>⟨hI b hb,rfl⟩) _ vs (fun e=>by cases e) (fun j hj2=>hR j (fun e=>by subst e;rw [Z7i] at hj2;simp only [Blk.has] at hh;rw [hh] at hj2;cases hj2)) f5
  | map ag es=>
   obtain⟨b,ents,clock,f1,f2,f3⟩:=hb
   exact⟨b,ents,clock,h5.trans f1,f2,Zhb.step (c:=ctx G β w Z) (c':=ctx G β' w (Zcr f Z)) (fun b hb=>⟨hI b hb,rfl⟩) f3⟩
 .have hmap:∀ (tm:List (Nat×PV)),get (tm.map (fun x=>(x.1,x.2.ren f))) i=(get tm i).map (·.ren f):=by
   intro tm
   induction tm with
   | nil=>rfl
   | cons x r ih=>
    obtain⟨j,q⟩:=x
    simp only [List.map_cons,PW.get]
    cases Nat.beq j i<;>simp [ih]
  rw [hmap] at hp
  simp only [Option.map_eq_some_iff] at hp
  obtain⟨q,hq,rfl⟩:=hp
  exact⟨(h.tm i q hq).1,hV q _ (hf1 i q hq) (h.tm i q hq).2⟩
end Go.PW
