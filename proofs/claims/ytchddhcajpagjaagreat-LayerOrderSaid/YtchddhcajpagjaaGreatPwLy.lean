import Derived.Test.YtchddhcajpagjaaGreatPwLx
set_option linter.all false
namespace Go.PW
open Go.RowKit
def Zak:List Prop->Prop
 | []=>True
 | p::ps=>p/\Zak ps
theorem Zx{ps qs:List Prop}:Zak (ps++qs)↔Zak ps/\Zak qs:=by
 induction ps with
 | nil=>simp [Zak]
 | cons p ps ih=>simp [Zak,ih,and_assoc]
mutual
def PV.ren(f:Nat->Nat):PV->PV
 | .t x => .t x
 | .nils => .nils
 | .osl l n => .osl (f l) n
 | .bptr l o => .bptr (f l) o
 | .rptr l n i o => .rptr (f l) n i o
 | .vptr cs => .vptr cs
 | .agg cs => .agg (PV.rens f cs)
 | .tup cs => .tup (PV.rens f cs)
 | .fn g cs => .fn g (PV.rens f cs)
 | .own l d => .own (f l) d
def PV.rens(f:Nat->Nat):List PV->List PV
 | []=>[]
 | p::ps=>p.ren f::PV.rens f ps
end
def Blk.ren(f:Nat->Nat):Blk->Blk
 | .box cs => .box (PV.rens f cs)
 | .row k es => .row k es
 | .mat k q es => .mat k q es
 | .map ag es => .map ag es
 | .prow k i es cs => .prow k i es (PV.rens f cs)
mutual
def PV.sc:PV->Bool
 | .t x=>x.scal
 | .vptr _=>false
 | .agg cs=>PV.scs cs
 | .tup cs=>PV.scs cs
 | .fn _ cs=>PV.scs cs
 | _=>true
def PV.scs:List PV->Bool
 | []=>true
 | p::ps=>p.sc&&PV.scs ps
end
def Blk.SC:Blk->Prop
 | .box cs=>PV.scs cs=true
 | .row _ es=>∀ el,el∈es->∀ x,x∈el->Zf.scal x=true
 | .mat k q _=>k=1/\q=0
 | .map _ _=>False
 | .prow _ _ _ _=>False
theorem PV.rens_length{f:Nat->Nat}:∀ (ps:List PV),(PV.rens f ps).length=ps.length
 | []=>rfl
 | p::ps=>by simp [PV.rens,PV.rens_length ps]
theorem PV.rens_one{f:Nat->Nat}:∀ (ps:List PV),(PV.rens f ps).all PV.one=ps.all PV.one
 | []=>rfl
 | p::ps=>by
  simp only [PV.rens,List.all_cons,PV.rens_one ps]
  cases p<;>rfl
mutual
theorem PV.ren_free{f:Nat->Nat}:∀ (p:PV),p.free=true->p.ren f=p
 | .t _,_=>rfl
 | .nils,_=>rfl
 | .vptr _,_=>rfl
 | .agg cs,h=>by simp only [PV.ren];rw [PV.rens_free cs (by simpa [PV.free] using h)]
 | .tup cs,h=>by simp only [PV.ren];rw [PV.rens_free cs (by simpa [PV.free] using h)]
 | .fn _ cs,h=>by simp only [PV.ren];rw [PV.rens_free cs (by simpa [PV.free] using h)]
 | .osl _ _,h=>by simp [PV.free] at h
 | .bptr _ _,h=>by simp [PV.free] at h
 | .rptr _ _ _ _,h=>by simp [PV.free] at h
 | .own _ _,h=>by simp [PV.free] at h
theorem PV.rens_free{f:Nat->Nat}:∀ (ps:List PV),PV.frees ps=true->PV.rens f ps=ps
 | [],_=>rfl
 | p::ps,h=>by
  simp only [PV.frees,Bool.and_eq_true] at h
  simp only [PV.rens]
  rw [PV.ren_free p h.1,PV.rens_free ps h.2]
end
theorem Z4n{f:Nat->Nat}:∀ (ps qs:List PV),PV.rens f (ps++qs)=PV.rens f ps++PV.rens f qs
 | [],_=>rfl
 | p::ps,qs=>by simp only [List.cons_append,PV.rens,Z4n ps qs]
theorem Zau0{f:Nat->Nat}:∀ (ts:List Zf),PV.rens f (ts.map .t)=ts.map .t
 | []=>rfl
 | t::ts=>by simp only [List.map_cons,PV.rens,PV.ren,Zau0 ts]
theorem Zakd{f:Nat->Nat}{i:Nat}{es:List (List Zf)}{cs:List PV}:PV.rens f (Zf1 i es cs)=Zf1 i es (PV.rens f cs):=by
 unfold Zf1
 rw [Z4n,Z4n,Zau0,Zau0]
def Zad8(c c':Ctx)(l m:Nat):Prop:=
 (∀ k es,get c'.Z m=some (.row k es)->get c.Z l=some (.row k es)/\c'.β m=c.β l/\∀ b s,c.β l=some b->Za4 c.w b s->Za4 c'.w b s) /\
 (∀ cs',get c'.Z m=some (.box cs')->∃ cs,get c.Z l=some (.box cs)/\c'.β m=c.β l) /\
 (∀ k q es,get c'.Z m=some (.mat k q es)->get c.Z l=some (.mat k q es)/\c'.β m=c.β l/\∀ b,c.β l=some b->(∀ s,Za4 c.w b s->Za4 c'.w b s)/\∀ j,c'.w.cell? ⟨b,j,none⟩=c.w.cell? ⟨b,j,none⟩) /\
 (∀ ag es,get c'.Z m=some (.map ag es)->get c.Z l=some (.map ag es)/\c'.β m=c.β l) /\
 (∀ k i es cs',get c'.Z m=some (.prow k i es cs')->∃ cs,get c.Z l=some (.prow k i es cs)/\c'.β m=c.β l/\∀ b s,c.β l=some b->Za4 c.w b s->Za4 c'.w b s)
theorem ODR.ren{c c':Ctx}{l m:Nat}{v:Value}(hl:Zad8 c c' l m):∀ {d:OD},ODR c l v d->ODR c' m v d
 | .tail n i,h=>fun k es hg=>by
  obtain⟨hg0,hβ,hh⟩:=hl.1 k es hg
  obtain⟨h1,h2⟩:=h k es hg0
  refine⟨h1,fun hn=>?_⟩
  obtain⟨a,cap,hv,hc2,h3⟩:=h2 hn
  refine⟨a,cap,hv,hc2,?_⟩
  rcases h3 with hc | ⟨b,s,ha,hb,hcs,hsz⟩
  .exact .inl hc
  .exact .inr ⟨b,s,ha,hβ.trans hb,hh b s hb hcs,hsz⟩
 | .msl n,h=>fun k q es hg=>by
  obtain⟨hg0,hβ,hh⟩:=hl.2.2.1 k q es hg
  obtain⟨h1,h2⟩:=h k q es hg0
  refine⟨h1,fun hn=>?_⟩
  obtain⟨a,cap,hv,hc1,hc2,h3⟩:=h2 hn
  refine⟨a,cap,hv,hc1,hc2,?_⟩
  rcases h3 with ⟨hc,hb⟩ | ⟨b,s,ha,hb,hcs,hsz⟩
  .exact .inl ⟨hc,hβ.trans hb⟩
  .exact .inr ⟨b,s,ha,hβ.trans hb,(hh b hb).1 s hcs,hsz⟩
 | .mpt n j off,h=>fun k q es hg=>by
  obtain⟨hg0,hβ,hh⟩:=hl.2.2.1 k q es hg
  obtain⟨h1,h2⟩:=h k q es hg0
  refine⟨h1,fun hn=>?_⟩
  obtain⟨b,hb,hv⟩:=h2 hn
  exact⟨b,hβ.trans hb,hv⟩
 | .mrow n j,h=>⟨h.1,fun k q es hg=>by
  obtain⟨hg0,hβ,hh⟩:=hl.2.2.1 k q es hg
  obtain⟨h1,h2⟩:=h.2 k q es hg0
  refine⟨h1,fun hn=>?_⟩
  obtain⟨b,hb,hv⟩:=h2 hn
  exact⟨b,hβ.trans hb,((hh b hb).2 _).trans hv⟩⟩
 | .mel n j i,h=>⟨h.1,fun k q es hg=>by
  obtain⟨hg0,hβ,hh⟩:=hl.2.2.1 k q es hg
  obtain⟨h1,h2⟩:=h.2 k q es hg0
  refine⟨h1,fun hn=>?_⟩
  obtain⟨b,d,len,cap,hb,hv,hp⟩:=h2 hn
  exact⟨b,d,len,cap,hβ.trans hb,((hh b hb).2 _).trans hv,hp⟩⟩
 | .map,h=>fun ag es hg=>by
  obtain⟨hg0,hβ⟩:=hl.2.2.2.1 ag es hg
  obtain⟨b,hb,hv⟩:=h ag es hg0
  exact⟨b,hβ.trans hb,hv⟩
 | .pw n,h=>fun k i es cs' hg=>by
  obtain⟨cs,hg0,hβ,hh⟩:=hl.2.2.2.2 k i es cs' hg
  obtain⟨h1,h2⟩:=h k i es cs hg0
  refine⟨h1,fun hn=>?_⟩
  obtain⟨b,s,cap,hv,hc1,hc2,hb,hr,hs⟩:=h2 hn
  exact⟨b,s,cap,hv,hc1,hc2,hβ.trans hb,hh b s hb hr,hs⟩
 | .pp n off,h=>fun k i es cs' hg=>by
  obtain⟨cs,hg0,hβ,_⟩:=hl.2.2.2.2 k i es cs' hg
  obtain⟨h1,h2⟩:=h k i es cs hg0
  refine⟨h1,fun hn=>?_⟩
  obtain⟨b,hb,hv⟩:=h2 hn
  exact⟨b,hβ.trans hb,hv⟩
theorem Zae.lab{β β':Nat->Option Nat}{w:World}{i l:Nat}{o:Blk}{b:Nat}(hβ:β' i=β l)(h:Zae β' w i o b):Zae β w l o b:=by
 rcases h with h | ⟨k,q,es,b0,h1,h2,h3⟩
 .exact .inl (hβ▸h)
 .exact .inr ⟨k,q,es,b0,h1,hβ▸h2,h3⟩
theorem Zae.unren{β:Nat->Option Nat}{w:World}{l:Nat}{o:Blk}{b:Nat}{f:Nat->Nat}(h:Zae β w l (o.ren f) b):Zae β w l o b:=by
 cases o with
 | row k es=>exact h
 | mat k q es=>exact h
 | map ag es=>exact .inl (Zae.flat (o := .map ag es) trivial h)
 | prow k i es cs=>exact .inl (Zae.flat (o := .prow k i es (PV.rens f cs)) trivial h)
 | box cs=>exact .inl (Zae.flat (o := .box (PV.rens f cs)) trivial h)
theorem Z0.scal{I I':Nat->Prop}{w w':World}{t:Zf}{v:Value}(hs:t.scal=true)(h:Z0 I w t v):Z0 I' w' t v:=by
 cases t
 case sl es=>
  cases es with
  | nil=>
   simp only [Z0] at h ⊢
   obtain⟨a,cap,hv,h1,h2,_⟩:=h
   exact⟨a,cap,hv,h1,h2,.inl trivial⟩
  | cons e es=>simp [Zf.scal] at hs
 all_goals simpa [Z0] using h
theorem Zw.scal{I I':Nat->Prop}{w:World}{b:Nat}:∀ (ts:List Zf) (off:Nat),(∀ x,x∈ts->Zf.scal x=true)->Zw I w b ts off->Zw I' w b ts off
 | [],_,_,_=>trivial
 | t::ts,off,hs,h=>by
  simp only [Zw] at h ⊢
  obtain⟨⟨c,hc,ht⟩,hr⟩:=h
  exact⟨⟨c,hc,ht.scal (hs t (by simp))⟩,Zw.scal ts _ (fun x hx=>hs x (List.mem_cons_of_mem _ hx)) hr⟩
theorem Zr.scal{I I':Nat->Prop}{w:World}{b:Nat}:∀ (es:List (List Zf)) (off:Nat),(∀ el,el∈es->∀ x,x∈el->Zf.scal x=true)->Zr I w b es off->Zr I' w b es off
 | [],_,_,_=>trivial
 | e::es,off,hs,h=>by
  simp only [Zr] at h ⊢
  exact⟨Zw.scal e off (hs e (by simp)) h.1,Zr.scal es _ (fun el hel=>hs el (List.mem_cons_of_mem _ hel)) h.2⟩
mutual
theorem VR.ren{c c':Ctx}{f:Nat->Nat}{sc:Bool}(hI:sc=false->∀ b,c.I b->c'.I b/\c'.w.heap[b]?=c.w.heap[b]?):∀ (p:PV) (v:Value),(sc=true->p.sc=true)->(∀ l,p.has l=true->Zad8 c c' l (f l))->VR c p v->VR c' (p.ren f) v
 | .t x,v,hs,_,h=>by
  simp only [VR,PV.ren] at h ⊢
  cases sc with
  | false=>exact Z0.mono (hI rfl) x v h
  | true=>exact h.scal (by simpa [PV.sc] using hs rfl)
 | .nils,v,_,_,h=>h
 | .osl l n,v,_,hl,h=>by
  simp only [VR,PV.ren] at h ⊢
  refine⟨fun k es hg=>?_,h.2⟩
  obtain⟨h1,h2,h3⟩:=(hl l (by simp [PV.has])).1 k es hg
  obtain⟨g1,g2⟩:=h.1 k es h1
  refine⟨g1,fun hn=>?_⟩
  obtain⟨a,cap,hv,e1,e2,e3⟩:=g2 hn
  refine⟨a,cap,hv,e1,e2,?_⟩
  rcases e3 with ⟨hc,hb⟩ | ⟨b,m,ha,hb,hr,hs⟩
  .exact .inl ⟨hc,h2.trans hb⟩
  .exact .inr ⟨b,m,ha,h2.trans hb,h3 b m hb hr,hs⟩
 | .bptr l o,v,_,hl,h=>by
  simp only [VR,PV.ren] at h ⊢
  refine⟨fun cs hg=>?_,h.2⟩
  obtain⟨cs0,h1,h2⟩:=(hl l (by simp [PV.has])).2.1 cs hg
  obtain⟨b,hb,hv⟩:=h.1 cs0 h1
  exact⟨b,h2.trans hb,hv⟩
 | .rptr l n i o,v,_,hl,h=>by
  simp only [VR,PV.ren] at h ⊢
  refine⟨fun k es hg=>?_,h.2⟩
  obtain⟨h1,h2,h3⟩:=(hl l (by simp [PV.has])).1 k es hg
  obtain⟨g1,g2⟩:=h.1 k es h1
  refine⟨g1,fun hn=>?_⟩
  obtain⟨b,hb,hv⟩:=g2 hn
  exact⟨b,h2.trans hb,hv⟩
 | .vptr cs,v,hs,_,h=>by
  cases sc with
  | false=>
   have:=VR.step (c:=c) (c':=c') (hI rfl) (.vptr cs) v (fun l hl=>by simp [PV.has] at hl) h
   simpa [PV.ren] using this
  | true=>have:=hs rfl;simp [PV.sc] at this
 | .agg cs,v,hs,hl,h=>by
  simp only [VR,PV.ren] at h ⊢
  obtain⟨vs,hv,hvs⟩:=h
  exact⟨vs,hv,VRs.ren hI cs vs (by simpa [PV.sc] using hs) (fun l h=>hl l (by simpa [PV.has] using h)) hvs⟩
 | .tup cs,v,hs,hl,h=>by
  simp only [VR,PV.ren] at h ⊢
  obtain⟨vs,hv,hvs⟩:=h
  exact⟨vs,hv,VRs.ren hI cs vs (by simpa [PV.sc] using hs) (fun l h=>hl l (by simpa [PV.has] using h)) hvs⟩
 | .fn _ cs,v,hs,hl,h=>by
  simp only [VR,PV.ren] at h ⊢
  obtain⟨vs,hv,hvs⟩:=h
  exact⟨vs,hv,VRs.ren hI cs vs (by simpa [PV.sc] using hs) (fun l h=>hl l (by simpa [PV.has] using h)) hvs⟩
 | .own l d,v,_,hl,h=>by
  simp only [VR,PV.ren] at h ⊢
  exact⟨h.1.ren (hl l (by simp [PV.has])),h.2⟩
theorem VRs.ren{c c':Ctx}{f:Nat->Nat}{sc:Bool}(hI:sc=false->∀ b,c.I b->c'.I b/\c'.w.heap[b]?=c.w.heap[b]?):∀ (ps:List PV) (vs:List Value),(sc=true->PV.scs ps=true)->(∀ l,PV.hasAny l ps=true->Zad8 c c' l (f l))->VRs c ps vs->VRs c' (PV.rens f ps) vs
 | [],vs,_,_,h=>h
 | p::ps,vs,hs,hl,h=>by
  simp only [VRs,PV.rens] at h ⊢
  obtain⟨v,rest,rfl,hv,hr⟩:=h
  have hs':sc=true->p.sc=true/\PV.scs ps=true:=fun e=>by simpa [PV.scs] using hs e
  exact⟨v,rest,rfl,VR.ren hI p v (fun e=>(hs' e).1) (fun l h=>hl l (by simp [PV.hasAny,h])) hv,VRs.ren hI ps rest (fun e=>(hs' e).2) (fun l h=>hl l (by simp [PV.hasAny,h])) hr⟩
end
def Zb6(ls:List Nat)(d l:Nat):Nat:=match ls[l]? with | some L=>L | none=>l+d
def Zcr(f:Nat->Nat):List (Nat×Blk)->List (Nat×Blk)
 | []=>[]
 | (l,b)::r=>(f l,b.ren f)::Zcr f r
def Zpq(f:Nat->Nat):List (Nat×Blk)->Nat->Option Nat
 | [],_=>none
 | (l,_)::r,m=>bif Nat.beq (f l) m then some l else Zpq f r m
theorem Zz5{f:Nat->Nat}:∀ {σ1:List (Nat×Blk)} {m:Nat} {o:Blk},get (Zcr f σ1) m=some o->∃ l o1,Zpq f σ1 m=some l/\get σ1 l=some o1/\o=o1.ren f/\f l=m
 | [],m,o,h=>by cases h
 | (l,b)::r,m,o,h=>by
  simp only [Zcr,PW.get] at h
  cases hb:Nat.beq (f l) m with
  | true=>
   simp only [hb,cond_true,Option.some.injEq] at h
   exact⟨l,b,by simp [Zpq,hb],by simp [PW.get],h.symm,(Z1 _ _).1 hb⟩
  | false=>
   simp only [hb,cond_false] at h
   obtain⟨l',o1,h1,h2,h3,h4⟩:=Zz5 h
   refine⟨l',o1,by simp [Zpq,hb,h1],?_,h3,h4⟩
   simp only [PW.get]
   rw [Zgf (fun e=>by subst e;rw [h4] at hb;simp at hb),cond_false,h2]
theorem Zs0{f:Nat->Nat}:∀ {σ1:List (Nat×Blk)} {m l:Nat},Zpq f σ1 m=some l->f l=m/\(∃ o1,get σ1 l=some o1)/\∃ o,get (Zcr f σ1) m=some o
 | [],m,l,h=>by cases h
 | (l0,b)::r,m,l,h=>by
  simp only [Zpq] at h
  cases hb:Nat.beq (f l0) m with
  | true=>
   simp only [hb,cond_true,Option.some.injEq] at h
   subst h
   exact⟨(Z1 _ _).1 hb,⟨b,by simp [PW.get]⟩,⟨b.ren f,by simp [Zcr,PW.get,hb]⟩⟩
  | false=>
   simp only [hb,cond_false] at h
   obtain⟨h1,⟨o1,h2⟩,⟨o,h3⟩⟩:=Zs0 h
   refine⟨h1,⟨o1,?_⟩,⟨o,by simp [Zcr,PW.get,hb,h3]⟩⟩
   simp only [PW.get]
   rw [Zgf (fun e=>by subst e;rw [h1] at hb;simp at hb),cond_false,h2]
theorem Zz6{f:Nat->Nat}:∀ {σ1:List (Nat×Blk)} {l:Nat} {o1:Blk},get σ1 l=some o1->∃ l',Zpq f σ1 (f l)=some l'
 | [],l,o1,h=>by cases h
 | (l0,b)::r,l,o1,h=>by
  simp only [PW.get] at h
  simp only [Zpq]
  cases hb:Nat.beq (f l0) (f l) with
  | true=>exact⟨l0,rfl⟩
  | false=>
   cases hb2:Nat.beq l0 l with
   | true=>have:=(Z1 _ _).1 hb2;subst this;simp at hb
   | false=>simp only [hb2,cond_false] at h;exact Zz6 h
theorem Zafh{f:Nat->Nat}:∀ (a b:List (Nat×Blk)),Zcr f (a++b)=Zcr f a++Zcr f b
 | [],b=>rfl
 | (l,x)::a,b=>by simp only [List.cons_append,Zcr,Zafh a b]
def βc(β:Nat->Option Nat)(ls:List Nat)(i:Nat):Option Nat:=match ls[i]? with | some L=>β L | none=>none
def β2(β β':Nat->Option Nat)(f:Nat->Nat)(σ1:List (Nat×Blk))(m:Nat):Option Nat:=match Zpq f σ1 m with | some l=>β' l | none=>β m
def Zat1(o o':Blk):Prop:=o'=o\/∃ cs cs',o = .box cs/\o' = .box cs'
theorem Zat1.own{β:Nat->Option Nat}{w:World}{l:Nat}{o o':Blk}{b:Nat}(h:Zat1 o o')(hb:Zae β w l o' b):Zae β w l o b:=by
 rcases h with rfl | ⟨cs,cs',rfl,rfl⟩
 .exact hb
 .exact .inl (Zae.flat (o := .box cs') trivial hb)
structure Zake (ls:List Nat) (d:Nat) (tm:List (Nat×PV)) (Z σa σ1:List (Nat×Blk)) (res:PV):Prop where
 nd:∀ (i j L:Nat),ls[i]?=some L->ls[j]?=some L->i=j
 len:ls.length<=1000
 sa:∀ (i:Nat) o,get σa i=some o->∃ L,ls[i]?=some L/\∃ o0,get Z L=some o0/\Zat1 o0 o
 all:∀ (i L:Nat),ls[i]?=some L->∃ o,get σa i=some o
 np:∀ (i k j:Nat) es cs,get σa i≠some (.prow k j es cs)
 box:∀ (l:Nat) o,get σ1 l=some o->∀ L,ls[l]?=some L->(∃ cs cs0,o = .box cs/\get Z L=some (.box cs0))\/∃ k es es0,o = .row k es/\get Z L=some (.row k es0)
 fr:∀ (l:Nat) o,get σ1 l=some o->ls[l]?=none->1000<=l+d/\(∀ i q,get tm i=some q->q.has (l+d)=false)/\(∀ m y,get Z m=some y->m≠l+d/\y.has (l+d)=false)
 cl:∀ l,(res.has l=true\/∃ m o,get σ1 m=some o/\o.has l=true)->∃ o,get σ1 l=some o
theorem Zake.key{ls:List Nat}{d:Nat}{tm:List (Nat×PV)}{Z σa σ1:List (Nat×Blk)}{res:PV}(h:Zake ls d tm Z σa σ1 res){l:Nat}{o:Blk}(hg:get σ1 l=some o):Zpq (Zb6 ls d) σ1 (Zb6 ls d l)=some l:=by
 obtain⟨l',hl'⟩:=Zz6 (f:=Zb6 ls d) hg
 obtain⟨h1,⟨o',h2⟩,_⟩:=Zs0 hl'
 suffices l'=l by rw [hl',this]
 unfold Zb6 at h1
 cases e1:ls[l']? with
 | some L1=>
  cases e2:ls[l]? with
  | some L2=>simp only [e1,e2] at h1;subst h1;exact h.nd _ _ _ e1 e2
  | none=>
   simp only [e1,e2] at h1
   obtain⟨o3,h3⟩:=h.all _ _ e1
   obtain⟨L,h4,_,h5,_⟩:=h.sa _ _ h3
   rw [e1] at h4;cases h4
   exact absurd h1 ((h.fr l o hg e2).2.2 _ _ h5).1
 | none=>
  cases e2:ls[l]? with
  | some L2=>
   simp only [e1,e2] at h1
   obtain⟨o3,h3⟩:=h.all _ _ e2
   obtain⟨L,h4,_,h5,_⟩:=h.sa _ _ h3
   rw [e2] at h4;cases h4
   exact absurd h1.symm ((h.fr l' o' h2 e1).2.2 _ _ h5).1
  | none=>simp only [e1,e2] at h1;omega
theorem Za6b{I I':Nat->Prop}{w:World}{b n:Nat}:∀ (es:List (List Zf)) (off:Nat),(∀ el,el∈es->el.length=1)->off+es.length<=n->Zr (fun d=>I d\/Subs w b 1 0 n d) w b es off ->
 (∀ j e,es[j]?=some e->∃ inner a len cap,e[0]?=some (.sl inner)/\(∀ x,x∈inner->∃ t,x=[t]/\t.scal=true)/\w.cell? ⟨b,off+j,none⟩=some (.slice a len cap)/\(len≠0->∃ d,a=some ⟨d,0,none⟩)) ->
 Zr (fun d=>I' d\/Subs w b 1 0 n d) w b es off
 | [],_,_,_,_,_=>trivial
 | e::es,off,h1,hn,h,hin=>by
  simp only [Zr] at h ⊢
  have he:=h1 e (by simp)
  simp only [List.length_cons] at hn
  obtain⟨inner,a,len,cap,g1,g2,g3,g4⟩:=hin 0 e rfl
  obtain⟨t,rfl⟩:=List.length_eq_one_iff.1 he
  simp only [List.getElem?_cons_zero,Option.some.injEq] at g1
  subst g1
  refine⟨?_,?_⟩
  .simp only [Zw] at h ⊢
   obtain⟨⟨c,hc,ht⟩,_⟩:=h.1
   refine⟨⟨c,hc,?_⟩,trivial⟩
   rw [Nat.add_zero] at g3
   rw [g3] at hc
   cases hc
   simp only [Z0] at ht ⊢
   obtain⟨a',cap',hv,k1,k2,k3⟩:=ht
   cases hv
   refine⟨a,cap,rfl,k1,k2,?_⟩
   rcases k3 with k3 | ⟨b',o',k3,k4,k5⟩
   .exact .inl k3
   .by_cases hz:inner.length=0
    .exact .inl (List.eq_nil_of_length_eq_zero hz)
    .obtain⟨d,hd⟩:=g4 hz
     rw [k3] at hd
     cases hd
     refine .inr ⟨b',0,k3,.inr ⟨off,by omega,inner.length,cap,hz,by rw [Nat.mul_one,Nat.add_zero,g3,k3]⟩,?_⟩
     exact Zr.scal inner 0 (fun el hel x hx=>by obtain⟨t,rfl,ht⟩:=g2 el hel;rw [List.mem_singleton.1 hx];exact ht) k5
  .refine Za6b es _ (fun el hel=>h1 el (List.mem_cons_of_mem _ hel)) (by simp only [List.length_singleton];omega) h.2 (fun j e' hj=>?_)
   obtain⟨i2,a2,l2,c2,f1,f2,f3,f4⟩:=hin (j+1) e' hj
   exact⟨i2,a2,l2,c2,f1,f2,by rw [<- f3];simp only [List.length_singleton];congr 2;omega,f4⟩
theorem callU{P:Program}{f:FuncId}{σa:List (Nat×Blk)}{qs:List PV}{σ1:List (Nat×Blk)}{res:PV}(hfn:FnG P f σa qs σ1 res)
 {G:Frm} {β:Nat->Option Nat} {n:Nat} {tm:List (Nat×PV)} {Z:List (Nat×Blk)} {a:Act} {w:World} (hr:Zan G β ⟨n,tm,Z⟩ a w) {ls:List Nat} {d:Nat}
 (hok:Zake ls d tm Z σa σ1 res) {sc:Bool} {vals:List Value} (hlen:vals.length=qs.length) (A:Nat->Prop) (hA:∀ b,A b->b < w.heap.size/\∀ (i:Nat) (L:Nat) (o:Blk),ls[i]?=some L->get Z L=some o->¬ Zae β w L o b)
 (hAT:∀ b,Imm G β w Z b->A b) (hA0:sc=false->∀ b,A b->Imm G β w Z b) (hsc:sc=true->res.sc=true/\∀ l o,get σ1 l=some o->o.SC)
 (hv:VRs (ctx (Zbr (βc β ls) σa A w) (βc β ls) w σa) qs vals)
 (hbx:∀ (i L:Nat) cs0 cs,ls[i]?=some L->get Z L=some (.box cs0)->get σa i=some (.box cs)->∀ vs,VRs (ctx G β w Z) cs0 vs->cs0.all PV.one=true->VRs (ctx (Zbr (βc β ls) σa A w) (βc β ls) w σa) cs vs/\cs.all PV.one=true) :
 Calls P f vals.toArray w fun e w'=>∃ v b2,e = .returned v/\Zan G b2 ⟨n,tm,Zcr (Zb6 ls d) σ1++Zbo ls Z⟩ a w'/\VR (ctx G b2 w' (Zcr (Zb6 ls d) σ1++Zbo ls Z)) (res.ren (Zb6 ls d)) v:=by
 have hβc:∀ (i L:Nat),ls[i]?=some L->βc β ls i=β L:=fun i L h=>by simp [βc,h]
 have hownc:∀ b,Zbci (βc β ls) w σa b->∃ (i L:Nat) (o:Blk),ls[i]?=some L/\get Z L=some o/\Zae β w L o b:=by
  rintro b ⟨i,o,ho,hb⟩
  obtain⟨L,h1,o0,h2,h3⟩:=hok.sa i o ho
  exact⟨i,L,o0,h1,h2,h3.own (hb.lab (hβc i L h1))⟩
 refine (hfn.2 A (βc β ls) w vals hlen ?_).mono ?_
 .refine { defers:=rfl,sz:=by simp [hlen],base:=Nat.le_refl _,os:=rfl,tape:=rfl,output:=rfl,old:=fun _ _ _=>rfl,A:=fun b hb=>⟨(hA b hb).1,fun h=>?_⟩,gl:=fun g k hg=>⟨(hr.glw g k hg).1,fun h=>?_,hAT g (hr.glI hg),(hr.glw g k hg).2⟩,inj:=fun i i' o o' b h h' hb hb'=>?_,sep:=fun i o b h hb=>⟨?_,.inr ⟨i,o,h,hb⟩⟩,fix:=fun _ _ _ _=>rfl,row0:=fun l k es' _ h=>⟨es',h,Nat.le_refl _,fun _=>⟨rfl,fun _ _ _ h=>h⟩⟩,blk:=fun i o h=>?_,tm:=fun i p hp=>?_ }
  .obtain⟨i,L,o,h1,h2,h3⟩:=hownc b h
   exact (hA b hb).2 i L o h1 h2 h3
  .obtain⟨i,L,cs,h1,h2,h3⟩:=hownc g h
   obtain⟨g1,g2,_⟩:=hr.gl g k hg
   rcases (hr.sep L _ g h2 h3).2 with h4 | h4
   .omega
   .exact g2 h4
  .obtain⟨L,h1,o0,h2,h3⟩:=hok.sa i o h
   obtain⟨L',h1',o0',h2',h3'⟩:=hok.sa i' o' h'
   have:=hr.inj L L' _ _ b h2 h2' (h3.own (hb.lab (hβc i L h1))) (h3'.own (hb'.lab (hβc i' L' h1')))
   subst this
   exact hok.nd _ _ _ h1 h1'
  .obtain⟨L,h1,o0,h2,h3⟩:=hok.sa i o h
   exact (hr.sep L _ b h2 (h3.own (hb.lab (hβc i L h1)))).1
  .obtain⟨L,h1,o0,h2,h3⟩:=hok.sa i o h
   have hII:∀ b,Imm G β w Z b->Imm (Zbr (βc β ls) σa A w) (βc β ls) w σa b:=fun b hb=>⟨(hA b (hAT b hb)).1,.inr (.inl (hAT b hb)),fun j o ho hb'=>by
    obtain⟨L',h1',o0',h2',h3'⟩:=hok.sa j o ho
    exact (hA b (hAT b hb)).2 j L' o0' h1' h2' (h3'.own (hb'.lab (hβc j L' h1')))⟩
   cases o with
   | box cs=>
    obtain⟨cs0,rfl⟩:∃ cs0,o0 = .box cs0:=by
     rcases h3 with h3 | ⟨cs0,_,h3,_⟩
     .exact⟨cs,h3.symm⟩
     .exact⟨cs0,h3⟩
    obtain⟨b,vs,e1,e2,e3,e4,e5⟩:=hr.blk L _ h2
    obtain⟨g1,g2⟩:=hbx i L cs0 cs h1 h2 h vs e4 e5
    exact⟨b,vs,by rw [show (ctx (Zbr (βc β ls) σa A w) (βc β ls) w σa).β i=β L from hβc i L h1];exact e1,by rw [<- g1.length,e4.length];exact e2,e3,g1,g2⟩
   | row k es=>
    obtain rfl:o0 = .row k es:=by
     rcases h3 with h3 | ⟨_,_,_,h3⟩
     .exact h3.symm
     .cases h3
    obtain⟨e0,e1,e2⟩:=hr.blk L _ h2
    refine⟨e0,e1,?_⟩
    rcases e2 with ⟨e2,e3⟩ | ⟨b,m,e2,e3,e4,e5⟩
    .exact .inl ⟨(show (ctx (Zbr (βc β ls) σa A w) (βc β ls) w σa).β i=β L from hβc i L h1).trans e2,e3⟩
    .exact .inr ⟨b,m,(show (ctx (Zbr (βc β ls) σa A w) (βc β ls) w σa).β i=β L from hβc i L h1).trans e2,e3,e4,Zr.mono (w:=w) (w':=w) (fun b hb=>⟨hII b hb,rfl⟩) rfl es 0 e5⟩
   | prow k j es cs=>exact absurd h (hok.np i k j es cs)
   | map ag es=>
    obtain rfl:o0 = .map ag es:=by
     rcases h3 with h3 | ⟨_,_,_,h3⟩
     .exact h3.symm
     .cases h3
    obtain⟨b,ents,clock,e1,e2,e3⟩:=hr.blk L _ h2
    exact⟨b,ents,clock,(show (ctx (Zbr (βc β ls) σa A w) (βc β ls) w σa).β i=β L from hβc i L h1).trans e1,e2,Zhb.step (c:=ctx G β w Z) (c':=ctx (Zbr (βc β ls) σa A w) (βc β ls) w σa) (fun b hb=>⟨hII b hb,rfl⟩) e3⟩
   | mat k q es=>
    obtain rfl:o0 = .mat k q es:=by
     rcases h3 with h3 | ⟨_,_,_,h3⟩
     .exact h3.symm
     .cases h3
    obtain⟨e0,e1,e2⟩:=hr.blk L _ h2
    refine⟨e0,e1,?_⟩
    rcases e2 with ⟨e2,e3⟩ | ⟨b,m,e2,e3,e4,e5,e6⟩
    .exact .inl ⟨(show (ctx (Zbr (βc β ls) σa A w) (βc β ls) w σa).β i=β L from hβc i L h1).trans e2,e3⟩
    .exact .inr ⟨b,m,(show (ctx (Zbr (βc β ls) σa A w) (βc β ls) w σa).β i=β L from hβc i L h1).trans e2,e3,e4,Zr.mono (w:=w) (w':=w) (fun b hb=>⟨hb.imp (hII b) id,rfl⟩) rfl es 0 e5,e6⟩
  .rw [Zzy] at hp
   simp only [Nat.zero_le,if_true,Nat.sub_zero] at hp
   obtain⟨v,hv1,hv2⟩:=hv.get i p hp
   refine⟨(List.getElem?_eq_some_iff.1 hp).1,?_⟩
   simp only [Array.getD_eq_getD_getElem?,List.getElem?_toArray,hv1,Option.getD_some]
   exact hv2
 .rintro e w' ⟨v,β',he,hc⟩
  have hsz:w.heap.size<=w'.heap.size:=hc.base
  have hold:∀ b,b < w.heap.size->(∀ (i L:Nat) (o:Blk),ls[i]?=some L->get Z L=some o->¬ Zae β w L o b)->w'.heap[b]?=w.heap[b]?:=fun b hb h=>hc.old b hb (fun h'=>by obtain⟨i,L,o,h1,h2,h3⟩:=hownc b h';exact h i L o h1 h2 h3)
  have hOm:∀ m o,m∉ls->get Z m=some o->∀ b,Zae β w m o b->w'.heap[b]?=w.heap[b]?:=fun m o hm hg b ho=>hold b (hr.sep m o b hg ho).1 (fun i L o' hL hg' ho'=>by
   have:=hr.inj m L _ _ b hg hg' ho ho'
   subst this
   exact hm (List.mem_of_getElem? hL))
  let ren:=Zb6 ls d
  let b2:=β2 β β' ren σ1
  let σ2:=Zcr ren σ1++Zbo ls Z
  have hb2k:∀ l o,get σ1 l=some o->b2 (ren l)=β' l:=fun l o h=>by show (match Zpq ren σ1 (ren l) with | some l=>β' l | none=>β (ren l))=β' l;rw [show Zpq ren σ1 (ren l)=some l from hok.key h]
  have hcase:∀ m o,get σ2 m=some o->(∃ l o1,get σ1 l=some o1/\o=o1.ren ren/\ren l=m/\b2 m=β' l)\/(m∉ls/\get Z m=some o/\b2 m=β m):=by
   intro m o h
   simp only [σ2] at h
   rw [Zj5] at h
   cases hg:get (Zcr ren σ1) m with
   | some o'=>
    rw [hg] at h
    cases h
    obtain⟨l,o1,h1,h2,h3,h4⟩:=Zz5 hg
    exact .inl ⟨l,o1,h2,h3,h4,by rw [<- h4];exact hb2k l o1 h2⟩
   | none=>
    rw [hg] at h
    obtain⟨h1,h2⟩:=Zz2 h
    refine .inr ⟨h1,h2,?_⟩
    simp only [b2,β2]
    cases hk:Zpq ren σ1 m with
    | none=>rfl
    | some l=>obtain⟨_,_,o,h3⟩:=Zs0 hk;rw [hg] at h3;cases h3
  have hOu:∀ m o,m∉ls->get Z m=some o->b2 m=β m->∀ b,Zae b2 w' m o b->Zae β w m o b:=fun m o hm hg hβ b ho=>ho.of hβ (fun b0 hb0=>hOm m o hm hg b0 (.inl hb0))
  have hOr:∀ m l o1 b,b2 m=β' l->Zae b2 w' m (o1.ren ren) b->Zae β' w' l o1 b:=fun m l o1 b hβ ho=>ho.unren.lab hβ
  have hnew:∀ l o b,get σ1 l=some o->Zae β' w' l o b->b < w'.heap.size/\(w.heap.size<=b\/∃ (i L:Nat) (o:Blk),ls[i]?=some L/\get Z L=some o/\Zae β w L o b):=by
   intro l o b h hb
   obtain⟨h1,h2⟩:=hc.sep l o b h hb
   exact⟨h1,h2.imp id (hownc b)⟩
  have hnotσ:∀ l o b m y,get σ1 l=some o->Zae β' w' l o b->m∉ls->get Z m=some y->¬ Zae β w m y b:=by
   intro l o b m y h hb hm hy hbm
   have hlt:=(hr.sep m y b hy hbm).1
   rcases (hnew l o b h hb).2 with h1 | ⟨i,L,cs,h1,h2,h3⟩
   .omega
   .have:=hr.inj m L _ _ b hy h2 hbm h3
    subst this
    exact hm (List.mem_of_getElem? h1)
  have hpass:∀ (i L:Nat),ls[i]?=some L->∃ o,get Z L=some o:=fun i L h=>by
   obtain⟨o,ho⟩:=hok.all i L h
   obtain⟨L',h1,o0,h2,_⟩:=hok.sa i o ho
   rw [h] at h1;cases h1
   exact⟨o0,h2⟩
  have hlt1:∀ (i L:Nat),ls[i]?=some L->i < 1000:=fun i L h=>Nat.lt_of_lt_of_le (List.getElem?_eq_some_iff.1 h).1 hok.len
  have hkeep:∀ l cs L,get σ1 l=some (.box cs)->ls[l]?=some L->β' l=β L:=fun l cs L h hL=>by
   have:=hc.fix l cs (hlt1 l L hL) h
   rw [this];exact hβc l L hL
  have hImm:∀ b,Imm G β w Z b->Imm G b2 w' σ2 b/\w'.heap[b]?=w.heap[b]?:=by
   rintro b ⟨h1,h2,h3⟩
   refine⟨⟨Nat.lt_of_lt_of_le h1 hsz,h2,fun m o hm hb=>?_⟩,hold b h1 (fun i L o hL hg hb=>h3 L _ hg hb)⟩
   rcases hcase m o hm with ⟨l,o1,e1,rfl,_,e4⟩ | ⟨e1,e2,e3⟩
   .rcases (hnew l o1 b e1 (hOr m l o1 b e4 hb)).2 with h | ⟨i,L,cs,f1,f2,f3⟩
    .omega
    .exact h3 L _ f2 f3
   .exact h3 m o e2 (hOu m o e1 e2 e3 b hb)
  have hLS:∀ l,(∀ m o,get σ1 m=some o->ls[m]?=none->m+d≠l)->Zal (ctx G β w Z) (ctx G b2 w' σ2) l:=by
   intro l hl
   refine⟨fun k es' hg=>?_,fun cs' hg=>?_,fun k q es' hg=>?_,fun k es' hg=>?_,fun k i es' cs' hg=>?_⟩
   .rcases hcase l _ hg with ⟨m,o1,e1,e2,e3,e4⟩ | ⟨e1,e2,e3⟩
    .cases hm:ls[m]? with
     | some L=>
      rcases hok.box m o1 e1 L hm with ⟨cs,_,rfl,_⟩ | ⟨k1,es1,es0,rfl,hg0⟩
      .simp [Blk.ren] at e2
      .simp only [Blk.ren,Blk.row.injEq] at e2
       obtain⟨rfl,rfl⟩:=e2
       have hLl:L=l:=by simpa [ren,Zb6,hm] using e3
       subst hLl
       obtain⟨es2,f1,f2,f3⟩:=hc.row0 m k es' (hlt1 m L hm) e1
       have f1:get σa m=some (.row k es2):=f1
       obtain⟨L',h1,o0,h2,h3⟩:=hok.sa m _ f1
       rw [hm] at h1;cases h1
       obtain rfl:o0 = .row k es2:=by
        rcases h3 with h3 | ⟨_,_,_,h3⟩
        .exact h3.symm
        .cases h3
       refine⟨es2,h2,f2,fun he=>?_⟩
       obtain⟨f4,f5⟩:=f3 he
       exact⟨e4.trans (f4.trans (hβc m L hm)),fun b q hb hrow=>f5 b q ((hβc m L hm).trans hb) hrow⟩
     | none=>exact (hl m o1 e1 hm (by simpa [ren,Zb6,hm] using e3)).elim
    .exact⟨es',e2,Nat.le_refl _,fun _=>⟨e3,fun b m hb hrow=>hrow.of_heap (hOm l _ e1 e2 b (.inl hb))⟩⟩
   .rcases hcase l _ hg with ⟨m,o1,e1,e2,e3,e4⟩ | ⟨e1,e2,e3⟩
    .cases hm:ls[m]? with
     | some L=>
      obtain⟨cs,cs0,rfl,hg0⟩:∃ cs cs0,o1 = .box cs/\get Z L=some (.box cs0):=by
       rcases hok.box m o1 e1 L hm with h | ⟨_,_,_,rfl,_⟩
       .exact h
       .simp [Blk.ren] at e2
      have hLl:L=l:=by simpa [ren,Zb6,hm] using e3
      subst hLl
      exact⟨cs0,hg0,by rw [show (ctx G b2 w' σ2).β L=β' m from e4];exact hkeep m cs L e1 hm⟩
     | none=>exact (hl m o1 e1 hm (by simpa [ren,Zb6,hm] using e3)).elim
    .exact⟨cs',e2,e3⟩
   .rcases hcase l _ hg with ⟨m,o1,e1,e2,e3,e4⟩ | ⟨e1,e2,e3⟩
    .exfalso
     cases hm:ls[m]? with
     | some L=>rcases hok.box m o1 e1 L hm with ⟨cs,_,rfl,_⟩ | ⟨_,_,_,rfl,_⟩<;>simp [Blk.ren] at e2
     | none=>exact hl m o1 e1 hm (by simpa [ren,Zb6,hm] using e3)
    .exact⟨es',e2,Nat.le_refl _,fun _=>⟨e3,fun b hb=>⟨fun m hrow=>hrow.of_heap (hOm l _ e1 e2 b (.inl hb)),fun _ _=>World.cell?_of_block (w:=w) (hOm l _ e1 e2 b (.inl hb))⟩⟩⟩
   .rcases hcase l _ hg with ⟨m,o1,e1,e2,e3,e4⟩ | ⟨e1,e2,e3⟩
    .exfalso
     cases hm:ls[m]? with
     | some L=>rcases hok.box m o1 e1 L hm with ⟨cs,_,rfl,_⟩ | ⟨_,_,_,rfl,_⟩<;>simp [Blk.ren] at e2
     | none=>exact hl m o1 e1 hm (by simpa [ren,Zb6,hm] using e3)
    .exact⟨es',e2,e3⟩
   .rcases hcase l _ hg with ⟨m,o1,e1,e2,e3,e4⟩ | ⟨e1,e2,e3⟩
    .exfalso
     cases hm:ls[m]? with
     | some L=>rcases hok.box m o1 e1 L hm with ⟨cs,_,rfl,_⟩ | ⟨_,_,_,rfl,_⟩<;>simp [Blk.ren] at e2
     | none=>exact hl m o1 e1 hm (by simpa [ren,Zb6,hm] using e3)
    .exact⟨es',cs',e2,rfl,e3,fun b q hb hrow=>hrow.of_heap (hOm l _ e1 e2 b (.inl hb))⟩
  have hRS:∀ l,(∃ o,get σ1 l=some o)->Zad8 (ctx (Zbr (βc β ls) σa A w) β' w' σ1) (ctx G b2 w' σ2) l (ren l):=by
   rintro l ⟨o,ho⟩
   have hg2:get σ2 (ren l)=some (o.ren ren):=by
    simp only [σ2]
    rw [Zj5]
    obtain⟨_,_,o',h'⟩:=Zs0 (hok.key ho)
    obtain⟨l2,o2,g1,g2,g3,g4⟩:=Zz5 h'
    have:=hok.key ho
    rw [g1] at this
    cases this
    rw [ho] at g2;cases g2
    rw [show get (Zcr ren σ1) (ren l)=some o' from h',g3]
   refine⟨fun k es hg=>?_,fun cs' hg=>?_,fun k q es hg=>?_,fun k es hg=>?_,fun k i es cs' hg=>?_⟩
   .have:some (o.ren ren)=some (.row k es):=hg2.symm.trans hg
    cases o with
    | box cs=>simp [Blk.ren] at this
    | mat k0 q0 es0=>simp [Blk.ren] at this
    | map k0 es0=>simp [Blk.ren] at this
    | prow k0 i0 es0 cs0=>simp [Blk.ren] at this
    | row k0 es0=>simp only [Blk.ren,Option.some.injEq,Blk.row.injEq] at this;obtain⟨rfl,rfl⟩:=this;exact⟨ho,hb2k l _ ho,fun _ _ _ h=>h⟩
   .have:some (o.ren ren)=some (.box cs'):=hg2.symm.trans hg
    cases o with
    | box cs=>exact⟨cs,ho,hb2k l _ ho⟩
    | row k0 es0=>simp [Blk.ren] at this
    | mat k0 q0 es0=>simp [Blk.ren] at this
    | map k0 es0=>simp [Blk.ren] at this
    | prow k0 i0 es0 cs0=>simp [Blk.ren] at this
   .have:some (o.ren ren)=some (.mat k q es):=hg2.symm.trans hg
    cases o with
    | box cs=>simp [Blk.ren] at this
    | row k0 es0=>simp [Blk.ren] at this
    | mat k0 q0 es0=>simp only [Blk.ren,Option.some.injEq,Blk.mat.injEq] at this;obtain⟨rfl,rfl,rfl⟩:=this;exact⟨ho,hb2k l _ ho,fun _ _=>⟨fun _ h=>h,fun _=>rfl⟩⟩
    | map k0 es0=>simp [Blk.ren] at this
    | prow k0 i0 es0 cs0=>simp [Blk.ren] at this
   .have:some (o.ren ren)=some (.map k es):=hg2.symm.trans hg
    cases o with
    | box cs=>simp [Blk.ren] at this
    | row k0 es0=>simp [Blk.ren] at this
    | mat k0 q0 es0=>simp [Blk.ren] at this
    | map k0 es0=>simp only [Blk.ren,Option.some.injEq,Blk.map.injEq] at this;obtain⟨rfl,rfl⟩:=this;exact⟨ho,hb2k l _ ho⟩
    | prow k0 i0 es0 cs0=>simp [Blk.ren] at this
   .have:some (o.ren ren)=some (.prow k i es cs'):=hg2.symm.trans hg
    cases o with
    | box cs=>simp [Blk.ren] at this
    | row k0 es0=>simp [Blk.ren] at this
    | mat k0 q0 es0=>simp [Blk.ren] at this
    | map k0 es0=>simp [Blk.ren] at this
    | prow k0 i0 es0 cs0=>simp only [Blk.ren,Option.some.injEq,Blk.prow.injEq] at this;obtain⟨rfl,rfl,rfl,rfl⟩:=this;exact⟨cs0,ho,hb2k l _ ho,fun _ _ _ h=>h⟩
  have hIr:sc=false->∀ b,Imm (Zbr (βc β ls) σa A w) β' w' σ1 b->Imm G b2 w' σ2 b/\w'.heap[b]?=w'.heap[b]?:=by
   rintro hs b ⟨h1,h2,h3⟩
   have hA':=hA0 hs
   refine⟨⟨h1,?_,fun m o hm hb=>?_⟩,rfl⟩
   .rcases h2 with h2 | h2 | h2
    .exact .inl (Nat.le_trans hr.base h2)
    .exact (hA' b h2).2.1
    .obtain⟨i,L,cs,f1,f2,f3⟩:=hownc b h2
     exact (hr.sep L _ b f2 f3).2.imp id .inr
   .rcases hcase m o hm with ⟨l,o1,e1,rfl,_,e4⟩ | ⟨e1,e2,e3⟩
    .exact h3 l o1 e1 (hOr m l o1 b e4 hb)
    .have hb:=hOu m o e1 e2 e3 b hb
     rcases h2 with h2 | h2 | h2
     .have:=(hr.sep m o b e2 hb).1
      exact absurd h2 (Nat.not_le_of_lt this)
     .exact (hA' b h2).2.2 m o e2 hb
     .obtain⟨i,L,cs,f1,f2,f3⟩:=hownc b h2
      have:=hr.inj m L _ _ b e2 f2 hb f3
      subst this
      exact e1 (List.mem_of_getElem? f1)
  refine⟨v,b2,he,?_,?_⟩
  .refine { defers:=hr.defers,sz:=hr.sz,base:=Nat.le_trans hr.base hsz,os:=hc.os.trans hr.os,tape:=hc.tape.trans hr.tape,output:=hc.output.trans hr.output,old:=fun b hb hno=>?_,A:=hr.A,gl:=hr.gl,inj:=fun m m' o o' b hm hm' hb hb'=>?_,sep:=fun m o b hm hb=>?_,fix:=fun m cs hm hg=>?_,row0:=hr.row0.step (fun l hl=>hLS l (fun m o h hn=>by have:=(hok.fr m o h hn).1;omega)),blk:=fun m o hm=>?_,tm:=fun i p hp=>⟨(hr.tm i p hp).1,?_⟩ }
   .refine (hold b (Nat.lt_of_lt_of_le hb hr.base) (fun i L o hL hg hb'=>?_)).trans (hr.old b hb hno)
    rcases (hr.sep L _ b hg hb').2 with h | h
    .omega
    .exact hno h
   .rcases hcase m o hm with ⟨l,o1,e1,rfl,e3,e4⟩ | ⟨e1,e2,e3⟩<;>rcases hcase m' o' hm' with ⟨l',o1',e1',rfl,e3',e4'⟩ | ⟨e1',e2',e3'⟩
    .have:=hc.inj l l' o1 o1' b e1 e1' (hOr m l o1 b e4 hb) (hOr m' l' o1' b e4' hb')
     rw [<- e3,<- e3',this]
    .exact absurd (hOu m' o' e1' e2' e3' b hb') (hnotσ l o1 b m' o' e1 (hOr m l o1 b e4 hb) e1' e2')
    .exact absurd (hOu m o e1 e2 e3 b hb) (hnotσ l' o1' b m o e1' (hOr m' l' o1' b e4' hb') e1 e2)
    .exact hr.inj m m' o o' b e2 e2' (hOu m o e1 e2 e3 b hb) (hOu m' o' e1' e2' e3' b hb')
   .rcases hcase m o hm with ⟨l,o1,e1,rfl,e3,e4⟩ | ⟨e1,e2,e3⟩
    .obtain⟨h1,h2⟩:=hnew l o1 b e1 (hOr m l o1 b e4 hb)
     refine⟨h1,?_⟩
     rcases h2 with h2 | ⟨i,L,cs,f1,f2,f3⟩
     .exact .inl (Nat.le_trans hr.base h2)
     .exact (hr.sep L _ b f2 f3).2
    .obtain⟨h1,h2⟩:=hr.sep m o b e2 (hOu m o e1 e2 e3 b hb)
     exact⟨Nat.lt_of_lt_of_le h1 hsz,h2⟩
   .rcases hcase m _ hg with ⟨l,o1,e1,e2,e3,e4⟩ | ⟨e1,e2,e3⟩
    .cases hl:ls[l]? with
     | some L=>
      obtain⟨cs1,cs0,rfl,hg0⟩:∃ cs cs0,o1 = .box cs/\get Z L=some (.box cs0):=by
       rcases hok.box l o1 e1 L hl with h | ⟨_,_,_,rfl,_⟩
       .exact h
       .simp [Blk.ren] at e2
      have hLm:L=m:=by simpa [ren,Zb6,hl] using e3
      subst hLm
      rw [e4,hkeep l cs1 L e1 hl]
      exact hr.fix L cs0 hm hg0
     | none=>
      have:=(hok.fr l o1 e1 hl).1
      have h5:l+d=m:=by simpa [ren,Zb6,hl] using e3
      omega
    .rw [e3];exact hr.fix m cs hm e2
   .rcases hcase m o hm with ⟨l,o1,e1,rfl,e3,e4⟩ | ⟨e1,e2,e3⟩
    .have hb:=hc.blk l o1 e1
     cases o1 with
     | box cs=>
      obtain⟨b,vs,f1,f2,f3,f4,f5⟩:=hb
      exact⟨b,vs,e4.trans f1,by rw [PV.rens_length];exact f2,f3,VRs.ren (sc:=sc) hIr cs vs (fun e=>(hsc e).2 l _ e1) (fun l' hl'=>hRS l' (hok.cl l' (.inr ⟨l,_,e1,hl'⟩))) f4,by rw [PV.rens_one];exact f5⟩
     | row k es=>
      obtain⟨f0,f1,f2⟩:=hb
      refine⟨f0,f1,?_⟩
      rcases f2 with ⟨f2,f3⟩ | ⟨b,s,f2,f3,f4,f5⟩
      .exact .inl ⟨e4.trans f2,f3⟩
      .refine .inr ⟨b,s,e4.trans f2,f3,f4,?_⟩
       have hcell:=f5
       cases sc with
       | false=>exact Zr.mono (w:=w') (w':=w') (hIr rfl) rfl es 0 f5
       | true=>exact Zr.scal es 0 ((hsc rfl).2 l _ e1) f5
     | map ag es=>
      obtain⟨b,ents,clock,f1,f2,f3⟩:=hb
      cases hs:sc with
      | false=>exact⟨b,ents,clock,e4.trans f1,f2,f3.step (hIr hs)⟩
      | true=>exact ((hsc hs).2 l _ e1).elim
     | prow k i es cs=>
      obtain⟨g0,g1,g2,g3,g4,b,s,vs,f1,f2,f3,f4,f5⟩:=hb
      cases hs:sc with
      | false=>
       refine⟨g0,g1,g2,by rw [PV.rens_length];exact g3,by rw [PV.rens_one];exact g4,b,s,vs,e4.trans f1,f2,f3,f4,?_⟩
       rw [<- Zakd]
       exact VRs.ren (sc:=false) (fun _=>hIr hs) _ vs (fun e=>by cases e) (fun l' hl'=>hRS l' (hok.cl l' (.inr ⟨l,_,e1,by rw [Z7i] at hl';exact hl'⟩))) f5
      | true=>exact ((hsc hs).2 l _ e1).elim
     | mat k q es=>
      obtain⟨f0,f1,f2⟩:=hb
      refine⟨f0,f1,?_⟩
      rcases f2 with ⟨f2,f3⟩ | ⟨b,s,f2,f3,f4,f5,f6⟩
      .exact .inl ⟨e4.trans f2,f3⟩
      .refine .inr ⟨b,s,e4.trans f2,f3,f4,?_,f6⟩
       cases hs:sc with
       | false=>exact Zr.mono (w:=w') (w':=w') (fun d hd=>⟨hd.imp (fun h=>(hIr hs d h).1) id,rfl⟩) rfl es 0 f5
       | true=>
        obtain⟨k1,k2⟩:=(hsc hs).2 l _ e1
        subst k1;subst k2
        refine Za6b es 0 f1 O f5 (fun j e he=>?_)
        obtain⟨inner,a,len,cap,g1,g2,g3,g4⟩:=f6.2 j e he
        exact⟨inner,a,len,cap,g1,g2,by rw [Nat.zero_add];rw [Nat.mul_one,Nat.add_zero] at g3;exact g3,fun hl=>by obtain⟨d,m',h1,_⟩:=g4 hl;exact⟨d,h1⟩⟩
    .refine BR.step (c:=ctx G β w Z) (c':=ctx G b2 w' σ2) hImm e3 (fun b hb=>?_) (fun l hl=>?_) (hr.blk m o e2)
     .exact hOm m o e1 e2 b hb
     .refine hLS l (fun m' o' hm' hn e=>?_)
      have:=((hok.fr m' o' hm' hn).2.2 m o e2).2
      rw [e,hl] at this;cases this
   .refine VR.step (c:=ctx G β w Z) (c':=ctx G b2 w' σ2) hImm p _ (fun l hl=>?_) (hr.tm i p hp).2
    refine hLS l (fun m' o' hm' hn e=>?_)
    have:=(hok.fr m' o' hm' hn).2.1 i p hp
    rw [e,hl] at this;cases this
  .have hv0:=(hc.tm 0 res (by simp [PW.get])).2
   exact VR.ren (sc:=sc) hIr res v (fun e=>(hsc e).1) (fun l hl=>hRS l (hok.cl l (.inl hl))) (by simpa using hv0)
end Go.PW
