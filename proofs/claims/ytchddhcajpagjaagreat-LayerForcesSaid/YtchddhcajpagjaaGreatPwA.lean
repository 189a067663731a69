import Derived.Orders
import Derived.Tactics
import Derived.Deep.MidRow
import Derived.Deep.AppendSrc
import Derived.Great.BuildSlice
import Derived.Below
set_option linter.all false
namespace Go.PW
open Go.RowKit
inductive Zd where
 | bool (b:Bool)
 | int (k:IntKind) (n:Int)
 | str (s:List UInt8)
 | con (v:Value)
 | sl (es:List (List Zd))
 deriving Inhabited
def Zd.scal:Zd->Bool
 | .sl es=>es.isEmpty
 | _=>true
mutual
def Zy(I:Nat->Prop)(w:World):Zd->Value->Prop
 | .bool b,v=>v = .bool b
 | .int k n,v=>v = .int k n
 | .str s,v=>v = .string ⟨s.toArray⟩
 | .con c,v=>v=c/\c.oneCell'=true
 | .sl es,v=>∃ a cap,v = .slice a es.length cap/\es.length<=cap/\cap<=maxLen /\
  (es=[]\/∃ b off,a=some ⟨b,off,none⟩/\I b/\Zq I w b es off)
def Zq(I:Nat->Prop)(w:World)(b:Nat):List (List Zd)->Nat->Prop
 | [],_=>True
 | e::es,off=>Zw I w b e off/\Zq I w b es (off+e.length)
def Zw(I:Nat->Prop)(w:World)(b:Nat):List Zd->Nat->Prop
 | [],_=>True
 | t::ts,off=>(∃ c,w.cell? ⟨b,off,none⟩=some c/\Zy I w t c)/\Zw I w b ts (off+1)
end
theorem Zy.oneCell{I:Nat->Prop}{w:World}{t:Zd}{v:Value}(h:Zy I w t v):v.oneCell'=true:=by
 cases t<;>simp only [Zy] at h
 case con c=>obtain⟨rfl,h⟩:=h;exact h
 case sl es=>obtain⟨a,cap,rfl,_⟩:=h;rfl
 all_goals (subst h;rfl)
mutual
theorem Zy.mono{I I':Nat->Prop}{w w':World}(hI:∀ b,I b->I' b/\w'.heap[b]?=w.heap[b]?):∀ (t:Zd) (v:Value),Zy I w t v->Zy I' w' t v
 | .bool _,_,h=>h
 | .int _ _,_,h=>h
 | .str _,_,h=>h
 | .con _,_,h=>h
 | .sl es,v,h=>by
  simp only [Zy] at h ⊢
  obtain⟨a,cap,hv,h1,h2,h3⟩:=h
  refine⟨a,cap,hv,h1,h2,?_⟩
  rcases h3 with h3 | ⟨b,off,ha,hb,he⟩
  .exact .inl h3
  .exact .inr ⟨b,off,ha,(hI b hb).1,Zq.mono hI (hI b hb).2 es off he⟩
theorem Zq.mono{I I':Nat->Prop}{w w':World}(hI:∀ b,I b->I' b/\w'.heap[b]?=w.heap[b]?){b:Nat}(hb:w'.heap[b]?=w.heap[b]?) :
 ∀ (es:List (List Zd)) (off:Nat),Zq I w b es off->Zq I' w' b es off
 | [],_,_=>trivial
 | e::es,off,h=>by
  simp only [Zq] at h ⊢
  exact⟨Zw.mono hI hb e off h.1,Zq.mono hI hb es _ h.2⟩
theorem Zw.mono{I I':Nat->Prop}{w w':World}(hI:∀ b,I b->I' b/\w'.heap[b]?=w.heap[b]?){b:Nat}(hb:w'.heap[b]?=w.heap[b]?) :
 ∀ (ts:List Zd) (off:Nat),Zw I w b ts off->Zw I' w' b ts off
 | [],_,_=>trivial
 | t::ts,off,h=>by
  simp only [Zw] at h ⊢
  obtain⟨⟨c,hc,ht⟩,hr⟩:=h
  exact⟨⟨c,(World.cell?_of_block (w:=w) hb).trans hc,Zy.mono hI t c ht⟩,Zw.mono hI hb ts _ hr⟩
end
inductive OD where
 | tail (n i:Nat)
 | msl (n:Nat)
 | mpt (n j off:Nat)
 | mrow (n j:Nat)
 | mel (n j i:Nat)
 | map
 deriving Inhabited
inductive PV where
 | t (x:Zd)
 | nils
 | osl (l n:Nat)
 | bptr (l off:Nat)
 | rptr (l n i off:Nat)
 | vptr (cs:List Zd)
 | agg (cs:List PV)
 | tup (cs:List PV)
 | fn (f:FuncId) (caps:List PV)
 | own (l:Nat) (d:OD)
 deriving Inhabited
inductive Blk where
 | box (cs:List PV)
 | row (k:Nat) (es:List (List Zd))
 | mat (k q:Nat) (es:List (List Zd))
 | map (ag:Bool) (es:List (Int×List Zd))
 deriving Inhabited
def get{α:Type}:List (Nat×α)->Nat->Option α
 | [],_=>none
 | (j,x)::l,i=>bif Nat.beq j i then some x else get l i
def del{α:Type}:List (Nat×α)->Nat->List (Nat×α)
 | [],_=>[]
 | (j,x)::l,i=>bif Nat.beq j i then del l i else (j,x)::del l i
def put{α:Type}(l:List (Nat×α))(i:Nat)(x:α):List (Nat×α):=(i,x)::del l i
def Zwf:List Nat->Nat->Bool
 | [],_=>false
 | j::l,i=>bif Nat.beq j i then true else Zwf l i
theorem Zz(a b:Nat):Nat.beq a b=true↔a=b:=by rw [Nat.beq_eq]
theorem Zfo{a b:Nat}(h:a≠b):Nat.beq a b=false:=by
 cases hb:Nat.beq a b with
 | false=>rfl
 | true=>exact absurd ((Zz a b).1 hb) h
theorem Zant{α:Type}(l:List (Nat×α))(i:Nat):get (del l i) i=none:=by
 induction l with
 | nil=>rfl
 | cons p l ih=>
  obtain⟨j,x⟩:=p
  simp only [del]
  cases hb:Nat.beq j i with
  | true=>simpa using ih
  | false=>simp only [cond_false,get,hb];exact ih
theorem Ztz{α:Type}(l:List (Nat×α)){i j:Nat}(h:i≠j):get (del l i) j=get l j:=by
 induction l with
 | nil=>rfl
 | cons p l ih=>
  obtain⟨m,x⟩:=p
  simp only [del]
  cases hb:Nat.beq m i with
  | true=>
   have:m=i:=(Zz _ _).1 hb
   subst this
   simp only [cond_true,get,Zfo h,cond_false]
   exact ih
  | false=>simp only [cond_false,get];rw [ih]
theorem Zbl{α:Type}(l:List (Nat×α))(i:Nat)(x:α):get (put l i x) i=some x:=by
 simp [put,get]
theorem Zbj{α:Type}(l:List (Nat×α)){i j:Nat}(x:α)(h:i≠j):get (put l i x) j=get l j:=by
 simp only [put,get,Zfo h,cond_false]
 exact Ztz l h
mutual
def PV.has(l:Nat):PV->Bool
 | .t _=>false
 | .nils=>false
 | .osl m _=>Nat.beq m l
 | .bptr m _=>Nat.beq m l
 | .rptr m _ _ _=>Nat.beq m l
 | .vptr _=>false
 | .agg cs=>PV.hasAny l cs
 | .tup cs=>PV.hasAny l cs
 | .fn _ cs=>PV.hasAny l cs
 | .own m _=>Nat.beq m l
def PV.hasAny(l:Nat):List PV->Bool
 | []=>false
 | p::ps=>p.has l||PV.hasAny l ps
end
def Blk.has(l:Nat):Blk->Bool
 | .box cs=>PV.hasAny l cs
 | .row _ _=>false
 | .mat _ _ _=>false
 | .map _ _=>false
structure Ctx where
 β:Nat->Option Nat
 I:Nat->Prop
 w:World
 σ:List (Nat×Blk)
def Zaz(w:World)(b m:Nat):Prop:=∃ cs e fr,w.heap[b]?=some (.cells cs e fr)/\cs.size=m/\(fr=(0,0)\/m<=fr.1)
def Z8x(w:World)(b:Nat)(vs:List Value):Prop:=∀ j v,vs[j]?=some v->w.cell? ⟨b,j,none⟩=some v
def OSl(c:Ctx)(l n:Nat)(v:Value):Prop:=
 ∀ k es,get c.σ l=some (.row k es)->n<=es.length/\(n=es.length ->
  ∃ a cap,v = .slice a n cap/\n<=cap/\cap<=maxLen /\
   ((cap=0/\c.β l=none)\/∃ b m,a=some ⟨b,0,none⟩/\c.β l=some b/\Zaz c.w b m/\cap*k<=m))
def BPt(c:Ctx)(l off:Nat)(v:Value):Prop:=
 ∀ cs,get c.σ l=some (.box cs)->∃ b,c.β l=some b/\v = .pointer (some ⟨b,off,none⟩)
def RPt(c:Ctx)(l n i off:Nat)(v:Value):Prop:=
 ∀ k es,get c.σ l=some (.row k es)->n<=es.length/\(n=es.length->∃ b,c.β l=some b/\v = .pointer (some ⟨b,i*k+off,none⟩))
def Subs(w:World)(b k q n:Nat)(d:Nat):Prop:=∃ j,j < n/\∃ len cap,len≠0/\w.cell? ⟨b,j*k+q,none⟩=some (.slice (some ⟨d,0,none⟩) len cap)
def ODR(c:Ctx)(l:Nat)(v:Value):OD->Prop
 | .tail n i=>∀ k es,get c.σ l=some (.row k es)->n<=es.length/\(n=es.length ->
  ∃ a cap,v = .slice a (n - i) cap/\cap<=maxLen/\((n - i=0/\cap=0)\/∃ b m,a=some ⟨b,i*k,none⟩/\c.β l=some b/\Zaz c.w b m/\i*k+cap*k<=m))
 | .msl n=>∀ k q es,get c.σ l=some (.mat k q es)->n<=es.length/\(n=es.length ->
  ∃ a cap,v = .slice a n cap/\n<=cap/\cap<=maxLen/\((cap=0/\c.β l=none)\/∃ b m,a=some ⟨b,0,none⟩/\c.β l=some b/\Zaz c.w b m/\cap*k<=m))
 | .mpt n j off=>∀ k q es,get c.σ l=some (.mat k q es)->n<=es.length/\(n=es.length->∃ b,c.β l=some b/\v = .pointer (some ⟨b,j*k+off,none⟩))
 | .mrow n j=>j < n/\∀ k q es,get c.σ l=some (.mat k q es)->n<=es.length/\(n=es.length->∃ b,c.β l=some b/\c.w.cell? ⟨b,j*k+q,none⟩=some v)
 | .mel n j i=>j < n/\∀ k q es,get c.σ l=some (.mat k q es)->n<=es.length/\(n=es.length ->
  ∃ b d len cap,c.β l=some b/\c.w.cell? ⟨b,j*k+q,none⟩=some (.slice (some ⟨d,0,none⟩) len cap)/\v = .pointer (some ⟨d,i,none⟩))
 | .map=>∀ ag es,get c.σ l=some (.map ag es)->∃ b,c.β l=some b/\v = .map (some b)
mutual
def VR(c:Ctx):PV->Value->Prop
 | .t x,v=>Zy c.I c.w x v
 | .nils,v=>∃ a,v = .slice a 0 0
 | .osl l n,v=>OSl c l n v/\∃ a m cap,v = .slice a m cap
 | .bptr l off,v=>BPt c l off v/\∃ a,v = .pointer a
 | .rptr l n i off,v=>RPt c l n i off v/\∃ a,v = .pointer a
 | .vptr cs,v=>∃ b off,v = .pointer (some ⟨b,off,none⟩)/\(cs≠[]->c.I b)/\Zw c.I c.w b cs off
 | .agg cs,v=>∃ vs,v = .agg vs.toArray/\VRs c cs vs
 | .tup cs,v=>∃ vs,v = .tuple vs.toArray/\VRs c cs vs
 | .fn f cs,v=>∃ vs,v = .func (.func f) #[] vs.toArray/\VRs c cs vs
 | .own l d,v=>ODR c l v d/\v.oneCell'=true
def VRs(c:Ctx):List PV->List Value->Prop
 | [],vs=>vs=[]
 | p::ps,vs=>∃ v rest,vs=v::rest/\VR c p v/\VRs c ps rest
end
def PV.one:PV->Bool
 | .agg _ | .tup _=>false
 | _=>true
theorem VR.oneCell{c:Ctx}{p:PV}{v:Value}(h:VR c p v)(h1:p.one=true):v.oneCell'=true:=by
 cases p<;>simp only [VR] at h<;>simp only [PV.one] at h1
 case t x=>exact h.oneCell
 case nils=>obtain⟨a,rfl⟩:=h;rfl
 case osl=>obtain⟨_,a,m,cap,rfl⟩:=h;rfl
 case bptr=>obtain⟨_,a,rfl⟩:=h;rfl
 case rptr=>obtain⟨_,a,rfl⟩:=h;rfl
 case vptr=>obtain⟨b,off,rfl,_⟩:=h;rfl
 case agg=>cases h1
 case tup=>cases h1
 case fn=>obtain⟨vs,rfl,_⟩:=h;rfl
 case own=>exact h.2
theorem VRs.length{c:Ctx}:∀ {ps:List PV} {vs:List Value},VRs c ps vs->vs.length=ps.length
 | [],vs,h=>by simp only [VRs] at h;subst h;rfl
 | p::ps,vs,h=>by
  simp only [VRs] at h
  obtain⟨v,rest,rfl,_,hr⟩:=h
  simp [VRs.length hr]
theorem VRs.get{c:Ctx}:∀ {ps:List PV} {vs:List Value} (_:VRs c ps vs) (j:Nat) (p:PV),ps[j]?=some p->∃ v,vs[j]?=some v/\VR c p v
 | [],_,_,j,p,hp=>by simp at hp
 | p::ps,vs,h,j,q,hq=>by
  simp only [VRs] at h
  obtain⟨v,rest,rfl,hv,hr⟩:=h
  cases j with
  | zero=>simp at hq;subst hq;exact⟨v,rfl,hv⟩
  | succ j=>simpa using VRs.get hr j q (by simpa using hq)
theorem VRs.of_get{c:Ctx}:∀ {ps:List PV} {vs:List Value},vs.length=ps.length->(∀ (j:Nat) (p:PV) (v:Value),ps[j]?=some p->vs[j]?=some v->VR c p v)->VRs c ps vs
 | [],vs,hl,_=>by simp only [VRs];exact List.eq_nil_of_length_eq_zero hl
 | p::ps,vs,hl,h=>by
  cases vs with
  | nil=>simp at hl
  | cons v rest=>
   simp only [VRs]
   exact⟨v,rest,rfl,h 0 p v rfl rfl,VRs.of_get (by simpa using hl) (fun j q u hq hu=>h (j+1) q u (by simpa using hq) (by simpa using hu))⟩
def Zaj(c c':Ctx)(l:Nat):Prop:=
 (∀ k es',get c'.σ l=some (.row k es')->∃ es,get c.σ l=some (.row k es)/\es.length<=es'.length /\
  (es.length=es'.length->c'.β l=c.β l/\∀ b m,c.β l=some b->Zaz c.w b m->Zaz c'.w b m)) /\
 (∀ cs',get c'.σ l=some (.box cs')->∃ cs,get c.σ l=some (.box cs)/\c'.β l=c.β l) /\
 (∀ k q es',get c'.σ l=some (.mat k q es')->∃ es,get c.σ l=some (.mat k q es)/\es.length<=es'.length /\
  (es.length=es'.length->c'.β l=c.β l/\∀ b,c.β l=some b->(∀ m,Zaz c.w b m->Zaz c'.w b m)/\∀ j,j < es.length->c'.w.cell? ⟨b,j*k+q,none⟩=c.w.cell? ⟨b,j*k+q,none⟩)) /\
 (∀ ag es',get c'.σ l=some (.map ag es')->∃ es,get c.σ l=some (.map ag es)/\c'.β l=c.β l)
theorem OSl.step{c c':Ctx}{l n:Nat}{v:Value}(hl:Zaj c c' l)(h:OSl c l n v):OSl c' l n v:=by
 intro k es' hg
 obtain⟨es,hg0,hle,heq⟩:=hl.1 k es' hg
 obtain⟨h1,h2⟩:=h k es hg0
 refine⟨Nat.le_trans h1 hle,fun hn=>?_⟩
 have hee:es.length=es'.length:=by omega
 obtain⟨hβ,hh⟩:=heq hee
 obtain⟨a,cap,hv,hc1,hc2,h3⟩:=h2 (by omega)
 refine⟨a,cap,hv,hc1,hc2,?_⟩
 rcases h3 with ⟨hc,hb⟩ | ⟨b,m,ha,hb,hcs,hsz⟩
 .exact .inl ⟨hc,hβ.trans hb⟩
 .exact .inr ⟨b,m,ha,hβ.trans hb,hh b m hb hcs,hsz⟩
theorem BPt.step{c c':Ctx}{l off:Nat}{v:Value}(hl:Zaj c c' l)(h:BPt c l off v):BPt c' l off v:=by
 intro cs' hg
 obtain⟨cs,hg0,hβ⟩:=hl.2.1 cs' hg
 obtain⟨b,hb,hv⟩:=h cs hg0
 exact⟨b,hβ.trans hb,hv⟩
theorem RPt.step{c c':Ctx}{l n i off:Nat}{v:Value}(hl:Zaj c c' l)(h:RPt c l n i off v):RPt c' l n i off v:=by
 intro k es' hg
 obtain⟨es,hg0,hle,heq⟩:=hl.1 k es' hg
 obtain⟨h1,h2⟩:=h k es hg0
 refine⟨Nat.le_trans h1 hle,fun hn=>?_⟩
 have hee:es.length=es'.length:=by omega
 obtain⟨hβ,_⟩:=heq hee
 obtain⟨b,hb,hv⟩:=h2 (by omega)
 exact⟨b,hβ.trans hb,hv⟩
theorem ODR.step{c c':Ctx}{l:Nat}{v:Value}(hl:Zaj c c' l):∀ {d:OD},ODR c l v d->ODR c' l v d
 | .tail n i,h=>fun k es' hg=>by
  obtain⟨es,hg0,hle,heq⟩:=hl.1 k es' hg
  obtain⟨h1,h2⟩:=h k es hg0
  refine⟨Nat.le_trans h1 hle,fun hn=>?_⟩
  have hee:es.length=es'.length:=by omega
  obtain⟨hβ,hh⟩:=heq hee
  obtain⟨a,cap,hv,hc2,h3⟩:=h2 (by omega)
  refine⟨a,cap,hv,hc2,?_⟩
  rcases h3 with hc | ⟨b,m,ha,hb,hcs,hsz⟩
  .exact .inl hc
  .exact .inr ⟨b,m,ha,hβ.trans hb,hh b m hb hcs,hsz⟩
 | .msl n,h=>fun k q es' hg=>by
  obtain⟨es,hg0,hle,heq⟩:=hl.2.2.1 k q es' hg
  obtain⟨h1,h2⟩:=h k q es hg0
  refine⟨Nat.le_trans h1 hle,fun hn=>?_⟩
  have hee:es.length=es'.length:=by omega
  obtain⟨hβ,hh⟩:=heq hee
  obtain⟨a,cap,hv,hc1,hc2,h3⟩:=h2 (by omega)
  refine⟨a,cap,hv,hc1,hc2,?_⟩
  rcases h3 with ⟨hc,hb⟩ | ⟨b,m,ha,hb,hcs,hsz⟩
  .exact .inl ⟨hc,hβ.trans hb⟩
  .exact .inr ⟨b,m,ha,hβ.trans hb,(hh b hb).1 m hcs,hsz⟩
 | .mpt n j off,h=>fun k q es' hg=>by
  obtain⟨es,hg0,hle,heq⟩:=hl.2.2.1 k q es' hg
  obtain⟨h1,h2⟩:=h k q es hg0
  refine⟨Nat.le_trans h1 hle,fun hn=>?_⟩
  obtain⟨hβ,hh⟩:=heq (by omega)
  obtain⟨b,hb,hv⟩:=h2 (by omega)
  exact⟨b,hβ.trans hb,hv⟩
 | .mrow n j,h=>⟨h.1,fun k q es' hg=>by
  obtain⟨es,hg0,hle,heq⟩:=hl.2.2.1 k q es' hg
  obtain⟨h1,h2⟩:=h.2 k q es hg0
  refine⟨Nat.le_trans h1 hle,fun hn=>?_⟩
  obtain⟨hβ,hh⟩:=heq (by omega)
  obtain⟨b,hb,hv⟩:=h2 (by omega)
  exact⟨b,hβ.trans hb,((hh b hb).2 j (by have:=h.1;omega)).trans hv⟩⟩
 | .mel n j i,h=>⟨h.1,fun k q es' hg=>by
  obtain⟨es,hg0,hle,heq⟩:=hl.2.2.1 k q es' hg
  obtain⟨h1,h2⟩:=h.2 k q es hg0
  refine⟨Nat.le_trans h1 hle,fun hn=>?_⟩
  obtain⟨hβ,hh⟩:=heq (by omega)
  obtain⟨b,d,len,cap,hb,hv,hp⟩:=h2 (by omega)
  exact⟨b,d,len,cap,hβ.trans hb,((hh b hb).2 j (by have:=h.1;omega)).trans hv,hp⟩⟩
 | .map,h=>fun ag es' hg=>by
  obtain⟨es,hg0,hβ⟩:=hl.2.2.2 ag es' hg
  obtain⟨b,hb,hv⟩:=h ag es hg0
  exact⟨b,hβ.trans hb,hv⟩
mutual
theorem VR.step{c c':Ctx}(hI:∀ b,c.I b->c'.I b/\c'.w.heap[b]?=c.w.heap[b]?):∀ (p:PV) (v:Value),(∀ l,p.has l=true->Zaj c c' l)->VR c p v->VR c' p v
 | .t x,v,_,h=>by simp only [VR] at h ⊢;exact Zy.mono hI x v h
 | .nils,v,_,h=>h
 | .osl l n,v,hl,h=>by simp only [VR] at h ⊢;exact⟨h.1.step (hl l (by simp [PV.has])),h.2⟩
 | .bptr l off,v,hl,h=>by simp only [VR] at h ⊢;exact⟨h.1.step (hl l (by simp [PV.has])),h.2⟩
 | .rptr l n i off,v,hl,h=>by simp only [VR] at h ⊢;exact⟨h.1.step (hl l (by simp [PV.has])),h.2⟩
 | .vptr cs,v,_,h=>by
  simp only [VR] at h ⊢
  obtain⟨b,off,hv,hb,hc⟩:=h
  refine⟨b,off,hv,fun hne=>(hI b (hb hne)).1,?_⟩
  cases cs with
  | nil=>trivial
  | cons t ts=>exact Zw.mono hI (hI b (hb (by simp))).2 _ _ hc
 | .agg cs,v,hl,h=>by
  simp only [VR] at h ⊢
  obtain⟨vs,hv,hs⟩:=h
  exact⟨vs,hv,VRs.step hI cs vs (fun l h=>hl l (by simpa [PV.has] using h)) hs⟩
 | .tup cs,v,hl,h=>by
  simp only [VR] at h ⊢
  obtain⟨vs,hv,hs⟩:=h
  exact⟨vs,hv,VRs.step hI cs vs (fun l h=>hl l (by simpa [PV.has] using h)) hs⟩
 | .fn f cs,v,hl,h=>by
  simp only [VR] at h ⊢
  obtain⟨vs,hv,hs⟩:=h
  exact⟨vs,hv,VRs.step hI cs vs (fun l h=>hl l (by simpa [PV.has] using h)) hs⟩
 | .own l d,v,hl,h=>by simp only [VR] at h ⊢;exact⟨h.1.step (hl l (by simp [PV.has])),h.2⟩
theorem VRs.step{c c':Ctx}(hI:∀ b,c.I b->c'.I b/\c'.w.heap[b]?=c.w.heap[b]?):∀ (ps:List PV) (vs:List Value),(∀ l,PV.hasAny l ps=true->Zaj c c' l)->VRs c ps vs->VRs c' ps vs
 | [],vs,_,h=>h
 | p::ps,vs,hl,h=>by
  simp only [VRs] at h ⊢
  obtain⟨v,rest,rfl,hv,hr⟩:=h
  exact⟨v,rest,rfl,VR.step hI p v (fun l h=>hl l (by simp [PV.hasAny,h])) hv,VRs.step hI ps rest (fun l h=>hl l (by simp [PV.hasAny,h])) hr⟩
end
def mvP(ag:Bool)(ts:List Zd):PV:=bif ag then .agg (ts.map .t) else (match ts with | [x] => .t x | _ => .agg (ts.map .t))
theorem Znw(l:Nat):∀ (ts:List Zd),PV.hasAny l (ts.map .t)=false
 | []=>rfl
 | t::ts=>by simp only [List.map_cons,PV.hasAny,PV.has,Znw l ts,Bool.or_false]
theorem Za1i(ag:Bool)(l:Nat)(ts:List Zd):(mvP ag ts).has l=false:=by
 unfold mvP
 cases ag with
 | true=>simp only [cond_true,PV.has,Znw]
 | false=>
  simp only [cond_false]
  split
  .rfl
  .simp only [PV.has,Znw]
def Zff(c:Ctx)(ag:Bool):List MapEntry->List (Int×List Zd)->Prop
 | [],xs=>xs=[]
 | e::es,xs=>∃ n ts r,xs=(n,ts)::r/\e.key = .int .i64 n/\VR c (mvP ag ts) e.val/\Zff c ag es r
theorem Zff.step{c c':Ctx}{ag:Bool}(hI:∀ b,c.I b->c'.I b/\c'.w.heap[b]?=c.w.heap[b]?):∀ {es:List MapEntry} {xs:List (Int×List Zd)},Zff c ag es xs->Zff c' ag es xs
 | [],_,h=>h
 | e::es,xs,h=>by
  obtain⟨n,ts,r,h1,h2,h3,h4⟩:=h
  exact⟨n,ts,r,h1,h2,VR.step hI _ _ (fun l hl=>by rw [Za1i] at hl;cases hl) h3,Zff.step hI h4⟩
def BR(c:Ctx)(l:Nat):Blk->Prop
 | .box ps=>∃ b vs,c.β l=some b/\Zaz c.w b ps.length/\Z8x c.w b vs/\VRs c ps vs/\ps.all PV.one=true
 | .row k es=>0 < k/\(∀ el,el∈es->el.length=k)/\((c.β l=none/\es=[]) \/
  ∃ b m,c.β l=some b/\Zaz c.w b m/\es.length*k<=m/\Zq c.I c.w b es 0)
 | .mat k q es=>q < k/\(∀ el,el∈es->el.length=k)/\((c.β l=none/\es=[]) \/
  ∃ b m,c.β l=some b/\Zaz c.w b m/\es.length*k<=m/\Zq (fun d=>c.I d\/Subs c.w b k q es.length d) c.w b es 0 /\
   (∀ i j d len len' cap cap',i < es.length->j < es.length->len≠0->len'≠0->c.w.cell? ⟨b,i*k+q,none⟩=some (.slice (some ⟨d,0,none⟩) len cap)->c.w.cell? ⟨b,j*k+q,none⟩=some (.slice (some ⟨d,0,none⟩) len' cap')->i=j) /\
   (∀ j e,es[j]?=some e->∃ inner a len cap,e[q]?=some (.sl inner)/\(∀ x,x∈inner->∃ t,x=[t]/\t.scal=true)/\c.w.cell? ⟨b,j*k+q,none⟩=some (.slice a len cap) /\
    (len≠0->∃ d m',a=some ⟨d,0,none⟩/\d≠b/\Zaz c.w d m'/\cap<=m')))
 | .map ag es=>∃ b ents clock,c.β l=some b/\c.w.heap[b]?=some (.map ents clock)/\Zff c ag ents.toList es
structure Frm where
 base:Nat
 w0:World
 own:Nat->Prop
 A:Nat->Prop
 β0:Nat->Option Nat
 σ0:Nat->Option Blk
structure St where
 n:Nat
 tm:List (Nat×PV)
 σ:List (Nat×Blk)
def Zaa(β:Nat->Option Nat)(w:World)(l:Nat)(o:Blk)(b:Nat):Prop:=
 β l=some b\/∃ k q es b0,o = .mat k q es/\β l=some b0/\Subs w b0 k q es.length b
def Imm(G:Frm)(β:Nat->Option Nat)(w:World)(σ:List (Nat×Blk))(b:Nat):Prop:=
 b < w.heap.size/\(G.base<=b\/G.A b\/G.own b)/\∀ l o,get σ l=some o->¬ Zaa β w l o b
def ctx(G:Frm)(β:Nat->Option Nat)(w:World)(σ:List (Nat×Blk)):Ctx:=⟨β,Imm G β w σ,w,σ⟩
inductive GK where
 | anyInt
 | cells (ts:List Zd)
structure Za07 where
 gs:List (Nat×GK)
instance:Inhabited Za07:=⟨⟨[(0,.anyInt)]⟩⟩
def gset:List (Nat×GK):=(default:Za07).gs
def GAt(w:World)(g:Nat):GK->Prop
 | .anyInt=>∃ m,w.cell? ⟨g,0,none⟩=some (.int .i64 m)
 | .cells ts=>Zw (fun _=>False) w g ts 0
theorem GAt.mono{w w':World}{g:Nat}{k:GK}(hh:w'.heap[g]?=w.heap[g]?)(h:GAt w g k):GAt w' g k:=by
 cases k with
 | anyInt=>
  obtain⟨m,h⟩:=h
  exact⟨m,(World.cell?_of_block (w:=w) hh).trans h⟩
 | cells ts=>exact Zw.mono (fun b hb=>hb.elim) hh ts 0 h
def Zaea(w:World):Prop:=∀ g k,(g,k)∈gset->g < w.heap.size/\GAt w g k
def R0(G:Frm)(β:Nat->Option Nat)(w:World)(σ:List (Nat×Blk)):Prop:=∀ l k es',l < 1000->get σ l=some (.row k es') ->
 ∃ es,G.σ0 l=some (.row k es)/\es.length<=es'.length/\(es.length=es'.length->β l=G.β0 l/\∀ b m,G.β0 l=some b->Zaz G.w0 b m->Zaz w b m)
theorem R0.one{G:Frm}{β β':Nat->Option Nat}{w w':World}{σ σ':List (Nat×Blk)}{l k:Nat}{es':List (List Zd)}(h:R0 G β w σ)(hL:Zaj (ctx G β w σ) (ctx G β' w' σ') l)(hl:l < 1000)(hg:get σ' l=some (.row k es')) :
 ∃ es,G.σ0 l=some (.row k es)/\es.length<=es'.length/\(es.length=es'.length->β' l=G.β0 l/\∀ b m,G.β0 l=some b->Zaz G.w0 b m->Zaz w' b m):=by
 obtain⟨es1,h1,h2,h3⟩:=hL.1 k es' hg
 obtain⟨es,g1,g2,g3⟩:=h l k es1 hl h1
 refine⟨es,g1,Nat.le_trans g2 h2,fun he=>?_⟩
 obtain⟨a1,a2⟩:=g3 (by omega)
 obtain⟨b1,b2⟩:=h3 (by omega)
 exact⟨b1.trans a1,fun b m hb hr=>b2 b m (a1.trans hb) (a2 b m hb hr)⟩
theorem R0.step{G:Frm}{β β':Nat->Option Nat}{w w':World}{σ σ':List (Nat×Blk)}(h:R0 G β w σ)(hL:∀ l,l < 1000->Zaj (ctx G β w σ) (ctx G β' w' σ') l):R0 G β' w' σ':=fun l k es' hl hg=>h.one (hL l hl) hl hg
theorem R0.sub{G:Frm}{β:Nat->Option Nat}{w:World}{σ σ':List (Nat×Blk)}(hσ:∀ l o,get σ' l=some o->get σ l=some o)(h:R0 G β w σ):R0 G β w σ':=fun l k es' hl hg=>h l k es' hl (hσ l _ hg)
structure Zai (G:Frm) (β:Nat->Option Nat) (st:St) (a:Act) (w:World):Prop where
 defers:a.defers=[]
 sz:st.n<=a.tmps.size
 base:G.base<=w.heap.size
 os:w.os=G.w0.os
 tape:w.tape=G.w0.tape
 output:w.output=G.w0.output
 old:∀ b,b < G.base->¬ G.own b->w.heap[b]?=G.w0.heap[b]?
 A:∀ b,G.A b->b < G.base/\¬ G.own b
 gl:∀ g k,(g,k)∈gset->g < G.base/\¬ G.own g/\G.A g/\GAt G.w0 g k
 inj:∀ l l' o o' b,get st.σ l=some o->get st.σ l'=some o'->Zaa β w l o b->Zaa β w l' o' b->l=l'
 sep:∀ l o b,get st.σ l=some o->Zaa β w l o b->b < w.heap.size/\(G.base<=b\/G.own b)
 fix:∀ l cs,l < 1000->get st.σ l=some (.box cs)->β l=G.β0 l
 row0:R0 G β w st.σ
 blk:∀ l o,get st.σ l=some o->BR (ctx G β w st.σ) l o
 tm:∀ i p,get st.tm i=some p->i < st.n/\VR (ctx G β w st.σ) p (a.tmps.getD i undef)
theorem Zai.glw{G:Frm}{β:Nat->Option Nat}{st:St}{a:Act}{w:World}(h:Zai G β st a w):Zaea w:=fun g k hg=>by
 obtain⟨h1,h2,_,h3⟩:=h.gl g k hg
 exact⟨Nat.lt_of_lt_of_le h1 h.base,GAt.mono (h.old g h1 h2) h3⟩
theorem Zai.glI{G:Frm}{β:Nat->Option Nat}{st:St}{a:Act}{w:World}(h:Zai G β st a w){g:Nat}{k:GK}(hg:(g,k)∈gset):Imm G β w st.σ g:=by
 obtain⟨h1,h2,h3,_⟩:=h.gl g k hg
 refine⟨Nat.lt_of_lt_of_le h1 h.base,.inr (.inl h3),fun l o hl hb=>?_⟩
 rcases (h.sep l o g hl hb).2 with h4 | h4
 .exact absurd h1 (Nat.not_lt_of_le h4)
 .exact h2 h4
def Rel(G:Frm)(st:St)(a:Act)(w:World):Prop:=∃ β,Zai G β st a w
def PW(P:Program)(c:Code)(Q:Exit->St->Prop)(st:St):Prop:=
 ∀ G a w,Rel G st a w->c.wp P (fun e a' w'=>∃ st',Q e st'/\Rel G st' a' w') a w
end Go.PW
