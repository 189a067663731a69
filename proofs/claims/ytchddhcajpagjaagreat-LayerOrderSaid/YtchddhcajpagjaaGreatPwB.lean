import Derived.Orders
import Derived.Tactics
import Derived.Deep.MidRow
import Derived.Deep.AppendSrc
import Derived.Great.BuildSlice
import Derived.Below
import Derived.Scope
set_option linter.all false
namespace Go.PW
theorem O{p:Prop}(h:p:=by omega):p:=h
theorem V{p:Prop}(h:p:=by assumption):p:=h
open Go.RowKit
inductive Zf where
 | bool (b:Bool)
 | int (k:IntKind) (n:Int)
 | str (s:List UInt8)
 | con (v:Value)
 | sl (es:List (List Zf))
 deriving Inhabited
def Zf.scal:Zf->Bool
 | .sl es=>es.isEmpty
 | _=>true
mutual
def Z0(I:Nat->Prop)(w:World):Zf->Value->Prop
 | .bool b,v=>v = .bool b
 | .int k n,v=>v = .int k n
 | .str s,v=>v = .string ⟨s.toArray⟩
 | .con c,v=>v=c/\c.oneCell'=true
 | .sl es,v=>∃ a cap,v = .slice a es.length cap/\es.length<=cap/\cap<=maxLen /\
  (es=[]\/∃ b off,a=some ⟨b,off,none⟩/\I b/\Zr I w b es off)
def Zr(I:Nat->Prop)(w:World)(b:Nat):List (List Zf)->Nat->Prop
 | [],_=>True
 | e::es,off=>Zw I w b e off/\Zr I w b es (off+e.length)
def Zw(I:Nat->Prop)(w:World)(b:Nat):List Zf->Nat->Prop
 | [],_=>True
 | t::ts,off=>(∃ c,w.cell? ⟨b,off,none⟩=some c/\Z0 I w t c)/\Zw I w b ts (off+1)
end
theorem Z0.oneCell{I:Nat->Prop}{w:World}{t:Zf}{v:Value}(h:Z0 I w t v):v.oneCell'=true:=by
 cases t<;>simp only [Z0] at h
 case con c=>obtain⟨rfl,h⟩:=h;exact h
 case sl es=>obtain⟨a,cap,rfl,_⟩:=h;rfl
 all_goals (subst h;rfl)
mutual
theorem Z0.mono{I I':Nat->Prop}{w w':World}(hI:∀ b,I b->I' b/\w'.heap[b]?=w.heap[b]?):∀ (t:Zf) (v:Value),Z0 I w t v->Z0 I' w' t v
 | .bool _,_,h=>h
 | .int _ _,_,h=>h
 | .str _,_,h=>h
 | .con _,_,h=>h
 | .sl es,v,h=>by
  simp only [Z0] at h ⊢
  obtain⟨a,cap,hv,h1,h2,h3⟩:=h
  refine⟨a,cap,hv,h1,h2,?_⟩
  rcases h3 with h3 | ⟨b,off,ha,hb,he⟩
  .exact .inl h3
  .exact .inr ⟨b,off,ha,(hI b hb).1,Zr.mono hI (hI b hb).2 es off he⟩
theorem Zr.mono{I I':Nat->Prop}{w w':World}(hI:∀ b,I b->I' b/\w'.heap[b]?=w.heap[b]?){b:Nat}(hb:w'.heap[b]?=w.heap[b]?) :
 ∀ (es:List (List Zf)) (off:Nat),Zr I w b es off->Zr I' w' b es off
 | [],_,_=>trivial
 | e::es,off,h=>by
  simp only [Zr] at h ⊢
  exact⟨Zw.mono hI hb e off h.1,Zr.mono hI hb es _ h.2⟩
theorem Zw.mono{I I':Nat->Prop}{w w':World}(hI:∀ b,I b->I' b/\w'.heap[b]?=w.heap[b]?){b:Nat}(hb:w'.heap[b]?=w.heap[b]?) :
 ∀ (ts:List Zf) (off:Nat),Zw I w b ts off->Zw I' w' b ts off
 | [],_,_=>trivial
 | t::ts,off,h=>by
  simp only [Zw] at h ⊢
  obtain⟨⟨c,hc,ht⟩,hr⟩:=h
  exact⟨⟨c,(World.cell?_of_block (w:=w) hb).trans hc,Z0.mono hI t c ht⟩,Zw.mono hI hb ts _ hr⟩
end
inductive OD where
 | tail (n i:Nat)
 | msl (n:Nat)
 | mpt (n j off:Nat)
 | mrow (n j:Nat)
 | mel (n j i:Nat)
 | map
 | pw (n:Nat)
 | pp (n off:Nat)
 deriving Inhabited
inductive PV where
 | t (x:Zf)
 | nils
 | osl (l n:Nat)
 | bptr (l off:Nat)
 | rptr (l n i off:Nat)
 | vptr (cs:List Zf)
 | agg (cs:List PV)
 | tup (cs:List PV)
 | fn (f:FuncId) (caps:List PV)
 | own (l:Nat) (d:OD)
 deriving Inhabited
inductive Blk where
 | box (cs:List PV)
 | row (k:Nat) (es:List (List Zf))
 | mat (k q:Nat) (es:List (List Zf))
 | map (ag:Bool) (es:List (Int×List Zf))
 | prow (k i:Nat) (es:List (List Zf)) (cs:List PV)
 deriving Inhabited
def get{α:Type}:List (Nat×α)->Nat->Option α
 | [],_=>none
 | (j,x)::l,i=>bif Nat.beq j i then some x else get l i
def del{α:Type}:List (Nat×α)->Nat->List (Nat×α)
 | [],_=>[]
 | (j,x)::l,i=>bif Nat.beq j i then del l i else (j,x)::del l i
def put{α:Type}(l:List (Nat×α))(i:Nat)(x:α):List (Nat×α):=(i,x)::del l i
def Zz0:List Nat->Nat->Bool
 | [],_=>false
 | j::l,i=>bif Nat.beq j i then true else Zz0 l i
theorem Z1(a b:Nat):Nat.beq a b=true↔a=b:=by rw [Nat.beq_eq]
theorem Zgf{a b:Nat}(h:a≠b):Nat.beq a b=false:=by
 cases hb:Nat.beq a b with
 | false=>rfl
 | true=>exact absurd ((Z1 a b).1 hb) h
theorem Zaud{α:Type}(l:List (Nat×α))(i:Nat):get (del l i) i=none:=by
 induction l with
 | nil=>rfl
 | cons p l ih=>
  obtain⟨j,x⟩:=p
  simp only [del]
  cases hb:Nat.beq j i with
  | true=>simpa using ih
  | false=>simp only [cond_false,get,hb];exact ih
theorem Zxr{α:Type}(l:List (Nat×α)){i j:Nat}(h:i≠j):get (del l i) j=get l j:=by
 induction l with
 | nil=>rfl
 | cons p l ih=>
  obtain⟨m,x⟩:=p
  simp only [del]
  cases hb:Nat.beq m i with
  | true=>
   have:m=i:=(Z1 _ _).1 hb
   subst this
   simp only [cond_true,get,Zgf h,cond_false]
   exact ih
  | false=>simp only [cond_false,get];rw [ih]
theorem Zca{α:Type}(l:List (Nat×α))(i:Nat)(x:α):get (put l i x) i=some x:=by
 simp [put,get]
theorem Zb5{α:Type}(l:List (Nat×α)){i j:Nat}(x:α)(h:i≠j):get (put l i x) j=get l j:=by
 simp only [put,get,Zgf h,cond_false]
 exact Zxr l h
mutual
def PV.has(l:Nat):PV->Bool
 | .t _=>false
 | .nils=>false
 | .osl m _=>Nat.beq m l
 | .bptr m _=>Nat.beq m l
 | .rptr m _ _ _=>Nat.beq m l
 | .vptr _=>false
 | .agg cs=>PV.hasAny l cs
 | .tup cs=>PV.hasAny l cs
 | .fn _ cs=>PV.hasAny l cs
 | .own m _=>Nat.beq m l
def PV.hasAny(l:Nat):List PV->Bool
 | []=>false
 | p::ps=>p.has l||PV.hasAny l ps
end
def Blk.has(l:Nat):Blk->Bool
 | .box cs=>PV.hasAny l cs
 | .row _ _=>false
 | .mat _ _ _=>false
 | .map _ _=>false
 | .prow _ _ _ cs=>PV.hasAny l cs
structure Ctx where
 β:Nat->Option Nat
 I:Nat->Prop
 w:World
 Z:List (Nat×Blk)
def Za4(w:World)(b m:Nat):Prop:=∃ cs e fr,w.heap[b]?=some (.cells cs e fr)/\cs.size=m/\(fr=(0,0)\/False)
def Z5v(w:World)(b:Nat)(vs:List Value):Prop:=∀ j v,vs[j]?=some v->w.cell? ⟨b,j,none⟩=some v
def OSl(c:Ctx)(l n:Nat)(v:Value):Prop:=
 ∀ k es,get c.Z l=some (.row k es)->n<=es.length/\(n=es.length ->
  ∃ a cap,v = .slice a n cap/\n<=cap/\cap<=maxLen /\
   ((cap=0/\c.β l=none)\/∃ b m,a=some ⟨b,0,none⟩/\c.β l=some b/\Za4 c.w b m/\cap*k<=m))
def BPt(c:Ctx)(l off:Nat)(v:Value):Prop:=
 ∀ cs,get c.Z l=some (.box cs)->∃ b,c.β l=some b/\v = .pointer (some ⟨b,off,none⟩)
def RPt(c:Ctx)(l n i off:Nat)(v:Value):Prop:=
 ∀ k es,get c.Z l=some (.row k es)->n<=es.length/\(n=es.length->∃ b,c.β l=some b/\v = .pointer (some ⟨b,i*k+off,none⟩))
def Subs(w:World)(b k q n:Nat)(d:Nat):Prop:=∃ j,j < n/\∃ len cap,len≠0/\w.cell? ⟨b,j*k+q,none⟩=some (.slice (some ⟨d,0,none⟩) len cap)
def ODR(c:Ctx)(l:Nat)(v:Value):OD->Prop
 | .tail n i=>∀ k es,get c.Z l=some (.row k es)->n<=es.length/\(n=es.length ->
  ∃ a cap,v = .slice a (n - i) cap/\cap<=maxLen/\((n - i=0/\cap=0)\/∃ b m,a=some ⟨b,i*k,none⟩/\c.β l=some b/\Za4 c.w b m/\i*k+cap*k<=m))
 | .msl n=>∀ k q es,get c.Z l=some (.mat k q es)->n<=es.length/\(n=es.length ->
  ∃ a cap,v = .slice a n cap/\n<=cap/\cap<=maxLen/\((cap=0/\c.β l=none)\/∃ b m,a=some ⟨b,0,none⟩/\c.β l=some b/\Za4 c.w b m/\cap*k<=m))
 | .mpt n j off=>∀ k q es,get c.Z l=some (.mat k q es)->n<=es.length/\(n=es.length->∃ b,c.β l=some b/\v = .pointer (some ⟨b,j*k+off,none⟩))
 | .mrow n j=>j < n/\∀ k q es,get c.Z l=some (.mat k q es)->n<=es.length/\(n=es.length->∃ b,c.β l=some b/\c.w.cell? ⟨b,j*k+q,none⟩=some v)
 | .mel n j i=>j < n/\∀ k q es,get c.Z l=some (.mat k q es)->n<=es.length/\(n=es.length ->
  ∃ b d len cap,c.β l=some b/\c.w.cell? ⟨b,j*k+q,none⟩=some (.slice (some ⟨d,0,none⟩) len cap)/\v = .pointer (some ⟨d,i,none⟩))
 | .map=>∀ ag es,get c.Z l=some (.map ag es)->∃ b,c.β l=some b/\v = .map (some b)
 | .pw n=>∀ k i es cs,get c.Z l=some (.prow k i es cs)->n<=es.length/\(n=es.length->∃ b m cap,v = .slice (some ⟨b,0,none⟩) n cap/\n<=cap/\cap<=maxLen/\c.β l=some b/\Za4 c.w b m/\cap*k<=m)
 | .pp n off=>∀ k i es cs,get c.Z l=some (.prow k i es cs)->n<=es.length/\(n=es.length->∃ b,c.β l=some b/\v = .pointer (some ⟨b,i*k+off,none⟩))
mutual
def VR(c:Ctx):PV->Value->Prop
 | .t x,v=>Z0 c.I c.w x v
 | .nils,v=>∃ a,v = .slice a 0 0
 | .osl l n,v=>OSl c l n v/\∃ a m cap,v = .slice a m cap
 | .bptr l off,v=>BPt c l off v/\∃ a,v = .pointer a
 | .rptr l n i off,v=>RPt c l n i off v/\∃ a,v = .pointer a
 | .vptr cs,v=>∃ b off,v = .pointer (some ⟨b,off,none⟩)/\(cs≠[]->c.I b)/\Zw c.I c.w b cs off
 | .agg cs,v=>∃ vs,v = .agg vs.toArray/\VRs c cs vs
 | .tup cs,v=>∃ vs,v = .tuple vs.toArray/\VRs c cs vs
 | .fn f cs,v=>∃ vs,v = .func (.func f) #[] vs.toArray/\VRs c cs vs
 | .own l d,v=>ODR c l v d/\v.oneCell'=true
def VRs(c:Ctx):List PV->List Value->Prop
 | [],vs=>vs=[]
 | p::ps,vs=>∃ v rest,vs=v::rest/\VR c p v/\VRs c ps rest
end
def PV.one:PV->Bool
 | .agg _ | .tup _=>false
 | _=>true
theorem VR.oneCell{c:Ctx}{p:PV}{v:Value}(h:VR c p v)(h1:p.one=true):v.oneCell'=true:=by
 cases p<;>simp only [VR] at h<;>simp only [PV.one] at h1
 case t x=>exact h.oneCell
 case nils=>obtain⟨a,rfl⟩:=h;rfl
 case osl=>obtain⟨_,a,m,cap,rfl⟩:=h;rfl
 case bptr=>obtain⟨_,a,rfl⟩:=h;rfl
 case rptr=>obtain⟨_,a,rfl⟩:=h;rfl
 case vptr=>obtain⟨b,off,rfl,_⟩:=h;rfl
 case agg=>cases h1
 case tup=>cases h1
 case fn=>obtain⟨vs,rfl,_⟩:=h;rfl
 case own=>exact h.2
theorem VRs.length{c:Ctx}:∀ {ps:List PV} {vs:List Value},VRs c ps vs->vs.length=ps.length
 | [],vs,h=>by simp only [VRs] at h;subst h;rfl
 | p::ps,vs,h=>by
  simp only [VRs] at h
  obtain⟨v,rest,rfl,_,hr⟩:=h
  simp [VRs.length hr]
theorem VRs.get{c:Ctx}:∀ {ps:List PV} {vs:List Value} (_:VRs c ps vs) (j:Nat) (p:PV),ps[j]?=some p->∃ v,vs[j]?=some v/\VR c p v
 | [],_,_,j,p,hp=>by simp at hp
 | p::ps,vs,h,j,q,hq=>by
  simp only [VRs] at h
  obtain⟨v,rest,rfl,hv,hr⟩:=h
  cases j with
  | zero=>simp at hq;subst hq;exact⟨v,rfl,hv⟩
  | succ j=>simpa using VRs.get hr j q (by simpa using hq)
theorem VRs.of_get{c:Ctx}:∀ {ps:List PV} {vs:List Value},vs.length=ps.length->(∀ (j:Nat) (p:PV) (v:Value),ps[j]?=some p->vs[j]?=some v->VR c p v)->VRs c ps vs
 | [],vs,hl,_=>by simp only [VRs];exact List.eq_nil_of_length_eq_zero hl
 | p::ps,vs,hl,h=>by
  cases vs with
  | nil=>simp at hl
  | cons v rest=>
   simp only [VRs]
   exact⟨v,rest,rfl,h 0 p v rfl rfl,VRs.of_get (by simpa using hl) (fun j q u hq hu=>h (j+1) q u (by simpa using hq) (by simpa using hu))⟩
def Zal(c c':Ctx)(l:Nat):Prop:=
 (∀ k es',get c'.Z l=some (.row k es')->∃ es,get c.Z l=some (.row k es)/\es.length<=es'.length /\
  (es.length=es'.length->c'.β l=c.β l/\∀ b m,c.β l=some b->Za4 c.w b m->Za4 c'.w b m)) /\
 (∀ cs',get c'.Z l=some (.box cs')->∃ cs,get c.Z l=some (.box cs)/\c'.β l=c.β l) /\
 (∀ k q es',get c'.Z l=some (.mat k q es')->∃ es,get c.Z l=some (.mat k q es)/\es.length<=es'.length /\
  (es.length=es'.length->c'.β l=c.β l/\∀ b,c.β l=some b->(∀ m,Za4 c.w b m->Za4 c'.w b m)/\∀ j,j < es.length->c'.w.cell? ⟨b,j*k+q,none⟩=c.w.cell? ⟨b,j*k+q,none⟩)) /\
 (∀ ag es',get c'.Z l=some (.map ag es')->∃ es,get c.Z l=some (.map ag es)/\c'.β l=c.β l) /\
 (∀ k i es' cs',get c'.Z l=some (.prow k i es' cs')->∃ es cs,get c.Z l=some (.prow k i es cs)/\es.length=es'.length/\c'.β l=c.β l/\∀ b m,c.β l=some b->Za4 c.w b m->Za4 c'.w b m)
theorem OSl.step{c c':Ctx}{l n:Nat}{v:Value}(hl:Zal c c' l)(h:OSl c l n v):OSl c' l n v:=by
 intro k es' hg
 obtain⟨es,hg0,hle,heq⟩:=hl.1 k es' hg
 obtain⟨h1,h2⟩:=h k es hg0
 refine⟨Nat.le_trans h1 hle,fun hn=>?_⟩
 have hee:es.length=es'.length:=by omega
 obtain⟨hβ,hh⟩:=heq hee
 obtain⟨a,cap,hv,hc1,hc2,h3⟩:=h2 O
 refine⟨a,cap,hv,hc1,hc2,?_⟩
 rcases h3 with ⟨hc,hb⟩ | ⟨b,m,ha,hb,hcs,hsz⟩
 .exact .inl ⟨hc,hβ.trans hb⟩
 .exact .inr ⟨b,m,ha,hβ.trans hb,hh b m hb hcs,hsz⟩
theorem BPt.step{c c':Ctx}{l off:Nat}{v:Value}(hl:Zal c c' l)(h:BPt c l off v):BPt c' l off v:=by
 intro cs' hg
 obtain⟨cs,hg0,hβ⟩:=hl.2.1 cs' hg
 obtain⟨b,hb,hv⟩:=h cs hg0
 exact⟨b,hβ.trans hb,hv⟩
theorem RPt.step{c c':Ctx}{l n i off:Nat}{v:Value}(hl:Zal c c' l)(h:RPt c l n i off v):RPt c' l n i off v:=by
 intro k es' hg
 obtain⟨es,hg0,hle,heq⟩:=hl.1 k es' hg
 obtain⟨h1,h2⟩:=h k es hg0
 refine⟨Nat.le_trans h1 hle,fun hn=>?_⟩
 have hee:es.length=es'.length:=by omega
 obtain⟨hβ,_⟩:=heq hee
 obtain⟨b,hb,hv⟩:=h2 O
 exact⟨b,hβ.trans hb,hv⟩
theorem ODR.step{c c':Ctx}{l:Nat}{v:Value}(hl:Zal c c' l):∀ {d:OD},ODR c l v d->ODR c' l v d
 | .tail n i,h=>fun k es' hg=>by
  obtain⟨es,hg0,hle,heq⟩:=hl.1 k es' hg
  obtain⟨h1,h2⟩:=h k es hg0
  refine⟨Nat.le_trans h1 hle,fun hn=>?_⟩
  have hee:es.length=es'.length:=by omega
  obtain⟨hβ,hh⟩:=heq hee
  obtain⟨a,cap,hv,hc2,h3⟩:=h2 O
  refine⟨a,cap,hv,hc2,?_⟩
  rcases h3 with hc | ⟨b,m,ha,hb,hcs,hsz⟩
  .exact .inl hc
  .exact .inr ⟨b,m,ha,hβ.trans hb,hh b m hb hcs,hsz⟩
 | .msl n,h=>fun k q es' hg=>by
  obtain⟨es,hg0,hle,heq⟩:=hl.2.2.1 k q es' hg
  obtain⟨h1,h2⟩:=h k q es hg0
  refine⟨Nat.le_trans h1 hle,fun hn=>?_⟩
  have hee:es.length=es'.length:=by omega
  obtain⟨hβ,hh⟩:=heq hee
  obtain⟨a,cap,hv,hc1,hc2,h3⟩:=h2 O
  refine⟨a,cap,hv,hc1,hc2,?_⟩
  rcases h3 with ⟨hc,hb⟩ | ⟨b,m,ha,hb,hcs,hsz⟩
  .exact .inl ⟨hc,hβ.trans hb⟩
  .exact .inr ⟨b,m,ha,hβ.trans hb,(hh b hb).1 m hcs,hsz⟩
 | .mpt n j off,h=>fun k q es' hg=>by
  obtain⟨es,hg0,hle,heq⟩:=hl.2.2.1 k q es' hg
  obtain⟨h1,h2⟩:=h k q es hg0
  refine⟨Nat.le_trans h1 hle,fun hn=>?_⟩
  obtain⟨hβ,hh⟩:=heq O
  obtain⟨b,hb,hv⟩:=h2 O
  exact⟨b,hβ.trans hb,hv⟩
 | .mrow n j,h=>⟨h.1,fun k q es' hg=>by
  obtain⟨es,hg0,hle,heq⟩:=hl.2.2.1 k q es' hg
  obtain⟨h1,h2⟩:=h.2 k q es hg0
  refine⟨Nat.le_trans h1 hle,fun hn=>?_⟩
  obtain⟨hβ,hh⟩:=heq O
  obtain⟨b,hb,hv⟩:=h2 O
  exact⟨b,hβ.trans hb,((hh b hb).2 j (by have:=h.1;omega)).trans hv⟩⟩
 | .mel n j i,h=>⟨h.1,fun k q es' hg=>by
  obtain⟨es,hg0,hle,heq⟩:=hl.2.2.1 k q es' hg
  obtain⟨h1,h2⟩:=h.2 k q es hg0
  refine⟨Nat.le_trans h1 hle,fun hn=>?_⟩
  obtain⟨hβ,hh⟩:=heq O
  obtain⟨b,d,len,cap,hb,hv,hp⟩:=h2 O
  exact⟨b,d,len,cap,hβ.trans hb,((hh b hb).2 j (by have:=h.1;omega)).trans hv,hp⟩⟩
 | .map,h=>fun ag es' hg=>by
  obtain⟨es,hg0,hβ⟩:=hl.2.2.2.1 ag es' hg
  obtain⟨b,hb,hv⟩:=h ag es hg0
  exact⟨b,hβ.trans hb,hv⟩
 | .pw n,h=>fun k i es' cs' hg=>by
  obtain⟨es,cs,hg0,hle,hβ,hh⟩:=hl.2.2.2.2 k i es' cs' hg
  obtain⟨h1,h2⟩:=h k i es cs hg0
  refine⟨by omega,fun hn=>?_⟩
  obtain⟨b,m,cap,hv,hc1,hc2,hb,hr,hs⟩:=h2 O
  exact⟨b,m,cap,hv,hc1,hc2,hβ.trans hb,hh b m hb hr,hs⟩
 | .pp n off,h=>fun k i es' cs' hg=>by
  obtain⟨es,cs,hg0,hle,hβ,_⟩:=hl.2.2.2.2 k i es' cs' hg
  obtain⟨h1,h2⟩:=h k i es cs hg0
  refine⟨by omega,fun hn=>?_⟩
  obtain⟨b,hb,hv⟩:=h2 O
  exact⟨b,hβ.trans hb,hv⟩
mutual
theorem VR.step{c c':Ctx}(hI:∀ b,c.I b->c'.I b/\c'.w.heap[b]?=c.w.heap[b]?):∀ (p:PV) (v:Value),(∀ l,p.has l=true->Zal c c' l)->VR c p v->VR c' p v
 | .t x,v,_,h=>by simp only [VR] at h ⊢;exact Z0.mono hI x v h
 | .nils,v,_,h=>h
 | .osl l n,v,hl,h=>by simp only [VR] at h ⊢;exact⟨h.1.step (hl l (by simp [PV.has])),h.2⟩
 | .bptr l off,v,hl,h=>by simp only [VR] at h ⊢;exact⟨h.1.step (hl l (by simp [PV.has])),h.2⟩
 | .rptr l n i off,v,hl,h=>by simp only [VR] at h ⊢;exact⟨h.1.step (hl l (by simp [PV.has])),h.2⟩
 | .vptr cs,v,_,h=>by
  simp only [VR] at h ⊢
  obtain⟨b,off,hv,hb,hc⟩:=h
  refine⟨b,off,hv,fun hne=>(hI b (hb hne)).1,?_⟩
  cases cs with
  | nil=>trivial
  | cons t ts=>exact Zw.mono hI (hI b (hb (by simp))).2 _ _ hc
 | .agg cs,v,hl,h=>by
  simp only [VR] at h ⊢
  obtain⟨vs,hv,hs⟩:=h
  exact⟨vs,hv,VRs.step hI cs vs (fun l h=>hl l (by simpa [PV.has] using h)) hs⟩
 | .tup cs,v,hl,h=>by
  simp only [VR] at h ⊢
  obtain⟨vs,hv,hs⟩:=h
  exact⟨vs,hv,VRs.step hI cs vs (fun l h=>hl l (by simpa [PV.has] using h)) hs⟩
 | .fn f cs,v,hl,h=>by
  simp only [VR] at h ⊢
  obtain⟨vs,hv,hs⟩:=h
  exact⟨vs,hv,VRs.step hI cs vs (fun l h=>hl l (by simpa [PV.has] using h)) hs⟩
 | .own l d,v,hl,h=>by simp only [VR] at h ⊢;exact⟨h.1.step (hl l (by simp [PV.has])),h.2⟩
theorem VRs.step{c c':Ctx}(hI:∀ b,c.I b->c'.I b/\c'.w.heap[b]?=c.w.heap[b]?):∀ (ps:List PV) (vs:List Value),(∀ l,PV.hasAny l ps=true->Zal c c' l)->VRs c ps vs->VRs c' ps vs
 | [],vs,_,h=>h
 | p::ps,vs,hl,h=>by
  simp only [VRs] at h ⊢
  obtain⟨v,rest,rfl,hv,hr⟩:=h
  exact⟨v,rest,rfl,VR.step hI p v (fun l h=>hl l (by simp [PV.hasAny,h])) hv,VRs.step hI ps rest (fun l h=>hl l (by simp [PV.hasAny,h])) hr⟩
end
def mvP(ag:Bool)(ts:List Zf):PV:=bif ag then .agg (ts.map .t) else (match ts with | [x] => .t x | _ => .agg (ts.map .t))
theorem Zh3(l:Nat):∀ (ts:List Zf),PV.hasAny l (ts.map .t)=false
 | []=>rfl
 | t::ts=>by simp only [List.map_cons,PV.hasAny,PV.has,Zh3 l ts,Bool.or_false]
theorem Zbdx(ag:Bool)(l:Nat)(ts:List Zf):(mvP ag ts).has l=false:=by
 unfold mvP
 cases ag with
 | true=>simp only [cond_true,PV.has,Zh3]
 | false=>
  simp only [cond_false]
  split
  .rfl
  .simp only [PV.has,Zh3]
def Zhb(c:Ctx)(ag:Bool):List MapEntry->List (Int×List Zf)->Prop
 | [],xs=>xs=[]
 | e::es,xs=>∃ n ts r,xs=(n,ts)::r/\e.key = .int .i64 n/\VR c (mvP ag ts) e.val/\Zhb c ag es r
theorem Zhb.step{c c':Ctx}{ag:Bool}(hI:∀ b,c.I b->c'.I b/\c'.w.heap[b]?=c.w.heap[b]?):∀ {es:List MapEntry} {xs:List (Int×List Zf)},Zhb c ag es xs->Zhb c' ag es xs
 | [],_,h=>h
 | e::es,xs,h=>by
  obtain⟨n,ts,r,h1,h2,h3,h4⟩:=h
  exact⟨n,ts,r,h1,h2,VR.step hI _ _ (fun l hl=>by rw [Zbdx] at hl;cases hl) h3,Zhb.step hI h4⟩
def Zf1(i:Nat)(es:List (List Zf))(cs:List PV):List PV:=((es.take i).flatten.map .t)++(cs++((es.drop (i+1)).flatten.map .t))
theorem Zxs(l:Nat):∀ (ps qs:List PV),PV.hasAny l (ps++qs)=(PV.hasAny l ps||PV.hasAny l qs)
 | [],_=>rfl
 | p::ps,qs=>by simp only [List.cons_append,PV.hasAny,Zxs l ps qs,Bool.or_assoc]
theorem Z7i(l i:Nat)(es:List (List Zf))(cs:List PV):PV.hasAny l (Zf1 i es cs)=PV.hasAny l cs:=by
 unfold Zf1
 rw [Zxs,Zxs,Zh3,Zh3,Bool.or_false,Bool.false_or]
def BR(c:Ctx)(l:Nat):Blk->Prop
 | .box ps=>∃ b vs,c.β l=some b/\Za4 c.w b ps.length/\Z5v c.w b vs/\VRs c ps vs/\ps.all PV.one=true
 | .row k es=>0 < k/\(∀ el,el∈es->el.length=k)/\((c.β l=none/\es=[]) \/
  ∃ b m,c.β l=some b/\Za4 c.w b m/\es.length*k<=m/\Zr c.I c.w b es 0)
 | .mat k q es=>q < k/\(∀ el,el∈es->el.length=k)/\((c.β l=none/\es=[]) \/
  ∃ b m,c.β l=some b/\Za4 c.w b m/\es.length*k<=m/\Zr (fun d=>c.I d\/Subs c.w b k q es.length d) c.w b es 0 /\
   (∀ i j d len len' cap cap',i < es.length->j < es.length->len≠0->len'≠0->c.w.cell? ⟨b,i*k+q,none⟩=some (.slice (some ⟨d,0,none⟩) len cap)->c.w.cell? ⟨b,j*k+q,none⟩=some (.slice (some ⟨d,0,none⟩) len' cap')->i=j) /\
   (∀ j e,es[j]?=some e->∃ inner a len cap,e[q]?=some (.sl inner)/\(∀ x,x∈inner->∃ t,x=[t]/\t.scal=true)/\c.w.cell? ⟨b,j*k+q,none⟩=some (.slice a len cap) /\
    (len≠0->∃ d m',a=some ⟨d,0,none⟩/\d≠b/\Za4 c.w d m'/\cap<=m')))
 | .map ag es=>∃ b ents clock,c.β l=some b/\c.w.heap[b]?=some (.map ents clock)/\Zhb c ag ents.toList es
 | .prow k i es cs=>0 < k/\(∀ el,el∈es->el.length=k)/\i < es.length/\cs.length=k/\cs.all PV.one=true /\
  ∃ b m vs,c.β l=some b/\Za4 c.w b m/\es.length*k<=m/\Z5v c.w b vs/\VRs c (Zf1 i es cs) vs
structure Frm where
 base:Nat
 w0:World
 own:Nat->Prop
 A:Nat->Prop
 β0:Nat->Option Nat
 σ0:Nat->Option Blk
structure St where
 n:Nat
 tm:List (Nat×PV)
 Z:List (Nat×Blk)
def Zae(β:Nat->Option Nat)(w:World)(l:Nat)(o:Blk)(b:Nat):Prop:=
 β l=some b\/∃ k q es b0,o = .mat k q es/\β l=some b0/\Subs w b0 k q es.length b
def Imm(G:Frm)(β:Nat->Option Nat)(w:World)(Z:List (Nat×Blk))(b:Nat):Prop:=
 b < w.heap.size/\(G.base<=b\/G.A b\/G.own b)/\∀ l o,get Z l=some o->¬ Zae β w l o b
def ctx(G:Frm)(β:Nat->Option Nat)(w:World)(Z:List (Nat×Blk)):Ctx:=⟨β,Imm G β w Z,w,Z⟩
inductive GK where
 | anyInt
 | cells (ts:List Zf)
structure Zbcf where
 gs:List (Nat×GK)
instance:Inhabited Zbcf:=⟨⟨[(0,.anyInt)]⟩⟩
def gset:List (Nat×GK):=(default:Zbcf).gs
def GAt(w:World)(g:Nat):GK->Prop
 | .anyInt=>∃ m,w.cell? ⟨g,0,none⟩=some (.int .i64 m)
 | .cells ts=>Zw (fun _=>False) w g ts 0
theorem GAt.mono{w w':World}{g:Nat}{k:GK}(hh:w'.heap[g]?=w.heap[g]?)(h:GAt w g k):GAt w' g k:=by
 cases k with
 | anyInt=>
  obtain⟨m,h⟩:=h
  exact⟨m,(World.cell?_of_block (w:=w) hh).trans h⟩
 | cells ts=>exact Zw.mono (fun b hb=>hb.elim) hh ts 0 h
def Zaj4(w:World):Prop:=∀ g k,(g,k)∈gset->g < w.heap.size/\GAt w g k
def R0(G:Frm)(β:Nat->Option Nat)(w:World)(Z:List (Nat×Blk)):Prop:=∀ l k es',l < 1000->get Z l=some (.row k es') ->
 ∃ es,G.σ0 l=some (.row k es)/\es.length<=es'.length/\(es.length=es'.length->β l=G.β0 l/\∀ b m,G.β0 l=some b->Za4 G.w0 b m->Za4 w b m)
theorem R0.one{G:Frm}{β β':Nat->Option Nat}{w w':World}{Z Z':List (Nat×Blk)}{l k:Nat}{es':List (List Zf)}(h:R0 G β w Z)(hL:Zal (ctx G β w Z) (ctx G β' w' Z') l)(hl:l < 1000)(hg:get Z' l=some (.row k es')) :
 ∃ es,G.σ0 l=some (.row k es)/\es.length<=es'.length/\(es.length=es'.length->β' l=G.β0 l/\∀ b m,G.β0 l=some b->Za4 G.w0 b m->Za4 w' b m):=by
 obtain⟨es1,h1,h2,h3⟩:=hL.1 k es' hg
 obtain⟨es,g1,g2,g3⟩:=h l k es1 hl h1
 refine⟨es,g1,Nat.le_trans g2 h2,fun he=>?_⟩
 obtain⟨a1,a2⟩:=g3 O
 obtain⟨b1,b2⟩:=h3 O
 exact⟨b1.trans a1,fun b m hb hr=>b2 b m (a1.trans hb) (a2 b m hb hr)⟩
theorem R0.step{G:Frm}{β β':Nat->Option Nat}{w w':World}{Z Z':List (Nat×Blk)}(h:R0 G β w Z)(hL:∀ l,l < 1000->Zal (ctx G β w Z) (ctx G β' w' Z') l):R0 G β' w' Z':=fun l k es' hl hg=>h.one (hL l hl) hl hg
theorem R0.sub{G:Frm}{β:Nat->Option Nat}{w:World}{Z Z':List (Nat×Blk)}(hσ:∀ l o,get Z' l=some o->get Z l=some o)(h:R0 G β w Z):R0 G β w Z':=fun l k es' hl hg=>h l k es' hl (hσ l _ hg)
structure Zan (G:Frm) (β:Nat->Option Nat) (st:St) (a:Act) (w:World):Prop where
 defers:a.defers=[]
 sz:st.n<=a.tmps.size
 base:G.base<=w.heap.size
 os:w.os=G.w0.os
 tape:w.tape=G.w0.tape
 output:w.output=G.w0.output
 old:∀ b,b < G.base->¬ G.own b->w.heap[b]?=G.w0.heap[b]?
 A:∀ b,G.A b->b < G.base/\¬ G.own b
 gl:∀ g k,(g,k)∈gset->g < G.base/\¬ G.own g/\G.A g/\GAt G.w0 g k
 inj:∀ l l' o o' b,get st.Z l=some o->get st.Z l'=some o'->Zae β w l o b->Zae β w l' o' b->l=l'
 sep:∀ l o b,get st.Z l=some o->Zae β w l o b->b < w.heap.size/\(G.base<=b\/G.own b)
 fix:∀ l cs,l < 1000->get st.Z l=some (.box cs)->β l=G.β0 l
 row0:R0 G β w st.Z
 blk:∀ l o,get st.Z l=some o->BR (ctx G β w st.Z) l o
 tm:∀ i p,get st.tm i=some p->i < st.n/\VR (ctx G β w st.Z) p (a.tmps.getD i undef)
theorem Zan.glw{G:Frm}{β:Nat->Option Nat}{st:St}{a:Act}{w:World}(h:Zan G β st a w):Zaj4 w:=fun g k hg=>by
 obtain⟨h1,h2,_,h3⟩:=h.gl g k hg
 exact⟨Nat.lt_of_lt_of_le h1 h.base,GAt.mono (h.old g h1 h2) h3⟩
theorem Zan.glI{G:Frm}{β:Nat->Option Nat}{st:St}{a:Act}{w:World}(h:Zan G β st a w){g:Nat}{k:GK}(hg:(g,k)∈gset):Imm G β w st.Z g:=by
 obtain⟨h1,h2,h3,_⟩:=h.gl g k hg
 refine⟨Nat.lt_of_lt_of_le h1 h.base,.inr (.inl h3),fun l o hl hb=>?_⟩
 rcases (h.sep l o g hl hb).2 with h4 | h4
 .exact absurd h1 (Nat.not_lt_of_le h4)
 .exact h2 h4
def Rel(G:Frm)(st:St)(a:Act)(w:World):Prop:=∃ β,Zan G β st a w
def PW(P:Program)(c:Code)(Q:Exit->St->Prop)(st:St):Prop:=
 ∀ G a w,Rel G st a w->c.wp P (fun e a' w'=>∃ st',Q e st'/\Rel G st' a' w') a w
end Go.PW
namespace Go.PW
open Go.RowKit
theorem Imm.sub{G:Frm}{β:Nat->Option Nat}{w:World}{Z Z':List (Nat×Blk)}(hσ:∀ l o,get Z' l=some o->get Z l=some o)(b:Nat)(h:Imm G β w Z b):Imm G β w Z' b:=by
 obtain⟨h1,h2,h3⟩:=h
 exact⟨h1,h2,fun l o hl=>h3 l o (hσ l o hl)⟩
theorem Zal.sub{G:Frm}{β:Nat->Option Nat}{w:World}{Z Z':List (Nat×Blk)}(hσ:∀ l o,get Z' l=some o->get Z l=some o)(l:Nat):Zal (ctx G β w Z) (ctx G β w Z') l:=
 ⟨fun _ es' h=>⟨es',hσ l _ h,Nat.le_refl _,fun _=>⟨rfl,fun _ _ _ h=>h⟩⟩,fun cs' h=>⟨cs',hσ l _ h,rfl⟩,fun _ _ es' h=>⟨es',hσ l _ h,Nat.le_refl _,fun _=>⟨rfl,fun _ _=>⟨fun _ h=>h,fun _ _=>rfl⟩⟩⟩,fun _ es' h=>⟨es',hσ l _ h,rfl⟩,fun _ _ es' cs' h=>⟨es',cs',hσ l _ h,rfl,rfl,fun _ _ _ h=>h⟩⟩
theorem Subs.of_heap{w w':World}{b k q n d:Nat}(h:w'.heap[b]?=w.heap[b]?)(hs:Subs w' b k q n d):Subs w b k q n d:=by
 obtain⟨j,hj,len,cap,hl,hc⟩:=hs
 exact⟨j,hj,len,cap,hl,(World.cell?_of_block (w:=w) h).symm.trans hc⟩
theorem Zae.of_heap{β:Nat->Option Nat}{w w':World}{l:Nat}{o:Blk}{b:Nat}(h:∀ b,β l=some b->w'.heap[b]?=w.heap[b]?)(ho:Zae β w' l o b):Zae β w l o b:=by
 rcases ho with ho | ⟨k,q,es,b0,h1,h2,h3⟩
 .exact .inl ho
 .exact .inr ⟨k,q,es,b0,h1,h2,h3.of_heap (h b0 h2)⟩
theorem Zae.of{β β':Nat->Option Nat}{w w':World}{l:Nat}{o:Blk}{b:Nat}(hβ:β' l=β l)(h:∀ b,β l=some b->w'.heap[b]?=w.heap[b]?)(ho:Zae β' w' l o b):Zae β w l o b:=by
 rcases ho with ho | ⟨k,q,es,b0,h1,h2,h3⟩
 .exact .inl (hβ▸ho)
 .rw [hβ] at h2;exact .inr ⟨k,q,es,b0,h1,h2,h3.of_heap (h b0 h2)⟩
theorem Zae.of_cell{β:Nat->Option Nat}{w w':World}{l:Nat}{o:Blk}{b:Nat}(h:∀ a,w'.cell? a=w.cell? a)(ho:Zae β w' l o b):Zae β w l o b:=by
 rcases ho with ho | ⟨k,q,es,b0,h1,h2,j,hj,len,cap,hl,hc⟩
 .exact .inl ho
 .exact .inr ⟨k,q,es,b0,h1,h2,j,hj,len,cap,hl,(h _).symm.trans hc⟩
def Blk.flat:Blk->Prop
 | .mat _ _ _=>False
 | _=>True
theorem Zae.flat{β:Nat->Option Nat}{w:World}{l:Nat}{o:Blk}{b:Nat}(hf:o.flat)(ho:Zae β w l o b):β l=some b:=by
 rcases ho with ho | ⟨k,q,es,b0,rfl,_⟩
 .exact ho
 .exact hf.elim
theorem Za4.of_heap{w w':World}{b m:Nat}(h:w'.heap[b]?=w.heap[b]?)(hr:Za4 w b m):Za4 w' b m:=by unfold Za4;rw [h];exact hr
theorem BR.step{c c':Ctx}(hI:∀ b,c.I b->c'.I b/\c'.w.heap[b]?=c.w.heap[b]?){l:Nat}{o:Blk}(hβ:c'.β l=c.β l)(hh:∀ b,Zae c.β c.w l o b->c'.w.heap[b]?=c.w.heap[b]?)
 (hl:∀ m,o.has m=true->Zal c c' m) (h:BR c l o):BR c' l o:=by
 have hrow:∀ b m,c.β l=some b->Za4 c.w b m->Za4 c'.w b m:=fun b m hb h=>h.of_heap (hh b (.inl hb))
 cases o with
 | box ps=>
  obtain⟨b,vs,hb,hr,hcs,hv,h1⟩:=h
  exact⟨b,vs,hβ.trans hb,hrow b _ hb hr,fun j v hj=>(World.cell?_of_block (w:=c.w) (hh b (.inl hb))).trans (hcs j v hj),VRs.step hI _ _ (fun m hm=>hl m hm) hv,h1⟩
 | row k es=>
  obtain⟨h0,hk,h⟩:=h
  refine⟨h0,hk,?_⟩
  rcases h with ⟨hb,he⟩ | ⟨b,m,hb,hr,hsz,het⟩
  .exact .inl ⟨hβ.trans hb,he⟩
  .exact .inr ⟨b,m,hβ.trans hb,hrow b m hb hr,hsz,Zr.mono hI (hh b (.inl hb)) _ _ het⟩
 | mat k q es=>
  obtain⟨h0,hk,h⟩:=h
  refine⟨h0,hk,?_⟩
  rcases h with ⟨hb,he⟩ | ⟨b,m,hb,hr,hsz,het,hd,hin⟩
  .exact .inl ⟨hβ.trans hb,he⟩
  .have hbh:=hh b (.inl hb)
   have hc:∀ j,c'.w.cell? ⟨b,j*k+q,none⟩=c.w.cell? ⟨b,j*k+q,none⟩:=fun j=>World.cell?_of_block (w:=c.w) hbh
   refine .inr ⟨b,m,hβ.trans hb,hrow b m hb hr,hsz,Zr.mono (fun d hd=>?_) hbh _ _ het,fun i j d len len' cap cap' hi hj hl hl' h1 h2=>hd i j d len len' cap cap' hi hj hl hl' ((hc i).symm.trans h1) ((hc j).symm.trans h2),fun j e he=>?_⟩
   .rcases hd with hd | hd
    .exact⟨.inl (hI d hd).1,(hI d hd).2⟩
    .refine⟨.inr ?_,hh d (.inr ⟨k,q,es,b,rfl,hb,hd⟩)⟩
     obtain⟨j,hj,len,cap,hl,hcc⟩:=hd
     exact⟨j,hj,len,cap,hl,(hc j).trans hcc⟩
   .obtain⟨inner,a,len,cap,h1,h2,h3,h4⟩:=hin j e he
    refine⟨inner,a,len,cap,h1,h2,(hc j).trans h3,fun hl=>?_⟩
    obtain⟨d,m',h5,h6,h7,h8⟩:=h4 hl
    have hj:=(List.getElem?_eq_some_iff.1 he).1
    exact⟨d,m',h5,h6,h7.of_heap (hh d (.inr ⟨k,q,es,b,rfl,hb,j,hj,len,cap,hl,by rw [h3,h5]⟩)),h8⟩
 | map ag es=>
  obtain⟨b,ents,clock,hb,hm,he⟩:=h
  exact⟨b,ents,clock,hβ.trans hb,(hh b (.inl hb)).trans hm,he.step hI⟩
 | prow k i es cs=>
  obtain⟨h0,hk,hi,hc,h1,b,m,vs,hb,hr,hsz,hcs,hv⟩:=h
  exact⟨h0,hk,hi,hc,h1,b,m,vs,hβ.trans hb,hrow b m hb hr,hsz,fun j v hj=>(World.cell?_of_block (w:=c.w) (hh b (.inl hb))).trans (hcs j v hj),VRs.step hI _ _ (fun q hq=>hl q (by rw [Z7i] at hq;exact hq)) hv⟩
theorem Zal.none{c c':Ctx}{l:Nat}(h:get c'.Z l=none):Zal c c' l:=
 ⟨fun _ _ hg=>(by rw [h] at hg;cases hg),fun _ hg=>(by rw [h] at hg;cases hg),fun _ _ _ hg=>(by rw [h] at hg;cases hg),fun _ _ hg=>(by rw [h] at hg;cases hg),fun _ _ _ _ hg=>(by rw [h] at hg;cases hg)⟩
theorem Zal.same{c c':Ctx}{l:Nat}(hσ:get c'.Z l=get c.Z l)(hβ:c'.β l=c.β l)(hw:∀ b,c.β l=some b->c'.w.heap[b]?=c.w.heap[b]?):Zal c c' l:=
 ⟨fun _ es' h=>⟨es',hσ▸h,Nat.le_refl _,fun _=>⟨hβ,fun b _ hb hr=>hr.of_heap (hw b hb)⟩⟩,fun cs' h=>⟨cs',hσ▸h,hβ⟩,
  fun _ _ es' h=>⟨es',hσ▸h,Nat.le_refl _,fun _=>⟨hβ,fun b hb=>⟨fun _ hr=>hr.of_heap (hw b hb),fun _ _=>World.cell?_of_block (w:=c.w) (hw b hb)⟩⟩⟩,fun _ es' h=>⟨es',hσ▸h,hβ⟩,fun _ _ es' cs' h=>⟨es',cs',hσ▸h,rfl,hβ,fun b _ hb hr=>hr.of_heap (hw b hb)⟩⟩
theorem Zan.sub{G:Frm}{β:Nat->Option Nat}{st st':St}{a:Act}{w:World}(h:Zan G β st a w)(hn:st'.n<=st.n)(ht:∀ i p,get st'.tm i=some p->get st.tm i=some p/\i < st'.n)
 (hσ:∀ l o,get st'.Z l=some o->get st.Z l=some o):Zan G β st' a w:=by
 have hI:∀ b,(ctx G β w st.Z).I b->(ctx G β w st'.Z).I b/\(ctx G β w st'.Z).w.heap[b]?=(ctx G β w st.Z).w.heap[b]?:=fun b hb=>⟨Imm.sub hσ b hb,rfl⟩
 exact { defers := h.defers, sz := Nat.le_trans hn h.sz, base := h.base, os := h.os, tape := h.tape, output := h.output, old := h.old, A := h.A, gl := h.gl,
         inj:=fun l l' o o' b hl hl'=>h.inj l l' o o' b (hσ l o hl) (hσ l' o' hl'),
         sep:=fun l o b hl=>h.sep l o b (hσ l o hl),
         fix:=fun l cs h1 hl=>h.fix l cs h1 (hσ l _ hl),row0:=h.row0.sub hσ,
         blk:=fun l o hl=>BR.step hI rfl (fun _ _=>rfl) (fun m _=>Zal.sub hσ m) (h.blk l o (hσ l o hl)),
         tm:=fun i p hi=>⟨(ht i p hi).2,VR.step hI p _ (fun m _=>Zal.sub hσ m) (h.tm i p (ht i p hi).1).2⟩ }
def Wk(st st':St):Prop:=∀ G a w,Rel G st a w->Rel G st' a w
theorem Wk.refl(st:St):Wk st st:=fun _ _ _ h=>h
theorem Wk.trans{a b c:St}(h:Wk a b)(k:Wk b c):Wk a c:=fun G x w r=>k G x w (h G x w r)
section rules
variable {P:Program} {Q Q':Exit->St->Prop} {st:St}
theorem PW.weaken{c:Code}{st':St}(hw:Wk st st')(h:PW P c Q st'):PW P c Q st:=fun G a w hr=>h G a w (hw G a w hr)
theorem PW.skip(h:Q .normal st):PW P .skip Q st:=fun _ _ _ hr=>wp_skip ⟨st,h,hr⟩
theorem PW.label{l:Nat}(h:Q .normal st):PW P (.label l) Q st:=fun _ _ _ hr=>wp_label ⟨st,h,hr⟩
theorem PW.exit{id:Nat}(h:Q (.exit id) st):PW P (.exit id) Q st:=fun _ _ _ hr=>wp_exit ⟨st,h,hr⟩
theorem PW.ret(h:Q .ret st):PW P .ret Q st:=fun _ _ _ hr=>wp_ret ⟨st,h,hr⟩
def Zz1(next:St->Prop)(Q:Exit->St->Prop):Exit->St->Prop
 | .normal,st=>next st
 | e,st=>Q e st
theorem PW.seq{x y:Code}(h:PW P x (Zz1 (PW P y Q) Q) st):PW P (.seq x y) Q st:=by
 intro G a w hr
 refine wp_seq (wp_mono (h G a w hr) ?_)
 rintro e a' w' ⟨st',hq,hr'⟩
 cases e<;>simp only [Zz1,Exit.then] at hq ⊢
 case normal=>exact hq G a' w' hr'
 all_goals exact⟨st',hq,hr'⟩
theorem PW.cond{c:Operand}{x y:Code}{t:Nat}{b:Bool}(hc:c = .tmp t)(hg:get st.tm t=some (.t (.bool b)))(ht:b=true->PW P x Q st)(hf:b=false->PW P y Q st) :
 PW P (.cond c x y) Q st:=by
 intro G a w hr
 obtain⟨β,h⟩:=hr
 have hv:=(h.tm t _ hg).2
 simp only [VR,Z0] at hv
 subst hc
 exact wp_cond_split (t:=b) hv (fun hb=>ht hb G a w ⟨β,h⟩) (fun hb=>hf hb G a w ⟨β,h⟩)
theorem PW.condConst{x y:Code}{b:Bool}(ht:b=true->PW P x Q st)(hf:b=false->PW P y Q st) :
 PW P (.cond (.const (.bool b)) x y) Q st:=by
 intro G a w hr
 exact wp_cond_split (t:=b) rfl (fun hb=>ht hb G a w hr) (fun hb=>hf hb G a w hr)
def Zzx(id:Nat)(Q:Exit->St->Prop):Exit->St->Prop
 | .exit id',st=>if id'=id then Q .normal st else Q (.exit id') st
 | e,st=>Q e st
theorem PW.block{id:Nat}{c:Code}(h:PW P c (Zzx id Q) st):PW P (.block id c) Q st:=by
 intro G a w hr
 refine wp_block (wp_mono (h G a w hr) ?_)
 rintro e a' w' ⟨st',hq,hr'⟩
 cases e<;>simp only [Zzx,Exit.inBlock] at hq ⊢
 case exit id'=>
  split
  .rename_i he;simp only [he,if_true] at hq;exact⟨st',hq,hr'⟩
  .rename_i he;simp only [he,if_false] at hq;exact⟨st',hq,hr'⟩
 all_goals exact⟨st',hq,hr'⟩
def NoGo(Q:Exit->St->Prop):Exit->St->Prop
 | .goto _,_=>False
 | e,st=>Q e st
theorem PW.scope{c:Code}(h:PW P c (NoGo Q) st):PW P (.scope c) Q st:=by
 intro G a w hr
 refine wp_scope_straight (wp_mono (h G a w hr) ?_)
 rintro e a' w' ⟨st',hq,hr'⟩
 cases e<;>simp only [NoGo,Exit.noGoto] at hq ⊢
 all_goals exact⟨st',hq,hr'⟩
end rules
def Zas(P:Program)(o:Oper)(ρ:List (Nat×PV))(Z:List (Nat×Blk))(need:List Nat)(p:PV)(news:List (Nat×Blk)):Prop:=
 ∀ (G:Frm) (n:Nat) (tm:List (Nat×PV)) (Z':List (Nat×Blk)) (a:Act) (w:World) (K:Act->World->Prop) (Q:Exit->Act->World->Prop),
  (∀ t q,Operand.tmp t∈o.op.operands->get ρ t=some q->get tm t=some q) ->
  (∀ l,l∈need->get Z' l=get Z l) ->
  (∀ l x,(l,x)∈news->(∀ i q,get tm i=some q->q.has l=false)/\(∀ m y,get Z' m=some y->m≠l/\y.has l=false)) ->
  Rel G ⟨n,tm,Z'⟩ a w ->
  (∀ v w',(∃ β,Zan G β ⟨n,tm,news++Z'⟩ a w'/\VR (ctx G β w' (news++Z')) p v)->K (a.put o.dst v) w') ->
  o.wp P a w K Q
def Zxt(P:Program)(o:Oper)(st st':St):Prop:=
 ∀ (G:Frm) (a:Act) (w:World) (K:Act->World->Prop) (Q:Exit->Act->World->Prop),Rel G st a w->(∀ a' w',Rel G st' a' w'->K a' w')->o.wp P a w K Q
theorem Zan.put{G:Frm}{β:Nat->Option Nat}{n:Nat}{tm:List (Nat×PV)}{Z:List (Nat×Blk)}{a:Act}{w:World}{d:Nat}{p:PV}{v:Value}
 (h:Zan G β ⟨n,tm,Z⟩ a w) (hd:d < n) (hv:VR (ctx G β w Z) p v):Zan G β ⟨n,put tm d p,Z⟩ (a.put (some d) v) w:=by
 have hsz:d < a.tmps.size:=Nat.lt_of_lt_of_le hd h.sz
 exact { defers := h.defers, sz := by simpa [Act.put] using h.sz, base := h.base, os := h.os, tape := h.tape, output := h.output, old := h.old, A := h.A, gl := h.gl, inj := h.inj, sep := h.sep, fix := h.fix, row0 := h.row0, blk := h.blk,
         tm:=fun i q hq=>by
          by_cases hi:d=i
          .subst hi
           rw [Zca] at hq
           cases hq
           refine⟨hd,?_⟩
           simpa [Act.put,hsz] using hv
          .rw [Zb5 _ _ hi] at hq
           refine⟨(h.tm i q hq).1,?_⟩
           have:=(h.tm i q hq).2
           simpa [Act.put,Array.getElem?_setIfInBounds_ne hi] using this }
def Zbo{α:Type}:List Nat->List (Nat×α)->List (Nat×α)
 | [],Z=>Z
 | l::ls,Z=>Zbo ls (del Z l)
theorem Zz2{α:Type}:∀ {ls:List Nat} {Z:List (Nat×α)} {m:Nat} {o:α},get (Zbo ls Z) m=some o->m∉ls/\get Z m=some o
 | [],Z,m,o,h=>⟨by simp,h⟩
 | l::ls,Z,m,o,h=>by
  obtain⟨h1,h2⟩:=Zz2 (ls:=ls) h
  by_cases hm:l=m
  .subst hm;rw [Zaud] at h2;cases h2
  .rw [Zxr _ hm] at h2
   exact⟨by simp [h1,Ne.symm hm],h2⟩
theorem Z7j{α:Type}:∀ {ls:List Nat} {Z:List (Nat×α)} {m:Nat},m∉ls->get (Zbo ls Z) m=get Z m
 | [],Z,m,_=>rfl
 | l::ls,Z,m,h=>by
  simp only [List.mem_cons,not_or] at h
  rw [Zbo,Z7j h.2,Zxr _ (Ne.symm h.1)]
def OpF(P:Program)(o:Oper)(ρ:List (Nat×PV))(Z:List (Nat×Blk))(need rm:List Nat)(p:PV)(news:List (Nat×Blk)):Prop:=
 ∀ (G:Frm) (n:Nat) (tm:List (Nat×PV)) (Z':List (Nat×Blk)) (a:Act) (w:World) (K:Act->World->Prop) (Q:Exit->Act->World->Prop),
  (∀ t q,Operand.tmp t∈o.op.operands->get ρ t=some q->get tm t=some q) ->
  (∀ l,l∈need->get Z' l=get Z l) ->
  (∀ l x,(l,x)∈news->l∉rm->(∀ i q,get tm i=some q->q.has l=false)/\(∀ m y,get Z' m=some y->m≠l/\y.has l=false)) ->
  Rel G ⟨n,tm,Z'⟩ a w ->
  (∀ v w',(∃ β,Zan G β ⟨n,tm,news++Zbo rm Z'⟩ a w'/\VR (ctx G β w' (news++Zbo rm Z')) p v)->K (a.put o.dst v) w') ->
  o.wp P a w K Q
theorem Zas.toF{P:Program}{o:Oper}{ρ:List (Nat×PV)}{Z:List (Nat×Blk)}{need:List Nat}{p:PV}{news:List (Nat×Blk)}(h:Zas P o ρ Z need p news):OpF P o ρ Z need [] p news:=
 fun G n tm Z' a w K Q h1 h2 h3 hr hK=>h G n tm Z' a w K Q h1 h2 (fun l x hx=>h3 l x hx (by simp)) hr hK
end Go.PW
