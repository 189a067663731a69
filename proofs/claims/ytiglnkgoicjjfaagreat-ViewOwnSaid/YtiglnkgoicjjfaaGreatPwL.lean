import Derived.Orders
import Derived.Tactics
import Derived.Deep.MidRow
import Derived.Deep.AppendSrc
import Derived.Great.BuildSlice
import Derived.Below
import Derived.Scope
import Derived.Laws.StructEq
import Derived.ChangeKeysEq
import Derived.Laws.MakeOwn
set_option linter.all false
namespace Go.PW
open Go.RowKit
inductive Zb where
 | bool (b:Bool)
 | int (k:IntKind) (n:Int)
 | str (s:List UInt8)
 | con (v:Value)
 | sl (es:List (List Zb))
 deriving Inhabited
def nsc:Value->Bool
 | .bool _=>false
 | .int _ _=>false
 | .string _=>false
 | _=>true
def Zb.scal:Zb->Bool
 | .sl es=>es.isEmpty
 | _=>true
mutual
def Zx(I:Nat->Prop)(w:World):Zb->Value->Prop
 | .bool b,v=>v = .bool b
 | .int k n,v=>v = .int k n
 | .str s,v=>v = .string ⟨s.toArray⟩
 | .con c,v=>v=c/\c.oneCell'=true/\nsc c=true
 | .sl es,v=>∃ a cap,v = .slice a es.length cap/\es.length<=cap/\cap<=maxLen /\
  (es=[]\/∃ b off,a=some ⟨b,off,none⟩/\I b/\Zm I w b es off)
def Zm(I:Nat->Prop)(w:World)(b:Nat):List (List Zb)->Nat->Prop
 | [],_=>True
 | e::es,off=>Z1 I w b e off/\Zm I w b es (off+e.length)
def Z1(I:Nat->Prop)(w:World)(b:Nat):List Zb->Nat->Prop
 | [],_=>True
 | t::ts,off=>(∃ c,w.cell? ⟨b,off,none⟩=some c/\Zx I w t c)/\Z1 I w b ts (off+1)
end
mutual
def Zko(I:Nat->Prop)(w:World):Zb->Value->Prop
 | .bool _,v=>∃ b,v = .bool b
 | .int k _,v=>∃ n,v = .int k n
 | .str _,v=>∃ s:List UInt8,v = .string ⟨s.toArray⟩
 | .con c,v=>v=c/\c.oneCell'=true/\nsc c=true
 | .sl es,v=>∃ a cap,v = .slice a es.length cap/\es.length<=cap/\cap<=maxLen /\
  (es=[]\/∃ b off,a=some ⟨b,off,none⟩/\I b/\Zjq I w b es off)
def Zjq(I:Nat->Prop)(w:World)(b:Nat):List (List Zb)->Nat->Prop
 | [],_=>True
 | e::es,off=>Zgh I w b e off/\Zjq I w b es (off+e.length)
def Zgh(I:Nat->Prop)(w:World)(b:Nat):List Zb->Nat->Prop
 | [],_=>True
 | t::ts,off=>(∃ c,w.cell? ⟨b,off,none⟩=some c/\Zko I w t c)/\Zgh I w b ts (off+1)
end
def Za7(w:World)(b m:Nat):Prop:=∃ cs e fr,w.heap[b]?=some (.cells cs e fr)/\cs.size=m/\(fr=(0,0)\/False)
def Zxu(c c':Value):Prop:=c'=c\/(∃ b b',c = .bool b/\c' = .bool b')\/(∃ k n n',c = .int k n/\c' = .int k n')\/∃ s s':List UInt8,c = .string ⟨s.toArray⟩/\c' = .string ⟨s'.toArray⟩
def ShB(h:Bool)(w w':World)(b:Nat):Prop:=bif h then (∀ off c,w.cell? ⟨b,off,none⟩=some c->∃ c',w'.cell? ⟨b,off,none⟩=some c'/\Zxu c c')/\(∀ m,Za7 w b m->Za7 w' b m) else w'.heap[b]?=w.heap[b]?
def Z09(h:Bool)(I:Nat->Prop)(w:World)(x:Zb)(v:Value):Prop:=bif h then Zko I w x v else Zx I w x v
def Zkp(h:Bool)(I:Nat->Prop)(w:World)(b:Nat)(cs:List Zb)(off:Nat):Prop:=bif h then Zgh I w b cs off else Z1 I w b cs off
theorem Zx.oneCell{I:Nat->Prop}{w:World}{t:Zb}{v:Value}(h:Zx I w t v):v.oneCell'=true:=by
 cases t<;>simp only [Zx] at h
 case con c=>obtain⟨rfl,h,_⟩:=h;exact h
 case sl es=>obtain⟨a,cap,rfl,_⟩:=h;rfl
 all_goals (subst h;rfl)
mutual
theorem Zx.mono{I I':Nat->Prop}{w w':World}(hI:∀ b,I b->I' b/\w'.heap[b]?=w.heap[b]?):∀ (t:Zb) (v:Value),Zx I w t v->Zx I' w' t v
 | .bool _,_,h=>h
 | .int _ _,_,h=>h
 | .str _,_,h=>h
 | .con _,_,h=>h
 | .sl es,v,h=>by
  simp only [Zx] at h⊢
  obtain⟨a,cap,hv,h1,h2,h3⟩:=h
  refine⟨a,cap,hv,h1,h2,?_⟩
  rcases h3 with h3 | ⟨b,off,ha,hb,he⟩
  .exact .inl h3
  .exact .inr ⟨b,off,ha,(hI b hb).1,Zm.mono hI (hI b hb).2 es off he⟩
theorem Zm.mono{I I':Nat->Prop}{w w':World}(hI:∀ b,I b->I' b/\w'.heap[b]?=w.heap[b]?){b:Nat}(hb:w'.heap[b]?=w.heap[b]?) :
 ∀ (es:List (List Zb)) (off:Nat),Zm I w b es off->Zm I' w' b es off
 | [],_,_=>trivial
 | e::es,off,h=>by
  simp only [Zm] at h⊢
  exact⟨Z1.mono hI hb e off h.1,Zm.mono hI hb es _ h.2⟩
theorem Z1.mono{I I':Nat->Prop}{w w':World}(hI:∀ b,I b->I' b/\w'.heap[b]?=w.heap[b]?){b:Nat}(hb:w'.heap[b]?=w.heap[b]?) :
 ∀ (ts:List Zb) (off:Nat),Z1 I w b ts off->Z1 I' w' b ts off
 | [],_,_=>trivial
 | t::ts,off,h=>by
  simp only [Z1] at h⊢
  obtain⟨⟨c,hc,ht⟩,hr⟩:=h
  exact⟨⟨c,(World.cell?_of_block (w:=w) hb).trans hc,Zx.mono hI t c ht⟩,Z1.mono hI hb ts _ hr⟩
end
inductive OD where
 | tail (n i:Nat)
 | msl (n:Nat)
 | mpt (n j off:Nat)
 | mrow (n j:Nat)
 | mel (n j i:Nat)
 | map
 | pw (n:Nat)
 | pp (n off:Nat)
 | rg (x:Zb)
 | rp (cs:List Zb)
 | xw (n:Nat)
 | xp (n j off:Nat)
 deriving Inhabited
inductive PV where
 | t (x:Zb)
 | nils
 | osl (l n:Nat)
 | bptr (l off:Nat)
 | rptr (l n i off:Nat)
 | vptr (cs:List Zb)
 | agg (cs:List PV)
 | tup (cs:List PV)
 | fn (f:FuncId) (caps:List PV)
 | own (l:Nat) (d:OD)
 deriving Inhabited
inductive MK where
 | v (ag:Bool)
 | rows (k:Nat) (hole:Option Int)
 deriving Inhabited
inductive Blk where
 | box (cs:List PV)
 | row (k:Nat) (es:List (List Zb))
 | mat (k q:Nat) (es:List (List Zb))
 | map (mk:MK) (es:List (Int×List Zb))
 | prow (k i:Nat) (es:List (List Zb)) (cs:List PV)
 | reg (h:Bool)
 | xrow (k i r:Nat) (es:List (List Zb))
 deriving Inhabited
def Blk.rgn:Blk->Bool
 | .reg _=>true
 | _=>false
def get{α:Type}:List (Nat×α)->Nat->Option α
 | [],_=>none
 | (j,x)::l,i=>bif Nat.beq j i then some x else get l i
def del{α:Type}:List (Nat×α)->Nat->List (Nat×α)
 | [],_=>[]
 | (j,x)::l,i=>bif Nat.beq j i then del l i else (j,x)::del l i
def put{α:Type}(l:List (Nat×α))(i:Nat)(x:α):List (Nat×α):=(i,x)::del l i
def Zxv:List Nat->Nat->Bool
 | [],_=>false
 | j::l,i=>bif Nat.beq j i then true else Zxv l i
theorem Zu(a b:Nat):Nat.beq a b=true↔a=b:=by rw [Nat.beq_eq]
theorem Zdi{a b:Nat}(h:a≠b):Nat.beq a b=false:=by
 cases hb:Nat.beq a b with
 | false=>rfl
 | true=>exact absurd ((Zu a b).1 hb) h
theorem Zalk{α:Type}(l:List (Nat×α))(i:Nat):get (del l i) i=none:=by
 induction l with
 | nil=>rfl
 | cons p l ih=>
  obtain⟨j,x⟩:=p
  simp only [del]
  cases hb:Nat.beq j i with
  | true=>simpa using ih
  | false=>simp only [cond_false,get,hb];exact ih
theorem Zvq{α:Type}(l:List (Nat×α)){i j:Nat}(h:i≠j):get (del l i) j=get l j:=by
 induction l with
 | nil=>rfl
 | cons p l ih=>
  obtain⟨m,x⟩:=p
  simp only [del]
  cases hb:Nat.beq m i with
  | true=>
   have:m=i:=(Zu _ _).1 hb
   subst this
   simp only [cond_true,get,Zdi h,cond_false]
   exact ih
  | false=>simp only [cond_false,get];rw [ih]
theorem Zb4{α:Type}(l:List (Nat×α))(i:Nat)(x:α):get (put l i x) i=some x:=by
 simp [put,get]
theorem Zcf{α:Type}(l:List (Nat×α)){i j:Nat}(x:α)(h:i≠j):get (put l i x) j=get l j:=by
 simp only [put,get,Zdi h,cond_false]
 exact Zvq l h
mutual
def PV.has(l:Nat):PV->Bool
 | .t _=>false
 | .nils=>false
 | .osl m _=>Nat.beq m l
 | .bptr m _=>Nat.beq m l
 | .rptr m _ _ _=>Nat.beq m l
 | .vptr _=>false
 | .agg cs=>PV.hasAny l cs
 | .tup cs=>PV.hasAny l cs
 | .fn _ cs=>PV.hasAny l cs
 | .own m _=>Nat.beq m l
def PV.hasAny(l:Nat):List PV->Bool
 | []=>false
 | p::ps=>p.has l||PV.hasAny l ps
end
def Blk.has(l:Nat):Blk->Bool
 | .box cs=>PV.hasAny l cs
 | .row _ _=>false
 | .mat _ _ _=>false
 | .map _ _=>false
 | .prow _ _ _ cs=>PV.hasAny l cs
 | .reg _=>false
 | .xrow _ _ r _=>Nat.beq r l
structure Ctx where
 β:Nat->Option Nat
 I:Nat->Prop
 w:World
 σ:List (Nat×Blk)
def Zxo(w:World)(b:Nat)(vs:List Value):Prop:=∀ j v,vs[j]?=some v->w.cell? ⟨b,j,none⟩=some v
def OSl(c:Ctx)(l n:Nat)(v:Value):Prop:=
 ∀ k es,get c.σ l=some (.row k es)->n<=es.length/\(n=es.length ->
  ∃ a cap,v = .slice a n cap/\n<=cap/\cap<=maxLen /\
   ((cap=0/\c.β l=none)\/∃ b m,a=some ⟨b,0,none⟩/\c.β l=some b/\Za7 c.w b m/\cap*k<=m))
def BPt(c:Ctx)(l off:Nat)(v:Value):Prop:=
 ∀ cs,get c.σ l=some (.box cs)->∃ b,c.β l=some b/\v = .pointer (some ⟨b,off,none⟩)
def RPt(c:Ctx)(l n i off:Nat)(v:Value):Prop:=
 ∀ k es,get c.σ l=some (.row k es)->n<=es.length/\(n=es.length->∃ b,c.β l=some b/\v = .pointer (some ⟨b,i*k+off,none⟩))
def Subs(w:World)(b k q n:Nat)(d:Nat):Prop:=∃ j,j < n/\∃ len cap,len≠0/\w.cell? ⟨b,j*k+q,none⟩=some (.slice (some ⟨d,0,none⟩) len cap)
def ODR(c:Ctx)(l:Nat)(v:Value):OD->Prop
 | .tail n i=>∀ k es,get c.σ l=some (.row k es)->n<=es.length/\(n=es.length ->
  ∃ a cap,v = .slice a (n - i) cap/\cap<=maxLen/\((n - i=0/\cap=0)\/∃ b m,a=some ⟨b,i*k,none⟩/\c.β l=some b/\Za7 c.w b m/\i*k+cap*k<=m))
 | .msl n=>∀ k q es,get c.σ l=some (.mat k q es)->n<=es.length/\(n=es.length ->
  ∃ a cap,v = .slice a n cap/\n<=cap/\cap<=maxLen/\((cap=0/\c.β l=none)\/∃ b m,a=some ⟨b,0,none⟩/\c.β l=some b/\Za7 c.w b m/\cap*k<=m))
 | .mpt n j off=>∀ k q es,get c.σ l=some (.mat k q es)->n<=es.length/\(n=es.length->∃ b,c.β l=some b/\v = .pointer (some ⟨b,j*k+off,none⟩))
 | .mrow n j=>j < n/\∀ k q es,get c.σ l=some (.mat k q es)->n<=es.length/\(n=es.length->∃ b,c.β l=some b/\c.w.cell? ⟨b,j*k+q,none⟩=some v)
 | .mel n j i=>j < n/\∀ k q es,get c.σ l=some (.mat k q es)->n<=es.length/\(n=es.length ->
  ∃ b d len cap,c.β l=some b/\c.w.cell? ⟨b,j*k+q,none⟩=some (.slice (some ⟨d,0,none⟩) len cap)/\v = .pointer (some ⟨d,i,none⟩))
 | .map=>∀ ag es,get c.σ l=some (.map ag es)->∃ b,c.β l=some b/\v = .map (some b)
 | .pw n=>∀ k i es cs,get c.σ l=some (.prow k i es cs)->n<=es.length/\(n=es.length->∃ b m cap,v = .slice (some ⟨b,0,none⟩) n cap/\n<=cap/\cap<=maxLen/\c.β l=some b/\Za7 c.w b m/\cap*k<=m)
 | .pp n off=>∀ k i es cs,get c.σ l=some (.prow k i es cs)->n<=es.length/\(n=es.length->∃ b,c.β l=some b/\v = .pointer (some ⟨b,i*k+off,none⟩))
 | .rg x=>∀ h,get c.σ l=some (.reg h)->∃ n,c.β l=some n/\Z09 h (fun b=>n.testBit b=true) c.w x v
 | .rp cs=>∀ h,get c.σ l=some (.reg h)->∃ n b off,c.β l=some n/\v = .pointer (some ⟨b,off,none⟩)/\(cs≠[]->n.testBit b=true)/\Zkp h (fun b=>n.testBit b=true) c.w b cs off
 | .xw n=>∀ k i r es,get c.σ l=some (.xrow k i r es)->n<=es.length/\(n=es.length->∃ a cap,v = .slice a n cap/\n<=cap/\cap<=maxLen/\((cap=0/\c.β l=none)\/∃ b m,a=some ⟨b,0,none⟩/\c.β l=some b/\Za7 c.w b m/\cap*k<=m))
 | .xp n j off=>∀ k i r es,get c.σ l=some (.xrow k i r es)->n<=es.length/\(n=es.length->∃ b,c.β l=some b/\v = .pointer (some ⟨b,j*k+off,none⟩))
mutual
def VR(c:Ctx):PV->Value->Prop
 | .t x,v=>Zx c.I c.w x v
 | .nils,v=>∃ a,v = .slice a 0 0
 | .osl l n,v=>OSl c l n v/\∃ a m cap,v = .slice a m cap
 | .bptr l off,v=>BPt c l off v/\∃ a,v = .pointer a
 | .rptr l n i off,v=>RPt c l n i off v/\∃ a,v = .pointer a
 | .vptr cs,v=>∃ b off,v = .pointer (some ⟨b,off,none⟩)/\(cs≠[]->c.I b)/\Z1 c.I c.w b cs off
 | .agg cs,v=>∃ vs,v = .agg vs.toArray/\VRs c cs vs
 | .tup cs,v=>∃ vs,v = .tuple vs.toArray/\VRs c cs vs
 | .fn f cs,v=>∃ vs,v = .func (.func f) #[] vs.toArray/\VRs c cs vs
 | .own l d,v=>ODR c l v d/\v.oneCell'=true
def VRs(c:Ctx):List PV->List Value->Prop
 | [],vs=>vs=[]
 | p::ps,vs=>∃ v rest,vs=v::rest/\VR c p v/\VRs c ps rest
end
def PV.one:PV->Bool
 | .agg _ | .tup _=>false
 | _=>true
theorem VR.oneCell{c:Ctx}{p:PV}{v:Value}(h:VR c p v)(h1:p.one=true):v.oneCell'=true:=by
 cases p<;>simp only [VR] at h<;>simp only [PV.one] at h1
 case t x=>exact h.oneCell
 case nils=>obtain⟨a,rfl⟩:=h;rfl
 case osl=>obtain⟨_,a,m,cap,rfl⟩:=h;rfl
 case bptr=>obtain⟨_,a,rfl⟩:=h;rfl
 case rptr=>obtain⟨_,a,rfl⟩:=h;rfl
 case vptr=>obtain⟨b,off,rfl,_⟩:=h;rfl
 case agg=>cases h1
 case tup=>cases h1
 case fn=>obtain⟨vs,rfl,_⟩:=h;rfl
 case own=>exact h.2
theorem VRs.length{c:Ctx}:∀ {ps:List PV} {vs:List Value},VRs c ps vs->vs.length=ps.length
 | [],vs,h=>by simp only [VRs] at h;subst h;rfl
 | p::ps,vs,h=>by
  simp only [VRs] at h
  obtain⟨v,rest,rfl,_,hr⟩:=h
  simp [VRs.length hr]
theorem VRs.get{c:Ctx}:∀ {ps:List PV} {vs:List Value} (_:VRs c ps vs) (j:Nat) (p:PV),ps[j]?=some p->∃ v,vs[j]?=some v/\VR c p v
 | [],_,_,j,p,hp=>by simp at hp
 | p::ps,vs,h,j,q,hq=>by
  simp only [VRs] at h
  obtain⟨v,rest,rfl,hv,hr⟩:=h
  cases j with
  | zero=>simp at hq;subst hq;exact⟨v,rfl,hv⟩
  | succ j=>simpa using VRs.get hr j q (by simpa using hq)
theorem VRs.of_get{c:Ctx}:∀ {ps:List PV} {vs:List Value},vs.length=ps.length->(∀ (j:Nat) (p:PV) (v:Value),ps[j]?=some p->vs[j]?=some v->VR c p v)->VRs c ps vs
 | [],vs,hl,_=>by simp only [VRs];exact List.eq_nil_of_length_eq_zero hl
 | p::ps,vs,hl,h=>by
  cases vs with
  | nil=>simp at hl
  | cons v rest=>
   simp only [VRs]
   exact⟨v,rest,rfl,h 0 p v rfl rfl,VRs.of_get (by simpa using hl) (fun j q u hq hu=>h (j+1) q u (by simpa using hq) (by simpa using hu))⟩
def Zac(c c':Ctx)(l:Nat):Prop:=
 (∀ k es',get c'.σ l=some (.row k es')->∃ es,get c.σ l=some (.row k es)/\es.length<=es'.length /\
  (es.length=es'.length->c'.β l=c.β l/\∀ b m,c.β l=some b->Za7 c.w b m->Za7 c'.w b m)) /\
 (∀ cs',get c'.σ l=some (.box cs')->∃ cs,get c.σ l=some (.box cs)/\c'.β l=c.β l) /\
 (∀ k q es',get c'.σ l=some (.mat k q es')->∃ es,get c.σ l=some (.mat k q es)/\es.length<=es'.length /\
  (es.length=es'.length->c'.β l=c.β l/\∀ b,c.β l=some b->(∀ m,Za7 c.w b m->Za7 c'.w b m)/\∀ j,j < es.length->c'.w.cell? ⟨b,j*k+q,none⟩=c.w.cell? ⟨b,j*k+q,none⟩)) /\
 (∀ mk' es',get c'.σ l=some (.map mk' es')->∃ mk es,get c.σ l=some (.map mk es)/\c'.β l=c.β l) /\
 (∀ k i es' cs',get c'.σ l=some (.prow k i es' cs')->∃ es cs,get c.σ l=some (.prow k i es cs)/\es.length=es'.length/\c'.β l=c.β l/\∀ b m,c.β l=some b->Za7 c.w b m->Za7 c'.w b m) /\
 (∀ h,get c'.σ l=some (.reg h)->get c.σ l=some (.reg h)/\∀ n,c.β l=some n->∃ n',c'.β l=some n'/\∀ b,n.testBit b=true->n'.testBit b=true/\ShB h c.w c'.w b) /\
 (∀ k i' r es',get c'.σ l=some (.xrow k i' r es')->∃ i es,get c.σ l=some (.xrow k i r es)/\es.length<=es'.length/\(es.length=es'.length->c'.β l=c.β l/\∀ b m,c.β l=some b->Za7 c.w b m->Za7 c'.w b m))
theorem ShB.same{h:Bool}{w w':World}{b:Nat}(e:w'.heap[b]?=w.heap[b]?):ShB h w w' b:=by
 cases h with
 | false=>exact e
 | true=>exact⟨fun off c hc=>⟨c,(World.cell?_of_block (w:=w) e).trans hc,.inl rfl⟩,fun m ⟨cs,t,f,h1,h2⟩=>⟨cs,t,f,e.trans h1,h2⟩⟩
mutual
theorem Zko.mono{I I':Nat->Prop}{w w':World}(hI:∀ b,I b->I' b/\ShB true w w' b):∀ (t:Zb) (v v':Value),Zxu v v'->Zko I w t v->Zko I' w' t v'
 | .bool _,v,v',hk,h=>by
  obtain⟨b,rfl⟩:=h
  rcases hk with rfl | ⟨_,b',_,rfl⟩ | ⟨_,_,_,h,_⟩ | ⟨_,_,h,_⟩
  .exact⟨b,rfl⟩
  .exact⟨b',rfl⟩
  .cases h
  .cases h
 | .int k _,v,v',hk,h=>by
  obtain⟨n,rfl⟩:=h
  rcases hk with rfl | ⟨_,_,h,_⟩ | ⟨_,_,n',h,rfl⟩ | ⟨_,_,h,_⟩
  .exact⟨n,rfl⟩
  .cases h
  .cases h;exact⟨n',rfl⟩
  .cases h
 | .str _,v,v',hk,h=>by
  obtain⟨s,rfl⟩:=h
  rcases hk with rfl | ⟨_,_,h,_⟩ | ⟨_,_,_,h,_⟩ | ⟨_,s',_,rfl⟩
  .exact⟨s,rfl⟩
  .cases h
  .cases h
  .exact⟨s',rfl⟩
 | .con c,v,v',hk,h=>by
  obtain⟨rfl,h1,h2⟩:=h
  rcases hk with rfl | ⟨b,_,h,_⟩ | ⟨k,n,_,h,_⟩ | ⟨s,_,h,_⟩
  .exact⟨rfl,h1,h2⟩
  all_goals (rw [h] at h2;cases h2)
 | .sl es,v,v',hk,h=>by
  simp only [Zko] at h⊢
  obtain⟨a,cap,rfl,h1,h2,h3⟩:=h
  rcases hk with rfl | ⟨_,_,h,_⟩ | ⟨_,_,_,h,_⟩ | ⟨_,_,h,_⟩
  .refine⟨a,cap,rfl,h1,h2,?_⟩
   rcases h3 with h3 | ⟨b,off,ha,hb,he⟩
   .exact .inl h3
   .exact .inr ⟨b,off,ha,(hI b hb).1,Zjq.mono hI (hI b hb).2.1 es off he⟩
  .cases h
  .cases h
  .cases h
theorem Zjq.mono{I I':Nat->Prop}{w w':World}(hI:∀ b,I b->I' b/\ShB true w w' b){b:Nat}(hb:∀ off c,w.cell? ⟨b,off,none⟩=some c->∃ c',w'.cell? ⟨b,off,none⟩=some c'/\Zxu c c') :
 ∀ (es:List (List Zb)) (off:Nat),Zjq I w b es off->Zjq I' w' b es off
 | [],_,_=>trivial
 | e::es,off,h=>by
  simp only [Zjq] at h⊢
  exact⟨Zgh.mono hI hb e off h.1,Zjq.mono hI hb es _ h.2⟩
theorem Zgh.mono{I I':Nat->Prop}{w w':World}(hI:∀ b,I b->I' b/\ShB true w w' b){b:Nat}(hb:∀ off c,w.cell? ⟨b,off,none⟩=some c->∃ c',w'.cell? ⟨b,off,none⟩=some c'/\Zxu c c') :
 ∀ (ts:List Zb) (off:Nat),Zgh I w b ts off->Zgh I' w' b ts off
 | [],_,_=>trivial
 | t::ts,off,h=>by
  simp only [Zgh] at h⊢
  obtain⟨⟨c,hc,ht⟩,hr⟩:=h
  obtain⟨c',hc',hk⟩:=hb off c hc
  exact⟨⟨c',hc',Zko.mono hI t c c' hk ht⟩,Zgh.mono hI hb ts _ hr⟩
end
theorem Z09.mono{h:Bool}{I I':Nat->Prop}{w w':World}(hI:∀ b,I b->I' b/\ShB h w w' b){t:Zb}{v:Value}(hr:Z09 h I w t v):Z09 h I' w' t v:=by
 cases h with
 | false=>exact Zx.mono hI t v hr
 | true=>exact Zko.mono hI t v v (.inl rfl) hr
theorem Zkp.mono{h:Bool}{I I':Nat->Prop}{w w':World}(hI:∀ b,I b->I' b/\ShB h w w' b){b off:Nat}{cs:List Zb}(hb:cs≠[]->I b)(hr:Zkp h I w b cs off):Zkp h I' w' b cs off:=by
 cases cs with
 | nil=>cases h<;>trivial
 | cons t ts=>
  have h1:=(hI b (hb (by simp))).2
  cases h with
  | false=>exact Z1.mono hI h1 _ _ hr
  | true=>exact Zgh.mono hI h1.1 _ _ hr
theorem OSl.step{c c':Ctx}{l n:Nat}{v:Value}(hl:Zac c c' l)(h:OSl c l n v):OSl c' l n v:=by
 intro k es' hg
 obtain⟨es,hg0,hle,heq⟩:=hl.1 k es' hg
 obtain⟨h1,h2⟩:=h k es hg0
 refine⟨Nat.le_trans h1 hle,fun hn=>?_⟩
 have hee:es.length=es'.length:=by omega
 obtain⟨hβ,hh⟩:=heq hee
 obtain⟨a,cap,hv,hc1,hc2,h3⟩:=h2 (by omega)
 refine⟨a,cap,hv,hc1,hc2,?_⟩
 rcases h3 with ⟨hc,hb⟩ | ⟨b,m,ha,hb,hcs,hsz⟩
 .exact .inl ⟨hc,hβ.trans hb⟩
 .exact .inr ⟨b,m,ha,hβ.trans hb,hh b m hb hcs,hsz⟩
theorem BPt.step{c c':Ctx}{l off:Nat}{v:Value}(hl:Zac c c' l)(h:BPt c l off v):BPt c' l off v:=by
 intro cs' hg
 obtain⟨cs,hg0,hβ⟩:=hl.2.1 cs' hg
 obtain⟨b,hb,hv⟩:=h cs hg0
 exact⟨b,hβ.trans hb,hv⟩
theorem RPt.step{c c':Ctx}{l n i off:Nat}{v:Value}(hl:Zac c c' l)(h:RPt c l n i off v):RPt c' l n i off v:=by
 intro k es' hg
 obtain⟨es,hg0,hle,heq⟩:=hl.1 k es' hg
 obtain⟨h1,h2⟩:=h k es hg0
 refine⟨Nat.le_trans h1 hle,fun hn=>?_⟩
 have hee:es.length=es'.length:=by omega
 obtain⟨hβ,_⟩:=heq hee
 obtain⟨b,hb,hv⟩:=h2 (by omega)
 exact⟨b,hβ.trans hb,hv⟩
theorem ODR.step{c c':Ctx}{l:Nat}{v:Value}(hl:Zac c c' l):∀ {d:OD},ODR c l v d->ODR c' l v d
 | .tail n i,h=>fun k es' hg=>by
  obtain⟨es,hg0,hle,heq⟩:=hl.1 k es' hg
  obtain⟨h1,h2⟩:=h k es hg0
  refine⟨Nat.le_trans h1 hle,fun hn=>?_⟩
  have hee:es.length=es'.length:=by omega
  obtain⟨hβ,hh⟩:=heq hee
  obtain⟨a,cap,hv,hc2,h3⟩:=h2 (by omega)
  refine⟨a,cap,hv,hc2,?_⟩
  rcases h3 with hc | ⟨b,m,ha,hb,hcs,hsz⟩
  .exact .inl hc
  .exact .inr ⟨b,m,ha,hβ.trans hb,hh b m hb hcs,hsz⟩
 | .msl n,h=>fun k q es' hg=>by
  obtain⟨es,hg0,hle,heq⟩:=hl.2.2.1 k q es' hg
  obtain⟨h1,h2⟩:=h k q es hg0
  refine⟨Nat.le_trans h1 hle,fun hn=>?_⟩
  have hee:es.length=es'.length:=by omega
  obtain⟨hβ,hh⟩:=heq hee
  obtain⟨a,cap,hv,hc1,hc2,h3⟩:=h2 (by omega)
  refine⟨a,cap,hv,hc1,hc2,?_⟩
  rcases h3 with ⟨hc,hb⟩ | ⟨b,m,ha,hb,hcs,hsz⟩
  .exact .inl ⟨hc,hβ.trans hb⟩
  .exact .inr ⟨b,m,ha,hβ.trans hb,(hh b hb).1 m hcs,hsz⟩
 | .mpt n j off,h=>fun k q es' hg=>by
  obtain⟨es,hg0,hle,heq⟩:=hl.2.2.1 k q es' hg
  obtain⟨h1,h2⟩:=h k q es hg0
  refine⟨Nat.le_trans h1 hle,fun hn=>?_⟩
  obtain⟨hβ,hh⟩:=heq (by omega)
  obtain⟨b,hb,hv⟩:=h2 (by omega)
  exact⟨b,hβ.trans hb,hv⟩
 | .mrow n j,h=>⟨h.1,fun k q es' hg=>by
  obtain⟨es,hg0,hle,heq⟩:=hl.2.2.1 k q es' hg
  obtain⟨h1,h2⟩:=h.2 k q es hg0
  refine⟨Nat.le_trans h1 hle,fun hn=>?_⟩
  obtain⟨hβ,hh⟩:=heq (by omega)
  obtain⟨b,hb,hv⟩:=h2 (by omega)
  exact⟨b,hβ.trans hb,((hh b hb).2 j (by have:=h.1;omega)).trans hv⟩⟩
 | .mel n j i,h=>⟨h.1,fun k q es' hg=>by
  obtain⟨es,hg0,hle,heq⟩:=hl.2.2.1 k q es' hg
  obtain⟨h1,h2⟩:=h.2 k q es hg0
  refine⟨Nat.le_trans h1 hle,fun hn=>?_⟩
  obtain⟨hβ,hh⟩:=heq (by omega)
  obtain⟨b,d,len,cap,hb,hv,hp⟩:=h2 (by omega)
  exact⟨b,d,len,cap,hβ.trans hb,((hh b hb).2 j (by have:=h.1;omega)).trans hv,hp⟩⟩
 | .map,h=>fun ag es' hg=>by
  obtain⟨ag0,es,hg0,hβ⟩:=hl.2.2.2.1 ag es' hg
  obtain⟨b,hb,hv⟩:=h ag0 es hg0
  exact⟨b,hβ.trans hb,hv⟩
 | .pw n,h=>fun k i es' cs' hg=>by
  obtain⟨es,cs,hg0,hle,hβ,hh⟩:=hl.2.2.2.2.1 k i es' cs' hg
  obtain⟨h1,h2⟩:=h k i es cs hg0
  refine⟨by omega,fun hn=>?_⟩
  obtain⟨b,m,cap,hv,hc1,hc2,hb,hr,hs⟩:=h2 (by omega)
  exact⟨b,m,cap,hv,hc1,hc2,hβ.trans hb,hh b m hb hr,hs⟩
 | .pp n off,h=>fun k i es' cs' hg=>by
  obtain⟨es,cs,hg0,hle,hβ,_⟩:=hl.2.2.2.2.1 k i es' cs' hg
  obtain⟨h1,h2⟩:=h k i es cs hg0
  refine⟨by omega,fun hn=>?_⟩
  obtain⟨b,hb,hv⟩:=h2 (by omega)
  exact⟨b,hβ.trans hb,hv⟩
 | .rg x,h=>fun hv hg=>by
  obtain⟨hg0,hs⟩:=hl.2.2.2.2.2.1 hv hg
  obtain⟨n,hn,hx⟩:=h hv hg0
  obtain⟨n',hn',hi⟩:=hs n hn
  exact⟨n',hn',hx.mono hi⟩
 | .rp cs,h=>fun hv hg=>by
  obtain⟨hg0,hs⟩:=hl.2.2.2.2.2.1 hv hg
  obtain⟨n,b,off,hn,he,hb,hx⟩:=h hv hg0
  obtain⟨n',hn',hi⟩:=hs n hn
  exact⟨n',b,off,hn',he,fun hc=>(hi b (hb hc)).1,hx.mono hi hb⟩
 | .xw n,h=>fun k i' r es' hg=>by
  obtain⟨i,es,hg0,hle,heq⟩:=hl.2.2.2.2.2.2 k i' r es' hg
  obtain⟨h1,h2⟩:=h k i r es hg0
  refine⟨Nat.le_trans h1 hle,fun hn=>?_⟩
  have hee:es.length=es'.length:=by omega
  obtain⟨hβ,hh⟩:=heq hee
  obtain⟨a,cap,hv,hc1,hc2,h3⟩:=h2 (by omega)
  refine⟨a,cap,hv,hc1,hc2,?_⟩
  rcases h3 with ⟨hc,hb⟩ | ⟨b,m,ha,hb,hcs,hsz⟩
  .exact .inl ⟨hc,hβ.trans hb⟩
  .exact .inr ⟨b,m,ha,hβ.trans hb,hh b m hb hcs,hsz⟩
 | .xp n j off,h=>fun k i' r es' hg=>by
  obtain⟨i,es,hg0,hle,heq⟩:=hl.2.2.2.2.2.2 k i' r es' hg
  obtain⟨h1,h2⟩:=h k i r es hg0
  refine⟨Nat.le_trans h1 hle,fun hn=>?_⟩
  obtain⟨hβ,_⟩:=heq (by omega)
  obtain⟨b,hb,hv⟩:=h2 (by omega)
  exact⟨b,hβ.trans hb,hv⟩
mutual
theorem VR.step{c c':Ctx}(hI:∀ b,c.I b->c'.I b/\c'.w.heap[b]?=c.w.heap[b]?):∀ (p:PV) (v:Value),(∀ l,p.has l=true->Zac c c' l)->VR c p v->VR c' p v
 | .t x,v,_,h=>by simp only [VR] at h⊢;exact Zx.mono hI x v h
 | .nils,v,_,h=>h
 | .osl l n,v,hl,h=>by simp only [VR] at h⊢;exact⟨h.1.step (hl l (by simp [PV.has])),h.2⟩
 | .bptr l off,v,hl,h=>by simp only [VR] at h⊢;exact⟨h.1.step (hl l (by simp [PV.has])),h.2⟩
 | .rptr l n i off,v,hl,h=>by simp only [VR] at h⊢;exact⟨h.1.step (hl l (by simp [PV.has])),h.2⟩
 | .vptr cs,v,_,h=>by
  simp only [VR] at h⊢
  obtain⟨b,off,hv,hb,hc⟩:=h
  refine⟨b,off,hv,fun hne=>(hI b (hb hne)).1,?_⟩
  cases cs with
  | nil=>trivial
  | cons t ts=>exact Z1.mono hI (hI b (hb (by simp))).2 _ _ hc
 | .agg cs,v,hl,h=>by
  simp only [VR] at h⊢
  obtain⟨vs,hv,hs⟩:=h
  exact⟨vs,hv,VRs.step hI cs vs (fun l h=>hl l (by simpa [PV.has] using h)) hs⟩
 | .tup cs,v,hl,h=>by
  simp only [VR] at h⊢
  obtain⟨vs,hv,hs⟩:=h
  exact⟨vs,hv,VRs.step hI cs vs (fun l h=>hl l (by simpa [PV.has] using h)) hs⟩
 | .fn f cs,v,hl,h=>by
  simp only [VR] at h⊢
  obtain⟨vs,hv,hs⟩:=h
  exact⟨vs,hv,VRs.step hI cs vs (fun l h=>hl l (by simpa [PV.has] using h)) hs⟩
 | .own l d,v,hl,h=>by simp only [VR] at h⊢;exact⟨h.1.step (hl l (by simp [PV.has])),h.2⟩
theorem VRs.step{c c':Ctx}(hI:∀ b,c.I b->c'.I b/\c'.w.heap[b]?=c.w.heap[b]?):∀ (ps:List PV) (vs:List Value),(∀ l,PV.hasAny l ps=true->Zac c c' l)->VRs c ps vs->VRs c' ps vs
 | [],vs,_,h=>h
 | p::ps,vs,hl,h=>by
  simp only [VRs] at h⊢
  obtain⟨v,rest,rfl,hv,hr⟩:=h
  exact⟨v,rest,rfl,VR.step hI p v (fun l h=>hl l (by simp [PV.hasAny,h])) hv,VRs.step hI ps rest (fun l h=>hl l (by simp [PV.hasAny,h])) hr⟩
end
def mvP(ag:Bool)(ts:List Zb):PV:=bif ag then .agg (ts.map .t) else (match ts with | [x] => .t x | _ => .agg (ts.map .t))
theorem Zif(l:Nat):∀ (ts:List Zb),PV.hasAny l (ts.map .t)=false
 | []=>rfl
 | t::ts=>by simp only [List.map_cons,PV.hasAny,PV.has,Zif l ts,Bool.or_false]
theorem Zayr(ag:Bool)(l:Nat)(ts:List Zb):(mvP ag ts).has l=false:=by
 unfold mvP
 cases ag with
 | true=>simp only [cond_true,PV.has,Zif]
 | false=>
  simp only [cond_false]
  split
  .rfl
  .simp only [PV.has,Zif]
def Zho(c:Ctx)(ag:Bool):List MapEntry->List (Int×List Zb)->Prop
 | [],xs=>xs=[]
 | e::es,xs=>∃ n ts r,xs=(n,ts)::r/\e.key = .int .i64 n/\VR c (mvP ag ts) e.val/\Zho c ag es r
theorem Zho.step{c c':Ctx}{ag:Bool}(hI:∀ b,c.I b->c'.I b/\c'.w.heap[b]?=c.w.heap[b]?):∀ {es:List MapEntry} {xs:List (Int×List Zb)},Zho c ag es xs->Zho c' ag es xs
 | [],_,h=>h
 | e::es,xs,h=>by
  obtain⟨n,ts,r,h1,h2,h3,h4⟩:=h
  exact⟨n,ts,r,h1,h2,VR.step hI _ _ (fun l hl=>by rw [Zayr] at hl;cases hl) h3,Zho.step hI h4⟩
def RowV(c:Ctx)(k:Nat)(rows:List (List Zb))(v:Value):Prop:=
 (∀ el,el∈rows->el.length=k)/\∃ a cap,v = .slice a rows.length cap/\rows.length<=cap/\cap<=maxLen/\(cap=0\/∃ d m,a=some ⟨d,0,none⟩/\Za7 c.w d m/\cap*k<=m/\Zm c.I c.w d rows 0)
def MapEntry.inn(hole:Option Int)(e:MapEntry):Prop:=∀ n,e.key = .int .i64 n->hole≠some n
def Zads(c:Ctx)(k:Nat)(hole:Option Int)(es:List MapEntry)(xs:List (Int×List Zb)):Prop:=
 es.length=xs.length/\∀ (i:Nat) e x,es[i]?=some e->xs[i]?=some x->e.key = .int .i64 x.1/\∃ rows,x.2=[.sl rows]/\(hole≠some x.1->RowV c k rows e.val)
def Zadt(w:World)(b:Nat)(hole:Option Int)(d:Nat):Prop:=
 ∃ ents clock e len cap,w.heap[b]?=some (.map ents clock)/\e∈ents.toList/\MapEntry.inn hole e/\cap≠0/\e.val = .slice (some ⟨d,0,none⟩) len cap
def Z3w(c:Ctx):MK->List MapEntry->List (Int×List Zb)->Prop
 | .v ag,es,xs=>Zho c ag es xs
 | .rows k hole,es,xs=>0 < k/\Zads c k hole es xs/\(xs.map Prod.fst).Nodup /\
  ∀ (i j:Nat) ei ej d l l' cap cap',es[i]?=some ei->es[j]?=some ej->MapEntry.inn hole ei->MapEntry.inn hole ej->cap≠0->cap'≠0->ei.val = .slice (some ⟨d,0,none⟩) l cap->ej.val = .slice (some ⟨d,0,none⟩) l' cap'->i=j
def Zg8(i:Nat)(es:List (List Zb))(cs:List PV):List PV:=((es.take i).flatten.map .t)++(cs++((es.drop (i+1)).flatten.map .t))
theorem Zpv(l:Nat):∀ (ps qs:List PV),PV.hasAny l (ps++qs)=(PV.hasAny l ps||PV.hasAny l qs)
 | [],_=>rfl
 | p::ps,qs=>by simp only [List.cons_append,PV.hasAny,Zpv l ps qs,Bool.or_assoc]
theorem Z3x(l i:Nat)(es:List (List Zb))(cs:List PV):PV.hasAny l (Zg8 i es cs)=PV.hasAny l cs:=by
 unfold Zg8
 rw [Zpv,Zpv,Zif,Zif,Bool.or_false,Bool.false_or]
def rgP(r:Nat):Zb->PV
 | .sl es => .own r (.rg (.sl es))
 | t => .t t
def xPs(i r:Nat)(es:List (List Zb)):List PV:=(es.take i).flatten.map (rgP r)++(es.drop i).flatten.map .t
theorem Zays{r l:Nat}(h:Nat.beq r l=false)(t:Zb):(rgP r t).has l=false:=by cases t<;>first | rfl | exact h
theorem Zxe{r l:Nat}(h:Nat.beq r l=false):∀ ts:List Zb,PV.hasAny l (ts.map (rgP r))=false
 | []=>rfl
 | t::ts=>by simp only [List.map_cons,PV.hasAny,Zays h,Zxe h ts,Bool.or_false]
theorem Zahh{i r l:Nat}{es:List (List Zb)}(h:Nat.beq r l=false):PV.hasAny l (xPs i r es)=false:=by
 unfold xPs;rw [Zpv,Zxe h,Zif];rfl
def BR(c:Ctx)(l:Nat):Blk->Prop
 | .box ps=>∃ b vs,c.β l=some b/\Za7 c.w b ps.length/\Zxo c.w b vs/\VRs c ps vs/\ps.all PV.one=true
 | .row k es=>0 < k/\(∀ el,el∈es->el.length=k)/\((c.β l=none/\es=[]) \/
  ∃ b m,c.β l=some b/\Za7 c.w b m/\es.length*k<=m/\Zm c.I c.w b es 0)
 | .mat k q es=>q < k/\(∀ el,el∈es->el.length=k)/\((c.β l=none/\es=[]) \/
  ∃ b m,c.β l=some b/\Za7 c.w b m/\es.length*k<=m/\Zm (fun d=>c.I d\/Subs c.w b k q es.length d) c.w b es 0 /\
   (∀ i j d len len' cap cap',i < es.length->j < es.length->len≠0->len'≠0->c.w.cell? ⟨b,i*k+q,none⟩=some (.slice (some ⟨d,0,none⟩) len cap)->c.w.cell? ⟨b,j*k+q,none⟩=some (.slice (some ⟨d,0,none⟩) len' cap')->i=j) /\
   (∀ j e,es[j]?=some e->∃ inner a len cap,e[q]?=some (.sl inner)/\(∀ x,x∈inner->∃ t,x=[t]/\t.scal=true)/\c.w.cell? ⟨b,j*k+q,none⟩=some (.slice a len cap) /\
    (len≠0->∃ d m',a=some ⟨d,0,none⟩/\d≠b/\Za7 c.w d m'/\cap<=m')))
 | .map mk es=>∃ b ents clock,c.β l=some b/\c.w.heap[b]?=some (.map ents clock)/\Z3w c mk ents.toList es
 | .prow k i es cs=>0 < k/\(∀ el,el∈es->el.length=k)/\i < es.length/\cs.length=k/\cs.all PV.one=true /\
  ∃ b m vs,c.β l=some b/\Za7 c.w b m/\es.length*k<=m/\Zxo c.w b vs/\VRs c (Zg8 i es cs) vs
 | .reg _=>∃ n,c.β l=some n/\∀ b,n.testBit b=true->∃ m,Za7 c.w b m
 | .xrow k i r es=>0 < k/\(∀ el,el∈es->el.length=k)/\i<=es.length/\((c.β l=none/\es=[]) \/
  ∃ b m vs,c.β l=some b/\Za7 c.w b m/\es.length*k<=m/\Zxo c.w b vs/\VRs c (xPs i r es) vs)
structure Frm where
 base:Nat
 w0:World
 own:Nat->Prop
 A:Nat->Prop
 β0:Nat->Option Nat
 σ0:Nat->Option Blk
structure St where
 n:Nat
 tm:List (Nat×PV)
 σ:List (Nat×Blk)
def Blk.subs(w:World)(b0 b:Nat):Blk->Prop
 | .mat k q es=>Subs w b0 k q es.length b
 | .map (.rows _ hole) _=>Zadt w b0 hole b
 | .reg _=>b0.testBit b=true
 | _=>False
inductive Z3 (β:Nat->Option Nat) (w:World) (l:Nat) (o:Blk) (b:Nat):Prop where
 | inl (h:β l=some b) (hr:o.rgn=false:=by rfl)
 | inr (h:∃ b0,β l=some b0/\o.subs w b0 b)
def Imm(G:Frm)(β:Nat->Option Nat)(w:World)(σ:List (Nat×Blk))(b:Nat):Prop:=
 b < w.heap.size/\(G.base<=b\/G.A b\/G.own b)/\∀ l o,get σ l=some o->¬ Z3 β w l o b
def ctx(G:Frm)(β:Nat->Option Nat)(w:World)(σ:List (Nat×Blk)):Ctx:=⟨β,Imm G β w σ,w,σ⟩
inductive GK where
 | anyInt
 | cells (ts:List Zb)
structure Zayh where
 gs:List (Nat×GK)
instance:Inhabited Zayh:=⟨⟨[]⟩⟩
def gset:List (Nat×GK):=(default:Zayh).gs
def GAt(w:World)(g:Nat):GK->Prop
 | .anyInt=>∃ m,w.cell? ⟨g,0,none⟩=some (.int .i64 m)
 | .cells ts=>Z1 (fun _=>False) w g ts 0
theorem GAt.mono{w w':World}{g:Nat}{k:GK}(hh:w'.heap[g]?=w.heap[g]?)(h:GAt w g k):GAt w' g k:=by
 cases k with
 | anyInt=>
  obtain⟨m,h⟩:=h
  exact⟨m,(World.cell?_of_block (w:=w) hh).trans h⟩
 | cells ts=>exact Z1.mono (fun b hb=>hb.elim) hh ts 0 h
def Zak9(w:World):Prop:=∀ g k,(g,k)∈gset->g < w.heap.size/\GAt w g k
def R0(G:Frm)(β:Nat->Option Nat)(w:World)(σ:List (Nat×Blk)):Prop:=∀ l k es',l < 1000->get σ l=some (.row k es') ->
 ∃ es,G.σ0 l=some (.row k es)/\es.length<=es'.length/\(es.length=es'.length->β l=G.β0 l/\∀ b m,G.β0 l=some b->Za7 G.w0 b m->Za7 w b m)
theorem R0.one{G:Frm}{β β':Nat->Option Nat}{w w':World}{σ σ':List (Nat×Blk)}{l k:Nat}{es':List (List Zb)}(h:R0 G β w σ)(hL:Zac (ctx G β w σ) (ctx G β' w' σ') l)(hl:l < 1000)(hg:get σ' l=some (.row k es')) :
 ∃ es,G.σ0 l=some (.row k es)/\es.length<=es'.length/\(es.length=es'.length->β' l=G.β0 l/\∀ b m,G.β0 l=some b->Za7 G.w0 b m->Za7 w' b m):=by
 obtain⟨es1,h1,h2,h3⟩:=hL.1 k es' hg
 obtain⟨es,g1,g2,g3⟩:=h l k es1 hl h1
 refine⟨es,g1,Nat.le_trans g2 h2,fun he=>?_⟩
 obtain⟨a1,a2⟩:=g3 (by omega)
 obtain⟨b1,b2⟩:=h3 (by omega)
 exact⟨b1.trans a1,fun b m hb hr=>b2 b m (a1.trans hb) (a2 b m hb hr)⟩
theorem R0.step{G:Frm}{β β':Nat->Option Nat}{w w':World}{σ σ':List (Nat×Blk)}(h:R0 G β w σ)(hL:∀ l,l < 1000->Zac (ctx G β w σ) (ctx G β' w' σ') l):R0 G β' w' σ':=fun l k es' hl hg=>h.one (hL l hl) hl hg
theorem R0.sub{G:Frm}{β:Nat->Option Nat}{w:World}{σ σ':List (Nat×Blk)}(hσ:∀ l o,get σ' l=some o->get σ l=some o)(h:R0 G β w σ):R0 G β w σ':=fun l k es' hl hg=>h l k es' hl (hσ l _ hg)
structure Zaw (G:Frm) (β:Nat->Option Nat) (st:St) (a:Act) (w:World):Prop where
 defers:a.defers=[]
 sz:st.n<=a.tmps.size
 base:G.base<=w.heap.size
 os:w.os=G.w0.os
 tape:w.tape=G.w0.tape
 output:w.output=G.w0.output
 old:∀ b,b < G.base->¬ G.own b->w.heap[b]?=G.w0.heap[b]?
 A:∀ b,G.A b->b < G.base/\¬ G.own b
 gl:∀ g k,(g,k)∈gset->g < G.base/\¬ G.own g/\G.A g/\GAt G.w0 g k
 inj:∀ l l' o o' b,get st.σ l=some o->get st.σ l'=some o'->Z3 β w l o b->Z3 β w l' o' b->l=l'
 sep:∀ l o b,get st.σ l=some o->Z3 β w l o b->b < w.heap.size/\(G.base<=b\/G.own b)
 fix:∀ l cs,l < 1000->get st.σ l=some (.box cs)->β l=G.β0 l
 row0:R0 G β w st.σ
 blk:∀ l o,get st.σ l=some o->BR (ctx G β w st.σ) l o
 tm:∀ i p,get st.tm i=some p->i < st.n/\VR (ctx G β w st.σ) p (a.tmps.getD i undef)
theorem Zaw.glw{G:Frm}{β:Nat->Option Nat}{st:St}{a:Act}{w:World}(h:Zaw G β st a w):Zak9 w:=fun g k hg=>by
 obtain⟨h1,h2,_,h3⟩:=h.gl g k hg
 exact⟨Nat.lt_of_lt_of_le h1 h.base,GAt.mono (h.old g h1 h2) h3⟩
theorem Zaw.glI{G:Frm}{β:Nat->Option Nat}{st:St}{a:Act}{w:World}(h:Zaw G β st a w){g:Nat}{k:GK}(hg:(g,k)∈gset):Imm G β w st.σ g:=by
 obtain⟨h1,h2,h3,_⟩:=h.gl g k hg
 refine⟨Nat.lt_of_lt_of_le h1 h.base,.inr (.inl h3),fun l o hl hb=>?_⟩
 rcases (h.sep l o g hl hb).2 with h4 | h4
 .exact absurd h1 (Nat.not_lt_of_le h4)
 .exact h2 h4
def Rel(G:Frm)(st:St)(a:Act)(w:World):Prop:=∃ β,Zaw G β st a w
def PW(P:Program)(c:Code)(Q:Exit->St->Prop)(st:St):Prop:=
 ∀ G a w,Rel G st a w->c.wp P (fun e a' w'=>∃ st',Q e st'/\Rel G st' a' w') a w
end Go.PW
namespace Go.PW
open Go.RowKit
theorem Imm.sub{G:Frm}{β:Nat->Option Nat}{w:World}{σ σ':List (Nat×Blk)}(hσ:∀ l o,get σ' l=some o->get σ l=some o)(b:Nat)(h:Imm G β w σ b):Imm G β w σ' b:=by
 obtain⟨h1,h2,h3⟩:=h
 exact⟨h1,h2,fun l o hl=>h3 l o (hσ l o hl)⟩
theorem Zac.sub{G:Frm}{β:Nat->Option Nat}{w:World}{σ σ':List (Nat×Blk)}(hσ:∀ l o,get σ' l=some o->get σ l=some o)(l:Nat):Zac (ctx G β w σ) (ctx G β w σ') l:=
 ⟨fun _ es' h=>⟨es',hσ l _ h,Nat.le_refl _,fun _=>⟨rfl,fun _ _ _ h=>h⟩⟩,fun cs' h=>⟨cs',hσ l _ h,rfl⟩,fun _ _ es' h=>⟨es',hσ l _ h,Nat.le_refl _,fun _=>⟨rfl,fun _ _=>⟨fun _ h=>h,fun _ _=>rfl⟩⟩⟩,fun mk' es' h=>⟨mk',es',hσ l _ h,rfl⟩,fun _ _ es' cs' h=>⟨es',cs',hσ l _ h,rfl,rfl,fun _ _ _ h=>h⟩,
  fun _ h=>⟨hσ l _ h,fun n hn=>⟨n,hn,fun _ hb=>⟨hb,ShB.same rfl⟩⟩⟩,fun _ i _ es' h=>⟨i,es',hσ l _ h,Nat.le_refl _,fun _=>⟨rfl,fun _ _ _ h=>h⟩⟩⟩
theorem Subs.of_heap{w w':World}{b k q n d:Nat}(h:w'.heap[b]?=w.heap[b]?)(hs:Subs w' b k q n d):Subs w b k q n d:=by
 obtain⟨j,hj,len,cap,hl,hc⟩:=hs
 exact⟨j,hj,len,cap,hl,(World.cell?_of_block (w:=w) h).symm.trans hc⟩
theorem Zadt.of_heap{w w':World}{b d:Nat}{hole:Option Int}(h:w'.heap[b]?=w.heap[b]?)(hs:Zadt w' b hole d):Zadt w b hole d:=by
 obtain⟨ents,clock,e,len,cap,h1,h2⟩:=hs
 exact⟨ents,clock,e,len,cap,h.symm.trans h1,h2⟩
theorem Blk.subs_heap{w w':World}{b0 b:Nat}{o:Blk}(h:o.rgn=false->w'.heap[b0]?=w.heap[b0]?)(hs:o.subs w' b0 b):o.subs w b0 b:=by
 cases o with
 | reg=>exact hs
 | xrow=>exact hs
 | mat k q es=>exact Subs.of_heap (h rfl) hs
 | map mk es=>cases mk with
  | v ag=>exact hs
  | rows k hole=>exact Zadt.of_heap (h rfl) hs
 | box | row | prow=>exact hs
theorem Z3.of{β β':Nat->Option Nat}{w w':World}{l:Nat}{o:Blk}{b:Nat}(hβ:β' l=β l)(h:∀ b,Z3 β w l o b->w'.heap[b]?=w.heap[b]?)(ho:Z3 β' w' l o b):Z3 β w l o b:=by
 rcases ho with ⟨ho,hr⟩ | ⟨b0,h2,h3⟩
 .exact .inl (hβ▸ho) hr
 .rw [hβ] at h2;exact .inr ⟨b0,h2,Blk.subs_heap (fun hr=>h b0 (.inl h2 hr)) h3⟩
theorem Z3.of_heap{β:Nat->Option Nat}{w w':World}{l:Nat}{o:Blk}{b:Nat}(h:∀ b,Z3 β w l o b->w'.heap[b]?=w.heap[b]?)(ho:Z3 β w' l o b):Z3 β w l o b:=ho.of rfl h
theorem Z3.of_cell{β:Nat->Option Nat}{w w':World}{l:Nat}{o:Blk}{b:Nat}(h:∀ a:Nat,w'.heap[a]?=w.heap[a]?)(ho:Z3 β w' l o b):Z3 β w l o b:=ho.of_heap fun b _=>h b
def Blk.flat:Blk->Prop
 | .mat _ _ _=>False
 | .map (.rows _ _) _=>False
 | .reg _=>False
 | _=>True
theorem Z3.flat{β:Nat->Option Nat}{w:World}{l:Nat}{o:Blk}{b:Nat}(hf:o.flat)(ho:Z3 β w l o b):β l=some b:=by
 rcases ho with ho | ⟨b0,_,hs⟩
 .exact ho
 .cases o with
  | reg=>exact hf.elim
  | xrow=>exact hs.elim
  | mat=>exact hf.elim
  | map mk=>cases mk with
   | v=>exact hs.elim
   | rows=>exact hf.elim
  | box | row | prow=>exact hs.elim
theorem Za7.of_heap{w w':World}{b m:Nat}(h:w'.heap[b]?=w.heap[b]?)(hr:Za7 w b m):Za7 w' b m:=by unfold Za7;rw [h];exact hr
theorem RowV.step{c c':Ctx}(hI:∀ b,c.I b->c'.I b/\c'.w.heap[b]?=c.w.heap[b]?){k:Nat}{rows:List (List Zb)}{v:Value}(hd:∀ d len cap,cap≠0->v = .slice (some ⟨d,0,none⟩) len cap->c'.w.heap[d]?=c.w.heap[d]?)(h:RowV c k rows v):RowV c' k rows v:=by
 obtain⟨h1,a,cap,h2,h3,h4,h5⟩:=h
 refine⟨h1,a,cap,h2,h3,h4,?_⟩
 rcases h5 with h5 | ⟨d,m,h6,h7,h8,h9⟩
 .exact .inl h5
 .by_cases h0:cap=0
  .exact .inl h0
  .have:=hd d _ cap h0 (by rw [h2,h6])
   exact .inr ⟨d,m,h6,h7.of_heap this,h8,Zm.mono hI this _ _ h9⟩
theorem Zads.step{c c':Ctx}(hI:∀ b,c.I b->c'.I b/\c'.w.heap[b]?=c.w.heap[b]?){k:Nat}{hole:Option Int}{es:List MapEntry}{xs:List (Int×List Zb)}(hd:∀ e d len cap,e∈es->MapEntry.inn hole e->cap≠0->e.val = .slice (some ⟨d,0,none⟩) len cap->c'.w.heap[d]?=c.w.heap[d]?)(h:Zads c k hole es xs):Zads c' k hole es xs:=by
 refine⟨h.1,fun i e x he hx=>?_⟩
 obtain⟨h1,rows,h2,h3⟩:=h.2 i e x he hx
 refine⟨h1,rows,h2,fun hn=>(h3 hn).step hI (fun d len cap h0 hv=>hd e d len cap (List.mem_of_getElem? he) (fun n' hn'=>?_) h0 hv)⟩
 rw [h1] at hn';cases hn';exact hn
def MK.own(es:List MapEntry)(d:Nat):MK->Prop
 | .v _=>False
 | .rows _ hole=>∃ e len cap,e∈es/\MapEntry.inn hole e/\cap≠0/\e.val = .slice (some ⟨d,0,none⟩) len cap
theorem Z3w.step{c c':Ctx}(hI:∀ b,c.I b->c'.I b/\c'.w.heap[b]?=c.w.heap[b]?){mk:MK}{es:List MapEntry}{xs:List (Int×List Zb)}(hd:∀ d,mk.own es d->c'.w.heap[d]?=c.w.heap[d]?)(h:Z3w c mk es xs):Z3w c' mk es xs:=by
 cases mk with
 | v ag=>exact Zho.step hI h
 | rows k hole=>exact⟨h.1,Zads.step hI (fun e d len cap h1 h2 h3 h4=>hd d ⟨e,len,cap,h1,h2,h3,h4⟩) h.2.1,h.2.2⟩
theorem BR.step{c c':Ctx}(hI:∀ b,c.I b->c'.I b/\c'.w.heap[b]?=c.w.heap[b]?){l:Nat}{o:Blk}(hβ:c'.β l=c.β l)(hh:∀ b,Z3 c.β c.w l o b->c'.w.heap[b]?=c.w.heap[b]?)
 (hl:∀ m,o.has m=true->Zac c c' m) (h:BR c l o):BR c' l o:=by
 have hrow:o.rgn=false->∀ b m,c.β l=some b->Za7 c.w b m->Za7 c'.w b m:=fun hr b m hb h=>h.of_heap (hh b (.inl hb hr))
 cases o with
 | reg h0=>
  obtain⟨n,hn,hb⟩:=h
  exact⟨n,hβ.trans hn,fun b h1=>by obtain⟨m,h2⟩:=hb b h1;exact⟨m,h2.of_heap (hh b (.inr ⟨n,hn,h1⟩))⟩⟩
 | xrow k i r es=>
  obtain⟨h0,hk,hi,h⟩:=h
  refine⟨h0,hk,hi,?_⟩
  rcases h with ⟨hb,he⟩ | ⟨b,m,vs,hb,hr,hsz,hcs,hv⟩
  .exact .inl ⟨hβ.trans hb,he⟩
  .exact .inr ⟨b,m,vs,hβ.trans hb,hrow rfl b m hb hr,hsz,fun j v hj=>(World.cell?_of_block (w:=c.w) (hh b (.inl hb))).trans (hcs j v hj),VRs.step hI _ _ (fun q hq=>hl q (by
    cases e:Nat.beq r q with
    | true=>exact e
    | false=>rw [Zahh e] at hq;cases hq)) hv⟩
 | box ps=>
  obtain⟨b,vs,hb,hr,hcs,hv,h1⟩:=h
  exact⟨b,vs,hβ.trans hb,hrow rfl b _ hb hr,fun j v hj=>(World.cell?_of_block (w:=c.w) (hh b (.inl hb))).trans (hcs j v hj),VRs.step hI _ _ (fun m hm=>hl m hm) hv,h1⟩
 | row k es=>
  obtain⟨h0,hk,h⟩:=h
  refine⟨h0,hk,?_⟩
  rcases h with ⟨hb,he⟩ | ⟨b,m,hb,hr,hsz,het⟩
  .exact .inl ⟨hβ.trans hb,he⟩
  .exact .inr ⟨b,m,hβ.trans hb,hrow rfl b m hb hr,hsz,Zm.mono hI (hh b (.inl hb)) _ _ het⟩
 | mat k q es=>
  obtain⟨h0,hk,h⟩:=h
  refine⟨h0,hk,?_⟩
  rcases h with ⟨hb,he⟩ | ⟨b,m,hb,hr,hsz,het,hd,hin⟩
  .exact .inl ⟨hβ.trans hb,he⟩
  .have hbh:=hh b (.inl hb)
   have hc:∀ j,c'.w.cell? ⟨b,j*k+q,none⟩=c.w.cell? ⟨b,j*k+q,none⟩:=fun j=>World.cell?_of_block (w:=c.w) hbh
   refine .inr ⟨b,m,hβ.trans hb,hrow rfl b m hb hr,hsz,Zm.mono (fun d hd=>?_) hbh _ _ het,fun i j d len len' cap cap' hi hj hl hl' h1 h2=>hd i j d len len' cap cap' hi hj hl hl' ((hc i).symm.trans h1) ((hc j).symm.trans h2),fun j e he=>?_⟩
   .rcases hd with hd | hd
    .exact⟨.inl (hI d hd).1,(hI d hd).2⟩
    .refine⟨.inr ?_,hh d (.inr ⟨b,hb,hd⟩)⟩
     obtain⟨j,hj,len,cap,hl,hcc⟩:=hd
     exact⟨j,hj,len,cap,hl,(hc j).trans hcc⟩
   .obtain⟨inner,a,len,cap,h1,h2,h3,h4⟩:=hin j e he
    refine⟨inner,a,len,cap,h1,h2,(hc j).trans h3,fun hl=>?_⟩
    obtain⟨d,m',h5,h6,h7,h8⟩:=h4 hl
    have hj:=(List.getElem?_eq_some_iff.1 he).1
    exact⟨d,m',h5,h6,h7.of_heap (hh d (.inr ⟨b,hb,j,hj,len,cap,hl,by rw [h3,h5]⟩)),h8⟩
 | map ag es=>
  obtain⟨b,ents,clock,hb,hm,he⟩:=h
  exact⟨b,ents,clock,hβ.trans hb,(hh b (.inl hb)).trans hm,Z3w.step hI (fun d hs=>hh d (by
   cases ag with
   | v=>exact hs.elim
   | rows k hole=>obtain⟨e,len,cap,h1,h2,h3,h4⟩:=hs;exact .inr ⟨b,hb,ents,clock,e,len,cap,hm,h1,h2,h3,h4⟩)) he⟩
 | prow k i es cs=>
  obtain⟨h0,hk,hi,hc,h1,b,m,vs,hb,hr,hsz,hcs,hv⟩:=h
  exact⟨h0,hk,hi,hc,h1,b,m,vs,hβ.trans hb,hrow rfl b m hb hr,hsz,fun j v hj=>(World.cell?_of_block (w:=c.w) (hh b (.inl hb))).trans (hcs j v hj),VRs.step hI _ _ (fun q hq=>hl q (by rw [Z3x] at hq;exact hq)) hv⟩
theorem Zac.none{c c':Ctx}{l:Nat}(h:get c'.σ l=none):Zac c c' l:=
 ⟨fun _ _ hg=>(by rw [h] at hg;cases hg),fun _ hg=>(by rw [h] at hg;cases hg),fun _ _ _ hg=>(by rw [h] at hg;cases hg),fun _ _ hg=>(by rw [h] at hg;cases hg),fun _ _ _ _ hg=>(by rw [h] at hg;cases hg),fun _ hg=>(by rw [h] at hg;cases hg),fun _ _ _ _ hg=>(by rw [h] at hg;cases hg)⟩
theorem Zac.same{c c':Ctx}{l:Nat}(hσ:get c'.σ l=get c.σ l)(hβ:c'.β l=c.β l)(hw:∀ o b,get c.σ l=some o->Z3 c.β c.w l o b->c'.w.heap[b]?=c.w.heap[b]?):Zac c c' l:=
 ⟨fun _ es' h=>⟨es',hσ▸h,Nat.le_refl _,fun _=>⟨hβ,fun b _ hb hr=>hr.of_heap (hw _ b (hσ▸h) (.inl hb))⟩⟩,fun cs' h=>⟨cs',hσ▸h,hβ⟩,
  fun _ _ es' h=>⟨es',hσ▸h,Nat.le_refl _,fun _=>⟨hβ,fun b hb=>⟨fun _ hr=>hr.of_heap (hw _ b (hσ▸h) (.inl hb)),fun _ _=>World.cell?_of_block (w:=c.w) (hw _ b (hσ▸h) (.inl hb))⟩⟩⟩,fun mk' es' h=>⟨mk',es',hσ▸h,hβ⟩,fun _ _ es' cs' h=>⟨es',cs',hσ▸h,rfl,hβ,fun b _ hb hr=>hr.of_heap (hw _ b (hσ▸h) (.inl hb))⟩,
  fun _ h=>⟨hσ▸h,fun n hn=>⟨n,hβ.trans hn,fun b hb=>⟨hb,ShB.same (hw (.reg _) b (hσ▸h) (.inr ⟨n,hn,hb⟩))⟩⟩⟩,fun _ i _ es' h=>⟨i,es',hσ▸h,Nat.le_refl _,fun _=>⟨hβ,fun b _ hb hr=>hr.of_heap (hw _ b (hσ▸h) (.inl hb))⟩⟩⟩
theorem Zaw.sub{G:Frm}{β:Nat->Option Nat}{st st':St}{a:Act}{w:World}(h:Zaw G β st a w)(hn:st'.n<=st.n)(ht:∀ i p,get st'.tm i=some p->get st.tm i=some p/\i < st'.n)
 (hσ:∀ l o,get st'.σ l=some o->get st.σ l=some o):Zaw G β st' a w:=by
 have hI:∀ b,(ctx G β w st.σ).I b->(ctx G β w st'.σ).I b/\(ctx G β w st'.σ).w.heap[b]?=(ctx G β w st.σ).w.heap[b]?:=fun b hb=>⟨Imm.sub hσ b hb,rfl⟩
 exact { defers := h.defers, sz := Nat.le_trans hn h.sz, base := h.base, os := h.os, tape := h.tape, output := h.output, old := h.old, A := h.A, gl := h.gl,
         inj:=fun l l' o o' b hl hl'=>h.inj l l' o o' b (hσ l o hl) (hσ l' o' hl'),
         sep:=fun l o b hl=>h.sep l o b (hσ l o hl),
         fix:=fun l cs h1 hl=>h.fix l cs h1 (hσ l _ hl),row0:=h.row0.sub hσ,
         blk:=fun l o hl=>BR.step hI rfl (fun _ _=>rfl) (fun m _=>Zac.sub hσ m) (h.blk l o (hσ l o hl)),
         tm:=fun i p hi=>⟨(ht i p hi).2,VR.step hI p _ (fun m _=>Zac.sub hσ m) (h.tm i p (ht i p hi).1).2⟩ }
def Wk(st st':St):Prop:=∀ G a w,Rel G st a w->Rel G st' a w
theorem Wk.refl(st:St):Wk st st:=fun _ _ _ h=>h
theorem Wk.trans{a b c:St}(h:Wk a b)(k:Wk b c):Wk a c:=fun G x w r=>k G x w (h G x w r)
section rules
variable {P:Program} {Q Q':Exit->St->Prop} {st:St}
theorem PW.weaken{c:Code}{st':St}(hw:Wk st st')(h:PW P c Q st'):PW P c Q st:=fun G a w hr=>h G a w (hw G a w hr)
theorem PW.skip(h:Q .normal st):PW P .skip Q st:=fun _ _ _ hr=>wp_skip ⟨st,h,hr⟩
theorem PW.label{l:Nat}(h:Q .normal st):PW P (.label l) Q st:=fun _ _ _ hr=>wp_label ⟨st,h,hr⟩
theorem PW.exit{id:Nat}(h:Q (.exit id) st):PW P (.exit id) Q st:=fun _ _ _ hr=>wp_exit ⟨st,h,hr⟩
theorem PW.ret(h:Q .ret st):PW P .ret Q st:=fun _ _ _ hr=>wp_ret ⟨st,h,hr⟩
def Zxw(next:St->Prop)(Q:Exit->St->Prop):Exit->St->Prop
 | .normal,st=>next st
 | e,st=>Q e st
theorem PW.seq{x y:Code}(h:PW P x (Zxw (PW P y Q) Q) st):PW P (.seq x y) Q st:=by
 intro G a w hr
 refine wp_seq (wp_mono (h G a w hr) ?_)
 rintro e a' w' ⟨st',hq,hr'⟩
 cases e<;>simp only [Zxw,Exit.then] at hq⊢
 case normal=>exact hq G a' w' hr'
 all_goals exact⟨st',hq,hr'⟩
theorem PW.cond{c:Operand}{x y:Code}{t:Nat}{b:Bool}(hc:c = .tmp t)(hg:get st.tm t=some (.t (.bool b)))(ht:b=true->PW P x Q st)(hf:b=false->PW P y Q st) :
 PW P (.cond c x y) Q st:=by
 intro G a w hr
 obtain⟨β,h⟩:=hr
 have hv:=(h.tm t _ hg).2
 simp only [VR,Zx] at hv
 subst hc
 exact wp_cond_split (t:=b) hv (fun hb=>ht hb G a w ⟨β,h⟩) (fun hb=>hf hb G a w ⟨β,h⟩)
theorem PW.condConst{x y:Code}{b:Bool}(ht:b=true->PW P x Q st)(hf:b=false->PW P y Q st) :
 PW P (.cond (.const (.bool b)) x y) Q st:=by
 intro G a w hr
 exact wp_cond_split (t:=b) rfl (fun hb=>ht hb G a w hr) (fun hb=>hf hb G a w hr)
def Zxp(id:Nat)(Q:Exit->St->Prop):Exit->St->Prop
 | .exit id',st=>if id'=id then Q .normal st else Q (.exit id') st
 | e,st=>Q e st
theorem PW.block{id:Nat}{c:Code}(h:PW P c (Zxp id Q) st):PW P (.block id c) Q st:=by
 intro G a w hr
 refine wp_block (wp_mono (h G a w hr) ?_)
 rintro e a' w' ⟨st',hq,hr'⟩
 cases e<;>simp only [Zxp,Exit.inBlock] at hq⊢
 case exit id'=>
  split
  .rename_i he;simp only [he,if_true] at hq;exact⟨st',hq,hr'⟩
  .rename_i he;simp only [he,if_false] at hq;exact⟨st',hq,hr'⟩
 all_goals exact⟨st',hq,hr'⟩
def NoGo(Q:Exit->St->Prop):Exit->St->Prop
 | .goto _,_=>False
 | e,st=>Q e st
theorem PW.scope{c:Code}(h:PW P c (NoGo Q) st):PW P (.scope c) Q st:=by
 intro G a w hr
 refine wp_scope_straight (wp_mono (h G a w hr) ?_)
 rintro e a' w' ⟨st',hq,hr'⟩
 cases e<;>simp only [NoGo,Exit.noGoto] at hq⊢
 all_goals exact⟨st',hq,hr'⟩
end rules
def Za3(P:Program)(o:Oper)(ρ:List (Nat×PV))(σ:List (Nat×Blk))(need:List Nat)(p:PV)(news:List (Nat×Blk)):Prop:=
 ∀ (G:Frm) (n:Nat) (tm:List (Nat×PV)) (σ':List (Nat×Blk)) (a:Act) (w:World) (K:Act->World->Prop) (Q:Exit->Act->World->Prop),
  (∀ t q,Operand.tmp t∈o.op.operands->get ρ t=some q->get tm t=some q) ->
  (∀ l,l∈need->get σ' l=get σ l) ->
  (∀ l x,(l,x)∈news->(∀ i q,get tm i=some q->q.has l=false)/\(∀ m y,get σ' m=some y->m≠l/\y.has l=false)) ->
  Rel G ⟨n,tm,σ'⟩ a w ->
  (∀ v w',(∃ β,Zaw G β ⟨n,tm,news++σ'⟩ a w'/\VR (ctx G β w' (news++σ')) p v)->K (a.put o.dst v) w') ->
  o.wp P a w K Q
def Zvr(P:Program)(o:Oper)(st st':St):Prop:=
 ∀ (G:Frm) (a:Act) (w:World) (K:Act->World->Prop) (Q:Exit->Act->World->Prop),Rel G st a w->(∀ a' w',Rel G st' a' w'->K a' w')->o.wp P a w K Q
theorem Zaw.put{G:Frm}{β:Nat->Option Nat}{n:Nat}{tm:List (Nat×PV)}{σ:List (Nat×Blk)}{a:Act}{w:World}{d:Nat}{p:PV}{v:Value}
 (h:Zaw G β ⟨n,tm,σ⟩ a w) (hd:d < n) (hv:VR (ctx G β w σ) p v):Zaw G β ⟨n,put tm d p,σ⟩ (a.put (some d) v) w:=by
 have hsz:d < a.tmps.size:=Nat.lt_of_lt_of_le hd h.sz
 exact { defers := h.defers, sz := by simpa [Act.put] using h.sz, base := h.base, os := h.os, tape := h.tape, output := h.output, old := h.old, A := h.A, gl := h.gl, inj := h.inj, sep := h.sep, fix := h.fix, row0 := h.row0, blk := h.blk,
         tm:=fun i q hq=>by
          by_cases hi:d=i
          .subst hi
           rw [Zb4] at hq
           cases hq
           refine⟨hd,?_⟩
           simpa [Act.put,hsz] using hv
          .rw [Zcf _ _ hi] at hq
           refine⟨(h.tm i q hq).1,?_⟩
           have:=(h.tm i q hq).2
           simpa [Act.put,Array.getElem?_setIfInBounds_ne hi] using this }
def Za5{α:Type}:List Nat->List (Nat×α)->List (Nat×α)
 | [],σ=>σ
 | l::ls,σ=>Za5 ls (del σ l)
theorem Zjr{α:Type}:∀ {ls:List Nat} {σ:List (Nat×α)} {m:Nat} {o:α},get (Za5 ls σ) m=some o->m∉ls/\get σ m=some o
 | [],σ,m,o,h=>⟨by simp,h⟩
 | l::ls,σ,m,o,h=>by
  obtain⟨h1,h2⟩:=Zjr (ls:=ls) h
  by_cases hm:l=m
  .subst hm;rw [Zalk] at h2;cases h2
  .rw [Zvq _ hm] at h2
   exact⟨by simp [h1,Ne.symm hm],h2⟩
theorem Zlf{α:Type}:∀ {ls:List Nat} {σ:List (Nat×α)} {m:Nat},m∉ls->get (Za5 ls σ) m=get σ m
 | [],σ,m,_=>rfl
 | l::ls,σ,m,h=>by
  simp only [List.mem_cons,not_or] at h
  rw [Za5,Zlf h.2,Zvq _ (Ne.symm h.1)]
def OpF(P:Program)(o:Oper)(ρ:List (Nat×PV))(σ:List (Nat×Blk))(need rm:List Nat)(p:PV)(news:List (Nat×Blk)):Prop:=
 ∀ (G:Frm) (n:Nat) (tm:List (Nat×PV)) (σ':List (Nat×Blk)) (a:Act) (w:World) (K:Act->World->Prop) (Q:Exit->Act->World->Prop),
  (∀ t q,Operand.tmp t∈o.op.operands->get ρ t=some q->get tm t=some q) ->
  (∀ l,l∈need->get σ' l=get σ l) ->
  (∀ l x,(l,x)∈news->l∉rm->(∀ i q,get tm i=some q->q.has l=false)/\(∀ m y,get σ' m=some y->m≠l/\y.has l=false)) ->
  Rel G ⟨n,tm,σ'⟩ a w ->
  (∀ v w',(∃ β,Zaw G β ⟨n,tm,news++Za5 rm σ'⟩ a w'/\VR (ctx G β w' (news++Za5 rm σ')) p v)->K (a.put o.dst v) w') ->
  o.wp P a w K Q
theorem Za3.toF{P:Program}{o:Oper}{ρ:List (Nat×PV)}{σ:List (Nat×Blk)}{need:List Nat}{p:PV}{news:List (Nat×Blk)}(h:Za3 P o ρ σ need p news):OpF P o ρ σ need [] p news:=
 fun G n tm σ' a w K Q h1 h2 h3 hr hK=>h G n tm σ' a w K Q h1 h2 (fun l x hx=>h3 l x hx (by simp)) hr hK
end Go.PW
namespace Go.PW
open Go.RowKit
def Zeq(P:Program)(ops:Array Oper)(R:St->Prop):List Oper->St->Prop
 | [],st=>∃ st',Wk st st'/\R st'
 | o::l,st=>∀ G a w,Rel G st a w->∀ (K:Act->World->Prop) (Q:Exit->Act->World->Prop),(∀ a' w' st',Zeq P ops R l st'->Rel G st' a' w'->K a' w') ->
  if Region.wanted o (yielded ops a.tmps) then o.wp P a w K Q else K (a.put o.dst undef) w
def Zkq(ops:Array Oper)(tm:List (Nat×PV))(o:Oper):Option Bool:=
 match o.guard with
 | none=>some true
 | some (g,want)=>
  match (ops[g]?).bind (·.dst) with
  | none=>none
  | some d=>
   match get tm d with
   | some (.t (.bool b))=>some (b==want)
   | some (.tup [])=>some false
   | _=>none
section
variable {P:Program} {ops:Array Oper} {R:St->Prop} {st:St} {o:Oper} {l:List Oper}
theorem Zt2{G:Frm}{β:Nat->Option Nat}{n:Nat}{tm:List (Nat×PV)}{σ:List (Nat×Blk)}{a:Act}{w:World}(h:Zaw G β ⟨n,tm,σ⟩ a w){r:Bool}(hg:Zkq ops tm o=some r) :
 Region.wanted o (yielded ops a.tmps)=r:=by
 unfold Zkq at hg
 unfold Region.wanted
 cases hgu:o.guard with
 | none=>simp [hgu] at hg;simp [hg]
 | some gw=>
  obtain⟨g,want⟩:=gw
  simp only [hgu] at hg⊢
  unfold yielded
  cases hd:(ops[g]?).bind (·.dst) with
  | none=>simp [hd] at hg
  | some d=>
   simp only [hd] at hg
   simp only [Option.bind_some]
   cases hq:get tm d with
   | none=>simp [hq] at hg
   | some q=>
    obtain⟨hlt,hv⟩:=h.tm d q hq
    have hsz:d < a.tmps.size:=Nat.lt_of_lt_of_le hlt h.sz
    have hgd:a.tmps[d]?=some (a.tmps.getD d undef):=by simp [hsz]
    rw [hgd]
    simp only [hq] at hg
    split at hg
    .rename_i b heq
     cases heq
     simp only [VR,Zx] at hv
     rw [hv]
     cases hg
     rfl
    .rename_i heq
     cases heq
     simp only [VR,VRs] at hv
     obtain⟨vs,hv,rfl⟩:=hv
     rw [hv]
     cases hg
     rfl
    .cases hg
theorem Zeq.wpList{Q:Exit->St->Prop}:∀ (l:List Oper) (st:St),Zeq P ops (Q .normal) l st->∀ G a w,Rel G st a w ->
 Go.wpList P ops (fun e a' w'=>∃ st',Q e st'/\Rel G st' a' w') l a w
 | [],st,h,G,a,w,hr=>by obtain⟨st',hw,h⟩:=h;exact⟨st',h,hw G a w hr⟩
 | o::l,st,h,G,a,w,hr=>by
  have:=h G a w hr (Go.wpList P ops (fun e a' w'=>∃ st',Q e st'/\Rel G st' a' w') l) (fun e a' w'=>∃ st',Q e st'/\Rel G st' a' w')
   (fun a' w' st' hs hr'=>Zeq.wpList l st' hs G a' w' hr')
  unfold Go.wpList
  split
  .rename_i hw;simp only [hw,if_true] at this;exact .inl this
  .rename_i hw;simpa [hw] using this
theorem PW.region{Q:Exit->St->Prop}{id:Nat}(h:Zeq P ops (Q .normal) ops.toList st):PW P (.region id ops false) Q st:=
 fun G a w hr=>wp_region_list (Zeq.wpList ops.toList st h G a w hr)
theorem Zeq.nil(h:R st):Zeq P ops R [] st:=⟨st,Wk.refl st,h⟩
theorem Zeq.weaken{st':St}(hw:Wk st st')(h:Zeq P ops R l st'):Zeq P ops R l st:=by
 cases l with
 | nil=>obtain⟨s,hs,h⟩:=h;exact⟨s,hw.trans hs,h⟩
 | cons o l=>exact fun G a w hr=>h G a w (hw G a w hr)
theorem Zeq.step{st':St}(hg:Zkq ops st.tm o=some true)(hu:Zvr P o st st')(h:Zeq P ops R l st'):Zeq P ops R (o::l) st:=by
 intro G a w hr K Q hK
 obtain⟨β,hrr⟩:=hr
 rw [Zt2 hrr hg]
 simp only [if_true]
 exact hu G a w K Q ⟨β,hrr⟩ (fun a' w' hr'=>hK a' w' st' h hr')
theorem Zeq.skip{d:Nat}(hd:o.dst=some d)(hn:d < st.n)(hg:Zkq ops st.tm o=some false)(h:Zeq P ops R l ⟨st.n,put st.tm d (.tup []),st.σ⟩):Zeq P ops R (o::l) st:=by
 intro G a w hr K Q hK
 obtain⟨β,hrr⟩:=hr
 rw [Zt2 hrr hg]
 simp only [if_false,Bool.false_eq_true]
 refine hK _ _ _ h ⟨β,?_⟩
 rw [hd]
 exact hrr.put hn (by simp only [VR,VRs];exact⟨[],rfl,rfl⟩)
theorem Zeq.skipNone(hd:o.dst=none)(hg:Zkq ops st.tm o=some false)(h:Zeq P ops R l st):Zeq P ops R (o::l) st:=by
 intro G a w hr K Q hK
 obtain⟨β,hrr⟩:=hr
 rw [Zt2 hrr hg]
 simp only [if_false,Bool.false_eq_true]
 refine hK _ _ _ h ⟨β,?_⟩
 rw [hd]
 exact hrr
end
structure Stp where
 need:List Nat
 p:PV
 news:List (Nat×Blk)
structure Stm where
 s:Stp
 rm:List Nat
def Z1a:Option Stm->PV
 | some x=>x.s.p
 | none => .tup []
def Zjd:Option Stm->List (Nat×Blk)
 | some x=>x.s.news
 | none=>[]
def Zsy:Option Stm->List Nat
 | some x=>x.rm
 | none=>[]
def resQ:Option Stm->List Nat
 | some x=>x.s.need
 | none=>[]
def Zvs(tm:List (Nat×PV))(d:Option Nat)(p:PV):List (Nat×PV):=match d with | some d=>put tm d p | none=>tm
def Zgi(P:Program)(ops:Array Oper)(n:Nat):List Oper->List (Option Stm)->List (Nat×PV)->List (Nat×Blk)->Prop
 | [],[],_,_=>True
 | o::os,x::xs,tm,σ=>((∀ d,o.dst=some d->d < n)/\Zkq ops tm o=some x.isSome/\(∀ s,x=some s->OpF P o tm σ s.s.need s.rm s.s.p s.s.news) /\
  Zgi P ops n os xs (Zvs tm o.dst (Z1a x)) (Zjd x++Za5 (Zsy x) σ))
 | _,_,_,_=>False
def Zid:List Oper->List (Option Stm)->List (Nat×PV)->List (Nat×PV)
 | o::os,x::xs,tm=>Zid os xs (Zvs tm o.dst (Z1a x))
 | _,_,tm=>tm
def Zlg:List (Option Stm)->List (Nat×Blk)->List (Nat×Blk)
 | x::xs,σ=>Zlg xs (Zjd x++Za5 (Zsy x) σ)
 | [],σ=>σ
end Go.PW
namespace Go.PW
open Go.RowKit
def Zob(ops:Array Oper)(i j:Nat):Bool:=
 match ops[i]? with
 | some o=>o.after.toList.any fun e=>Region.binds .any e&&Nat.beq e.on j
 | none=>false
def Zgx(ops:Array Oper):Nat->Nat->Nat->Bool
 | 0,_,_=>false
 | f+1,i,j=>
  match ops[i]? with
  | some o=>o.after.toList.any fun e=>Region.binds .any e&&(Nat.beq e.on j||Zgx ops f e.on j)
  | none=>false
def Z6g(o:Oper)(t:Nat):Bool:=o.op.operands.toList.any fun x=>match x with | .tmp u=>Nat.beq u t | _=>false
def Zayi(o:Oper)(t:Nat):Bool:=match o.dst with | some d=>Nat.beq d t | none=>false
def Zm6(o:Oper)(i:Nat):Bool:=o.after.toList.all fun e => !Region.binds .any e||Nat.blt e.on i
def wrB(x:Option Stm)(l:Nat):Bool:=((Zjd x).any fun p=>Nat.beq p.1 l)||Zxv (Zsy x) l
def Zala(xs:List (Option Stm))(j l:Nat):Bool:=match xs[j]? with | some x=>wrB x l | none=>false
def ordB(ops:Array Oper)(i j:Nat):Bool:=bif Nat.blt j i then Zgx ops ops.size i j else Zgx ops ops.size j i
def Z2r(ops:Array Oper)(xs:List (Option Stm))(tm:List (Nat×PV))(σ:List (Nat×Blk))(m:Nat)(i:Nat)(o:Oper)(x:Option Stm):Bool:=
 Zm6 o i &&
 (match o.dst with
  | none=>true
  | some d => !Z6g o d&&(List.range m).all fun j=>Nat.beq j i||match ops[j]? with
   | some oj => !Zayi oj d&&(!Z6g oj d||(bif Nat.blt i j then Zob ops j i else Zob ops i j))
   | none=>true) &&
 (match o.guard with | none=>true | some (g,_)=>Nat.blt g i&&Zob ops i g) &&
 ((resQ x).all fun l=>(List.range m).all fun j=>Nat.beq j i || !Zala xs j l||ordB ops i j) &&
 (((Zjd x).map (·.1)++Zsy x).all fun l=>(List.range m).all fun j=>Nat.beq j i || !Zala xs j l||ordB ops i j) &&
 ((Zjd x).all fun p=>Zxv (Zsy x) p.1||((tm.all fun q => !q.2.has p.1)&&(σ.all fun q => !Nat.beq q.1 p.1 && !q.2.has p.1) &&
  (List.range m).all fun j=>Nat.beq j i||(match xs[j]? with
   | some y=>((!(Z1a y).has p.1 && !wrB y p.1&&(Zjd y).all fun q => !q.2.has p.1)||Zgx ops ops.size j i)
   | none=>true)))
def Zug(ops:Array Oper)(xs:List (Option Stm))(tm:List (Nat×PV))(σ:List (Nat×Blk)):Bool:=
 ((List.range xs.length).all fun i=>match ops[i]?,xs[i]? with
  | some o,some x=>Z2r ops xs tm σ xs.length i o x
  | _,_=>false) &&
 ((List.range ops.size).all fun j=>Nat.blt j xs.length||(match ops[j]? with
  | some o=>Zm6 o j&&(List.range j).all fun i=>Zgx ops ops.size j i
  | none=>false))
theorem Zqw(a b:Nat):Nat.blt a b=true↔a < b:=by rw [Nat.blt_eq]
section
variable {P:Program} {ops:Array Oper}
theorem Z6h{i j:Nat}(h:Zob ops i j=true):∃ o,ops[i]?=some o/\∃ e∈o.after,Region.binds .any e=true/\e.on=j:=by
 unfold Zob at h
 split at h
 .rename_i o ho
  obtain⟨e,he,hb⟩:=List.any_eq_true.1 h
  simp only [Bool.and_eq_true,Zu] at hb
  exact⟨o,ho,e,by simpa using he,hb.1,hb.2⟩
 .cases h
def Zadu(ops:Array Oper)(L:Nat->Prop):Prop:=∀ i o,L i->ops[i]?=some o->∀ e∈o.after,Region.binds .any e=true->L e.on
theorem Zrd{L:Nat->Prop}(hL:Zadu ops L):∀ (f i j:Nat),(∀ o,ops[i]?=some o->∀ e∈o.after,Region.binds .any e=true->L e.on)->Zgx ops f i j=true->L j
 | 0,_,_,_,h=>by simp [Zgx] at h
 | f+1,i,j,hi,h=>by
  simp only [Zgx] at h
  split at h
  .rename_i o ho
   obtain⟨e,he,hb⟩:=List.any_eq_true.1 h
   simp only [Bool.and_eq_true,Bool.or_eq_true,Zu] at hb
   have hon:L e.on:=hi o ho e (by simpa using he) hb.1
   rcases hb.2 with h | h
   .subst h;exact hon
   .exact Zrd hL f e.on j (fun o' ho' e' he' hb'=>hL e.on o' hon ho' e' he' hb') h
  .cases h
theorem Zash{o:Oper}{t:Nat}(h:Operand.tmp t∈o.op.operands):Z6g o t=true:=by
 unfold Z6g
 exact List.any_eq_true.2 ⟨.tmp t,by simpa using h,by simp⟩
theorem Zj9{α:Type}(a b:List (Nat×α))(i:Nat):get (a++b) i=match get a i with | some x=>some x | none=>get b i:=by
 induction a with
 | nil=>rfl
 | cons p a ih=>
  obtain⟨j,x⟩:=p
  simp only [List.cons_append,get]
  cases Nat.beq j i with
  | true=>rfl
  | false=>simpa using ih
theorem Zgu{α:Type}:∀ {l:List (Nat×α)} {i:Nat} {x:α},get l i=some x->(i,x)∈l
 | (j,y)::l,i,x,h=>by
  simp only [get] at h
  cases hb:Nat.beq j i with
  | true=>
   simp only [hb,cond_true,Option.some.injEq] at h
   rw [(Zu _ _).1 hb,h]
   exact List.mem_cons_self ..
  | false=>simp only [hb,cond_false] at h;exact List.mem_cons_of_mem _ (Zgu h)
theorem Zre:∀ (l:List Oper) (xs:List (Option Stm)) (tm:List (Nat×PV)) (t:Nat) (q:PV),l.length=xs.length->get (Zid l xs tm) t=some q ->
 (∃ j:Nat,∃ o x,l[j]?=some o/\xs[j]?=some x/\o.dst=some t/\q=Z1a x)\/(get tm t=some q/\∀ (j:Nat) o,l[j]?=some o->o.dst≠some t)
 | [],[],tm,t,q,_,h => .inr ⟨by simpa [Zid] using h,by simp⟩
 | [],_::_,_,_,_,hl,_=>by simp at hl
 | _::_,[],_,_,_,hl,_=>by simp at hl
 | o::l,x::xs,tm,t,q,hl,h=>by
  simp only [Zid] at h
  rcases Zre l xs _ t q (by simpa using hl) h with ⟨j,oj,xj,h1,h2,h3,h4⟩ | ⟨h1,h2⟩
  .exact .inl ⟨j+1,oj,xj,by simpa using h1,by simpa using h2,h3,h4⟩
  .cases hd:o.dst with
   | none=>
    simp only [hd,Zvs] at h1
    refine .inr ⟨h1,fun j oj hj=>?_⟩
    cases j with
    | zero=>simp at hj;subst hj;simp [hd]
    | succ j=>exact h2 j oj (by simpa using hj)
   | some d=>
    simp only [hd,Zvs] at h1
    by_cases hdt:d=t
    .subst hdt
     rw [Zb4] at h1
     exact .inl ⟨0,o,x,rfl,rfl,hd,by simpa using h1.symm⟩
    .rw [Zcf _ _ hdt] at h1
     refine .inr ⟨h1,fun j oj hj=>?_⟩
     cases j with
     | zero=>simp at hj;subst hj;simp [hd,hdt]
     | succ j=>exact h2 j oj (by simpa using hj)
theorem Z3y{ls:List Nat}{l:Nat}:Zxv ls l=true↔l∈ls:=by
 induction ls with
 | nil=>simp [Zxv]
 | cons x r ih=>
  simp only [Zxv]
  cases hb:Nat.beq x l with
  | true=>simp [(Zu _ _).1 hb]
  | false=>
   have:x≠l:=fun e=>by subst e;simp at hb
   simp [ih,Ne.symm this]
theorem Zadv(x:Option Stm):∀ (xs:List (Option Stm)) (σ:List (Nat×Blk)),Zlg (xs++[x]) σ=Zjd x++Za5 (Zsy x) (Zlg xs σ)
 | [],σ=>rfl
 | y::xs,σ=>by simp only [List.cons_append,Zlg];exact Zadv x xs _
def Wr(x:Option Stm)(l:Nat):Prop:=get (Zjd x) l≠none\/l∈Zsy x
theorem Zars{x:Option Stm}{l:Nat}:wrB x l=true↔Wr x l:=by
 unfold wrB Wr
 rw [Bool.or_eq_true,Z3y]
 refine or_congr ?_ Iff.rfl
 constructor
 .intro h hn
  obtain⟨p,hp,hb⟩:=List.any_eq_true.1 h
  have hb:=(Zu _ _).1 hb
  obtain⟨k,y⟩:=p
  simp only at hb;subst hb
  have:∀ (L:List (Nat×Blk)),(k,y)∈L->get L k≠none:=by
   intro L
   induction L with
   | nil=>intro h;cases h
   | cons q L ih=>
    obtain⟨m,z⟩:=q
    intro h
    simp only [get]
    cases hm:Nat.beq m k with
    | true=>simp
    | false=>
     simp only [cond_false]
     rcases List.mem_cons.1 h with h | h
     .cases h;simp at hm
     .exact ih h
  exact this _ hp hn
 .intro h
  cases hg:get (Zjd x) l with
  | none=>exact absurd hg h
  | some y=>exact List.any_eq_true.2 ⟨(l,y),Zgu hg,by simp⟩
def Val(xs:List (Option Stm))(σ0:List (Nat×Blk))(L:Nat->Prop)(σ:List (Nat×Blk)):Prop:=∀ l,
 (∃ (j:Nat) (x:Option Stm),L j/\xs[j]?=some x/\Wr x l/\(∀ (k:Nat) (y:Option Stm),L k->xs[k]?=some y->Wr y l->k<=j)/\get σ l=get (Zjd x) l) \/
 ((∀ (j:Nat) (x:Option Stm),L j->xs[j]?=some x->¬ Wr x l)/\get σ l=get σ0 l)
theorem Val.next{xs:List (Option Stm)}{σ0 σ:List (Nat×Blk)}{L:Nat->Prop}(h:Val xs σ0 L σ){i:Nat}{x:Option Stm}(hx:xs[i]?=some x)(hR:∀ l,Wr x l->∀ (j:Nat) z,L j->xs[j]?=some z->Wr z l->j<=i) :
 Val xs σ0 (fun j=>L j\/j=i) (Zjd x++Za5 (Zsy x) σ):=by
 intro l
 by_cases hw:Wr x l
 .refine .inl ⟨i,x,.inr rfl,hx,hw,fun k y hk hy hyw=>?_,?_⟩
  .rcases hk with hk | hk
   .exact hR l hw k y hk hy hyw
   .exact Nat.le_of_eq hk
  .rw [Zj9]
   cases hg:get (Zjd x) l with
   | some y=>rfl
   | none=>
    rcases hw with hw | hw
    .exact absurd hg hw
    .cases hd:get (Za5 (Zsy x) σ) l with
     | none=>rfl
     | some y=>exact absurd hw (Zjr hd).1
 .have hg:get (Zjd x) l=none:=by
   cases hg:get (Zjd x) l with
   | none=>rfl
   | some y=>exact absurd (.inl (by rw [hg];simp)) hw
  have hl:l∉Zsy x:=fun hl=>hw (.inr hl)
  have he:get (Zjd x++Za5 (Zsy x) σ) l=get σ l:=by rw [Zj9,hg,Zlf hl]
  rw [he]
  rcases h l with ⟨j,z,h1,h2,h3,h4,h5⟩ | ⟨h1,h2⟩
  .refine .inl ⟨j,z,.inl h1,h2,h3,fun k y hk hy hyw=>?_,h5⟩
   rcases hk with hk | hk
   .exact h4 k y hk hy hyw
   .subst hk;rw [hx] at hy;cases hy;exact absurd hyw hw
  .refine .inr ⟨fun j z hj hz hzw=>?_,h2⟩
   rcases hj with hj | hj
   .exact h1 j z hj hz hzw
   .subst hj;rw [hx] at hz;cases hz;exact hw hzw
theorem Val.congr{xs:List (Option Stm)}{σ0 σ:List (Nat×Blk)}{L L':Nat->Prop}(h:Val xs σ0 L σ)(hL:∀ j,L j↔L' j):Val xs σ0 L' σ:=by
 have:L=L':=funext fun j=>propext (hL j)
 subst this;exact h
theorem Val.agree{xs:List (Option Stm)}{σ0 σ σ':List (Nat×Blk)}{L L':Nat->Prop}(h:Val xs σ0 L σ)(h':Val xs σ0 L' σ')(l:Nat)
 (ht:∀ (j:Nat) x,xs[j]?=some x->Wr x l->(L j↔L' j)):get σ l=get σ' l:=by
 rcases h l with ⟨j,z,h1,h2,h3,h4,h5⟩ | ⟨h1,h2⟩<;>rcases h' l with ⟨j',z',h1',h2',h3',h4',h5'⟩ | ⟨h1',h2'⟩
 .have e1:=h4 j' z' ((ht j' z' h2' h3').2 h1') h2' h3'
  have e2:=h4' j z ((ht j z h2 h3).1 h1) h2 h3
  have:j=j':=by omega
  subst this
  rw [h2] at h2';cases h2'
  rw [h5,h5']
 .exact absurd h3 (h1' j z ((ht j z h2 h3).1 h1) h2)
 .exact absurd h3' (h1 j' z' ((ht j' z' h2' h3').2 h1') h2')
 .rw [h2,h2']
theorem Val.get{xs:List (Option Stm)}{σ0 σ:List (Nat×Blk)}{L:Nat->Prop}(h:Val xs σ0 L σ){m:Nat}{z:Blk}(hg:PW.get σ m=some z):PW.get σ0 m=some z\/∃ (j:Nat) (x:Option Stm),L j/\xs[j]?=some x/\PW.get (Zjd x) m=some z:=by
 rcases h m with ⟨j,x,h1,h2,h3,h4,h5⟩ | ⟨_,h3⟩
 .rw [hg] at h5;exact .inr ⟨j,x,h1,h2,h5.symm⟩
 .exact .inl (h3.symm.trans hg)
theorem Zgi.at_{n:Nat}:∀ (l:List Oper) (xs:List (Option Stm)) (tm:List (Nat×PV)) (σ:List (Nat×Blk)),Zgi P ops n l xs tm σ->∀ (i:Nat) o x,l[i]?=some o->xs[i]?=some x ->
 (∀ d,o.dst=some d->d < n)/\Zkq ops (Zid (l.take i) (xs.take i) tm) o=some x.isSome /\
  (∀ s,x=some s->OpF P o (Zid (l.take i) (xs.take i) tm) (Zlg (xs.take i) σ) s.s.need s.rm s.s.p s.s.news)
 | [],_,_,_,_,i,o,x,h,_=>by simp at h
 | _::_,[],_,_,hp,_,_,_,_,_=>by simp [Zgi] at hp
 | o::l,x::xs,tm,σ,hp,i,o',x',ho,hx=>by
  simp only [Zgi] at hp
  obtain⟨hdn,hg,hop,hrest⟩:=hp
  cases i with
  | zero=>
   simp at ho hx
   subst ho;subst hx
   exact⟨hdn,by simpa [Zid] using hg,by simpa [Zid,Zlg] using hop⟩
  | succ i=>
   have:=Zgi.at_ l xs _ _ hrest i o' x' (by simpa using ho) (by simpa using hx)
   simpa [Zid,Zlg] using this
theorem Zgi.length{n:Nat}:∀ (l:List Oper) (xs:List (Option Stm)) (tm:List (Nat×PV)) (σ:List (Nat×Blk)),Zgi P ops n l xs tm σ->l.length=xs.length
 | [],[],_,_,_=>rfl
 | [],_::_,_,_,h=>by simp [Zgi] at h
 | _::_,[],_,_,h=>by simp [Zgi] at h
 | o::l,x::xs,tm,σ,hp=>by
  simp only [Zgi] at hp
  obtain⟨_,_,_,hrest⟩:=hp
  simpa using Zgi.length l xs _ _ hrest
structure Mid (ops:Array Oper) (xs:List (Option Stm)) (tm0:List (Nat×PV)) (σ0:List (Nat×Blk)) (L:Nat->Prop) (tm:List (Nat×PV)) (σ:List (Nat×Blk)):Prop where
 closed:Zadu ops L
 T1:∀ (j:Nat) o x d,L j->ops[j]?=some o->xs[j]?=some x->o.dst=some d->get tm d=some (Z1a x)
 T2:∀ t q,(∀ (j:Nat) o,L j->ops[j]?=some o->o.dst≠some t)->get tm0 t=some q->get tm t=some q
 T3:∀ t q,get tm t=some q->get tm0 t=some q\/∃ j:Nat,∃ x,L j/\xs[j]?=some x/\q=Z1a x
 S:Val xs σ0 L σ
structure Z81 (ops:Array Oper) (xs:List (Option Stm)) (tm0:List (Nat×PV)) (σ0:List (Nat×Blk)) (i:Nat) (o:Oper) (x:Option Stm):Prop where
 all:∀ d,o.dst=some d->∀ (j:Nat) oj,j≠i->j < xs.length->ops[j]?=some oj->oj.dst≠some d/\(Z6g oj d=true->(i < j->Zob ops j i=true)/\(¬ i < j->Zob ops i j=true))
 need:∀ l,l∈resQ x->∀ (j:Nat) z,xs[j]?=some z->j≠i->Wr z l->(j < i->Zgx ops ops.size i j=true)/\(¬ j < i->Zgx ops ops.size j i=true)
 ord:∀ l,Wr x l->∀ (j:Nat) z,xs[j]?=some z->j≠i->Wr z l->(j < i->Zgx ops ops.size i j=true)/\(¬ j < i->Zgx ops ops.size j i=true)
 fresh:∀ p,p∈Zjd x->p.1∉Zsy x->(∀ q,q∈tm0->q.2.has p.1=false)/\(∀ q,q∈σ0->q.1≠p.1/\q.2.has p.1=false) /\
  ∀ (j:Nat) y,j < xs.length->j≠i->xs[j]?=some y->((Z1a y).has p.1=false/\¬ Wr y p.1/\∀ q,q∈Zjd y->q.2.has p.1=false)\/Zgx ops ops.size j i=true
theorem Zai1{a b:Nat}(h:¬ a < b):Nat.blt a b=false:=by
 cases hb:Nat.blt a b with
 | false=>rfl
 | true=>exact absurd ((Zqw _ _).1 hb) h
theorem Zzt{xs:List (Option Stm)}{tm0:List (Nat×PV)}{σ0:List (Nat×Blk)}(hs:Zug ops xs tm0 σ0=true){i:Nat}{x:Option Stm}(hx:xs[i]?=some x) :
 ∃ o,ops[i]?=some o/\Z2r ops xs tm0 σ0 xs.length i o x=true:=by
 simp only [Zug,Bool.and_eq_true] at hs
 have him:i < xs.length:=(List.getElem?_eq_some_iff.1 hx).1
 have hat:=List.all_eq_true.1 hs.1 i (by simpa using him)
 cases ho:ops[i]? with
 | none=>simp [ho] at hat
 | some o=>
  simp only [ho,hx] at hat
  exact⟨o,rfl,hat⟩
theorem Zaug{i j:Nat}(h:ordB ops i j=true):(j < i->Zgx ops ops.size i j=true)/\(¬ j < i->Zgx ops ops.size j i=true):=by
 unfold ordB at h
 refine⟨fun hij=>?_,fun hij=>?_⟩
 .rw [(Zqw j i).2 hij] at h;simpa using h
 .rw [Zai1 hij] at h;simpa using h
theorem Zauh{x:Option Stm}{l:Nat}{y:Blk}(h:get (Zjd x) l=some y):Wr x l := .inl (by rw [h];simp)
theorem Z81.of{xs:List (Option Stm)}{tm0:List (Nat×PV)}{σ0:List (Nat×Blk)}{i:Nat}{o:Oper}{x:Option Stm}(h:Z2r ops xs tm0 σ0 xs.length i o x=true):Z81 ops xs tm0 σ0 i o x:=by
 simp only [Z2r,Bool.and_eq_true] at h
 obtain⟨⟨⟨⟨⟨_,hall⟩,_⟩,hneed⟩,hord⟩,hnews⟩:=h
 have key:∀ {l:Nat},((List.range xs.length).all fun j=>Nat.beq j i || !Zala xs j l||ordB ops i j)=true->∀ (j:Nat) z,xs[j]?=some z->j≠i->Wr z l->(j < i->Zgx ops ops.size i j=true)/\(¬ j < i->Zgx ops ops.size j i=true):=by
  intro l h j z hz hji hw
  have hj:=(List.getElem?_eq_some_iff.1 hz).1
  have:=List.all_eq_true.1 h j (by simpa using hj)
  simp only [Bool.or_eq_true,Zu,hji,false_or,Zala,hz,Bool.not_eq_true',Zars.2 hw,Bool.true_eq_false] at this
  exact Zaug this
 refine { all:=fun d hd j oj hji hj hoj=>?_,need:=fun l hl=>key (List.all_eq_true.1 hneed l hl),ord:=fun l hw=>key (List.all_eq_true.1 hord l ?_),fresh:=fun p hp hnr=>?_ }
 .simp only [hd,Bool.and_eq_true] at hall
  have:=List.all_eq_true.1 hall.2 j (by simpa using hj)
  simp only [Bool.or_eq_true,Zu,hji,false_or,hoj,Bool.and_eq_true,Bool.not_eq_true'] at this
  obtain⟨h1,h2⟩:=this
  refine⟨fun e=>by simp [Zayi,e] at h1,fun hrd=>?_⟩
  rcases h2 with h2 | h2
  .rw [hrd] at h2;cases h2
  .refine⟨fun hij=>?_,fun hij=>?_⟩
   .rw [(Zqw i j).2 hij] at h2;simpa using h2
   .rw [Zai1 hij] at h2;simpa using h2
 .rcases hw with hw | hw
  .cases hg:get (Zjd x) l with
   | none=>exact absurd hg hw
   | some y=>exact List.mem_append.2 (.inl (List.mem_map.2 ⟨(l,y),Zgu hg,rfl⟩))
  .exact List.mem_append.2 (.inr hw)
 .have:=List.all_eq_true.1 hnews p hp
  simp only [Bool.or_eq_true,Bool.and_eq_true] at this
  rcases this with h | h
  .exact absurd (Z3y.1 h) hnr
  .obtain⟨⟨h1,h2⟩,h3⟩:=h
   refine⟨fun q hq=>by simpa using List.all_eq_true.1 h1 q hq,fun q hq=>?_,fun j y hj hji hy=>?_⟩
   .have:=List.all_eq_true.1 h2 q hq
    simp only [Bool.and_eq_true,Bool.not_eq_true'] at this
    exact⟨fun e=>by rw [e] at this;simp at this,this.2⟩
   .have:=List.all_eq_true.1 h3 j (by simpa using hj)
    simp only [Bool.or_eq_true,Zu,hji,false_or,hy,Bool.and_eq_true,Bool.not_eq_true'] at this
    rcases this with h | h
    .exact .inl ⟨h.1.1,fun hw=>by rw [Zars.2 hw] at h;exact absurd h.1.2 (by simp),fun q hq=>by simpa using List.all_eq_true.1 h.2 q hq⟩
    .exact .inr h
theorem Z82{xs:List (Option Stm)}{σ0:List (Nat×Blk)}:∀ (k:Nat),k<=xs.length->Val xs σ0 (fun j=>j < k) (Zlg (xs.take k) σ0)
 | 0,_=>fun l => .inr ⟨fun j _ h=>absurd h (Nat.not_lt_zero j),rfl⟩
 | k+1,hk=>by
  have hx:xs[k]?=some (xs[k]'(by omega)):=List.getElem?_eq_getElem (by omega)
  have:=(Z82 (σ0:=σ0) k (by omega)).next hx (fun l _ j z hj _ _=>Nat.le_of_lt hj)
  rw [List.take_add_one,hx,Option.toList_some,Zadv]
  exact this.congr (fun j=>by omega)
theorem Mid.next{xs:List (Option Stm)}{tm0:List (Nat×PV)}{σ0:List (Nat×Blk)}{L:Nat->Prop}{tm:List (Nat×PV)}{σ:List (Nat×Blk)}{n:Nat}{pre:List Oper}{suf:List Oper}
 (hops:ops.toList=pre++suf) (hplan:Zgi P ops n pre xs tm0 σ0) (hs0:Zug ops xs tm0 σ0=true) (hm:Mid ops xs tm0 σ0 L tm σ)
 {i:Nat} {o:Oper} {x:Option Stm} (ho:ops[i]?=some o) (hx:xs[i]?=some x) (hi:¬ L i) (hLm:∀ j,L j->j < xs.length) (hready:∀ e∈o.after,Region.binds .any e=true->L e.on)
 {G:Frm} {a:Act} {w:World} (hr:Rel G ⟨n,tm,σ⟩ a w) {K:Act->World->Prop} {Q:Exit->Act->World->Prop}
 (hK:∀ a' w' tm' σ',Mid ops xs tm0 σ0 (fun j=>L j\/j=i) tm' σ'->Rel G ⟨n,tm',σ'⟩ a' w'->K a' w'):wpOp P ops Q i K a w:=by
 have hlen:=Zgi.length _ _ _ _ hplan
 have him:i < xs.length:=(List.getElem?_eq_some_iff.1 hx).1
 have hpre:∀ (j:Nat),j < xs.length->ops[j]?=pre[j]?:=fun j hj=>by
  rw [<- Array.getElem?_toList,hops,List.getElem?_append_left (by omega)]
 obtain⟨hdn,hgd,hop⟩:=hplan.at_ _ _ _ _ i o x (by rw [<- hpre i him];exact ho) hx
 obtain⟨o1,ho1,hat⟩:=Zzt hs0 hx
 rw [ho] at ho1;cases ho1
 have hF:=Z81.of hat
 have hguard:(match o.guard with | none=>true | some (g,_)=>Nat.blt g i&&Zob ops i g)=true:=by
  simp only [Z2r,Bool.and_eq_true] at hat
  exact hat.1.1.1.2
 have hdir:∀ j,Zob ops i j=true->L j:=by
  intro j hj
  obtain⟨o',ho',e,he,hb,hon⟩:=Z6h hj
  rw [ho] at ho';cases ho'
  rw [<- hon];exact hready e he hb
 have hreach:∀ f j,Zgx ops f i j=true->L j:=fun f j h=>Zrd hm.closed f i j (fun o' ho' e he hb=>by rw [ho] at ho';cases ho';exact hready e he hb) h
 have hnreach:∀ f j,Zgx ops f j i=true->¬ L j:=fun f j h hLj=>hi (Zrd hm.closed f j i (fun o' ho' e he hb=>hm.closed j o' hLj ho' e he hb) h)
 have hopnd:∀ t q,Operand.tmp t∈o.op.operands->get (Zid (pre.take i) (xs.take i) tm0) t=some q->get tm t=some q:=by
  intro t q ht hq
  have hrd:=Zash ht
  rcases Zre _ _ _ t q (by simp;omega) hq with ⟨j,oj,xj,h1,h2,h3,h4⟩ | ⟨h1,h2⟩
  .have hji:j < i:=by
    have:=(List.getElem?_eq_some_iff.1 h1).1
    simp at this;omega
   have hoj:ops[j]?=some oj:=by rw [hpre j (by omega)];rw [List.getElem?_take,if_pos hji] at h1;exact h1
   have hxj:xs[j]?=some xj:=by rw [List.getElem?_take,if_pos hji] at h2;exact h2
   obtain⟨o2,ho2,hatj⟩:=Zzt hs0 hxj
   rw [hoj] at ho2;cases ho2
   have hallj:=((Z81.of hatj).all t h3 i o (Nat.ne_of_lt hji).symm him ho).2 hrd
   subst h4
   exact hm.T1 j oj xj t (hdir j (hallj.1 hji)) hoj hxj h3
  .refine hm.T2 t q (fun j oj hLj hoj hdst=>?_) h1
   have hjm:=hLm j hLj
   have hji:j≠i:=fun e=>hi (e▸hLj)
   rcases Nat.lt_or_ge j i with hlt | hge
   .exact h2 j oj (by rw [List.getElem?_take,if_pos hlt,<- hpre j hjm];exact hoj) hdst
   ·-- a later writer must wait for i
    have hxj:xs[j]?=some xs[j]:=List.getElem?_eq_getElem hjm
    obtain⟨o2,ho2,hatj⟩:=Zzt hs0 hxj
    rw [hoj] at ho2;cases ho2
    have hallj:=((Z81.of hatj).all t hdst i o hji.symm him ho).2 hrd
    obtain⟨o',ho',e,he,hb,hon⟩:=Z6h (hallj.2 (Nat.not_lt_of_le hge))
    exact hi (hon▸hm.closed j o' hLj ho' e he hb)
 have hgd':Zkq ops tm o=some x.isSome:=by
  unfold Zkq at hgd⊢
  cases hgu:o.guard with
  | none=>simpa [hgu] using hgd
  | some gw=>
   obtain⟨g,want⟩:=gw
   simp only [hgu] at hgd hguard⊢
   simp only [Bool.and_eq_true,Zqw] at hguard
   have hLg:=hdir g hguard.2
   cases hgo:(ops[g]?).bind (·.dst) with
   | none=>simp [hgo] at hgd
   | some dg=>
    simp only [hgo] at hgd⊢
    obtain⟨og,hog,hdg⟩:=Option.bind_eq_some_iff.1 hgo
    have hgm:=hLm g hLg
    have hxg:xs[g]?=some xs[g]:=List.getElem?_eq_getElem hgm
    have htm:=hm.T1 g og _ dg hLg hog hxg hdg
    cases hq:get (Zid (pre.take i) (xs.take i) tm0) dg with
    | none=>simp [hq] at hgd
    | some q=>
     rcases Zre _ _ _ dg q (by simp;omega) hq with ⟨j,oj,xj,h1,h2,h3,h4⟩ | ⟨h1,h2⟩
     .have hji:j < i:=by
       have:=(List.getElem?_eq_some_iff.1 h1).1
       simp at this;omega
      have hoj:ops[j]?=some oj:=by rw [hpre j (by omega)];rw [List.getElem?_take,if_pos hji] at h1;exact h1
      have hxj:xs[j]?=some xj:=by rw [List.getElem?_take,if_pos hji] at h2;exact h2
      have hjg:j=g:=by
       apply Decidable.byContradiction
       intro hne
       obtain⟨o2,ho2,hatj⟩:=Zzt hs0 hxj
       rw [hoj] at ho2;cases ho2
       exact ((Z81.of hatj).all dg h3 g og (Ne.symm hne) hgm hog).1 hdg
      subst hjg
      rw [hxj] at hxg;cases hxg
      rw [hq,h4] at hgd
      rw [htm];exact hgd
     .exact absurd hdg (h2 g og (by rw [List.getElem?_take,if_pos hguard.1,<- hpre g hgm];exact hog))
 have hclosed:Zadu ops (fun j=>L j\/j=i):=by
  rintro j oj (hj | hj) hoj e he hb
  .exact .inl (hm.closed j oj hj hoj e he hb)
  .subst hj;rw [ho] at hoj;cases hoj;exact .inl (hready e he hb)
 have hlast:∀ l,Wr x l->∀ (j:Nat) z,L j->xs[j]?=some z->Wr z l->j<=i:=by
  intro l hw j z hj hz hzw
  apply Decidable.byContradiction
  intro hn
  have hji:j≠i:=fun e=>hi (e▸hj)
  exact hnreach _ j ((hF.ord l hw j z hz hji hzw).2 (by omega)) hj
 have hmid:Mid ops xs tm0 σ0 (fun j=>L j\/j=i) (Zvs tm o.dst (Z1a x)) (Zjd x++Za5 (Zsy x) σ):=by
  refine⟨hclosed,?_,?_,?_,hm.S.next hx hlast⟩
  .rintro j oj xj dj (hj | hj) hoj hxj hdj
   .have hji:j≠i:=fun e=>hi (e▸hj)
    have h0:=hm.T1 j oj xj dj hj hoj hxj hdj
    cases hd:o.dst with
    | none=>exact h0
    | some d=>
     have:=(hF.all d hd j oj hji (hLm j hj) hoj).1
     have hne:d≠dj:=fun e=>this (e▸hdj)
     simp only [Zvs]
     rw [Zcf _ _ hne]
     exact h0
   .subst hj
    rw [ho] at hoj;cases hoj
    rw [hx] at hxj;cases hxj
    rw [hdj]
    exact Zb4 ..
  .intro t q hnw hq
   have h0:=hm.T2 t q (fun j oj hj hoj=>hnw j oj (.inl hj) hoj) hq
   cases hd:o.dst with
   | none=>exact h0
   | some d=>
    have hne:d≠t:=fun e=>hnw i o (.inr rfl) ho (e▸hd)
    simp only [Zvs]
    rw [Zcf _ _ hne]
    exact h0
  .intro t q hq
   have old:get tm t=some q->get tm0 t=some q\/∃ j:Nat,∃ x,(L j\/j=i)/\xs[j]?=some x/\q=Z1a x:=fun hq=>by
    rcases hm.T3 t q hq with h | ⟨j,z,h1,h2,h3⟩
    .exact .inl h
    .exact .inr ⟨j,z,.inl h1,h2,h3⟩
   cases hd:o.dst with
   | none=>rw [hd] at hq;exact old hq
   | some d=>
    rw [hd] at hq
    simp only [Zvs] at hq
    by_cases hdt:d=t
    .subst hdt
     rw [Zb4] at hq;cases hq
     exact .inr ⟨i,x,.inr rfl,hx,rfl⟩
    .rw [Zcf _ _ hdt] at hq
     exact old hq
 obtain⟨β,hrr⟩:=hr
 unfold wpOp
 simp only [ho]
 rw [Zt2 hrr hgd']
 cases x with
 | none=>
  simp only [Option.isSome_none,Bool.false_eq_true,if_false]
  refine hK _ _ _ _ hmid ⟨β,?_⟩
  cases hd:o.dst with
  | none=>exact hrr
  | some d=>exact hrr.put (p := .tup []) (hdn d hd) (v:=undef) (by simp only [VR,VRs];exact⟨[],rfl,rfl⟩)
 | some s=>
  simp only [Option.isSome_some,if_true]
  refine .inl (hop s rfl G n tm σ a w K Q hopnd ?_ ?_ ⟨β,hrr⟩ ?_)
  .intro l hl
   refine hm.S.agree (Z82 i (Nat.le_of_lt him)) l (fun j z hz hw=>?_)
   by_cases hji:j=i
   .subst hji
    exact⟨fun h=>absurd h hi,fun h=>absurd h (Nat.lt_irrefl _)⟩
   .obtain⟨h1,h2⟩:=hF.need l hl j z hz hji hw
    constructor
    .intro hLj
     apply Decidable.byContradiction
     intro hge
     exact hnreach _ j (h2 hge) hLj
    .intro hlt
     exact hreach _ j (h1 hlt)
  .intro l y hly hnr
   obtain⟨f1,f2,f3⟩:=hF.fresh (l,y) hly hnr
   have hj':∀ (j:Nat) z,L j->xs[j]?=some z->(Z1a z).has l=false/\(∀ q∈Zjd z,q.2.has l=false)/\get (Zjd z) l=none:=by
    intro j z hLj hz
    have hji:j≠i:=fun e=>hi (e▸hLj)
    rcases f3 j z (hLm j hLj) hji hz with h | h
    .refine⟨h.1,h.2.2,?_⟩
     cases hg:get (Zjd z) l with
     | none=>rfl
     | some u=>exact absurd (Zauh hg) h.2.1
    .exact absurd hLj (hnreach _ j h)
   refine⟨fun t q hq=>?_,fun m z hz=>?_⟩
   .rcases hm.T3 t q hq with h | ⟨j,z,h1,h2,h3⟩
    .exact f1 _ (Zgu h)
    .subst h3;exact (hj' j z h1 h2).1
   .rcases hm.S.get hz with h | ⟨j,u,h1,h2,h3⟩
    .exact f2 _ (Zgu h)
    .refine⟨fun e=>?_,(hj' j u h1 h2).2.1 _ (Zgu h3)⟩
     subst e
     rw [(hj' j u h1 h2).2.2] at h3;cases h3
  .rintro v w' ⟨β',hβ',hv⟩
   refine hK _ _ _ _ hmid ⟨β',?_⟩
   cases hd:o.dst with
   | none=>exact hβ'
   | some d=>exact hβ'.put (hdn d hd) hv
end
end Go.PW
namespace Go.PW
open Go.RowKit
section
variable {P:Program} {ops:Array Oper}
def unl(ops:Array Oper)(listed:Array Bool):Nat:=((List.range ops.size).filter fun j => !listed.getD j false).length
theorem Zayt{listed:Array Bool}{i:Nat}(hi:i < ops.size)(hs:listed.size=ops.size)(hu:listed.getD i false=false):unl ops (listed.setIfInBounds i true) < unl ops listed:=by
 unfold unl
 have h1:(List.range ops.size).filter (fun j => !(listed.setIfInBounds i true).getD j false)=((List.range ops.size).filter fun j => !listed.getD j false).filter (fun j=>j != i):=by
  rw [List.filter_filter]
  refine List.filter_congr fun j hj=>?_
  by_cases hji:j=i
  .subst hji
   simp [hs,hi]
  .have:(listed.setIfInBounds i true).getD j false=listed.getD j false:=getD_set_ne false (Ne.symm hji)
   rw [this]
   simp [hji]
 rw [h1,List.length_filter_lt_length_iff_exists]
 exact⟨i,by simp only [List.mem_filter,List.mem_range];exact⟨hi,by rw [hu];rfl⟩,by simp⟩
theorem Zawc{listed:Array Bool}(h:unl ops listed=0):∀ j,j < ops.size->listed.getD j false=true:=by
 intro j hj
 unfold unl at h
 have:=List.eq_nil_of_length_eq_zero h
 cases hb:listed.getD j false with
 | true=>rfl
 | false=>
  have hm:j∈(List.range ops.size).filter fun j => !listed.getD j false:=by simp only [List.mem_filter,List.mem_range];exact⟨hj,by rw [hb];rfl⟩
  rw [this] at hm
  cases hm
theorem Zahj{listed:Array Bool}{j:Nat}(hj:j < listed.size):listed.getD j true=listed.getD j false:=by simp [hj]
theorem mem_ready'{listed:Array Bool}(hs:listed.size=ops.size){j:Nat}(h:j∈Region.ready .any ops listed):j < ops.size/\listed.getD j false=false/\∃ o,ops[j]?=some o/\∀ e∈o.after,Region.binds .any e=true->listed.getD e.on false=true:=by
 obtain⟨h0,o,ho,hall⟩:=mem_ready.1 h
 have hj:j < ops.size:=(Array.getElem?_eq_some_iff.1 ho).1
 exact⟨hj,by rw [<- Zahj (by omega)];exact h0,o,ho,hall⟩
theorem Zalo{Q:Exit->St->Prop}{m:Nat}(hbacks:∀ j,j < ops.size->∃ o,ops[j]?=some o/\Zm6 o j=true)(htail:∀ j,m<=j->j < ops.size->∃ o,ops[j]?=some o/\Zm6 o j=true/\∀ i,i < j->Zgx ops ops.size j i=true)(G:Frm) :
 ∀ (fuel j:Nat) (listed:Array Bool) (st:St) (a:Act) (w:World),m<=j->ops.size<=j+fuel->listed.size=ops.size->(∀ i,i < ops.size->(listed.getD i false=true↔i < j)) ->
  Zeq P ops (Q .normal) (ops.toList.drop j) st->Rel G st a w ->
  wpAny P .any ops (fun e a' w'=>∃ st',Q e st'/\Rel G st' a' w') fuel listed a w
 | 0,j,listed,st,a,w,hmj,hf,hs,hl,hp,hr=>by
  have hdrop:ops.toList.drop j=[]:=List.drop_eq_nil_of_le (by simp;omega)
  rw [hdrop] at hp
  obtain⟨st',hw,hq⟩:=hp
  refine⟨?_,st',hq,hw G a w hr⟩
  cases hrd:Region.ready .any ops listed with
  | nil=>rfl
  | cons i l=>
   obtain⟨hi,hu,_⟩:=mem_ready' hs (j:=i) (by rw [hrd];exact List.mem_cons_self ..)
   rw [(hl i hi).2 (by omega)] at hu;cases hu
 | fuel+1,j,listed,st,a,w,hmj,hf,hs,hl,hp,hr=>by
  rcases Nat.lt_or_ge j ops.size with hj | hj
  case inr=>
   have hdrop:ops.toList.drop j=[]:=List.drop_eq_nil_of_le (by simp;omega)
   rw [hdrop] at hp
   obtain⟨st',hw,hq⟩:=hp
   have hnil:Region.ready .any ops listed=[]:=by
    cases hrd:Region.ready .any ops listed with
    | nil=>rfl
    | cons i l=>
     obtain⟨hi,hu,_⟩:=mem_ready' hs (j:=i) (by rw [hrd];exact List.mem_cons_self ..)
     rw [(hl i hi).2 (by omega)] at hu;cases hu
   exact⟨fun _=>⟨st',hq,hw G a w hr⟩,fun i hi=>by rw [hnil] at hi;cases hi⟩
  obtain⟨o,ho,hback,_⟩:=htail j hmj hj
  have hrj:j∈Region.ready .any ops listed:=by
   refine mem_ready.2 ⟨?_,o,ho,fun e he hb=>?_⟩
   .rw [Zahj (by omega)]
    cases hb:listed.getD j false with
    | false=>rfl
    | true=>have:=(hl j hj).1 hb;omega
   .have:=List.all_eq_true.1 hback e (by simpa using he)
    simp only [Bool.or_eq_true,Bool.not_eq_true',hb,Bool.true_eq_false,false_or,Zqw] at this
    exact (hl e.on (by omega)).2 this
  refine⟨fun h=>(by rw [h] at hrj;cases hrj),fun i hi=>?_⟩
  obtain⟨hin,hu,oi,hoi,hall⟩:=mem_ready' hs hi
  have hij:i=j:=by
   rcases Nat.lt_trichotomy i j with h | h | h
   .rw [(hl i hin).2 h] at hu;cases hu
   .exact h
   .obtain⟨o',ho',_,hd⟩:=htail i (by omega) hin
    have hback1:∀ (k:Nat) ok,ops[k]?=some ok->∀ e∈ok.after,Region.binds .any e=true->e.on < k:=fun k ok hok e he hb=>by
     obtain⟨o3,ho3,hb3⟩:=hbacks k (Array.getElem?_eq_some_iff.1 hok).1
     rw [hok] at ho3;cases ho3
     have:=List.all_eq_true.1 hb3 e (by simpa using he)
     simpa only [Bool.or_eq_true,Bool.not_eq_true',hb,Bool.true_eq_false,false_or,Zqw] using this
    have hclosed:Zadu ops (fun k=>k < j):=fun k ok hk hok e he hb=>Nat.lt_trans (hback1 k ok hok e he hb) hk
    have:=Zrd hclosed ops.size i j (fun o3 ho3 e he hb=>by
     rw [hoi] at ho3;cases ho3
     have h1:=hall e he hb
     have h2:=hback1 i oi hoi e he hb
     exact (hl e.on (by omega)).1 h1) (hd j h)
    omega
  subst hij
  rw [ho] at hoi;cases hoi
  have hcons:ops.toList.drop i=o::ops.toList.drop (i+1):=by
   have h1:ops.toList[i]?=some o:=by simpa using ho
   have hi':i < ops.toList.length:=by simpa using hj
   have h2:=List.getElem?_eq_getElem hi'
   rw [h1] at h2
   rw [List.drop_eq_getElem_cons hi',<- Option.some.inj h2]
  rw [hcons] at hp
  have hlisted:∀ k,k < ops.size->((listed.setIfInBounds i true).getD k false=true↔k < i+1):=by
   intro k hk
   by_cases hki:k=i
   .subst hki;simp [hs,hk]
   .rw [getD_set_ne false (Ne.symm hki),hl k hk];omega
  unfold wpOp
  simp only [ho]
  have:=hp G a w hr (wpAny P .any ops (fun e a' w'=>∃ st',Q e st'/\Rel G st' a' w') fuel (listed.setIfInBounds i true)) (fun e a' w'=>∃ st',Q e st'/\Rel G st' a' w')
   (fun a' w' st' hs' hr'=>Zalo hbacks htail G fuel (i+1) _ st' a' w' (by omega) (by omega) (by simpa using hs) hlisted hs' hr')
  split
  .rename_i hw;simp only [hw,if_true] at this;exact .inl this
  .rename_i hw;simpa [hw] using this
theorem Zawd{Q:Exit->St->Prop}{n:Nat}{xs:List (Option Stm)}{tm0:List (Nat×PV)}{σ0:List (Nat×Blk)}{pre suf:List Oper}
 (hops:ops.toList=pre++suf) (hplan:Zgi P ops n pre xs tm0 σ0) (hs:Zug ops xs tm0 σ0=true) (hp:Zeq P ops (Q .normal) suf ⟨n,Zid pre xs tm0,Zlg xs σ0⟩) (G:Frm) :
 ∀ (fuel:Nat) (listed:Array Bool) (tm:List (Nat×PV)) (σ:List (Nat×Blk)) (a:Act) (w:World),unl ops listed<=fuel->listed.size=ops.size->(∀ j,listed.getD j false=true->j < xs.length) ->
  Mid ops xs tm0 σ0 (fun j=>listed.getD j false=true) tm σ->Rel G ⟨n,tm,σ⟩ a w ->
  wpAny P .any ops (fun e a' w'=>∃ st',Q e st'/\Rel G st' a' w') fuel listed a w:=by
 have hlen:=Zgi.length _ _ _ _ hplan
 have hsz:ops.size=pre.length+suf.length:=by rw [<- Array.length_toList,hops,List.length_append]
 have hpre:∀ (j:Nat),j < xs.length->ops[j]?=pre[j]?:=fun j hj=>by
  rw [<- Array.getElem?_toList,hops,List.getElem?_append_left (by omega)]
 have hs':=hs
 simp only [Zug,Bool.and_eq_true] at hs'
 have htail:∀ j,xs.length<=j->j < ops.size->∃ o,ops[j]?=some o/\Zm6 o j=true/\∀ i,i < j->Zgx ops ops.size j i=true:=by
  intro j hj hjn
  have:=List.all_eq_true.1 hs'.2 j (by simpa using hjn)
  have hnb:Nat.blt j xs.length=false:=by
   cases hb:Nat.blt j xs.length with
   | false=>rfl
   | true=>have:=(Zqw _ _).1 hb;omega
  simp only [hnb,Bool.false_or] at this
  split at this
  .rename_i o ho
   simp only [Bool.and_eq_true] at this
   exact⟨o,ho,this.1,fun i hi=>List.all_eq_true.1 this.2 i (by simpa using hi)⟩
  .cases this
 have hbackP:∀ j,j < xs.length->∃ o,ops[j]?=some o/\Zm6 o j=true:=by
  intro j hj
  have:=List.all_eq_true.1 hs'.1 j (by simpa using hj)
  split at this
  .rename_i o x ho hx
   simp only [Z2r,Bool.and_eq_true] at this
   exact⟨o,ho,this.1.1.1.1.1⟩
  .cases this
 have hbacks:∀ j,j < ops.size->∃ o,ops[j]?=some o/\Zm6 o j=true:=fun j hj=>by
  rcases Nat.lt_or_ge j xs.length with h | h
  .exact hbackP j h
  .obtain⟨o,ho,hb,_⟩:=htail j h hj
   exact⟨o,ho,hb⟩
 intro fuel
 induction fuel with
 | zero=>
  intro listed tm σ a w hf hls hLm hm hr
  have hall:=Zawc (Nat.le_zero.1 hf)
  have hsuf:suf=[]:=by
   cases suf with
   | nil=>rfl
   | cons o l=>exfalso;have:=hLm xs.length (hall _ (by simp at hsz;omega));omega
  refine⟨?_,?_⟩
  .cases hrd:Region.ready .any ops listed with
   | nil=>rfl
   | cons i l=>
    obtain⟨hi,hu,_⟩:=mem_ready' hls (j:=i) (by rw [hrd];exact List.mem_cons_self ..)
    rw [hall i hi] at hu;cases hu
  .subst hsuf
   obtain⟨st',hw,hq⟩:=hp
   refine⟨st',hq,hw G a w ?_⟩
   obtain⟨β,hrr⟩:=hr
   refine⟨β,hrr.sub (Nat.le_refl _) (fun t q hq=>?_) (fun l y hl=>?_)⟩
   .have hgt:get tm t=some q:=by
     rcases Zre _ _ _ t q hlen hq with ⟨j,oj,xj,h1,h2,h3,h4⟩ | ⟨h1,h2⟩
     .have hj:j < xs.length:=(List.getElem?_eq_some_iff.1 h2).1
      subst h4
      exact hm.T1 j oj xj t (hall j (by omega)) (by rw [hpre j hj];exact h1) h2 h3
     .exact hm.T2 t q (fun j oj hLj hoj=>h2 j oj (by rw [<- hpre j (hLm j hLj)];exact hoj)) h1
    exact⟨hgt,(hrr.tm t q hgt).1⟩
   .rw [hm.S.agree (Z82 xs.length (Nat.le_refl _)) l (fun j z hz _=>⟨fun h=>hLm j h,fun h=>hall j (by omega)⟩),List.take_length]
    exact hl
 | succ fuel ih=>
  intro listed tm σ a w hf hls hLm hm hr
  by_cases hfull:∀ j,j < xs.length->listed.getD j false=true
  ·-- the head is done
   have hl:∀ i,i < ops.size->(listed.getD i false=true↔i < xs.length):=fun i _=>⟨hLm i,hfull i⟩
   have hcount:ops.size<=xs.length+(fuel+1):=by
    have h1:(List.range ops.size).filter (fun j => !listed.getD j false)=(List.range' xs.length (ops.size - xs.length)):=by
     have hr1:List.range ops.size=List.range' 0 xs.length++List.range' xs.length (ops.size - xs.length):=by
      rw [List.range_eq_range']
      have:=List.range'_append (s:=0) (m:=xs.length) (n:=ops.size - xs.length) (step:=1)
      simp only [Nat.one_mul,Nat.zero_add] at this
      rw [this]
      congr 1
      omega
     rw [hr1,List.filter_append]
     have e1:(List.range' 0 xs.length).filter (fun j => !listed.getD j false)=[]:=by
      rw [List.filter_eq_nil_iff]
      intro j hj
      simp only [List.mem_range'_1] at hj
      rw [hfull j (by omega)];simp
     have e2:(List.range' xs.length (ops.size - xs.length)).filter (fun j => !listed.getD j false)=List.range' xs.length (ops.size - xs.length):=by
      rw [List.filter_eq_self]
      intro j hj
      simp only [List.mem_range'_1] at hj
      cases hb:listed.getD j false with
      | false=>rfl
      | true=>have:=hLm j hb;omega
     rw [e1,e2,List.nil_append]
    unfold unl at hf
    rw [h1,List.length_range'] at hf
    omega
   refine Zalo (m:=xs.length) hbacks htail G (fuel+1) xs.length listed _ a w (Nat.le_refl _) hcount hls hl (by rw [hops,<- hlen,List.drop_left];exact hp) ?_
   obtain⟨β,hrr⟩:=hr
   refine⟨β,hrr.sub (Nat.le_refl _) (fun t q hq=>?_) (fun l y hl=>?_)⟩
   .have hgt:get tm t=some q:=by
     rcases Zre _ _ _ t q hlen hq with ⟨j,oj,xj,h1,h2,h3,h4⟩ | ⟨h1,h2⟩
     .have hj:j < xs.length:=(List.getElem?_eq_some_iff.1 h2).1
      subst h4
      exact hm.T1 j oj xj t (hfull j hj) (by rw [hpre j hj];exact h1) h2 h3
     .exact hm.T2 t q (fun j oj hLj hoj=>h2 j oj (by rw [<- hpre j (hLm j hLj)];exact hoj)) h1
    exact⟨hgt,(hrr.tm t q hgt).1⟩
   .rw [hm.S.agree (Z82 xs.length (Nat.le_refl _)) l (fun j z hz _=>⟨fun h=>hLm j h,fun h=>hfull j h⟩),List.take_length]
    exact hl
  ·-- the head is not done: the first that is not carried out is ready
   have hex:∃ j,j < xs.length/\listed.getD j false=false/\∀ i,i < j->listed.getD i false=true:=by
    apply Decidable.byContradiction
    intro hno
    apply hfull
    intro j
    induction j using Nat.strongRecOn with
    | _ j ihj=>
     intro hj
     cases hb:listed.getD j false with
     | true=>rfl
     | false=>exact absurd ⟨j,hj,hb,fun i hi=>ihj i hi (by omega)⟩ hno
   obtain⟨j,hj,hjf,hjl⟩:=hex
   obtain⟨oj,hoj,hbj⟩:=hbackP j hj
   have hrj:j∈Region.ready .any ops listed:=by
    refine mem_ready.2 ⟨?_,oj,hoj,fun e he hb=>?_⟩
    .rw [Zahj (by omega)];exact hjf
    .have:=List.all_eq_true.1 hbj e (by simpa using he)
     simp only [Bool.or_eq_true,Bool.not_eq_true',hb,Bool.true_eq_false,false_or,Zqw] at this
     exact hjl _ this
   refine⟨fun h=>(by rw [h] at hrj;cases hrj),fun i hi=>?_⟩
   obtain⟨hin,hu,oi,hoi,hall⟩:=mem_ready' hls hi
   have him:i < xs.length:=by
    rcases Nat.lt_or_ge i xs.length with h | h
    .exact h
    .obtain⟨o',ho',_,hd⟩:=htail i h hin
     have:=Zrd hm.closed ops.size i j (fun o3 ho3 e he hb=>by rw [hoi] at ho3;cases ho3;exact hall e he hb) (hd j (by omega))
     rw [hjf] at this;cases this
   have hxi:xs[i]?=some xs[i]:=List.getElem?_eq_getElem him
   refine hm.next hops hplan hs hoi hxi (by rw [hu];simp) hLm hall hr ?_
   intro a' w' tm' σ' hm' hr'
   have hfun:(fun k=>listed.getD k false=true\/k=i)=(fun k=>(listed.setIfInBounds i true).getD k false=true):=by
    funext k
    by_cases hki:k=i
    .subst hki;simp [hls,hin]
    .rw [getD_set_ne false (Ne.symm hki)];simp [hki]
   rw [hfun] at hm'
   have hlt:=Zayt hin hls hu
   refine ih _ tm' σ' a' w' (by omega) (by simpa using hls) (fun k hk=>?_) hm' hr'
   by_cases hki:k=i
   .subst hki;exact him
   .rw [getD_set_ne false (Ne.symm hki)] at hk;exact hLm k hk
theorem Zuh{G:Frm}{β:Nat->Option Nat}{σ:List (Nat×Blk)}{w:World}(b:Nat)(hb:(ctx G β w σ).I b):(ctx G β w.drew σ).I b/\(ctx G β w.drew σ).w.heap[b]?=(ctx G β w σ).w.heap[b]?:=
 ⟨⟨hb.1,hb.2.1,fun l o hl ho=>hb.2.2 l o hl (Z3.of_cell (w:=w) (w':=w.drew) (fun _=>rfl) ho)⟩,rfl⟩
theorem Zac.drew{G:Frm}{β:Nat->Option Nat}{σ:List (Nat×Blk)}{w:World}(l:Nat):Zac (ctx G β w σ) (ctx G β w.drew σ) l:=Zac.same rfl rfl (fun _ _ _ _=>rfl)
theorem Zaw.drew{G:Frm}{β:Nat->Option Nat}{st:St}{a:Act}{w:World}(h:Zaw G β st a w):Zaw G β st a w.drew:=by
 have hI:∀ b,(ctx G β w st.σ).I b->(ctx G β w.drew st.σ).I b/\(ctx G β w.drew st.σ).w.heap[b]?=(ctx G β w st.σ).w.heap[b]?:=fun b hb=>⟨⟨hb.1,hb.2.1,fun l o hl ho=>hb.2.2 l o hl (Z3.of_cell (w:=w) (w':=w.drew) (fun _=>rfl) ho)⟩,rfl⟩
 have hL:∀ l,Zac (ctx G β w st.σ) (ctx G β w.drew st.σ) l:=fun l=>Zac.same rfl rfl (fun _ _ _ _=>rfl)
 exact { defers := h.defers, sz := h.sz, base := h.base, os := h.os, tape := h.tape, output := h.output, old := h.old, A := h.A, gl := h.gl, inj := fun l l' o o' b hl hl' hb hb' => h.inj l l' o o' b hl hl' (Z3.of_cell (w := w) (w' := w.drew) (fun _ => rfl) hb) (Z3.of_cell (w := w) (w' := w.drew) (fun _ => rfl) hb'), sep := fun l o b hl hb => h.sep l o b hl (Z3.of_cell (w := w) (w' := w.drew) (fun _ => rfl) hb), fix := h.fix, row0 := h.row0.step (fun l _ => hL l),
         blk:=fun l o hl=>BR.step hI rfl (fun _ _=>rfl) (fun m _=>hL m) (h.blk l o hl),
         tm:=fun i p hp=>⟨(h.tm i p hp).1,VR.step hI _ _ (fun m _=>hL m) (h.tm i p hp).2⟩ }
theorem Zawe{Q:Exit->St->Prop}{st:St}(xs:List (Option Stm))(pre suf:List Oper)(hops:ops.toList=pre++suf)
 (hplan:Zgi P ops st.n pre xs st.tm st.σ) (hs:Zug ops xs st.tm st.σ=true) (hp:Zeq P ops (Q .normal) suf ⟨st.n,Zid pre xs st.tm,Zlg xs st.σ⟩) {G:Frm} {a:Act} {w:World} (hr:Rel G st a w) :
 wpAny P .any ops (fun e a' w'=>∃ st',Q e st'/\Rel G st' a' w') ops.size (Array.replicate ops.size false) a w.drew:=by
 have hr':Rel G st a w.drew:=by obtain⟨β,h⟩:=hr;exact⟨β,h.drew⟩
 refine Zawd (Q:=Q) hops hplan hs hp G ops.size (Array.replicate ops.size false) st.tm st.σ a w.drew ?_ (by simp) (fun j hj=>?_) ?_ hr'
 .unfold unl
  rw [List.filter_eq_self.2]
  .simp
  .intro j hj
   simp only [List.mem_range] at hj
   simp [hj]
 .exfalso
  rcases Nat.lt_or_ge j ops.size with h | h<;>simp [h] at hj
 .have hno:∀ j,¬ ((Array.replicate ops.size false).getD j false=true):=by
   intro j hj
   rcases Nat.lt_or_ge j ops.size with h | h<;>simp [h] at hj
  exact⟨fun i _ hi=>absurd hi (hno i),fun j _ _ _ hj=>absurd hj (hno j),fun _ _ _ h=>h,fun _ _ h => .inl h,fun l => .inr ⟨fun j _ hj=>absurd hj (hno j),rfl⟩⟩
theorem PW.region_draw{Q:Exit->St->Prop}{id:Nat}{st:St}(hm:P.follows .mixedOrders=true)(xs:List (Option Stm))(pre suf:List Oper)(hops:ops.toList=pre++suf)
 (hplan:Zgi P ops st.n pre xs st.tm st.σ) (hs:Zug ops xs st.tm st.σ=true) (hp:Zeq P ops (Q .normal) suf ⟨st.n,Zid pre xs st.tm,Zlg xs st.σ⟩) :
 PW P (.region id ops true) Q st:=fun _ _ _ hr=>wp_region_any hm (Zawe xs pre suf hops hplan hs hp hr)
end
end Go.PW
namespace Go.PW
open Go.RowKit
inductive LK where
 | b | i (k:IntKind) | s
 deriving DecidableEq
def LK.fits:LK->Zb->Bool
 | .b,.bool _=>true
 | .i k,.int k' _=>decide (k=k')
 | .s,.str _=>true
 | _,_=>false
def fits:List LK->List Zb->Bool
 | [],[]=>true
 | k::ks,t::ts=>k.fits t&&fits ks ts
 | _,_=>false
def Zlh:Zb->Value
 | .bool b => .bool b
 | .int k n => .int k n
 | .str s => .string ⟨s.toArray⟩
 | .con v=>v
 | .sl _=>undef
def Zxx:Zb->Zb->Bool
 | .bool a,.bool b=>a==b
 | .int _ a,.int _ b=>a==b
 | .str a,.str b=>a==b
 | _,_=>false
def Z2:List Zb->List Zb->Bool
 | [],[]=>true
 | a::as,b::bs=>Zxx a b&&Z2 as bs
 | _,_=>false
def Z2s(P:Program)(F:TypeId->Option (List LK)):List Field->Nat->Option (List LK)
 | [],_=>some []
 | f :: fs, off => if f.name = "_" \/ f.offset ≠ off then none else
  match F f.type with
  | none=>none
  | some l=>if P.cellsOf f.type≠l.length then none else (Z2s P F fs (off+l.length)).map (l ++ ·)
def Zjw(P:Program):Nat->TypeId->Option (List LK)
 | 0,_=>none
 | d+1,t=>
  match P.underlying t with
  | some .bool=>some [.b]
  | some (.int k)=>some [.i k]
  | some .string=>some [.s]
  | some (.array n e)=>
   match Zjw P d e with
   | some l=>if P.cellsOf e=l.length/\(P.info? e).isSome then some (List.replicate n l).flatten else none
   | none=>none
  | some (.struct fs)=>if P.stoodInHeld t then none else Z2s P (Zjw P d) fs.toList 0
  | _=>none
def Zli(P:Program)(t:TypeId)(xs:List Zb):Value:=
 match P.underlying t with
 | some (.struct _) | some (.array _ _) => .agg (xs.map Zlh).toArray
 | _=>Zlh (xs.headD default)
theorem Zt3{a b:List LK}:∀ {xs:List Zb},fits (a++b) xs=true->fits a (xs.take a.length)=true/\fits b (xs.drop a.length)=true/\a.length<=xs.length:=by
 induction a with
 | nil=>intro xs h;exact⟨by simp [fits],by simpa using h,by simp⟩
 | cons k a ih=>
  intro xs h
  cases xs with
  | nil=>simp [fits] at h
  | cons x xs=>
   simp only [List.cons_append,fits,Bool.and_eq_true] at h
   obtain⟨h1,h2,h3⟩:=ih h.2
   exact⟨by simp [fits,h.1,h1],by simpa using h2,by simpa using h3⟩
theorem Zt4{a:List LK}:∀ {xs:List Zb},fits a xs=true->xs.length=a.length:=by
 induction a with
 | nil=>intro xs h;cases xs<;>simp [fits] at h⊢
 | cons k a ih=>
  intro xs h
  cases xs with
  | nil=>simp [fits] at h
  | cons x xs=>simp only [fits,Bool.and_eq_true] at h;simp [ih h.2]
theorem Zalp{k:IntKind}{xs:List Zb}(h:fits [.i k] xs=true):∃ a,xs=[.int k a]:=by
 cases xs with
 | nil=>simp [fits] at h
 | cons x xs=>
  simp only [fits,Bool.and_eq_true] at h
  have hn:xs=[]:=by cases xs<;>simp [fits] at h⊢
  subst hn
  cases x<;>simp only [LK.fits,Bool.false_eq_true,false_and] at h
  rename_i k' a
  have hk:k=k':=of_decide_eq_true h.1
  subst hk
  exact⟨a,rfl⟩
theorem Z1b:∀ (as bs cs ds:List Zb),as.length=bs.length->Z2 (as++cs) (bs++ds)=(Z2 as bs&&Z2 cs ds)
 | [],[],cs,ds,_=>by simp [Z2]
 | a::as,b::bs,cs,ds,h=>by simp [Z2,Z1b as bs cs ds (by simpa using h),Bool.and_assoc]
 | [],_::_,_,_,h=>by simp at h
 | _::_,[],_,_,h=>by simp at h
theorem Zzu{P:Program}(w:World){t:TypeId}{l:List LK}{d:Nat}(hf:Zjw P d t=some l)(hc:P.cellsOf t=l.length)(xs:List Zb)(off:Nat)(h:off+l.length<=xs.length) :
 (part t (xs.map Zlh).toArray off).run P w = .ok (Zli P t ((xs.drop off).take l.length)) w:=by
 cases d with
 | zero=>simp [Zjw] at hf
 | succ d=>
  have hinfo:∃ i,P.info? t=some i:=by
   unfold Zjw at hf
   cases hu:P.underlying t with
   | none=>simp [hu] at hf
   | some _=>exact info_of_underlying hu
  obtain⟨i,hi⟩:=hinfo
  have hsz:i.size=l.length:=by simpa [Program.cellsOf,hi] using hc
  have one:l.length=1->(xs.map Zlh).toArray[off]?=some (Zlh (((xs.drop off).take l.length).headD default)):=by
   intro h1
   rw [h1] at h⊢
   have hlt:off < xs.length:=by omega
   simp [List.headD_eq_head?_getD,List.head?_take,hlt]
  unfold Zjw at hf
  cases hu:P.underlying t with
  | none=>simp [hu] at hf
  | some kd=>
   cases kd<;>simp only [hu] at hf<;>try (cases hf;done)
   case struct fs=>simp [part,isAgg,run_underlying hu,sizeOf,typeInfo,hi,hsz,Zli,hu]
   case array n e=>simp [part,isAgg,run_underlying hu,sizeOf,typeInfo,hi,hsz,Zli,hu]
   all_goals
    cases hf
    have:=one rfl
    simp only [part,isAgg,Sem.run_bind,run_underlying hu,Result.andThen_ok,Sem.run_pure,Bool.false_eq_true,if_false,this,Zli,hu]
def Zalq(P:Program)(d:Nat)(t:TypeId)(l:List LK):Prop:=
 ∀ (w:World) (xs ys:List Zb),fits l xs=true->fits l ys=true->(Op.equalIn d t (Zli P t xs) (Zli P t ys)).run P w = .ok (Z2 xs ys) w
theorem Z5i{P:Program}(D d:Nat)(IH:∀ t l,Zjw P d t=some l->Zalq P (D+d) t l)(X Y:List Zb):∀ (fs:List Field) (off:Nat) (ks:List LK),
 Z2s P (Zjw P d) fs off=some ks->fits ks (X.drop off)=true->fits ks (Y.drop off)=true->off<=X.length->off<=Y.length->∀ w,
 (Op.eqFields (D+d) (X.map Zlh).toArray (Y.map Zlh).toArray fs).run P w = .ok (Z2 (X.drop off) (Y.drop off)) w
 | [],off,ks,h,hx,hy,_,_,w=>by
  simp only [Z2s,Option.some.injEq] at h
  subst h
  have h1:=Zt4 hx
  have h2:=Zt4 hy
  rw [List.eq_nil_of_length_eq_zero h1,List.eq_nil_of_length_eq_zero h2]
  simp [Op.eqFields,Z2]
 | f::fs,off,ks,h,hx,hy,hox,hoy,w=>by
  simp only [Z2s] at h
  split at h
  .cases h
  rename_i hn
  simp only [not_or,ne_eq,Decidable.not_not] at hn
  cases hF:Zjw P d f.type with
  | none=>simp [hF] at h
  | some l=>
   simp only [hF] at h
   split at h
   .cases h
   rename_i hc
   simp only [ne_eq,Decidable.not_not] at hc
   cases hr:Z2s P (Zjw P d) fs (off+l.length) with
   | none=>simp [hr] at h
   | some rs=>
    simp only [hr,Option.map_some,Option.some.injEq] at h
    subst h
    obtain⟨hx1,hx2,hx3⟩:=Zt3 hx
    obtain⟨hy1,hy2,hy3⟩:=Zt3 hy
    simp only [List.length_drop] at hx3 hy3
    rw [List.drop_drop] at hx2 hy2
    have hpx:=Zzu w hF hc X off (by omega)
    have hpy:=Zzu w hF hc Y off (by omega)
    have heq:=IH _ _ hF w _ _ hx1 hy1
    have ih:=Z5i D d IH X Y fs (off+l.length) rs hr hx2 hy2 (by omega) (by omega) w
    have hsplit:Z2 (X.drop off) (Y.drop off)=(Z2 ((X.drop off).take l.length) ((Y.drop off).take l.length)&&Z2 (X.drop (off+l.length)) (Y.drop (off+l.length))):=by
     conv=>lhs;rw [<- List.take_append_drop l.length (X.drop off),<- List.take_append_drop l.length (Y.drop off)]
     rw [Z1b _ _ _ _ (by simp;omega),List.drop_drop,List.drop_drop]
    simp only [Op.eqFields,ne_eq,hn.1,not_false_eq_true,if_true,Sem.run_bind,hn.2,hpx,hpy,heq,Result.andThen_ok]
    cases hb:Z2 ((X.drop off).take l.length) ((Y.drop off).take l.length) with
    | false=>simp [hsplit,hb]
    | true=>simp [hsplit,hb,ih]
theorem Z6i{P:Program}(D d:Nat){e:TypeId}{l:List LK}(he:Zjw P d e=some l)(hc:P.cellsOf e=l.length)(IH:Zalq P (D+d) e l)(X Y:List Zb)(w:World):∀ (n i:Nat),
 fits (List.replicate n l).flatten (X.drop (i*l.length))=true->fits (List.replicate n l).flatten (Y.drop (i*l.length))=true->i*l.length<=X.length->i*l.length<=Y.length ->
 (Op.eqItems (D+d) e (P.cellsOf e) (X.map Zlh).toArray (Y.map Zlh).toArray (List.range' i n)).run P w = .ok (Z2 (X.drop (i*l.length)) (Y.drop (i*l.length))) w
 | 0,i,hx,hy,_,_=>by
  have h1:=Zt4 hx
  have h2:=Zt4 hy
  simp only [List.replicate_zero,List.flatten_nil,List.length_nil] at h1 h2
  rw [List.eq_nil_of_length_eq_zero h1,List.eq_nil_of_length_eq_zero h2]
  simp [Op.eqItems,Z2]
 | n+1,i,hx,hy,hox,hoy=>by
  rw [List.replicate_succ,List.flatten_cons] at hx hy
  obtain⟨hx1,hx2,hx3⟩:=Zt3 hx
  obtain⟨hy1,hy2,hy3⟩:=Zt3 hy
  simp only [List.length_drop] at hx3 hy3
  rw [List.drop_drop] at hx2 hy2
  have hpx:=Zzu w he hc X (i*l.length) (by omega)
  have hpy:=Zzu w he hc Y (i*l.length) (by omega)
  have heq:=IH w _ _ hx1 hy1
  have hmul:(i+1)*l.length=i*l.length+l.length:=by rw [Nat.add_mul,Nat.one_mul]
  have ih:=Z6i D d he hc IH X Y w n (i+1) (by rw [hmul];exact hx2) (by rw [hmul];exact hy2) (by omega) (by omega)
  rw [hmul] at ih
  have hsplit:Z2 (X.drop (i*l.length)) (Y.drop (i*l.length))=(Z2 ((X.drop (i*l.length)).take l.length) ((Y.drop (i*l.length)).take l.length)&&Z2 (X.drop (i*l.length+l.length)) (Y.drop (i*l.length+l.length))):=by
   conv=>lhs;rw [<- List.take_append_drop l.length (X.drop (i*l.length)),<- List.take_append_drop l.length (Y.drop (i*l.length))]
   rw [Z1b _ _ _ _ (by simp;omega),List.drop_drop,List.drop_drop]
  rw [hc] at ih⊢
  simp only [List.range'_succ,Op.eqItems,Sem.run_bind,hpx,hpy,heq,Result.andThen_ok]
  cases hb:Z2 ((X.drop (i*l.length)).take l.length) ((Y.drop (i*l.length)).take l.length) with
  | false=>simp [hsplit,hb]
  | true=>simp [hsplit,hb,ih]
theorem Z3z{P:Program}(D:Nat):∀ (d:Nat) (t:TypeId) (l:List LK),Zjw P d t=some l->Zalq P (D+d) t l
 | 0,_,_,h=>by simp [Zjw] at h
 | d+1,t,l,h=>by
  intro w xs ys hx hy
  have h0:=h
  unfold Zjw at h
  cases hu:P.underlying t with
  | none=>simp [hu] at h
  | some kd=>
   cases kd<;>simp only [hu] at h<;>try (cases h;done)
   case bool=>
    cases h
    match xs,ys,hx,hy with
    | [.bool a],[.bool b],_,_=>simp only [Zli,hu,List.headD_cons,Zlh,Z2,Zxx,Bool.and_true];exact run_equalIn_bool' w (D+d) t a b hu
   case int k=>
    cases h
    obtain⟨a,rfl⟩:=Zalp hx
    obtain⟨b,rfl⟩:=Zalp hy
    simp only [Zli,hu,List.headD_cons,Zlh,Z2,Zxx,Bool.and_true]
    exact run_equalIn_int w (D+d) t _ _ a b hu
   case string=>
    cases h
    match xs,ys,hx,hy with
    | [.str a],[.str b],_,_=>
     simp only [Zli,hu,List.headD_cons,Zlh,Z2,Zxx,Bool.and_true]
     rw [show D+(d+1)=(D+d)+1 from rfl,run_equalIn_string w (D+d) t _ _ hu,ByteArray.toList_eq,ByteArray.toList_eq]
   case array n e=>
    cases he:Zjw P d e with
    | none=>simp [he] at h
    | some le=>
     simp only [he] at h
     split at h
     .rename_i hc
      cases h
      obtain⟨i,hi⟩:=Option.isSome_iff_exists.1 hc.2
      simp only [Zli,hu]
      rw [show D+(d+1)=(D+d)+1 from rfl,run_equalIn_array w (D+d) _ _ hu hi,List.range_eq_range']
      simpa using Z6i D d he hc.1 (Z3z D d e le he) xs ys w n 0 (by simpa using hx) (by simpa using hy) (by simp) (by simp)
     .cases h
   case struct fs=>
    split at h
    .cases h
    rename_i hst
    simp only [Zli,hu]
    have hfs:P.fieldsOf t=fs:=by simp [Program.fieldsOf,hu]
    rw [show D+(d+1)=(D+d)+1 from rfl,run_equalIn_struct w (D+d) t _ _ (by rw [hfs];exact hu) (by simpa using hst),hfs]
    simpa using Z5i D d (fun t' l' h'=>Z3z D d t' l' h') xs ys fs.toList 0 l h (by simpa using hx) (by simpa using hy) (by simp) (by simp) w
end Go.PW
namespace Go.PW
open Go.RowKit
def Zkr:Value->Option PV
 | .bool b=>some (.t (.bool b))
 | .int k n=>some (.t (.int k n))
 | .string s=>some (.t (.str s.data.toList))
 | .slice none 0 0=>some .nils
 | .pointer none=>some (.t (.con (.pointer none)))
 | .nilFunc=>some (.t (.con .nilFunc))
 | .nilIface=>some (.t (.con .nilIface))
 | .map none=>some (.t (.con (.map none)))
 | _=>none
def Z83:List (Nat×GK)->Nat->Option PV
 | [],_=>none
 | (j,.cells ts)::l,g=>bif Nat.beq j g then some (.vptr ts) else Z83 l g
 | (_,.anyInt)::l,g=>Z83 l g
theorem Zzv:∀ {l:List (Nat×GK)} {g:Nat} {p:PV},Z83 l g=some p->∃ ts,(g,GK.cells ts)∈l/\p = .vptr ts
 | [],g,p,h=>by cases h
 | (j,.cells ts)::l,g,p,h=>by
  simp only [Z83] at h
  cases hb:Nat.beq j g with
  | true=>
   simp only [hb,cond_true,Option.some.injEq] at h
   have:=(Zu _ _).1 hb
   subst this
   exact⟨ts,by simp,h.symm⟩
  | false=>
   simp only [hb,cond_false] at h
   obtain⟨ts',h1,h2⟩:=Zzv h
   exact⟨ts',List.mem_cons_of_mem _ h1,h2⟩
 | (_,.anyInt)::l,g,p,h=>by
  simp only [Z83] at h
  obtain⟨ts',h1,h2⟩:=Zzv h
  exact⟨ts',List.mem_cons_of_mem _ h1,h2⟩
def Zi(ρ:List (Nat×PV)):Operand->Option PV
 | .tmp t=>get ρ t
 | .const v=>Zkr v
 | .func f=>some (.fn f [])
 | .global g=>Z83 gset g
theorem Zadw{c:Ctx}{v:Value}{p:PV}(h:Zkr v=some p):VR c p v:=by
 unfold Zkr at h
 split at h<;>cases h<;>simp [VR,Zx,Value.oneCell',nsc]
theorem Zaqb{v:Value}{p:PV}(h:Zkr v=some p):p.one=true:=by
 unfold Zkr at h
 split at h<;>cases h<;>rfl
theorem Zh1{G:Frm}{β:Nat->Option Nat}{n:Nat}{ρ tm:List (Nat×PV)}{σ:List (Nat×Blk)}{a:Act}{w:World}(h:Zaw G β ⟨n,tm,σ⟩ a w){x:Operand}{p:PV}
 (hx:Zi ρ x=some p) (hag:∀ t q,x = .tmp t->get ρ t=some q->get tm t=some q):VR (ctx G β w σ) p (a.eval x):=by
 cases x with
 | tmp t=>exact (h.tm t p (hag t p rfl hx)).2
 | const v=>exact Zadw hx
 | func f=>simp only [Zi,Option.some.injEq] at hx;subst hx;simp only [VR,VRs,Act.eval];exact⟨[],rfl,rfl⟩
 | global g=>
  simp only [Zi] at hx
  obtain⟨ts,hm,rfl⟩:=Zzv hx
  have h1:=h.glI hm
  have h2:=(h.glw g _ hm).2
  simp only [VR,Act.eval]
  exact⟨g,0,rfl,fun _=>h1,Z1.mono (fun b hb=>hb.elim) rfl ts 0 h2⟩
section
variable {P:Program} {o:Oper} {ρ:List (Nat×PV)} {σ:List (Nat×Blk)}
theorem Zb9 {need : List Nat} {p : PV} (h : ∀ (G : Frm) (β : Nat -> Option Nat) (n : Nat) (tm : List (Nat × PV)) (σ' : List (Nat × Blk)) (a : Act) (w : World),
      (∀ x q,x∈o.op.operands->Zi ρ x=some q->VR (ctx G β w σ') q (a.eval x))->(∀ l,l∈need->get σ' l=get σ l)->Zaw G β ⟨n,tm,σ'⟩ a w ->
      ∃ v,(execOp a.eval o).run P w = .ok (.value v) w/\VR (ctx G β w σ') p v):Za3 P o ρ σ need p []:=by
 intro G n tm σ' a w K Q hag hneed _ hr hK
 obtain⟨β,hr⟩:=hr
 obtain⟨v,hv,hp⟩:=h G β n tm σ' a w (fun x q hx hq=>Zh1 hr hq (fun t r ht hr'=>hag t r (ht▸hx) hr')) hneed hr
 unfold Oper.wp
 rw [hv]
 exact hK v w ⟨β,hr,hp⟩
theorem Zayu{x:Operand}{p:PV}(ho:o.op = .move x)(hx:Zi ρ x=some p):Za3 P o ρ σ [] p []:=
 Zb9 fun G β n tm σ' a w hop _ _=>⟨a.eval x,by simp [execOp,ho],hop x p (by simp [ho,Op.operands]) hx⟩
theorem Zaui{x:Operand}{p:PV}(ho:o.op = .assign x)(hx:Zi ρ x=some p):Za3 P o ρ σ [] p []:=
 Zb9 fun G β n tm σ' a w hop _ _=>⟨a.eval x,by simp [execOp,ho],hop x p (by simp [ho,Op.operands]) hx⟩
theorem Zayv{c x y:Operand}{b:Bool}{p:PV}(ho:o.op = .pick c x y)(hc:Zi ρ c=some (.t (.bool b)))(hp:Zi ρ (bif b then x else y)=some p):Za3 P o ρ σ [] p []:=
 Zb9 fun G β n tm σ' a w hop _ _=>by
  have h1:=hop c _ (by simp [ho,Op.operands]) hc
  simp only [VR,Zx] at h1
  refine⟨if b then a.eval x else a.eval y,by cases b<;>simp [execOp,ho,h1,asBool],?_⟩
  cases b
  .exact hop y p (by simp [ho,Op.operands]) hp
  .exact hop x p (by simp [ho,Op.operands]) hp
def Zpw(op:BinOp)(k:IntKind)(a b:Int):Int:=
 k.wrap (match op with
  | .and=>(BitVec.ofInt k.bits a &&& BitVec.ofInt k.bits b).toNat
  | .or=>(BitVec.ofInt k.bits a ||| BitVec.ofInt k.bits b).toNat
  | .xor=>(BitVec.ofInt k.bits a ^^^ BitVec.ofInt k.bits b).toNat
  | _=>(BitVec.ofInt k.bits a &&& ~~~BitVec.ofInt k.bits b).toNat)
def Z6j(op:BinOp)(k:IntKind)(a b:Int):Option Zb:=
 match op with
 | .add=>some (.int k (k.wrap (a+b)))
 | .sub=>some (.int k (k.wrap (a - b)))
 | .mul=>some (.int k (k.wrap (a*b)))
 | .quo=>if b=0 then none else some (.int k (k.wrap (a.tdiv b)))
 | .rem=>if b=0 then none else some (.int k (a.tmod b))
 | .and=>some (.int k (Zpw .and k a b))
 | .or=>some (.int k (Zpw .or k a b))
 | .xor=>some (.int k (Zpw .xor k a b))
 | .andNot=>some (.int k (Zpw .andNot k a b))
 | .eql=>some (.bool (a==b))
 | .neq=>some (.bool (a != b))
 | .lss=>some (.bool (decide (a < b)))
 | .leq=>some (.bool (decide (a<=b)))
 | .gtr=>some (.bool (decide (a > b)))
 | .geq=>some (.bool (decide (a>=b)))
 | _=>none
def Zadx(op:BinOp)(k:IntKind)(a b:Int):Option Zb:=
 if b < 0 then none else
 match op with
 | .shl=>some (.int k (k.wrap (a*2 ^ (min b.toNat k.bits))))
 | .shr=>some (.int k (a.fdiv (2 ^ (min b.toNat k.bits))))
 | _=>none
def Zalr(op:BinOp)(a b:List UInt8):Option Zb:=
 match op with
 | .eql=>some (.bool (a==b))
 | .neq=>some (.bool (!(a==b)))
 | .lss=>some (.bool (Op.bytesLess a b))
 | .leq=>some (.bool (Op.bytesLess a b||a==b))
 | .gtr=>some (.bool (!(Op.bytesLess a b||a==b)))
 | .geq=>some (.bool (!Op.bytesLess a b))
 | _=>none
theorem Zfo{op:BinOp}{t:TypeId}{x y:Operand}{u v:Value}(w:World)(h:match u,v with | .nilIface,.nilIface=>False | .agg _,.agg _=>False | _,_=>True) :
 (eqGuard op t x y u v).run P w = .ok () w:=by
 unfold eqGuard
 cases op<;>simp only [Bool.not_true,Bool.not_false,if_true,Bool.false_eq_true,if_false,Sem.run_bind,Sem.run_pure,Result.andThen_ok] <;>
  (cases u<;>cases v<;>first | exact h.elim | rfl)
theorem Zals{op:BinOp}{xT yT:TypeId}{x y:Operand}{k:IntKind}{a b:Int}{r:Zb}(ho:o.op = .binOp op xT x y yT)(hx:Zi ρ x=some (.t (.int k a)))(hy:Zi ρ y=some (.t (.int k b)))
 (hr:Z6j op k a b=some r):Za3 P o ρ σ [] (.t r) []:=
 Zb9 fun G β n tm σ' A w hop _ _=>by
  have h1:=hop x _ (by simp [ho,Op.operands]) hx
  have h2:=hop y _ (by simp [ho,Op.operands]) hy
  simp only [VR,Zx] at h1 h2
  have hg:=Zfo (P:=P) (op:=op) (t:=xT) (x:=x) (y:=y) (u := .int k a) (v := .int k b) w trivial
  cases op<;>simp only [Z6j] at hr
  case quo=>
   split at hr
   .cases hr
   .rename_i hb
    cases hr
    exact⟨_,by simp [execOp,ho,h1,h2,hg,binOp,Op.intDiv,hb];rfl,by simp [VR,Zx]⟩
  case rem=>
   split at hr
   .cases hr
   .rename_i hb
    cases hr
    exact⟨_,by simp [execOp,ho,h1,h2,hg,binOp,Op.intDiv,hb];rfl,by simp [VR,Zx]⟩
  case shl=>cases hr
  case shr=>cases hr
  all_goals
   cases hr
   exact⟨_,by simp [execOp,ho,h1,h2,hg,binOp,Op.intArith,Op.intBits,Op.intCmp];rfl,by simp [VR,Zx,Zpw]⟩
theorem Zalt{op:BinOp}{xT yT:TypeId}{x y:Operand}{k k':IntKind}{a b:Int}{r:Zb}(ho:o.op = .binOp op xT x y yT)(hx:Zi ρ x=some (.t (.int k a)))(hy:Zi ρ y=some (.t (.int k' b)))
 (hr:Zadx op k a b=some r):Za3 P o ρ σ [] (.t r) []:=
 Zb9 fun G β n tm σ' A w hop _ _=>by
  have h1:=hop x _ (by simp [ho,Op.operands]) hx
  have h2:=hop y _ (by simp [ho,Op.operands]) hy
  simp only [VR,Zx] at h1 h2
  have hg:=Zfo (P:=P) (op:=op) (t:=xT) (x:=x) (y:=y) (u := .int k a) (v := .int k' b) w trivial
  unfold Zadx at hr
  split at hr
  .cases hr
  rename_i hb
  cases op<;>simp only at hr<;>cases hr
  all_goals exact⟨_,by simp [execOp,ho,h1,h2,hg,binOp,Op.shift,hb];rfl,by simp [VR,Zx]⟩
theorem Zazx{op:BinOp}{xT yT:TypeId}{x y:Operand}{a b:List UInt8}{r:Zb}(ho:o.op = .binOp op xT x y yT)(hx:Zi ρ x=some (.t (.str a)))(hy:Zi ρ y=some (.t (.str b)))
 (hr:Zalr op a b=some r):Za3 P o ρ σ [] (.t r) []:=
 Zb9 fun G β n tm σ' A w hop _ _=>by
  have h1:=hop x _ (by simp [ho,Op.operands]) hx
  have h2:=hop y _ (by simp [ho,Op.operands]) hy
  simp only [VR,Zx] at h1 h2
  have hg:=Zfo (P:=P) (op:=op) (t:=xT) (x:=x) (y:=y) (u := .string ⟨a.toArray⟩) (v := .string ⟨b.toArray⟩) w trivial
  cases op<;>simp only [Zalr] at hr<;>cases hr
  all_goals exact⟨_,by simp [execOp,ho,h1,h2,hg,binOp,Op.stringOp,ByteArray.toList_eq];rfl,by simp [VR,Zx]⟩
theorem Zauj{xT yT:TypeId}{x y:Operand}{a b:List UInt8}(ho:o.op = .binOp .add xT x y yT)(hx:Zi ρ x=some (.t (.str a)))(hy:Zi ρ y=some (.t (.str b)))
 (hl:a.length+b.length<=9223372036854775807):Za3 P o ρ σ [] (.t (.str (a++b))) []:=
 Zb9 fun G β n tm σ' A w hop _ _=>by
  have h1:=hop x _ (by simp [ho,Op.operands]) hx
  have h2:=hop y _ (by simp [ho,Op.operands]) hy
  simp only [VR,Zx] at h1 h2
  have hg:=Zfo (P:=P) (op := .add) (t:=xT) (x:=x) (y:=y) (u := .string ⟨a.toArray⟩) (v := .string ⟨b.toArray⟩) w trivial
  have hsz:¬ (((⟨a.toArray⟩:ByteArray).size+(⟨b.toArray⟩:ByteArray).size:Nat):Int) > IntKind.i64.max:=by
   have e1:(⟨a.toArray⟩:ByteArray).size=a.length:=by simp [ByteArray.size]
   have e2:(⟨b.toArray⟩:ByteArray).size=b.length:=by simp [ByteArray.size]
   rw [e1,e2]
   have:IntKind.i64.max=9223372036854775807:=by rfl
   omega
  refine⟨.string ⟨(a++b).toArray⟩,?_,by simp [VR,Zx]⟩
  have happ:(⟨a.toArray⟩:ByteArray)++(⟨b.toArray⟩:ByteArray)=⟨(a++b).toArray⟩:=by
   apply ByteArray.ext
   simp
  simp only [execOp,ho,h1,h2,Sem.run_bind,hg,Result.andThen_ok,binOp,Op.stringOp,hsz,if_false,Sem.run_pure,happ]
theorem Zai2{op:BinOp}{xT yT:TypeId}{x y:Operand}{a b r:Bool}(ho:o.op = .binOp op xT x y yT)(hT:P.underlying xT=some .bool)(hx:Zi ρ x=some (.t (.bool a)))(hy:Zi ρ y=some (.t (.bool b)))
 (hr:(op = .eql/\r=(a==b))\/(op = .neq/\r = !(a==b))):Za3 P o ρ σ [] (.t (.bool r)) []:=
 Zb9 fun G β n tm σ' A w hop _ _=>by
  have h1:=hop x _ (by simp [ho,Op.operands]) hx
  have h2:=hop y _ (by simp [ho,Op.operands]) hy
  simp only [VR,Zx] at h1 h2
  have hg:=Zfo (P:=P) (op:=op) (t:=xT) (x:=x) (y:=y) (u := .bool a) (v := .bool b) w trivial
  have he:(Op.equal xT (.bool a) (.bool b)).run P w = .ok (a==b) w:=run_equalIn_bool' w 9999 xT a b hT
  refine⟨.bool r,?_,by simp [VR,Zx]⟩
  rcases hr with ⟨rfl,rfl⟩ | ⟨rfl,rfl⟩<;>simp [execOp,ho,h1,h2,hg,binOp,he]
theorem Zahk{c:Ctx}:∀ {ts:List Zb} {vs:List Value} {ks:List LK},VRs c (ts.map PV.t) vs->fits ks ts=true->vs=ts.map Zlh
 | [],vs,_,h,_=>by simpa [VRs] using h
 | t::ts,vs,ks,h,hf=>by
  cases ks with
  | nil=>simp [fits] at hf
  | cons k ks=>
   simp only [List.map_cons,VRs] at h
   obtain⟨v,rest,rfl,hv,hr⟩:=h
   simp only [fits,Bool.and_eq_true] at hf
   rw [Zahk hr hf.2]
   have:v=Zlh t:=by
    simp only [VR] at hv
    cases t<;>cases k<;>simp only [LK.fits,Bool.false_eq_true,false_and] at hf<;>simpa [Zx,Zlh] using hv
   rw [this];rfl
def eqOp(op:BinOp)(r:Bool):Option Bool:=
 match op with
 | .eql=>some r
 | .neq=>some (!r)
 | _=>none
theorem Zawg{op:BinOp}{xT yT:TypeId}{x y:Operand}{as bs:List Zb}{r:Bool}(d:Nat)(ks:List LK)(ho:o.op = .binOp op xT x y yT)(hd:d<=10000)(hT:Zjw P d xT=some ks)
 (hagg:∃ k,P.underlying xT=some k/\k.isRow=true) (hgt:P.eqGuardType P.depth xT=false)
 (hx:Zi ρ x=some (.agg (as.map .t))) (hy:Zi ρ y=some (.agg (bs.map .t))) (ha:fits ks as=true) (hb:fits ks bs=true) (hr:eqOp op (Z2 as bs)=some r):Za3 P o ρ σ [] (.t (.bool r)) []:=
 Zb9 fun G β n tm σ' A w hop _ _=>by
  have h1:=hop x _ (by simp [ho,Op.operands]) hx
  have h2:=hop y _ (by simp [ho,Op.operands]) hy
  simp only [VR] at h1 h2
  obtain⟨vs,h1,hv1⟩:=h1
  obtain⟨us,h2,hv2⟩:=h2
  have e1:=Zahk hv1 ha
  have e2:=Zahk hv2 hb
  subst e1;subst e2
  obtain⟨k,hk,hrow⟩:=hagg
  have hp1:Zli P xT as = .agg (as.map Zlh).toArray:=by cases k<;>simp_all [Zli]
  have hp2:Zli P xT bs = .agg (bs.map Zlh).toArray:=by cases k<;>simp_all [Zli]
  have he:=Z3z (P:=P) (10000 - d) d xT ks hT w as bs ha hb
  rw [show 10000 - d+d=10000 by omega,hp1,hp2] at he
  have hg:=run_eqGuard_agg (P:=P) w op xT x y (as.map Zlh).toArray (bs.map Zlh).toArray hgt
  refine⟨.bool r,?_,by simp [VR,Zx]⟩
  cases op<;>simp only [eqOp] at hr<;>cases hr
  .simp only [execOp,ho,h1,h2,Sem.run_bind,hg,Result.andThen_ok,run_eql_struct,he,Sem.run_pure]
  .simp only [execOp,ho,h1,h2,Sem.run_bind,hg,Result.andThen_ok,run_neq_struct,he,Sem.run_pure]
theorem Zazy{t:TypeId}{x:Operand}{b:Bool}(ho:o.op = .unOp .not t x)(hx:Zi ρ x=some (.t (.bool b))):Za3 P o ρ σ [] (.t (.bool (!b))) []:=
 Zb9 fun G β n tm σ' A w hop _ _=>by
  have h1:=hop x _ (by simp [ho,Op.operands]) hx
  simp only [VR,Zx] at h1
  exact⟨_,by simp [execOp,ho,h1,Op.unary];rfl,by simp [VR,Zx]⟩
theorem Zazz{t:TypeId}{x:Operand}{k:IntKind}{a:Int}(ho:o.op = .unOp .neg t x)(hx:Zi ρ x=some (.t (.int k a))):Za3 P o ρ σ [] (.t (.int k (k.wrap (0 - a)))) []:=
 Zb9 fun G β n tm σ' A w hop _ _=>by
  have h1:=hop x _ (by simp [ho,Op.operands]) hx
  simp only [VR,Zx] at h1
  exact⟨.int k (k.wrap (0 - a)),by simp only [execOp,ho,h1,Op.unary,Op.intArith,Sem.run_bind,Sem.run_pure,Result.andThen_ok],by simp [VR,Zx]⟩
theorem Zawh{t:TypeId}{x:Operand}{k:IntKind}{a:Int}(ho:o.op = .unOp .xor t x)(hx:Zi ρ x=some (.t (.int k a))):Za3 P o ρ σ [] (.t (.int k (Zpw .xor k (if k.signed then -1 else k.max) a))) []:=
 Zb9 fun G β n tm σ' A w hop _ _=>by
  have h1:=hop x _ (by simp [ho,Op.operands]) hx
  simp only [VR,Zx] at h1
  exact⟨.int k (Zpw .xor k (if k.signed then -1 else k.max) a),by simp only [execOp,ho,h1,Op.unary,Op.intBits,Sem.run_bind,Sem.run_pure,Result.andThen_ok,Zpw],by simp [VR,Zx]⟩
theorem Zasi{s d:TypeId}{x:Operand}{k k':IntKind}{a:Int}(ho:o.op = .convert s d x)(hs:∃ ds,P.underlying s=some ds)(hd:P.underlying d=some (.int k'))(hx:Zi ρ x=some (.t (.int k a))) :
 Za3 P o ρ σ [] (.t (.int k' (k'.wrap a))) []:=
 Zb9 fun G β n tm σ' A w hop _ _=>by
  have h1:=hop x _ (by simp [ho,Op.operands]) hx
  simp only [VR,Zx] at h1
  obtain⟨ds,hs⟩:=hs
  refine⟨.int k' (k'.wrap a),?_,by simp [VR,Zx]⟩
  simp only [execOp,ho,h1,convert,Sem.run_bind,run_underlying hs,run_underlying hd,Result.andThen_ok,Conv.intToInt,Sem.run_pure]
theorem Zasj{s d:TypeId}{x:Operand}{a:List UInt8}(ho:o.op = .convert s d x)(hs:P.underlying s=some .string)(hd:P.underlying d=some .string)(hx:Zi ρ x=some (.t (.str a))) :
 Za3 P o ρ σ [] (.t (.str a)) []:=
 Zb9 fun G β n tm σ' A w hop _ _=>by
  have h1:=hop x _ (by simp [ho,Op.operands]) hx
  simp only [VR,Zx] at h1
  refine⟨.string ⟨a.toArray⟩,?_,by simp [VR,Zx]⟩
  simp only [execOp,ho,h1,convert,Sem.run_bind,run_underlying hs,run_underlying hd,Result.andThen_ok,Sem.run_pure]
theorem Zaz0{t:TypeId}{x:Operand}{es:List (List Zb)}{e:TypeId}(ho:o.op = .call { callee := .builtin .len,args := #[x],argTypes := #[t] })(hT:P.underlying t=some (.slice e))(hx:Zi ρ x=some (.t (.sl es))) :
 Za3 P o ρ σ [] (.t (.int .i64 es.length)) []:=
 Zb9 fun G β n tm σ' A w hop _ _=>by
  have h1:=hop x _ (by simp [ho,Op.operands,Call.operands]) hx
  simp only [VR,Zx] at h1
  obtain⟨a,cap,h1,_⟩:=h1
  exact⟨.int .i64 es.length,by simp [execOp,ho,resolve,invoke,builtin,Builtin.len_,h1,run_underlying hT,goInt],by simp [VR,Zx]⟩
theorem Zauk{t:TypeId}{x:Operand}{e:TypeId}(ho:o.op = .call { callee := .builtin .len,args := #[x],argTypes := #[t] })(hT:P.underlying t=some (.slice e))(hx:Zi ρ x=some .nils) :
 Za3 P o ρ σ [] (.t (.int .i64 0)) []:=
 Zb9 fun G β n tm σ' A w hop _ _=>by
  have h1:=hop x _ (by simp [ho,Op.operands,Call.operands]) hx
  simp only [VR] at h1
  obtain⟨a,h1⟩:=h1
  exact⟨.int .i64 0,by simp [execOp,ho,resolve,invoke,builtin,Builtin.len_,h1,run_underlying hT,goInt],by simp [VR,Zx]⟩
theorem Zaul{t:TypeId}{x:Operand}{e:TypeId}{l m k:Nat}{es:List (List Zb)}(ho:o.op = .call { callee := .builtin .len,args := #[x],argTypes := #[t] })(hT:P.underlying t=some (.slice e))
 (hx:Zi ρ x=some (.osl l m)) (hg:get σ l=some (.row k es)) (hm:es.length=m):Za3 P o ρ σ [l] (.t (.int .i64 m)) []:=
 Zb9 fun G β n tm σ' A w hop hneed _=>by
  have h1:=hop x _ (by simp [ho,Op.operands,Call.operands]) hx
  simp only [VR] at h1
  obtain⟨a,cap,hv,_⟩:=(h1.1 k es (by rw [<- hg];exact hneed l (by simp))).2 hm.symm
  exact⟨.int .i64 m,by simp [execOp,ho,resolve,invoke,builtin,Builtin.len_,hv,run_underlying hT,goInt],by simp [VR,Zx]⟩
theorem Zaum{t:TypeId}{x:Operand}{s:List UInt8}(ho:o.op = .call { callee := .builtin .len,args := #[x],argTypes := #[t] })(hT:P.underlying t=some .string)(hx:Zi ρ x=some (.t (.str s))) :
 Za3 P o ρ σ [] (.t (.int .i64 s.length)) []:=
 Zb9 fun G β n tm σ' A w hop _ _=>by
  have h1:=hop x _ (by simp [ho,Op.operands,Call.operands]) hx
  simp only [VR,Zx] at h1
  have e:((⟨s.toArray⟩:ByteArray).size:Nat)=s.length:=by simp [ByteArray.size]
  refine⟨.int .i64 s.length,?_,by simp [VR,Zx]⟩
  simp only [execOp,ho,resolve,invoke,builtin,Builtin.len_,List.map_toArray,List.map_cons,List.map_nil,Sem.run_bind,Sem.run_pure,Result.andThen_ok,h1]
  simp [run_underlying hT,goInt,e]
theorem VRs.drop{c:Ctx}:∀ {ps:List PV} {vs:List Value} (n:Nat),VRs c ps vs->VRs c (ps.drop n) (vs.drop n)
 | ps,vs,0,h=>by simpa using h
 | [],vs,n+1,h=>by simp only [VRs] at h;subst h;simp [VRs]
 | p::ps,vs,n+1,h=>by
  simp only [VRs] at h
  obtain⟨v,rest,rfl,_,hr⟩:=h
  simpa using VRs.drop n hr
theorem VRs.take{c:Ctx}:∀ {ps:List PV} {vs:List Value} (n:Nat),VRs c ps vs->VRs c (ps.take n) (vs.take n)
 | ps,vs,0,_=>by simp [VRs]
 | [],vs,n+1,h=>by simp only [VRs] at h;subst h;simp [VRs]
 | p::ps,vs,n+1,h=>by
  simp only [VRs] at h
  obtain⟨v,rest,rfl,hv,hr⟩:=h
  simp only [List.take_succ_cons,VRs]
  exact⟨v,_,rfl,hv,VRs.take n hr⟩
structure TyF (P:Program) (t:TypeId) (agg:Bool) (size:Nat):Prop where
 und:∃ d,P.underlying t=some d/\d.isRow=agg
 size:(P.info? t).map (·.size)=some size
theorem TyF.info{P:Program}{t:TypeId}{agg:Bool}{size:Nat}(h:TyF P t agg size):∃ i,P.info? t=some i/\i.size=size:=by
 cases hi:P.info? t with
 | none=>have:=h.size;simp [hi] at this
 | some i=>exact⟨i,rfl,by have:=h.size;simpa [hi] using this⟩
theorem TyF.run_isAgg{P:Program}{t:TypeId}{agg:Bool}{size:Nat}(h:TyF P t agg size)(w:World):(isAgg t).run P w = .ok agg w:=by
 obtain⟨d,hu,hd⟩:=h.und
 unfold isAgg
 rw [Sem.run_bind,run_underlying hu w]
 cases d<;>simp_all
theorem TyF.run_sizeOf{P:Program}{t:TypeId}{agg:Bool}{size:Nat}(h:TyF P t agg size)(w:World):(sizeOf t).run P w = .ok size w:=by
 obtain⟨i,hi,hs⟩:=h.info
 simp [sizeOf,typeInfo,hi,hs]
def Zec(agg:Bool)(size off:Nat)(cs:List PV):Option PV:=
 bif agg then (bif Nat.ble (off+size) cs.length then some (.agg ((cs.drop off).take size)) else none) else cs[off]?
theorem Z9y{c:Ctx}{t:TypeId}{agg:Bool}{size off:Nat}(hT:TyF P t agg size)(w:World){ps:List PV}{vs:List Value}(hv:VRs c ps vs){p:PV}(hp:Zec agg size off ps=some p) :
 ∃ v,(part t vs.toArray off).run P w = .ok v w/\VR c p v:=by
 have hl:=hv.length
 cases agg with
 | false=>
  simp only [Zec,cond_false] at hp
  obtain⟨v,hv1,hv2⟩:=hv.get off p hp
  exact⟨v,by simp [part,hT.run_isAgg w,hv1],hv2⟩
 | true=>
  simp only [Zec,cond_true] at hp
  cases hb:Nat.ble (off+size) ps.length with
  | false=>simp [hb] at hp
  | true=>
   simp only [hb,cond_true,Option.some.injEq] at hp
   subst hp
   refine⟨.agg ((vs.drop off).take size).toArray,?_,?_⟩
   .simp [part,hT.run_isAgg w,hT.run_sizeOf w]
   .simp only [VR]
    exact⟨_,rfl,(hv.drop off).take size⟩
theorem Zawi{xT fT:TypeId}{x:Operand}{i off:Nat}{cs:List PV}{p:PV}{agg:Bool}{size:Nat}(fs:Array Field)(f:Field)(ho:o.op = .field xT x i)(hT:P.underlying xT=some (.struct fs))(hf:fs[i]?=some f)
 (hft:f.type=fT) (hfo:f.offset=off) (hF:TyF P fT agg size) (hx:Zi ρ x=some (.agg cs)) (hp:Zec agg size off cs=some p):Za3 P o ρ σ [] p []:=
 Zb9 fun G β n tm σ' A w hop _ _=>by
  have h1:=hop x _ (by simp [ho,Op.operands]) hx
  simp only [VR] at h1
  obtain⟨vs,h1,hv⟩:=h1
  subst hft;subst hfo
  obtain⟨v,hr,hv⟩:=Z9y hF w hv hp
  refine⟨v,?_,hv⟩
  simp only [execOp,ho,h1,Instr.field,Sem.run_bind,run_underlying hT,Result.andThen_ok,hf,asAgg,Sem.run_pure,hr]
theorem Zask{x:Operand}{i:Nat}{cs:List PV}{p:PV}(ho:o.op = .extract x i)(hx:Zi ρ x=some (.tup cs))(hp:cs[i]?=some p):Za3 P o ρ σ [] p []:=
 Zb9 fun G β n tm σ' A w hop _ _=>by
  have h1:=hop x _ (by simp [ho,Op.operands]) hx
  simp only [VR] at h1
  obtain⟨vs,h1,hv⟩:=h1
  obtain⟨v,hv1,hv2⟩:=hv.get i p hp
  refine⟨v,?_,hv2⟩
  simp [execOp,ho,h1,Instr.extract,hv1]
theorem Zaqc{x:Operand}{p:PV}(ho:o.op = .nilCheck x)(hx:Zi ρ x=some p)(hp:match p with | .bptr _ _=>False | .rptr _ _ _ _=>False | .vptr _=>True | _=>False):Za3 P o ρ σ [] p []:=
 Zb9 fun G β n tm σ' A w hop _ _=>by
  have h1:=hop x _ (by simp [ho,Op.operands]) hx
  cases p<;>simp only at hp
  simp only [VR] at h1⊢
  obtain⟨b,off,hv,h⟩:=h1
  exact⟨.pointer (some ⟨b,off,none⟩),by simp [execOp,ho,hv],b,off,rfl,h⟩
theorem Zaqd{t:TypeId}{f:FuncId}{caps:Array Operand}{ps:List PV}(ho:o.op = .makeFunc (.func f) #[] caps)(hx:caps.toList.mapM (Zi ρ)=some ps):Za3 P o ρ σ [] (.fn f ps) []:=
 Zb9 fun G β n tm σ' A w hop _ _=>by
  refine⟨.func (.func f) #[] (caps.map A.eval),by simp [execOp,ho,Instr.makeFunc],?_⟩
  simp only [VR]
  refine⟨caps.toList.map A.eval,by rw [<- Array.toList_map],?_⟩
  have hall:∀ x∈caps.toList,∀ q,Zi ρ x=some q->VR (ctx G β w σ') q (A.eval x):=fun x hx q hq=>hop x q (by simp only [ho,Op.operands];simpa using hx) hq
  generalize caps.toList=l at hx hall
  clear hop ho t
  induction l generalizing ps with
  | nil=>simp at hx;subst hx;simp [VRs]
  | cons x l ih=>
   rw [List.mapM_cons] at hx
   simp only [bind,Option.bind_eq_some_iff,pure,Option.some.injEq] at hx
   obtain⟨q,hq,qs,hqs,rfl⟩:=hx
   simp only [List.map_cons,VRs]
   exact⟨_,_,rfl,hall x (by simp) q hq,ih hqs (fun y hy=>hall y (List.mem_cons_of_mem _ hy))⟩
end
end Go.PW
namespace Go.PW
open Go.RowKit
def Zz:PV->List PV
 | .agg cs=>cs
 | p=>[p]
def splice{α:Type}(cells:List α)(off:Nat)(cs:List α):List α:=cells.take off++cs++cells.drop (off+cs.length)
def Zjc(places:List (Nat×Nat))(cells:List PV):List (Nat×PV)->Option (List PV)
 | []=>some cells
 | (i,p)::rest=>
  match places[i]? with
  | none=>none
  | some (off,size)=>bif Nat.beq (Zz p).length size&&Nat.ble (off+size) cells.length then Zjc places (splice cells off (Zz p)) rest else none
theorem VR.cells{c:Ctx}{p:PV}{v:Value}(h:VR c p v):VRs c (Zz p) v.cells.toList:=by
 cases p
 case agg cs=>simp only [VR] at h;obtain⟨vs,rfl,h⟩:=h;simpa [Zz,Value.cells] using h
 all_goals
  simp only [Zz,VRs]
  refine⟨v,[],?_,h,rfl⟩
  cases v<;>first
   | rfl
   | (exfalso;simp only [VR] at h;first
    | (have:=Zx.oneCell h;simp [Value.oneCell'] at this;done)
    | (obtain⟨a,h⟩:=h;cases h;done)
    | (obtain⟨_,a,m,cap,h⟩:=h;cases h;done)
    | (obtain⟨_,a,h⟩:=h;cases h;done)
    | (obtain⟨b,off,h,_⟩:=h;cases h;done)
    | (obtain⟨vs,h,_⟩:=h;cases h;done)
    | (cases h;done))
theorem Zady(off:Nat):∀ (L:List Value) (k:Nat) (A:Array Value),off+k+L.length<=A.size ->
 ((L.zipIdx k).foldl (fun cs (x:Value×Nat)=>cs.setIfInBounds (off+x.2) x.1) A).toList=A.toList.take (off+k)++L++A.toList.drop (off+k+L.length)
 | [],k,A,_=>by simp
 | v::L,k,A,h=>by
  simp only [List.length_cons] at h
  simp only [List.zipIdx_cons,List.foldl_cons]
  rw [Zady off L (k+1) _ (by simp;omega)]
  have hlt:off+k < A.toList.length:=by simp;omega
  have e1:(A.setIfInBounds (off+k) v).toList=A.toList.take (off+k)++v::A.toList.drop (off+k+1):=by
   rw [Array.toList_setIfInBounds,List.set_eq_take_append_cons_drop,if_pos hlt]
  rw [e1]
  have hl:(A.toList.take (off+k)).length=off+k:=by rw [List.length_take];omega
  rw [show off+(k+1)=off+k+1 by omega]
  have t1:(A.toList.take (off+k)++v::A.toList.drop (off+k+1)).take (off+k+1)=A.toList.take (off+k)++[v]:=by
   rw [List.take_append,hl,show off+k+1 - (off+k)=1 by omega,List.take_of_length_le (by rw [hl];omega)]
   rfl
  have t2:(A.toList.take (off+k)++v::A.toList.drop (off+k+1)).drop (off+k+1+L.length)=A.toList.drop (off+k+(L.length+1)):=by
   rw [List.drop_append,hl,List.drop_eq_nil_of_le (by rw [hl];omega),List.nil_append,show off+k+1+L.length - (off+k)=L.length+1 by omega,List.drop_succ_cons,List.drop_drop]
   congr 1;omega
  rw [t1,t2]
  simp
theorem VRs.append{c:Ctx}:∀ {ps qs:List PV} {vs us:List Value},VRs c ps vs->VRs c qs us->VRs c (ps++qs) (vs++us)
 | [],qs,vs,us,h,k=>by simp only [VRs] at h;subst h;simpa using k
 | p::ps,qs,vs,us,h,k=>by
  simp only [VRs] at h
  obtain⟨v,rest,rfl,hv,hr⟩:=h
  simp only [List.cons_append,VRs]
  exact⟨v,_,rfl,hv,hr.append k⟩
def VPs(c:Ctx):List (Nat×PV)->List (Nat×Value)->Prop
 | [],vs=>vs=[]
 | (i,p)::ps,vs=>∃ v rest,vs=(i,v)::rest/\VR c p v/\VPs c ps rest
theorem Z84{c:Ctx}(pl:List (Nat×Nat))(f:Nat->Option (Nat×Nat))(hf:∀ i x,pl[i]?=some x->f i=some x):∀ (parts:List (Nat×PV)) (vals:List (Nat×Value)) (cells:List PV) (vs:List Value) (out:List PV),
 VPs c parts vals->VRs c cells vs->Zjc pl cells parts=some out->∃ us,Instr.fill f vs.toArray vals=some us.toArray/\VRs c out us
 | [],vals,cells,vs,out,hp,hv,h=>by
  simp only [VPs] at hp
  subst hp
  simp only [Zjc,Option.some.injEq] at h
  subst h
  exact⟨vs,rfl,hv⟩
 | (i,p)::parts,vals,cells,vs,out,hp,hv,h=>by
  simp only [VPs] at hp
  obtain⟨v,rest,rfl,hpv,hr⟩:=hp
  simp only [Zjc] at h
  cases hpl:pl[i]? with
  | none=>simp [hpl] at h
  | some x=>
   obtain⟨off,size⟩:=x
   simp only [hpl] at h
   have hc:=hpv.cells
   have hcl:=hc.length
   have hvl:=hv.length
   cases hb:Nat.beq (Zz p).length size&&Nat.ble (off+size) cells.length with
   | false=>simp [hb] at h
   | true=>
    simp only [hb,cond_true] at h
    simp only [Bool.and_eq_true,Zu,Nat.ble_eq] at hb
    have hsz:v.cells.size=size:=by rw [<- Array.length_toList,hcl,hb.1]
    have hfill:(v.cells.zipIdx.foldl (fun cs (x:Value×Nat)=>cs.setIfInBounds (off+x.2) x.1) vs.toArray)=(splice vs off v.cells.toList).toArray:=by
     apply Array.ext'
     rw [<- Array.foldl_toList,Array.toList_zipIdx,Zady off v.cells.toList 0 vs.toArray (by simp;omega)]
     simp [splice]
    obtain⟨us,hu,hus⟩:=Z84 pl f hf parts rest (splice cells off (Zz p)) (splice vs off v.cells.toList) out hr (((hv.take off).append hc).append (by rw [hcl];exact hv.drop _)) h
    refine⟨us,?_,hus⟩
    simp only [Instr.fill,hf i _ hpl]
    have hn:¬ (v.cells.size≠size\/off+v.cells.size > vs.toArray.size):=by simp;omega
    have hcond:(decide (v.cells.size≠size)||decide (off+v.cells.size > vs.toArray.size))=false:=by simp;omega
    rw [if_neg (by simpa using hn)]
    rw [hfill];exact hu
def Zrf(P:Program)(t:TypeId):Option (List (Nat×Nat)):=
 match P.underlying t with
 | some (.struct fs)=>fs.toList.mapM fun f=>(P.info? f.type).map fun i=>(f.offset,i.size)
 | _=>none
def Z6k(P:Program)(t:TypeId):Option (List (Nat×Nat)):=
 match P.underlying t with
 | some (.array n e)=>(P.info? e).map fun i=>(List.range n).map fun j=>(j*i.size,i.size)
 | _=>none
def Zge(P:Program)(t:TypeId):Option (List PV):=((P.info? t).bind (·.zero)).bind fun z=>z.cells.toList.mapM Zkr
theorem Zgo{c:Ctx}:∀ {vs:List Value} {ps:List PV},vs.mapM Zkr=some ps->VRs c ps vs
 | [],ps,h=>by simp at h;subst h;simp [VRs]
 | v::vs,ps,h=>by
  rw [List.mapM_cons] at h
  simp only [bind,Option.bind_eq_some_iff,pure,Option.some.injEq] at h
  obtain⟨p,hp,qs,hq,rfl⟩:=h
  simp only [VRs]
  exact⟨v,vs,rfl,Zadw hp,Zgo hq⟩
structure BuF (P:Program) (t:TypeId) (places:List (Nat×Nat)) (zero:List PV):Prop where
 pl:Zrf P t=some places\/Z6k P t=some places
 z:Zge P t=some zero
theorem BuF.run{P:Program}{t:TypeId}{places:List (Nat×Nat)}{zero out:List PV}(h:BuF P t places zero){c:Ctx}(w:World){parts:List (Nat×PV)}{vals:Array (Nat×Value)}
 (hp:VPs c parts vals.toList) (hf:Zjc places zero parts=some out):∃ us,(Instr.build t vals).run P w = .ok (.agg us.toArray) w/\VRs c out us:=by
 have hz:=h.z
 unfold Zge at hz
 simp only [Option.bind_eq_some_iff] at hz
 obtain⟨z,⟨i,hi,hiz⟩,hz⟩:=hz
 have hzv:VRs c zero z.cells.toList:=Zgo hz
 rcases h.pl with hpl | hpl
 .unfold Zrf at hpl
  split at hpl
  .rename_i fs hu
   obtain⟨us,h1,h2⟩:=Z84 (c:=c) places (fun x=>places.toArray[x]?) (fun j x hx=>by simpa using hx) parts vals.toList zero z.cells.toList out hp hzv hf
   refine⟨us,run_build w t vals us.toArray ?_,h2⟩
   simp only [Program.built,hi,hu,hiz,hpl]
   simpa using h1
  .cases hpl
 .unfold Z6k at hpl
  split at hpl
  .rename_i n e hu
   simp only [Option.map_eq_some_iff] at hpl
   obtain⟨ie,hie,rfl⟩:=hpl
   obtain⟨us,h1,h2⟩:=Z84 (c:=c) _ (fun j=>some (j*ie.size,ie.size)) (fun j x hx=>by
    simp only [List.getElem?_map,Option.map_eq_some_iff] at hx
    obtain⟨j',hj,rfl⟩:=hx
    have:j'=j:=by
     rcases Nat.lt_or_ge j n with h | h
     .simpa [h] using hj.symm
     .simp [h] at hj
    rw [this]) parts vals.toList zero z.cells.toList out hp hzv hf
   refine⟨us,run_build w t vals us.toArray ?_,h2⟩
   simp only [Program.built,hi,hu,hiz,hie]
   simpa using h1
  .cases hpl
def Zg9(ρ:List (Nat×PV)):List (Nat×Operand)->Option (List (Nat×PV))
 | []=>some []
 | (i,x)::l=>
  match Zi ρ x,Zg9 ρ l with
  | some p,some ps=>some ((i,p)::ps)
  | _,_=>none
section
variable {P:Program} {o:Oper} {ρ:List (Nat×PV)} {σ:List (Nat×Blk)}
theorem Zlj{c:Ctx}(f:Operand->Value):∀ (l:List (Nat×Operand)) (ps:List (Nat×PV)),(∀ x q,x∈l.map (·.2)->Zi ρ x=some q->VR c q (f x))->Zg9 ρ l=some ps->VPs c ps (l.map fun (i,x)=>(i,f x))
 | [],ps,_,h=>by simp only [Zg9,Option.some.injEq] at h;subst h;simp [VPs]
 | (i,x)::l,ps,hop,h=>by
  simp only [Zg9] at h
  split at h
  .rename_i p qs hp hqs
   cases h
   simp only [List.map_cons,VPs]
   exact⟨f x,_,rfl,hop x p (by simp) hp,Zlj f l qs (fun y q hy=>hop y q (by simp only [List.map_cons,List.mem_cons];exact .inr hy)) hqs⟩
  .cases h
theorem Zalu{t:TypeId}{parts:Array (Nat×Operand)}{places:List (Nat×Nat)}{zero out:List PV}{ps:List (Nat×PV)}(ho:o.op = .build t parts)(hB:BuF P t places zero)
 (hp:Zg9 ρ parts.toList=some ps) (hf:Zjc places zero ps=some out):Za3 P o ρ σ [] (.agg out) []:=
 Zb9 fun G β n tm σ' A w hop _ _=>by
  have hv:=Zlj (ρ:=ρ) (c:=ctx G β w σ') A.eval parts.toList ps (fun x q hx hq=>hop x q (by simpa [ho,Op.operands] using hx) hq) hp
  obtain⟨us,h1,h2⟩:=hB.run (c:=ctx G β w σ') (vals:=parts.map fun (i,x)=>(i,A.eval x)) w (by rw [Array.toList_map];exact hv) hf
  refine⟨.agg us.toArray,?_,by simp only [VR];exact⟨us,rfl,h2⟩⟩
  simp only [execOp,ho,Sem.run_bind,h1,Result.andThen_ok,Sem.run_pure]
theorem Za4(w:World)(ob:Obj)(b:Nat)(h:b < w.heap.size):(w.alloc ob).heap[b]?=w.heap[b]?:=Below.heap_alloc w ob b h
theorem Zaw.allocImm{G:Frm}{β:Nat->Option Nat}{st:St}{a:Act}{w:World}(h:Zaw G β st a w)(ob:Obj):Zaw G β st a (w.alloc ob) /\
 (∀ b,(ctx G β w st.σ).I b->(ctx G β (w.alloc ob) st.σ).I b/\(ctx G β (w.alloc ob) st.σ).w.heap[b]?=(ctx G β w st.σ).w.heap[b]?)/\(ctx G β (w.alloc ob) st.σ).I w.heap.size /\
 (∀ l,Zac (ctx G β w st.σ) (ctx G β (w.alloc ob) st.σ) l):=by
 have hlt:∀ b,Imm G β w st.σ b->b < w.heap.size:=fun b hb=>hb.1
 have hO:∀ l o,get st.σ l=some o->∀ b,Z3 β (w.alloc ob) l o b->Z3 β w l o b:=fun l o hl b ho=>ho.of_heap (fun b hb=>Za4 w ob b (h.sep l o b hl hb).1)
 have hI:∀ b,(ctx G β w st.σ).I b->(ctx G β (w.alloc ob) st.σ).I b/\(ctx G β (w.alloc ob) st.σ).w.heap[b]?=(ctx G β w st.σ).w.heap[b]?:=fun b hb=>by
  refine⟨?_,Za4 w ob b (hlt b hb)⟩
  exact⟨by have:=hb.1;simp;omega,hb.2.1,fun l o hl ho=>hb.2.2 l o hl (hO l o hl b ho)⟩
 have hL:∀ l,Zac (ctx G β w st.σ) (ctx G β (w.alloc ob) st.σ) l:=fun l=>by
  cases hg:get st.σ l with
  | none=>exact Zac.none hg
  | some o=>exact Zac.same rfl rfl (fun o b hg hb=>Za4 w ob b (h.sep l o b hg hb).1)
 refine⟨?_,hI,⟨by simp [ctx],.inl h.base,fun l o hl hb=>by have:=(h.sep l o _ hl (hO l o hl _ hb)).1;omega⟩,hL⟩
 exact { defers := h.defers, sz := h.sz, base := by simp; have := h.base; omega, os := h.os, tape := h.tape, output := h.output,
         old:=fun b hb ho=>(Za4 w ob b (Nat.lt_of_lt_of_le hb h.base)).trans (h.old b hb ho),A:=h.A,gl:=h.gl,inj:=fun l l' o o' b hl hl' hb hb'=>h.inj l l' o o' b hl hl' (hO l o hl b hb) (hO l' o' hl' b hb'),
         sep:=fun l o b hl hb=>by have:=h.sep l o b hl (hO l o hl b hb);exact⟨by simp;omega,this.2⟩,
         fix:=h.fix,row0:=h.row0.step (fun l _=>hL l),
         blk:=fun l o hl=>BR.step hI rfl (fun b hb=>Za4 w ob b (h.sep l o b hl hb).1) (fun m _=>hL m) (h.blk l o hl),
         tm:=fun i p hp=>⟨(h.tm i p hp).1,VR.step hI p _ (fun m _=>hL m) (h.tm i p hp).2⟩ }
def Zf5(β:Nat->Option Nat)(l b:Nat):Nat->Option Nat:=fun m=>if m=l then some b else β m
theorem Zcv(β:Nat->Option Nat)(l b:Nat):Zf5 β l b l=some b:=by simp [Zf5]
theorem Zg0(β:Nat->Option Nat){l m:Nat}(b:Nat)(h:m≠l):Zf5 β l b m=β m:=by simp [Zf5,h]
theorem Zaw.allocOwn{G:Frm}{β:Nat->Option Nat}{n:Nat}{tm:List (Nat×PV)}{σ:List (Nat×Blk)}{a:Act}{w:World}(h:Zaw G β ⟨n,tm,σ⟩ a w)(cs:Array Value)(e:TypeId)(l:Nat)(blk:Blk)(hlab:1000<=l)(hflat:blk.flat)
 (hf1:∀ i q,get tm i=some q->q.has l=false) (hf2:∀ m y,get σ m=some y->m≠l/\y.has l=false)
 (hblk:(∀ b,(ctx G β w σ).I b->(ctx G (Zf5 β l w.heap.size) (w.alloc (.cells cs e)) ((l,blk)::σ)).I b/\(ctx G (Zf5 β l w.heap.size) (w.alloc (.cells cs e)) ((l,blk)::σ)).w.heap[b]?=(ctx G β w σ).w.heap[b]?) ->
  (∀ m,m≠l->Zac (ctx G β w σ) (ctx G (Zf5 β l w.heap.size) (w.alloc (.cells cs e)) ((l,blk)::σ)) m)->Za7 (w.alloc (.cells cs e)) w.heap.size cs.size ->
  BR (ctx G (Zf5 β l w.heap.size) (w.alloc (.cells cs e)) ((l,blk)::σ)) l blk) :
 Zaw G (Zf5 β l w.heap.size) ⟨n,tm,(l,blk)::σ⟩ a (w.alloc (.cells cs e))/\Za7 (w.alloc (.cells cs e)) w.heap.size cs.size /\
 (∀ b,(ctx G β w σ).I b->(ctx G (Zf5 β l w.heap.size) (w.alloc (.cells cs e)) ((l,blk)::σ)).I b/\(ctx G (Zf5 β l w.heap.size) (w.alloc (.cells cs e)) ((l,blk)::σ)).w.heap[b]?=(ctx G β w σ).w.heap[b]?) /\
 (∀ m,m≠l->Zac (ctx G β w σ) (ctx G (Zf5 β l w.heap.size) (w.alloc (.cells cs e)) ((l,blk)::σ)) m):=by
 have hgl:∀ m,m≠l->get ((l,blk)::σ) m=get σ m:=fun m hm=>by simp [get,Zdi (Ne.symm hm)]
 have hgs:get ((l,blk)::σ) l=some blk:=by simp [get]
 have hgn:get σ l=none:=by
  cases hg:get σ l with
  | none=>rfl
  | some y=>exact absurd rfl (hf2 l y hg).1
 have hlt:∀ b,Imm G β w σ b->b < w.heap.size:=fun b hb=>hb.1
 have hO:∀ m o,m≠l->get σ m=some o->∀ b,Z3 (Zf5 β l w.heap.size) (w.alloc (.cells cs e)) m o b->Z3 β w m o b:=fun m o hm hg b ho=>ho.of (Zg0 β _ hm) (fun b hb=>Za4 w _ b (h.sep m o b hg hb).1)
 have hrow:Za7 (w.alloc (.cells cs e)) w.heap.size cs.size:=⟨cs,e,(0,0),heap_alloc_new w _,rfl,.inl rfl⟩
 have hI:∀ b,(ctx G β w σ).I b->(ctx G (Zf5 β l w.heap.size) (w.alloc (.cells cs e)) ((l,blk)::σ)).I b/\(ctx G (Zf5 β l w.heap.size) (w.alloc (.cells cs e)) ((l,blk)::σ)).w.heap[b]?=(ctx G β w σ).w.heap[b]?:=fun b hb=>by
  refine⟨?_,Za4 w _ b (hlt b hb)⟩
  have hbl:=hlt b hb
  obtain⟨h1,h2,h3⟩:=hb
  .refine⟨by simp;omega,h2,fun m o hm=>?_⟩
   by_cases hml:m=l
   .subst hml
    rw [hgs] at hm
    cases hm
    intro hh
    have:=hh.flat hflat
    rw [Zcv] at this
    cases this;omega
   .have hm':get σ m=some o:=by rw [<- hgl m hml];exact hm
    exact fun ho=>h3 m o hm' (hO m o hml hm' b ho)
 have hL:∀ m,m≠l->Zac (ctx G β w σ) (ctx G (Zf5 β l w.heap.size) (w.alloc (.cells cs e)) ((l,blk)::σ)) m:=fun m hm=>by
  have hg':get ((l,blk)::σ) m=get σ m:=hgl m hm
  cases hg:get σ m with
  | none=>exact Zac.none (hg'.trans hg)
  | some o=>exact Zac.same hg' (Zg0 β _ hm) (fun o b hg hb=>Za4 w _ b (h.sep m o b hg hb).1)
 refine⟨?_,hrow,hI,hL⟩
 have hns:∀ m o,m≠l->get ((l,blk)::σ) m=some o->get σ m=some o:=fun m o hm hg=>(hgl m hm).symm.trans hg
 exact { defers := h.defers, sz := h.sz, base := by simp; have := h.base; omega, os := h.os, tape := h.tape, output := h.output,
         old:=fun b hb ho=>(Za4 w _ b (Nat.lt_of_lt_of_le hb h.base)).trans (h.old b hb ho),A:=h.A,gl:=h.gl,
         inj:=fun m m' o o' b hm hm' hb hb'=>by
          by_cases h1:m=l
          .by_cases h2:m'=l
           .rw [h1,h2]
           .subst h1
            rw [hgs] at hm
            cases hm
            have hb:=hb.flat hflat
            simp only [Zcv,Option.some.injEq] at hb
            have:=(h.sep m' o' b (hns m' o' h2 hm') (hO m' o' h2 (hns m' o' h2 hm') b hb')).1
            omega
          .by_cases h2:m'=l
           .subst h2
            rw [hgs] at hm'
            cases hm'
            have hb':=hb'.flat hflat
            simp only [Zcv,Option.some.injEq] at hb'
            have:=(h.sep m o b (hns m o h1 hm) (hO m o h1 (hns m o h1 hm) b hb)).1
            omega
           .exact h.inj m m' o o' b (hns m o h1 hm) (hns m' o' h2 hm') (hO m o h1 (hns m o h1 hm) b hb) (hO m' o' h2 (hns m' o' h2 hm') b hb'),
         sep:=fun m o b hm hb=>by
          by_cases h1:m=l
          .subst h1
           rw [hgs] at hm
           cases hm
           have hb:=hb.flat hflat
           simp only [Zcv,Option.some.injEq] at hb
           subst hb
           exact⟨by simp,.inl h.base⟩
          .have:=h.sep m o b (hns m o h1 hm) (hO m o h1 (hns m o h1 hm) b hb)
           exact⟨by simp;omega,this.2⟩,
         fix:=fun m cs' h1 hm=>by
          have h2:m≠l:=by omega
          rw [Zg0 β _ h2]
          exact h.fix m cs' h1 (hns m _ h2 hm),
         row0:=h.row0.step (fun m hm=>hL m (by omega)),
         blk:=fun m o hm=>by
          by_cases h1:m=l
          .subst h1
           simp only [hgs,Option.some.injEq] at hm
           subst hm
           exact hblk hI hL hrow
          .have hm':=hns m o h1 hm
           exact BR.step hI (Zg0 β _ h1) (fun b hb=>Za4 w _ b (h.sep m o b hm' hb).1) (fun q hq=>hL q (fun e=>by subst e;rw [(hf2 m o hm').2] at hq;cases hq)) (h.blk m o hm'),
         tm:=fun i p hp=>⟨(h.tm i p hp).1,VR.step hI p _ (fun q hq=>hL q (fun e=>by subst e;rw [hf1 i p hp] at hq;cases hq)) (h.tm i p hp).2⟩ }
theorem Zsz {need : List Nat} {p : PV} {l : Nat} {blk : Blk} (h : ∀ (G : Frm) (β : Nat -> Option Nat) (n : Nat) (tm : List (Nat × PV)) (σ' : List (Nat × Blk)) (a : Act) (w : World),
      (∀ x q,x∈o.op.operands->Zi ρ x=some q->VR (ctx G β w σ') q (a.eval x)/\q.has l=false)->(∀ m,m∈need->get σ' m=get σ m) ->
      (∀ i q,get tm i=some q->q.has l=false)->(∀ m y,get σ' m=some y->m≠l/\y.has l=false)->Zaw G β ⟨n,tm,σ'⟩ a w ->
      ∃ v w',(execOp a.eval o).run P w = .ok (.value v) w'/\∃ β',Zaw G β' ⟨n,tm,(l,blk)::σ'⟩ a w'/\VR (ctx G β' w' ((l,blk)::σ')) p v)
 (hcl:∀ x q,x∈o.op.operands->(∀ t,x ≠ .tmp t)->Zi ρ x=some q->q.has l=false):Za3 P o ρ σ need p [(l,blk)]:=by
 intro G n tm σ' a w K Q hag hneed hfresh hr hK
 obtain⟨β,hr⟩:=hr
 obtain⟨hf1,hf2⟩:=hfresh l blk (by simp)
 obtain⟨v,w',hv,hp⟩:=h G β n tm σ' a w (fun x q hx hq=>⟨Zh1 hr hq (fun t r ht hr'=>hag t r (ht▸hx) hr'),by
  cases x with
  | tmp t=>exact hf1 t q (hag t q hx hq)
  | const _=>exact hcl _ q hx (fun t e=>by cases e) hq
  | global _=>exact hcl _ q hx (fun t e=>by cases e) hq
  | func _=>exact hcl _ q hx (fun t e=>by cases e) hq⟩) hneed hf1 hf2 hr
 unfold Oper.wp
 rw [hv]
 exact hK v w' hp
theorem Zaqe{v:Value}{p:PV}(h:Zkr v=some p)(l:Nat):p.has l=false:=by
 unfold Zkr at h
 split at h<;>cases h<;>rfl
theorem Zqc{x:Operand}{q:PV}(l:Nat)(hx:∀ t,x ≠ .tmp t)(h:Zi ρ x=some q):q.has l=false:=by
 cases x with
 | tmp t=>exact absurd rfl (hx t)
 | const v=>exact Zaqe h l
 | func f=>simp only [Zi,Option.some.injEq] at h;subst h;rfl
 | global g=>
  simp only [Zi] at h
  obtain⟨ts,_,rfl⟩:=Zzv h
  rfl
theorem VRs.cellsAt(w:World)(vs:List Value)(e:TypeId):Zxo (w.alloc (.cells vs.toArray e)) w.heap.size vs:=fun j v hv=>by
 rw [World.cell?_alloc_new];simpa using hv
theorem Zaj0{p:PV}{l:Nat}(h:p.has l=false):PV.hasAny l (Zz p)=false:=by
 cases p<;>simp_all [Zz,PV.has,PV.hasAny]
theorem Zaz1{T:TypeId}{x:Operand}{p:PV}(l:Nat)(hlab:1000<=l)(ho:o.op = .box T x)(hx:Zi ρ x=some p)(h1:(Zz p).all PV.one=true):Za3 P o ρ σ [] (.bptr l 0) [(l,.box (Zz p))]:=
 Zsz (fun G β n tm σ' A w hop _ hf1 hf2 hr=>by
  obtain⟨hv,hhas⟩:=hop x p (by simp [ho,Op.operands]) hx
  have hc:=hv.cells
  obtain⟨hr',hrow,hI,hL⟩:=hr.allocOwn (A.eval x).cells T l (.box (Zz p)) hlab trivial hf1 hf2 (fun hI hL hrow=>⟨w.heap.size,(A.eval x).cells.toList,Zcv _ _ _,by rw [<- hc.length,Array.length_toList];exact hrow,
   fun j v hv'=>by
    show (w.alloc _).cell? _=_
    rw [World.cell?_alloc_new];simpa using hv',VRs.step hI _ _ (fun q hq=>hL q (fun e=>by subst e;rw [Zaj0 hhas] at hq;cases hq)) hc,h1⟩)
  refine⟨.pointer (some ⟨w.heap.size,0,none⟩),w.alloc (.cells (A.eval x).cells T),?_,_,hr',?_⟩
  .simp [execOp,ho,Instr.box,newVar,newRow]
  .simp only [VR]
   exact⟨fun cs hcs=>⟨w.heap.size,Zcv _ _ _,rfl⟩,_,rfl⟩) (fun _ _ _ hx hq=>Zqc l hx hq)
theorem Zawj{T:TypeId}{zero:List PV}(l:Nat)(hlab:1000<=l)(ho:o.op = .alloc T)(hz:Zge P T=some zero):Za3 P o ρ σ [] (.bptr l 0) [(l,.box zero)]:=
 Zsz (fun G β n tm σ' A w hop _ hf1 hf2 hr=>by
  unfold Zge at hz
  simp only [Option.bind_eq_some_iff] at hz
  obtain⟨z,⟨i,hi,hiz⟩,hz⟩:=hz
  have h1:zero.all PV.one=true:=by
   generalize z.cells.toList=vs at hz
   clear hf1 hf2 hop hr
   induction vs generalizing zero with
   | nil=>simp at hz;subst hz;rfl
   | cons v vs ih=>
    rw [List.mapM_cons] at hz
    simp only [bind,Option.bind_eq_some_iff,pure,Option.some.injEq] at hz
    obtain⟨p,hp,qs,hq,rfl⟩:=hz
    simp [Zaqb hp,ih hq]
  have hc:∀ c:Ctx,VRs c zero z.cells.toList:=fun c=>Zgo hz
  obtain⟨hr',hrow,hI,hL⟩:=hr.allocOwn z.cells T l (.box zero) hlab trivial hf1 hf2 (fun hI hL hrow=>⟨w.heap.size,z.cells.toList,Zcv _ _ _,by rw [<- (hc (ctx G β w σ')).length,Array.length_toList];exact hrow,
   fun j v hv'=>by
    show (w.alloc _).cell? _=_
    rw [World.cell?_alloc_new];simpa using hv',hc _,h1⟩)
  refine⟨.pointer (some ⟨w.heap.size,0,none⟩),w.alloc (.cells z.cells T),?_,_,hr',?_⟩
  .simp [execOp,ho,Instr.alloc,zeroValue,typeInfo,hi,hiz,newVar,newRow]
  .simp only [VR]
   exact⟨fun cs hcs=>⟨w.heap.size,Zcv _ _ _,rfl⟩,_,rfl⟩) (fun _ _ _ hx hq=>Zqc l hx hq)
def toT:PV->Option Zb
 | .t x=>some x
 | .nils=>some (.sl [])
 | _=>none
def Zfp:List PV->Option (List Zb)
 | []=>some []
 | p::ps=>
  match toT p,Zfp ps with
  | some t,some ts=>some (t::ts)
  | _,_=>none
def chunk(k:Nat):Nat->List Zb->List (List Zb)
 | 0,_=>[]
 | n+1,ts=>ts.take k::chunk k n (ts.drop k)
theorem Zalv{c:Ctx}{p:PV}{t:Zb}{v:Value}(h:toT p=some t)(hv:VR c p v):Zx c.I c.w t v:=by
 cases p<;>simp only [toT,Option.some.injEq] at h<;>first | (subst h) | (cases h)
 .simpa [VR] using hv
 .simp only [VR] at hv
  obtain⟨a,rfl⟩:=hv
  simp only [Zx]
  exact⟨a,0,rfl,by simp,by simp [maxLen],.inl trivial⟩
theorem Z30{c:Ctx}{b:Nat}:∀ {ps:List PV} {ts:List Zb} {vs:List Value} (off:Nat),Zfp ps=some ts->VRs c ps vs->(∀ j v,vs[j]?=some v->c.w.cell? ⟨b,off+j,none⟩=some v)->Z1 c.I c.w b ts off
 | [],ts,vs,off,h,_,_=>by simp only [Zfp,Option.some.injEq] at h;subst h;simp [Z1]
 | p::ps,ts,vs,off,h,hv,hc=>by
  simp only [Zfp] at h
  split at h
  .rename_i t ts' ht hts
   cases h
   simp only [VRs] at hv
   obtain⟨v,rest,rfl,hv,hr⟩:=hv
   simp only [Z1]
   refine⟨⟨v,by simpa using hc 0 v rfl,Zalv ht hv⟩,Z30 (off+1) hts hr fun j u hu=>?_⟩
   have:=hc (j+1) u (by simpa using hu)
   rwa [show off+(j+1)=off+1+j by omega] at this
  .cases h
theorem Z1.split{I:Nat->Prop}{w:World}{b:Nat}:∀ (k:Nat) (ts:List Zb) (off:Nat),Z1 I w b ts off->Z1 I w b (ts.take k) off/\Z1 I w b (ts.drop k) (off+(ts.take k).length)
 | 0,ts,off,h=>by simpa [Z1] using h
 | k+1,[],off,h=>by simp [Z1]
 | k+1,t::ts,off,h=>by
  simp only [Z1] at h
  obtain⟨h1,h2⟩:=Z1.split k ts (off+1) h.2
  simp only [List.take_succ_cons,List.drop_succ_cons,Z1,List.length_cons]
  exact⟨⟨h.1,h1⟩,by rwa [show off+((ts.take k).length+1)=off+1+(ts.take k).length by omega]⟩
theorem Zm.chunk{I:Nat->Prop}{w:World}{b k:Nat}:∀ (n:Nat) (ts:List Zb) (off:Nat),Z1 I w b ts off->Zm I w b (chunk k n ts) off
 | 0,_,_,_=>by simp [PW.chunk,Zm]
 | n+1,ts,off,h=>by
  obtain⟨h1,h2⟩:=Z1.split k ts off h
  simp only [PW.chunk,Zm]
  exact⟨h1,Zm.chunk n _ _ h2⟩
theorem Zhp(k:Nat):∀ (n:Nat) (ts:List Zb),(chunk k n ts).length=n
 | 0,_=>rfl
 | n+1,ts=>by simp [PW.chunk,Zhp k n]
theorem Z6l(k:Nat):∀ (n:Nat) (ts:List Zb),ts.length=n*k->∀ el,el∈chunk k n ts->el.length=k
 | 0,_,_,el,h=>by simp [PW.chunk] at h
 | n+1,ts,hl,el,h=>by
  rw [Nat.add_mul,Nat.one_mul] at hl
  simp only [PW.chunk,List.mem_cons] at h
  rcases h with h | h
  .subst h;simp;omega
  .exact Z6l k n _ (by simp;omega) el h
structure ElF (P:Program) (t e:TypeId) (k bytes:Nat) (zero:List PV):Prop where
 und:P.underlying t=some (.slice e)
 info:(P.info? e).map (fun i=>(i.size,i.bytes))=some (k,bytes)
 z:Zge P e=some zero
 pos:0 < k
 len:zero.length=k
def rep{α:Type}:Nat->List α->List α
 | 0,_=>[]
 | n+1,l=>l++rep n l
def Zjf(k n:Nat):List (Nat×Nat):=(List.range n).map fun j=>(j*k,k)
theorem Z5j{z:Array Value}{k:Nat}(hz:z.size=k)(hk:0 < k):∀ n,(madeCells z (n*k)).toList=rep n z.toList
 | 0=>by simp [madeCells,rep]
 | n+1=>by
  rw [rep,<- Z5j hz hk n]
  apply List.ext_getElem?
  intro j
  simp only [madeCells,Array.toList_map,Array.toList_range,List.getElem?_map]
  rcases Nat.lt_or_ge j k with h | h
  .rw [List.getElem?_append_left (by simp;omega)]
   have h1:j < (n+1)*k:=by rw [Nat.add_mul];omega
   simp [h1,hz,Nat.mod_eq_of_lt h,h]
  .rw [List.getElem?_append_right (by simp;omega)]
   simp only [Array.length_toList,hz,List.getElem?_map]
   have e1:(n+1)*k=n*k+k:=by rw [Nat.add_mul,Nat.one_mul]
   by_cases h2:j < (n+1)*k
   .have h3:j - k < n*k:=by omega
    rw [List.getElem?_range h2,List.getElem?_range h3]
    simp only [Option.map_some]
    have:j % k=(j - k) % k:=by rw [Nat.mod_eq_sub_mod h]
    rw [this]
   .have h3:¬ j - k < n*k:=by omega
    rw [List.getElem?_eq_none (by simp;omega),List.getElem?_eq_none (by simp;omega)]
theorem VRs.rep{c:Ctx}{ps:List PV}{vs:List Value}(h:VRs c ps vs):∀ n,VRs c (PW.rep n ps) (PW.rep n vs)
 | 0=>by simp [PW.rep,VRs]
 | n+1=>by simp only [PW.rep];exact h.append (h.rep n)
theorem Z2t{t e:TypeId}{k bytes:Nat}{zero:List PV}(hE:ElF P t e k bytes zero){c:Ctx}(w:World){len:Nat}{parts:List (Nat×PV)}{vals:Array (Nat×Value)}{out:List PV}(hp:VPs c parts vals.toList)
 (hsmall:len*k<=16777216) (hf:Zjc (Zjf k len) (rep len zero) parts=some out) :
 ∃ us,(Instr.buildSlice t len vals).run P w = .ok (.slice (some ⟨w.heap.size,0,none⟩) len len) (w.alloc (.cells us.toArray e))/\VRs c out us:=by
 cases hi:P.info? e with
 | none=>have:=hE.info;simp [hi] at this
 | some i=>
  have hik:i.size=k:=by have:=hE.info;simp [hi] at this;exact this.1
  have hz:=hE.z
  unfold Zge at hz
  simp only [hi,Option.bind_some,Option.bind_eq_some_iff] at hz
  obtain⟨z,hiz,hz⟩:=hz
  have hzv:VRs c zero z.cells.toList:=Zgo hz
  have hzl:z.cells.size=k:=by have:=hzv.length;rw [hE.len] at this;simpa using this
  have hpos:=hE.pos
  have hrep:=hzv.rep len
  rw [<- Z5j hzl hpos len] at hrep
  obtain⟨us,h1,h2⟩:=Z84 (c:=c) (Zjf k len) (fun j=>some (j*k,k)) (fun j x hx=>by
   simp only [Zjf,List.getElem?_map,Option.map_eq_some_iff] at hx
   obtain⟨j',hj,rfl⟩:=hx
   have:j'=j:=by
    rcases Nat.lt_or_ge j len with h | h
    .simpa [h] using hj.symm
    .simp [h] at hj
   rw [this]) parts vals.toList (rep len zero) _ out hp hrep hf
  refine⟨us,?_,h2⟩
  by_cases hn:len=0
  .subst hn
   have hmade:madeCells z.cells (0*k) = #[]:=by simp [madeCells]
   have h1':Instr.fill (fun j=>some (j*k,k)) #[] vals.toList=some us.toArray:=by rw [hmade] at h1;simpa using h1
   simp only [Instr.buildSlice,Sem.run_bind,run_underlying hE.und,Result.andThen_ok,sizeOf,typeInfo,run_program,hi,Sem.run_pure,Nat.zero_mul,hik]
   have hmap:∀ f:Nat->Value,Array.map f (Array.range 0) = #[]:=fun f=>by simp
   simp only [Nat.not_lt_zero,gt_iff_lt,if_false,if_true,Sem.run_bind,Sem.run_pure,Result.andThen_ok,hmap,h1',newRow]
   simp
  .have hne:¬ len*i.size=0:=by rw [hik];exact Nat.ne_of_gt (Nat.mul_pos (by omega) hpos)
   refine run_buildSlice w t e len vals us.toArray i z hE.und hi hiz (by rw [hik];omega) hne ?_
   rw [hik]
   rw [Array.toArray_toList] at h1
   exact h1
end
end Go.PW
namespace Go.PW
open Go.RowKit
section
variable {P:Program} {o:Oper} {ρ:List (Nat×PV)} {σ:List (Nat×Blk)}
theorem Zayj {need : List Nat} {p : PV} (h : ∀ (G : Frm) (β : Nat -> Option Nat) (n : Nat) (tm : List (Nat × PV)) (σ' : List (Nat × Blk)) (a : Act) (w : World),
      (∀ x q,x∈o.op.operands->Zi ρ x=some q->VR (ctx G β w σ') q (a.eval x))->(∀ l,l∈need->get σ' l=get σ l)->Zaw G β ⟨n,tm,σ'⟩ a w ->
      ∃ v w',(execOp a.eval o).run P w = .ok (.value v) w'/\Zaw G β ⟨n,tm,σ'⟩ a w'/\VR (ctx G β w' σ') p v):Za3 P o ρ σ need p []:=by
 intro G n tm σ' a w K Q hag hneed _ hr hK
 obtain⟨β,hr⟩:=hr
 obtain⟨v,w',hv,hr',hp⟩:=h G β n tm σ' a w (fun x q hx hq=>Zh1 hr hq (fun t r ht hr'=>hag t r (ht▸hx) hr')) hneed hr
 unfold Oper.wp
 rw [hv]
 exact hK v w' ⟨β,hr',hp⟩
theorem Zui(A:Act)(parts:Array (Nat×Operand)):(parts.map fun (i,x)=>(i,A.eval x)).toList=parts.toList.map fun (i,x)=>(i,A.eval x):=Array.toList_map
theorem Zayw{t e:TypeId}{len k bytes:Nat}{zero out:List PV}{ts:List Zb}{parts:Array (Nat×Operand)}{ps:List (Nat×PV)}(ho:o.op = .buildSlice t len parts)(hE:ElF P t e k bytes zero)
 (hp:Zg9 ρ parts.toList=some ps) (hsmall:len*k<=16777216) (hf:Zjc (Zjf k len) (rep len zero) ps=some out) (hts:Zfp out=some ts):Za3 P o ρ σ [] (.t (.sl (chunk k len ts))) []:=
 Zayj fun G β n tm σ' A w hop _ hr=>by
  have hv:=Zlj (ρ:=ρ) (c:=ctx G β w σ') A.eval parts.toList ps (fun x q hx hq=>hop x q (by simpa [ho,Op.operands] using hx) hq) hp
  obtain⟨us,h1,h2⟩:=Z2t hE (c:=ctx G β w σ') w (vals:=parts.map fun (i,x)=>(i,A.eval x)) (by rw [Zui];exact hv) hsmall hf
  obtain⟨hr',hI,hnew,hL⟩:=hr.allocImm (.cells us.toArray e)
  refine⟨.slice (some ⟨w.heap.size,0,none⟩) len len,w.alloc (.cells us.toArray e),?_,hr',?_⟩
  .simp only [execOp,ho,Sem.run_bind,h1,Result.andThen_ok,Sem.run_pure]
  .simp only [VR,Zx]
   refine⟨some ⟨w.heap.size,0,none⟩,len,by rw [Zhp],by rw [Zhp];exact Nat.le_refl _,?_,.inr ⟨w.heap.size,0,rfl,hnew,Zm.chunk _ _ _ ?_⟩⟩
   .have:=hE.pos
    have:len<=len*k:=Nat.le_mul_of_pos_right _ this
    simp only [maxLen];omega
   .have h3:=VRs.step hI _ _ (fun l _=>hL l) h2
    exact Z30 0 hts h3 (fun j v hj=>by rw [Nat.zero_add];exact VRs.cellsAt w us e j v hj)
theorem Zaz2{t e:TypeId}{len k bytes:Nat}{zero out:List PV}{ts:List Zb}{parts:Array (Nat×Operand)}{ps:List (Nat×PV)}(l:Nat)(hlab:1000<=l)(ho:o.op = .buildSlice t len parts)(hE:ElF P t e k bytes zero)
 (hp:Zg9 ρ parts.toList=some ps) (hsmall:len*k<=16777216) (hf:Zjc (Zjf k len) (rep len zero) ps=some out) (hts:Zfp out=some ts) (hlen:ts.length=len*k) :
 Za3 P o ρ σ [] (.osl l len) [(l,.row k (chunk k len ts))]:=
 Zsz (fun G β n tm σ' A w hop _ hf1 hf2 hr=>by
  have hv:=Zlj (ρ:=ρ) (c:=ctx G β w σ') A.eval parts.toList ps (fun x q hx hq=>(hop x q (by simpa [ho,Op.operands] using hx) hq).1) hp
  obtain⟨us,h1,h2⟩:=Z2t hE (c:=ctx G β w σ') w (vals:=parts.map fun (i,x)=>(i,A.eval x)) (by rw [Zui];exact hv) hsmall hf
  have houtlen:=h2.length
  have htl:∀ {qs:List PV} {us:List Zb},Zfp qs=some us->us.length=qs.length:=by
   intro qs
   induction qs with
   | nil=>intro us h;simp only [Zfp,Option.some.injEq] at h;subst h;rfl
   | cons q qs ih=>
    intro us h
    simp only [Zfp] at h
    split at h
    .rename_i t ts' _ hts'
     cases h
     simp [ih hts']
    .cases h
  have husl:us.length=len*k:=by rw [houtlen,<- htl hts,hlen]
  have hcells:∀ (c':Ctx),(∀ b,(ctx G β w σ').I b->c'.I b/\c'.w.heap[b]?=(ctx G β w σ').w.heap[b]?)->c'.w=w.alloc (.cells us.toArray e)->Z1 c'.I c'.w w.heap.size ts 0:=by
   intro c' hI hw
   have hgen:∀ (qs:List PV) (rs:List Zb) (vs:List Value) (off:Nat),Zfp qs=some rs->VRs (ctx G β w σ') qs vs->(∀ j v,vs[j]?=some v->c'.w.cell? ⟨w.heap.size,off+j,none⟩=some v)->Z1 c'.I c'.w w.heap.size rs off:=by
    intro qs
    induction qs with
    | nil=>intro rs vs off h _ _;simp only [Zfp,Option.some.injEq] at h;subst h;simp [Z1]
    | cons q qs ih=>
     intro rs vs off h hv hc
     simp only [Zfp] at h
     split at h
     .rename_i t rs' ht hrs
      cases h
      simp only [VRs] at hv
      obtain⟨v,rest,rfl,hv,hr⟩:=hv
      simp only [Z1]
      refine⟨⟨v,by simpa using hc 0 v rfl,Zx.mono hI t v (Zalv ht hv)⟩,ih rs' rest (off+1) hrs hr fun j u hu=>?_⟩
      have:=hc (j+1) u (by simpa using hu)
      rwa [show off+(j+1)=off+1+j by omega] at this
     .cases h
   exact hgen out ts us 0 hts h2 (fun j v hj=>by rw [hw,Nat.zero_add];exact VRs.cellsAt w us e j v hj)
  obtain⟨hr',hrow,hI,hL⟩:=hr.allocOwn us.toArray e l (.row k (chunk k len ts)) hlab trivial hf1 hf2 (fun hI _ hrow=>
   ⟨hE.pos,Z6l k len ts hlen,.inr ⟨w.heap.size,_,Zcv _ _ _,hrow,by rw [Zhp];simp [husl],Zm.chunk _ _ _ (hcells _ hI rfl)⟩⟩)
  refine⟨.slice (some ⟨w.heap.size,0,none⟩) len len,w.alloc (.cells us.toArray e),?_,_,hr',?_⟩
  .simp only [execOp,ho,Sem.run_bind,h1,Result.andThen_ok,Sem.run_pure]
  .simp only [VR]
   refine⟨fun k' es' hg=>?_,_,_,_,rfl⟩
   have hgs:get ((l,Blk.row k (chunk k len ts))::σ') l=some (.row k (chunk k len ts)):=by simp [get]
   have hg':some (Blk.row k' es')=some (.row k (chunk k len ts)):=hg.symm.trans hgs
   cases hg'
   rw [Zhp]
   refine⟨Nat.le_refl _,fun _=>⟨_,len,rfl,Nat.le_refl _,?_,.inr ⟨w.heap.size,_,rfl,Zcv _ _ _,hrow,by simp [husl]⟩⟩⟩
   have:=hE.pos
   have:len<=len*k:=Nat.le_mul_of_pos_right _ this
   simp only [maxLen];omega) (fun _ _ _ hx hq=>Zqc l hx hq)
theorem Z1.rep{I:Nat->Prop}{w:World}{b:Nat}{z:List Zb}:∀ (n:Nat) (off:Nat),(∀ j off',j < n->off'=off+j*z.length->Z1 I w b z off')->Zm I w b (List.replicate n z) off
 | 0,_,_=>by simp [Zm]
 | n+1,off,h=>by
  simp only [List.replicate_succ,Zm]
  refine⟨h 0 off (by omega) (by simp),Z1.rep n (off+z.length) fun j off' hj he=>h (j+1) off' (by omega) ?_⟩
  rw [he,Nat.add_mul,Nat.one_mul];omega
theorem Zayx{t e:TypeId}{x y:Operand}{k bytes:Nat}{zero:List PV}{zs:List Zb}{kl kc:IntKind}{m c:Int}(l:Nat)(hlab:1000<=l)(ho:o.op = .makeSlice t x y)(hE:ElF P t e k bytes zero)(hzs:Zfp zero=some zs)
 (hx:Zi ρ x=some (.t (.int kl m))) (hy:Zi ρ y=some (.t (.int kc c))) (h0:0<=m) (hmc:m<=c) (hb:(bytes:Int)*c<=281474976710656) (h63:c<=9223372036854775807) :
 Za3 P o ρ σ [] (.osl l m.toNat) [(l,.row k (List.replicate m.toNat zs))]:=
 Zsz (fun G β n tm σ' A w hop _ hf1 hf2 hr=>by
  have h1:=(hop x _ (by simp [ho,Op.operands]) hx).1
  have h2:=(hop y _ (by simp [ho,Op.operands]) hy).1
  simp only [VR,Zx] at h1 h2
  cases hi:P.info? e with
  | none=>have:=hE.info;simp [hi] at this
  | some i=>
   have hik:i.size=k/\i.bytes=bytes:=by have:=hE.info;simpa [hi] using this
   have hz:=hE.z
   unfold Zge at hz
   simp only [hi,Option.bind_some,Option.bind_eq_some_iff] at hz
   obtain⟨z,hiz,hz⟩:=hz
   have hzv:∀ c,VRs c zero z.cells.toList:=fun c=>Zgo hz
   have hzl:z.cells.size=k:=by have:=(hzv (ctx G β w σ')).length;rw [hE.len] at this;simpa using this
   have hzsl:zs.length=k:=by
    rw [<- hE.len]
    have htl:∀ {qs:List PV} {us:List Zb},Zfp qs=some us->us.length=qs.length:=by
     intro qs
     induction qs with
     | nil=>intro us h;simp only [Zfp,Option.some.injEq] at h;subst h;rfl
     | cons q qs ih=>
      intro us h
      simp only [Zfp] at h
      split at h
      .rename_i t ts' _ hts'
       cases h
       simp [ih hts']
      .cases h
    exact htl hzs
   have hrun:=run_make (P:=P) w t e i z hE.und hi hiz kl kc m c h0 hmc (by rw [hik.2];exact hb) h63
   rw [hik.1] at hrun
   have hsz:(madeCells z.cells (c.toNat*k)).size=c.toNat*k:=size_madeCells _ _
   have hcell:∀ j i',i' < c.toNat->j < k->(madeCells z.cells (c.toNat*k))[i'*k+j]?=z.cells[j]?:=by
    intro j i' hi' hj
    have hlt:i'*k+j < c.toNat*k:=by
     have:(i'+1)*k<=c.toNat*k:=Nat.mul_le_mul_right _ hi'
     rw [Nat.add_mul,Nat.one_mul] at this
     omega
    simp only [madeCells,Array.getElem?_map,Array.getElem?_range,hlt,if_true,Option.map_some,hzl]
    rw [Nat.mul_comm i' k,Nat.mul_add_mod,Nat.mod_eq_of_lt hj]
    have:j < z.cells.size:=by omega
    simp [this]
   obtain⟨hr',hrow,hI,hL⟩:=hr.allocOwn (madeCells z.cells (c.toNat*k)) e l (.row k (List.replicate m.toNat zs)) hlab trivial hf1 hf2 (fun hI _ hrow=>
    ⟨hE.pos,fun el hel=>by rw [List.eq_of_mem_replicate hel];exact hzsl,.inr ⟨w.heap.size,_,Zcv _ _ _,hrow,by rw [List.length_replicate,hsz];exact Nat.mul_le_mul_right _ (by omega),Z1.rep _ _ fun j off' hj he=>by
     refine Z30 (vs:=z.cells.toList) off' hzs (hzv _) fun j' v hv=>?_
     show (w.alloc _).cell? _=_
     have hj':j' < k:=by
      have:=(List.getElem?_eq_some_iff.1 hv).1
      simp at this;omega
     rw [World.cell?_alloc_new,he,Nat.zero_add,hzsl,hcell j' j (by omega) hj']
     simpa using hv⟩⟩)
   refine⟨.slice (some ⟨w.heap.size,0,none⟩) m.toNat c.toNat,_,?_,_,hr',?_⟩
   .simp only [execOp,ho,h1,h2,Sem.run_bind,hrun,Result.andThen_ok,Sem.run_pure]
   .simp only [VR]
    refine⟨fun k' es' hg=>?_,_,_,_,rfl⟩
    have hgs:get ((l,Blk.row k (List.replicate m.toNat zs))::σ') l=some (.row k (List.replicate m.toNat zs)):=by simp [get]
    have hg':some (Blk.row k' es')=some (.row k (List.replicate m.toNat zs)):=hg.symm.trans hgs
    cases hg'
    rw [List.length_replicate]
    exact⟨Nat.le_refl _,fun _=>⟨_,c.toNat,rfl,by omega,by simp only [maxLen];omega,.inr ⟨w.heap.size,_,rfl,Zcv _ _ _,hrow,by rw [hsz];exact Nat.le_refl _⟩⟩⟩) (fun _ _ _ hx hq=>Zqc l hx hq)
def fieldInfo(P:Program)(s:TypeId)(i:Nat):Option (Nat×Nat):=
 match P.underlying s with
 | some (.struct fs)=>(fs[i]?).bind fun f=>(P.info? f.type).map fun inf=>(f.offset,inf.size)
 | _=>none
theorem Zi3{s:TypeId}{i off size b q:Nat}(w:World)(hf:fieldInfo P s i=some (off,size))(hs:size≠0) :
 (Instr.fieldAt s (.pointer (some ⟨b,q,none⟩)) i).run P w = .ok (.pointer (some ⟨b,q+off,none⟩)) w:=by
 unfold fieldInfo at hf
 split at hf
 .rename_i fs hu
  simp only [Option.bind_eq_some_iff,Option.map_eq_some_iff] at hf
  obtain⟨f,hf,inf,hi,he⟩:=hf
  cases he
  simp [Instr.fieldAt,run_underlying hu,hf,Instr.sureAddr,fieldPlace,sizeOf,typeInfo,hi,hs,Addr.add_mid]
 .cases hf
theorem Zaun{s:TypeId}{x:Operand}{i l q off size:Nat}{cs:List PV}(ho:o.op = .fieldAddr s x i)(hf:fieldInfo P s i=some (off,size))(hs:size≠0)(hx:Zi ρ x=some (.bptr l q))(hg:get σ l=some (.box cs)) :
 Za3 P o ρ σ [l] (.bptr l (q+off)) []:=
 Zb9 fun G β n tm σ' A w hop hneed _=>by
  have h1:=hop x _ (by simp [ho,Op.operands]) hx
  simp only [VR] at h1⊢
  have hgl:get σ' l=some (.box cs):=(hneed l (by simp)).trans hg
  obtain⟨b,hb,hv⟩:=h1.1 cs hgl
  refine⟨.pointer (some ⟨b,q+off,none⟩),?_,fun cs' hcs'=>⟨b,hb,rfl⟩,_,rfl⟩
  simp only [execOp,ho,hv,Sem.run_bind,Zi3 w hf hs,Result.andThen_ok,Sem.run_pure]
theorem Zauo{s:TypeId}{x:Operand}{i l m j q off size k:Nat}{es:List (List Zb)}(ho:o.op = .fieldAddr s x i)(hf:fieldInfo P s i=some (off,size))(hs:size≠0)(hx:Zi ρ x=some (.rptr l m j q))
 (hg:get σ l=some (.row k es)) (hm:es.length=m):Za3 P o ρ σ [l] (.rptr l m j (q+off)) []:=
 Zb9 fun G β n tm σ' A w hop hneed _=>by
  have h1:=hop x _ (by simp [ho,Op.operands]) hx
  simp only [VR] at h1⊢
  have hgl:get σ' l=some (.row k es):=(hneed l (by simp)).trans hg
  obtain⟨b,hb,hv⟩:=(h1.1 k es hgl).2 hm.symm
  refine⟨.pointer (some ⟨b,j*k+q+off,none⟩),?_,fun k' es' hes'=>?_,_,rfl⟩
  .simp only [execOp,ho,hv,Sem.run_bind,Zi3 w hf hs,Result.andThen_ok,Sem.run_pure]
  .have:some (Blk.row k' es')=some (.row k es):=Eq.trans (Eq.symm hes') hgl
   cases this
   exact⟨by omega,fun _=>⟨b,hb,by rw [Nat.add_assoc]⟩⟩
theorem Z1.drop{I:Nat->Prop}{w:World}{b:Nat}:∀ (k:Nat) (ts:List Zb) (off:Nat),Z1 I w b ts off->Z1 I w b (ts.drop k) (off+k)
 | 0,ts,off,h=>by simpa using h
 | k+1,[],off,_=>by simp [Z1]
 | k+1,t::ts,off,h=>by
  simp only [Z1] at h
  have:=Z1.drop k ts (off+1) h.2
  rwa [List.drop_succ_cons,show off+(k+1)=off+1+k by omega]
theorem Zaup{s:TypeId}{x:Operand}{i off size:Nat}{cs:List Zb}(ho:o.op = .fieldAddr s x i)(hf:fieldInfo P s i=some (off,size))(hs:size≠0)(hx:Zi ρ x=some (.vptr cs)):Za3 P o ρ σ [] (.vptr (cs.drop off)) []:=
 Zb9 fun G β n tm σ' A w hop _ _=>by
  have h1:=hop x _ (by simp [ho,Op.operands]) hx
  simp only [VR] at h1⊢
  obtain⟨b,q,hv,hI,hc⟩:=h1
  refine⟨.pointer (some ⟨b,q+off,none⟩),?_,b,q+off,rfl,fun hne=>hI (fun e=>hne (by rw [e];simp)),hc.drop off⟩
  simp only [execOp,ho,hv,Sem.run_bind,Zi3 w hf hs,Result.andThen_ok,Sem.run_pure]
def arrInfo(P:Program)(t:TypeId):Option (Nat×Nat):=
 match P.underlying t with
 | some (.array n e)=>(P.info? e).map fun i=>(n,i.size)
 | _=>none
theorem Zqd{t:TypeId}{len es b q:Nat}{k:IntKind}{i:Int}(w:World)(ha:arrInfo P t=some (len,es))(h0:0<=i)(h1:i < len) :
 (Instr.indexAt t (.pointer (some ⟨b,q,none⟩)) (.int k i)).run P w = .ok (.pointer (some ⟨b,q+i.toNat*es,none⟩)) w:=by
 unfold arrInfo at ha
 split at ha
 .rename_i n e hu
  simp only [Option.map_eq_some_iff] at ha
  obtain⟨inf,hi,he⟩:=ha
  cases he
  have hn:0<=i/\i < len:=⟨h0,h1⟩
  simp [Instr.indexAt,asIntOf,run_underlying hu,Instr.sureAddr,hn,sizeOf,typeInfo,hi,Addr.add_mid]
 .cases ha
theorem Zauq{t:TypeId}{x y:Operand}{l q len es:Nat}{cs:List PV}{k:IntKind}{i:Int}(ho:o.op = .indexAddr t x y)(ha:arrInfo P t=some (len,es))(hx:Zi ρ x=some (.bptr l q))(hy:Zi ρ y=some (.t (.int k i)))
 (hg:get σ l=some (.box cs)) (h0:0<=i) (h1:i < len):Za3 P o ρ σ [l] (.bptr l (q+i.toNat*es)) []:=
 Zb9 fun G β n tm σ' A w hop hneed _=>by
  have e1:=hop x _ (by simp [ho,Op.operands]) hx
  have e2:=hop y _ (by simp [ho,Op.operands]) hy
  simp only [VR,Zx] at e1 e2⊢
  have hgl:get σ' l=some (.box cs):=(hneed l (by simp)).trans hg
  obtain⟨b,hb,hv⟩:=e1.1 cs hgl
  refine⟨.pointer (some ⟨b,q+i.toNat*es,none⟩),?_,fun cs' hcs'=>⟨b,hb,rfl⟩,_,rfl⟩
  simp only [execOp,ho,hv,e2,Sem.run_bind,Zqd w ha h0 h1,Result.andThen_ok,Sem.run_pure]
theorem Zasl{t:TypeId}{x y:Operand}{l m j q len es k:Nat}{els:List (List Zb)}{ki:IntKind}{i:Int}(ho:o.op = .indexAddr t x y)(ha:arrInfo P t=some (len,es))(hx:Zi ρ x=some (.rptr l m j q))(hy:Zi ρ y=some (.t (.int ki i)))
 (hg:get σ l=some (.row k els)) (hm:els.length=m) (h0:0<=i) (h1:i < len):Za3 P o ρ σ [l] (.rptr l m j (q+i.toNat*es)) []:=
 Zb9 fun G β n tm σ' A w hop hneed _=>by
  have e1:=hop x _ (by simp [ho,Op.operands]) hx
  have e2:=hop y _ (by simp [ho,Op.operands]) hy
  simp only [VR,Zx] at e1 e2⊢
  have hgl:get σ' l=some (.row k els):=(hneed l (by simp)).trans hg
  obtain⟨b,hb,hv⟩:=(e1.1 k els hgl).2 hm.symm
  refine⟨.pointer (some ⟨b,j*k+q+i.toNat*es,none⟩),?_,fun k' es' hes'=>?_,_,rfl⟩
  .simp only [execOp,ho,hv,e2,Sem.run_bind,Zqd w ha h0 h1,Result.andThen_ok,Sem.run_pure]
  .have:some (Blk.row k' es')=some (.row k els):=Eq.trans (Eq.symm hes') hgl
   cases this
   exact⟨by omega,fun _=>⟨b,hb,by rw [Nat.add_assoc]⟩⟩
theorem Zasm{t:TypeId}{x y:Operand}{len es:Nat}{cs:List Zb}{k:IntKind}{i:Int}(ho:o.op = .indexAddr t x y)(ha:arrInfo P t=some (len,es))(hx:Zi ρ x=some (.vptr cs))(hy:Zi ρ y=some (.t (.int k i)))
 (h0:0<=i) (h1:i < len):Za3 P o ρ σ [] (.vptr (cs.drop (i.toNat*es))) []:=
 Zb9 fun G β n tm σ' A w hop _ _=>by
  have e1:=hop x _ (by simp [ho,Op.operands]) hx
  have e2:=hop y _ (by simp [ho,Op.operands]) hy
  simp only [VR,Zx] at e1 e2⊢
  obtain⟨b,q,hv,hI,hc⟩:=e1
  refine⟨.pointer (some ⟨b,q+i.toNat*es,none⟩),?_,b,q+i.toNat*es,rfl,fun hne=>hI (fun e=>hne (by rw [e];simp)),hc.drop _⟩
  simp only [execOp,ho,hv,e2,Sem.run_bind,Zqd w ha h0 h1,Result.andThen_ok,Sem.run_pure]
def slInfo(P:Program)(t:TypeId):Option Nat:=
 match P.underlying t with
 | some (.slice e)=>(P.info? e).map fun i=>i.size
 | _=>none
theorem Zi4{t:TypeId}{es b q len cap:Nat}{k:IntKind}{i:Int}(w:World)(ha:slInfo P t=some es)(h0:0<=i)(h1:i < len) :
 (Instr.indexAt t (.slice (some ⟨b,q,none⟩) len cap) (.int k i)).run P w = .ok (.pointer (some ⟨b,q+i.toNat*es,none⟩)) w:=by
 unfold slInfo at ha
 split at ha
 .rename_i e hu
  simp only [Option.map_eq_some_iff] at ha
  obtain⟨inf,hi,he⟩:=ha
  cases he
  have hn:0<=i/\i < len:=⟨h0,h1⟩
  simp [Instr.indexAt,asIntOf,run_underlying hu,hn,sizeOf,typeInfo,hi,Addr.add_mid]
 .cases ha
theorem Zm.get{I:Nat->Prop}{w:World}{b k:Nat}:∀ {es:List (List Zb)} {off:Nat} (i:Nat) (e:List Zb),Zm I w b es off->(∀ el,el∈es->el.length=k)->es[i]?=some e->Z1 I w b e (off+i*k)
 | [],_,i,e,_,_,h=>by simp at h
 | e0::es,off,0,e,h,_,he=>by
  simp only [Zm] at h
  simp at he;subst he
  simpa using h.1
 | e0::es,off,i+1,e,h,hk,he=>by
  simp only [Zm] at h
  have h0:=hk e0 (by simp)
  have:=Zm.get i e h.2 (fun el hel=>hk el (List.mem_cons_of_mem _ hel)) (by simpa using he)
  rw [h0] at this
  rwa [show off+(i+1)*k=off+k+i*k by rw [Nat.add_mul,Nat.one_mul];omega]
theorem Zaur{t:TypeId}{x y:Operand}{k:Nat}{es:List (List Zb)}{e:List Zb}{ki:IntKind}{i:Int}(ho:o.op = .indexAddr t x y)(ha:slInfo P t=some k)(hx:Zi ρ x=some (.t (.sl es)))(hy:Zi ρ y=some (.t (.int ki i)))
 (hk:∀ el,el∈es->el.length=k) (h0:0<=i) (he:es[i.toNat]?=some e):Za3 P o ρ σ [] (.vptr e) []:=
 Zb9 fun G β n tm σ' A w hop _ _=>by
  have e1:=hop x _ (by simp [ho,Op.operands]) hx
  have e2:=hop y _ (by simp [ho,Op.operands]) hy
  simp only [VR,Zx] at e1 e2⊢
  obtain⟨a,cap,hv,hlc,hcm,h⟩:=e1
  have hlt:i.toNat < es.length:=(List.getElem?_eq_some_iff.1 he).1
  rcases h with h | ⟨b,q,ha',hI,hel⟩
  .subst h;simp at he
  .subst ha'
   refine⟨.pointer (some ⟨b,q+i.toNat*k,none⟩),?_,b,q+i.toNat*k,rfl,fun _=>hI,hel.get _ e hk he⟩
   simp only [execOp,ho,hv,e2,Sem.run_bind,Zi4 w ha h0 (by omega:i < es.length),Result.andThen_ok,Sem.run_pure]
theorem Zaus{t:TypeId}{x y:Operand}{k l m:Nat}{es:List (List Zb)}{ki:IntKind}{i:Int}(ho:o.op = .indexAddr t x y)(ha:slInfo P t=some k)(hx:Zi ρ x=some (.osl l m))(hy:Zi ρ y=some (.t (.int ki i)))
 (hg:get σ l=some (.row k es)) (hm:es.length=m) (h0:0<=i) (h1:i < m):Za3 P o ρ σ [l] (.rptr l m i.toNat 0) []:=
 Zb9 fun G β n tm σ' A w hop hneed _=>by
  have e1:=hop x _ (by simp [ho,Op.operands]) hx
  have e2:=hop y _ (by simp [ho,Op.operands]) hy
  simp only [VR,Zx] at e1 e2⊢
  have hgl:get σ' l=some (.row k es):=(hneed l (by simp)).trans hg
  obtain⟨a,cap,hv,hmc,hcm,h⟩:=(e1.1 k es hgl).2 hm.symm
  rcases h with ⟨hc,_⟩ | ⟨b,sz,ha',hb,hrow,hsz⟩
  .omega
  .subst ha'
   refine⟨.pointer (some ⟨b,i.toNat*k,none⟩),?_,fun k' es' hes'=>?_,_,rfl⟩
   .simp only [execOp,ho,hv,e2,Sem.run_bind,Zi4 w ha h0 h1,Result.andThen_ok,Sem.run_pure,Nat.zero_add]
   .have:some (Blk.row k' es')=some (.row k es):=Eq.trans (Eq.symm hes') hgl
    cases this
    exact⟨by omega,fun _=>⟨b,hb,by simp⟩⟩
theorem Zaqf{t e:TypeId}{x y:Operand}{len size:Nat}{agg:Bool}{cs:List PV}{p:PV}{k:IntKind}{i:Int}(ho:o.op = .index t x y)(hT:P.underlying t=some (.array len e))(hF:TyF P e agg size)(hx:Zi ρ x=some (.agg cs))(hy:Zi ρ y=some (.t (.int k i)))
 (h0:0<=i) (h1:i < len) (hp:Zec agg size (i.toNat*size) cs=some p):Za3 P o ρ σ [] p []:=
 Zb9 fun G β n tm σ' A w hop _ _=>by
  have e1:=hop x _ (by simp [ho,Op.operands]) hx
  have e2:=hop y _ (by simp [ho,Op.operands]) hy
  simp only [VR,Zx] at e1 e2
  obtain⟨vs,e1,hv⟩:=e1
  obtain⟨v,hr,hv⟩:=Z9y hF w hv hp
  refine⟨v,?_,hv⟩
  have hn:0<=i/\i < len:=⟨h0,h1⟩
  simp only [execOp,ho,e1,e2,Instr.index,asIntOf,Sem.run_bind,Sem.run_pure,run_underlying hT,Result.andThen_ok,hn,and_self,if_true,hF.run_sizeOf w,hr]
theorem Zaqg{t:TypeId}{x y:Operand}{s:List UInt8}{b:UInt8}{k:IntKind}{i:Int}(ho:o.op = .index t x y)(hT:P.underlying t=some .string)(hx:Zi ρ x=some (.t (.str s)))(hy:Zi ρ y=some (.t (.int k i)))
 (h0:0<=i) (hb:s[i.toNat]?=some b):Za3 P o ρ σ [] (.t (.int .u8 b.toNat)) []:=
 Zb9 fun G β n tm σ' A w hop _ _=>by
  have e1:=hop x _ (by simp [ho,Op.operands]) hx
  have e2:=hop y _ (by simp [ho,Op.operands]) hy
  simp only [VR,Zx] at e1 e2⊢
  have hlt:=(List.getElem?_eq_some_iff.1 hb).1
  have hbb:=(List.getElem?_eq_some_iff.1 hb).2
  refine⟨.int .u8 b.toNat,?_,rfl⟩
  have hgb:(⟨s.toArray⟩:ByteArray)[i.toNat]?=some b:=by
   rw [getElem?_pos (⟨s.toArray⟩:ByteArray) i.toNat (by simpa [ByteArray.size] using hlt)]
   show some (s.toArray[i.toNat]'_)=_
   simp [hbb]
  simp only [execOp,ho,e1,e2,Instr.index,asIntOf,Sem.run_bind,Sem.run_pure,run_underlying hT,Result.andThen_ok,h0,if_true,hgb]
theorem Zkf{c:Ctx}{t:TypeId}{agg:Bool}{size b q off:Nat}(hT:TyF P t agg size)(w:World){ps:List PV}{vs:List Value}(hv:VRs c ps vs)(hc:∀ j v,vs[j]?=some v->w.cell? ⟨b,q+j,none⟩=some v){p:PV}(hp:Zec agg size off ps=some p) :
 ∃ v,(Instr.loadAt t (.pointer (some ⟨b,q+off,none⟩))).run P w = .ok v w/\VR c p v:=by
 cases agg with
 | false=>
  simp only [Zec,cond_false] at hp
  obtain⟨v,hv1,hv2⟩:=hv.get off p hp
  have:=hc off v hv1
  exact⟨v,by simp [Instr.loadAt,Instr.sureAddr,loadVar,hT.run_isAgg w,this],hv2⟩
 | true=>
  simp only [Zec,cond_true] at hp
  cases hb:Nat.ble (off+size) ps.length with
  | false=>simp [hb] at hp
  | true=>
   simp only [hb,cond_true,Option.some.injEq] at hp
   subst hp
   rw [Nat.ble_eq] at hb
   have hl:=hv.length
   obtain⟨d,hu,hd⟩:=hT.und
   have hlen:((vs.drop off).take size).length=size:=by simp;omega
   refine⟨.agg ((vs.drop off).take size).toArray,run_loadAt_mid w b (q+off) t _ d (fun j v hj=>?_) hu hd (by rw [hlen];exact hT.size),?_⟩
   .rw [List.getElem?_take] at hj
    split at hj
    .rw [List.getElem?_drop] at hj
     rw [Nat.add_assoc]
     exact hc _ v hj
    .cases hj
   .simp only [VR]
    exact⟨_,rfl,(hv.drop off).take size⟩
theorem Z1.vals{c:Ctx}{b:Nat}:∀ {ts:List Zb} {off:Nat},Z1 c.I c.w b ts off->∃ vs,VRs c (ts.map .t) vs/\∀ j v,vs[j]?=some v->c.w.cell? ⟨b,off+j,none⟩=some v
 | [],_,_=>⟨[],by simp [VRs],by simp⟩
 | t::ts,off,h=>by
  simp only [Z1] at h
  obtain⟨⟨v,hv,ht⟩,hr⟩:=h
  obtain⟨vs,h1,h2⟩:=Z1.vals hr
  refine⟨v::vs,by simp only [List.map_cons,VRs];exact⟨v,vs,rfl,by simpa [VR] using ht,h1⟩,fun j u hu=>?_⟩
  cases j with
  | zero=>simp at hu;subst hu;simpa using hv
  | succ j=>
   have:=h2 j u (by simpa using hu)
   rwa [show off+(j+1)=off+1+j by omega]
theorem Zalw{t:TypeId}{x:Operand}{l q size:Nat}{agg:Bool}{cs:List PV}{p:PV}(ho:o.op = .load t x)(hT:TyF P t agg size)(hx:Zi ρ x=some (.bptr l q))(hg:get σ l=some (.box cs))(hp:Zec agg size q cs=some p):Za3 P o ρ σ [l] p []:=
 Zb9 fun G β n tm σ' A w hop hneed hr=>by
  have e1:=hop x _ (by simp [ho,Op.operands]) hx
  simp only [VR] at e1
  have hgl:get σ' l=some (.box cs):=(hneed l (by simp)).trans hg
  obtain⟨b,hb,hv⟩:=e1.1 cs hgl
  obtain⟨b',vs,hb',hrow,hc,hvs,_⟩:=hr.blk l _ hgl
  have:b'=b:=by have:=hb'.symm.trans hb;simpa using this
  subst this
  obtain⟨v,hrun,hpv⟩:=Zkf (q:=0) hT w hvs (fun j v hj=>by rw [Nat.zero_add];exact hc j v hj) hp
  rw [Nat.zero_add] at hrun
  exact⟨v,by simp only [execOp,ho,hv,Sem.run_bind,hrun,Result.andThen_ok,Sem.run_pure],hpv⟩
theorem Zawk{t:TypeId}{x:Operand}{l m j q size k:Nat}{agg:Bool}{es:List (List Zb)}{e:List Zb}{p:PV}(ho:o.op = .load t x)(hT:TyF P t agg size)(hx:Zi ρ x=some (.rptr l m j q))(hg:get σ l=some (.row k es))(hm:es.length=m)
 (he:es[j]?=some e) (hp:Zec agg size q (e.map .t)=some p):Za3 P o ρ σ [l] p []:=
 Zb9 fun G β n tm σ' A w hop hneed hr=>by
  have e1:=hop x _ (by simp [ho,Op.operands]) hx
  simp only [VR] at e1
  have hgl:get σ' l=some (.row k es):=(hneed l (by simp)).trans hg
  obtain⟨b,hb,hv⟩:=(e1.1 k es hgl).2 hm.symm
  obtain⟨hk0,hkl,h⟩:=hr.blk l _ hgl
  rcases h with ⟨_,h⟩ | ⟨b',sz,hb',hrow,hsz,hel⟩
  .subst h;simp at he
  .have:b'=b:=by have:=hb'.symm.trans hb;simpa using this
   subst this
   have hc:=hel.get j e hkl he
   obtain⟨vs,h1,h2⟩:=Z1.vals (c:=ctx G β w σ') hc
   obtain⟨v,hrun,hpv⟩:=Zkf (q:=0+j*k) hT w h1 h2 hp
   rw [Nat.zero_add] at hrun
   exact⟨v,by simp only [execOp,ho,hv,Sem.run_bind,hrun,Result.andThen_ok,Sem.run_pure],hpv⟩
theorem Zalx{t:TypeId}{x:Operand}{size:Nat}{agg:Bool}{cs:List Zb}{p:PV}(ho:o.op = .load t x)(hT:TyF P t agg size)(hx:Zi ρ x=some (.vptr cs))(hp:Zec agg size 0 (cs.map .t)=some p):Za3 P o ρ σ [] p []:=
 Zb9 fun G β n tm σ' A w hop _ hr=>by
  have e1:=hop x _ (by simp [ho,Op.operands]) hx
  simp only [VR] at e1
  obtain⟨b,q,hv,hI,hc⟩:=e1
  obtain⟨vs,h1,h2⟩:=Z1.vals (c:=ctx G β w σ') hc
  obtain⟨v,hrun,hpv⟩:=Zkf (q:=q) hT w h1 h2 hp
  rw [Nat.add_zero] at hrun
  exact⟨v,by simp only [execOp,ho,hv,Sem.run_bind,hrun,Result.andThen_ok,Sem.run_pure],hpv⟩
end
end Go.PW
namespace Go.PW
open Go.RowKit
theorem Zc7(b:Nat):∀ (vs:List Value) (o:Nat) (w:World) (k:Nat),k≠b->(w.setCells b o vs).heap[k]?=w.heap[k]?
 | [],_,_,_,_=>rfl
 | v::vs,o,w,k,h=>by
  simp only [World.setCells]
  rw [Zc7 b vs (o+1) _ k h,Below.heap_setCell _ _ _ _ h]
theorem Zf9(b:Nat):∀ (vs:List Value) (o:Nat) (w:World),(w.setCells b o vs).heap.size=w.heap.size
 | [],_,_=>rfl
 | v::vs,o,w=>by simp only [World.setCells];rw [Zf9 b vs];simp
theorem Zga(b:Nat):∀ (vs:List Value) (o:Nat) (w:World),(w.setCells b o vs).os=w.os/\(w.setCells b o vs).tape=w.tape/\(w.setCells b o vs).output=w.output
 | [],_,_=>⟨rfl,rfl,rfl⟩
 | v::vs,o,w=>by simp only [World.setCells];have:=Zga b vs (o+1) (w.setCell ⟨b,o,none⟩ v);exact this
theorem Zaqh{w:World}{b m:Nat}(a:Addr)(v:Value)(h:Za7 w b m):Za7 (w.setCell a v) b m:=by
 obtain⟨cs,e,fr,h1,h2,h3⟩:=h
 by_cases hb:a.block=b
 .subst hb
  refine⟨if a.spot.isSome then cs else cs.setIfInBounds a.off v,e,fr,?_,?_,h3⟩
  .simp only [World.setCell,Array.getElem?_modify,h1,Option.map_some,if_true]
  .split<;>simp [h2]
 .exact⟨cs,e,fr,(Below.heap_setCell w a v b (Ne.symm hb)).trans h1,h2,h3⟩
theorem Zb0{b m:Nat}(b':Nat):∀ (vs:List Value) (o:Nat) (w:World),Za7 w b m->Za7 (w.setCells b' o vs) b m
 | [],_,_,h=>h
 | v::vs,o,w,h=>Zb0 b' vs (o+1) _ (Zaqh _ v h)
theorem Zka{w:World}{b m o n:Nat}(h:Za7 w b m)(hn:o+n<=m):w.there b o n:=by
 obtain⟨cs,e,fr,h1,h2,h3⟩:=h
 intro j hj
 constructor
 .rw [cell_of_row w b (o+j) cs e fr h1]
  have:o+j < cs.size:=by omega
  simp [this]
 .unfold World.frozen?
  simp only [h1]
  rcases h3 with h3 | h3
  .rw [h3];simp
  .exact h3.elim
theorem Zkg{G:Frm}{β:Nat->Option Nat}{n:Nat}{tm:List (Nat×PV)}{σ:List (Nat×Blk)}{a:Act}{w:World}(h:Zaw G β ⟨n,tm,σ⟩ a w){l b off:Nat}{blk blk':Blk}(vs:List Value)
 (hg:get σ l=some blk) (hb:β l=some b)
 (hkind:(∃ k es es',blk = .row k es/\blk' = .row k es'/\es.length<=es'.length)\/(∃ cs cs',blk = .box cs/\blk' = .box cs')\/(∃ k i es cs cs',blk = .prow k i es cs/\blk' = .prow k i es cs')\/(∃ k i i' r es es',blk = .xrow k i r es/\blk' = .xrow k i' r es'/\es.length<=es'.length))
 (hblk:(∀ b',(ctx G β w σ).I b'->(ctx G β (w.setCells b off vs) (put σ l blk')).I b'/\(ctx G β (w.setCells b off vs) (put σ l blk')).w.heap[b']?=(ctx G β w σ).w.heap[b']?) ->
  (∀ m,Zac (ctx G β w σ) (ctx G β (w.setCells b off vs) (put σ l blk')) m)->BR (ctx G β (w.setCells b off vs) (put σ l blk')) l blk') :
 Zaw G β ⟨n,tm,put σ l blk'⟩ a (w.setCells b off vs) /\
 (∀ b',(ctx G β w σ).I b'->(ctx G β (w.setCells b off vs) (put σ l blk')).I b'/\(ctx G β (w.setCells b off vs) (put σ l blk')).w.heap[b']?=(ctx G β w σ).w.heap[b']?) /\
 (∀ m,Zac (ctx G β w σ) (ctx G β (w.setCells b off vs) (put σ l blk')) m):=by
 have hgs:get (put σ l blk') l=some blk':=Zb4 σ l blk'
 have hfl:blk.flat/\blk'.flat:=by rcases hkind with ⟨k,es,es',rfl,rfl,_⟩ | ⟨cs,cs',rfl,rfl⟩ | ⟨k,i,es,cs,cs',rfl,rfl⟩ | ⟨k,i,i',r,es,es',rfl,rfl,_⟩<;>exact⟨trivial,trivial⟩
 have hrg:blk.rgn=false:=by rcases hkind with ⟨k,es,es',rfl,rfl,_⟩ | ⟨cs,cs',rfl,rfl⟩ | ⟨k,i,es,cs,cs',rfl,rfl⟩ | ⟨k,i,i',r,es,es',rfl,rfl,_⟩<;>rfl
 have hgo:∀ m,m≠l->get (put σ l blk') m=get σ m:=fun m hm=>Zcf σ blk' (Ne.symm hm)
 have hsep:=h.sep l blk b hg (.inl hb hrg)
 have hnI:∀ b',Imm G β w σ b'->b'≠b:=by
  rintro b' ⟨h1,h2,h3⟩ rfl
  exact h3 l blk hg (.inl hb hrg)
 have hO:∀ m o,m≠l->get σ m=some o->∀ b',Z3 β (w.setCells b off vs) m o b'->Z3 β w m o b':=fun m o hm hgm b' ho=>ho.of_heap (fun b2 hb2=>Zc7 b vs off w b2 (fun e=>by
  subst e
  exact hm (h.inj m l o blk _ hgm hg hb2 (.inl hb hrg))))
 have hO':∀ b',Z3 β (w.setCells b off vs) l blk' b'->Z3 β w l blk b':=fun b' ho => .inl (ho.flat hfl.2) hrg
 have hI:∀ b',(ctx G β w σ).I b'->(ctx G β (w.setCells b off vs) (put σ l blk')).I b'/\(ctx G β (w.setCells b off vs) (put σ l blk')).w.heap[b']?=(ctx G β w σ).w.heap[b']?:=fun b' hb'=>by
  refine⟨?_,Zc7 b vs off w b' (hnI b' hb')⟩
  obtain⟨h1,h2,h3⟩:=hb'
  .refine⟨by rw [Zf9];exact h1,h2,fun m o hm=>?_⟩
   by_cases hml:m=l
   .subst hml
    have:some o=some blk':=Eq.trans (Eq.symm hm) hgs
    cases this
    exact fun ho=>h3 m blk hg (hO' b' ho)
   .have hm':get σ m=some o:=by rw [<- hgo m hml];exact hm
    exact fun ho=>h3 m o hm' (hO m o hml hm' b' ho)
 have hL:∀ m,Zac (ctx G β w σ) (ctx G β (w.setCells b off vs) (put σ l blk')) m:=fun m=>by
  by_cases hml:m=l
  .subst hml
   rcases hkind with ⟨k,es,es',h1,h2,h3⟩ | ⟨cs,cs',h1,h2⟩ | ⟨k,i,es,cs,cs',h1,h2⟩ | ⟨k,i,i',r,es,es',h1,h2,h3⟩
   .subst h1;subst h2
    have bad:∀ {x:Blk},get (put σ m (Blk.row k es')) m=some x->x = .row k es':=fun hg'=>Option.some.inj (Eq.trans (Eq.symm hg') hgs)
    refine⟨fun k' es'' hg'=>?_,fun cs' hg'=>absurd (bad hg') (by simp),fun k' q' es'' hg'=>absurd (bad hg') (by simp),fun k' es'' hg'=>absurd (bad hg') (by simp),fun _ _ _ _ hg'=>absurd (bad hg') (by simp),fun _ hg'=>absurd (bad hg') (by simp),fun _ _ _ _ hg'=>absurd (bad hg') (by simp)⟩
    cases bad hg'
    exact⟨es,hg,h3,fun _=>⟨rfl,fun b' sz _ hr=>Zb0 b vs off w hr⟩⟩
   .subst h1;subst h2
    have bad:∀ {x:Blk},get (put σ m (Blk.box cs')) m=some x->x = .box cs':=fun hg'=>Option.some.inj (Eq.trans (Eq.symm hg') hgs)
    exact⟨fun k' es'' hg'=>absurd (bad hg') (by simp),fun cs'' hg'=>⟨cs,hg,rfl⟩,fun k' q' es'' hg'=>absurd (bad hg') (by simp),fun k' es'' hg'=>absurd (bad hg') (by simp),fun _ _ _ _ hg'=>absurd (bad hg') (by simp),fun _ hg'=>absurd (bad hg') (by simp),fun _ _ _ _ hg'=>absurd (bad hg') (by simp)⟩
   .subst h1;subst h2
    have bad:∀ {x:Blk},get (put σ m (Blk.prow k i es cs')) m=some x->x = .prow k i es cs':=fun hg'=>Option.some.inj (Eq.trans (Eq.symm hg') hgs)
    refine⟨fun k' es'' hg'=>absurd (bad hg') (by simp),fun cs'' hg'=>absurd (bad hg') (by simp),fun k' q' es'' hg'=>absurd (bad hg') (by simp),fun k' es'' hg'=>absurd (bad hg') (by simp),fun _ _ _ _ hg'=>?_,fun _ hg'=>absurd (bad hg') (by simp),fun _ _ _ _ hg'=>absurd (bad hg') (by simp)⟩
    cases bad hg'
    exact⟨es,cs,hg,rfl,rfl,fun b' sz _ hr=>Zb0 b vs off w hr⟩
   .subst h1;subst h2
    have bad:∀ {x:Blk},get (put σ m (Blk.xrow k i' r es')) m=some x->x = .xrow k i' r es':=fun hg'=>Option.some.inj (Eq.trans (Eq.symm hg') hgs)
    refine⟨fun k' es'' hg'=>absurd (bad hg') (by simp),fun cs'' hg'=>absurd (bad hg') (by simp),fun k' q' es'' hg'=>absurd (bad hg') (by simp),fun k' es'' hg'=>absurd (bad hg') (by simp),fun _ _ _ _ hg'=>absurd (bad hg') (by simp),fun _ hg'=>absurd (bad hg') (by simp),fun _ _ _ _ hg'=>?_⟩
    cases bad hg'
    exact⟨i,es,hg,h3,fun _=>⟨rfl,fun b' sz _ hr=>Zb0 b vs off w hr⟩⟩
  .have hg':get (put σ l blk') m=get σ m:=hgo m hml
   cases hgm:get σ m with
   | none=>exact Zac.none (hg'.trans hgm)
   | some o=>exact Zac.same hg' rfl (fun o b2 hgm hb2=>Zc7 b vs off w b2 (fun e=>by
    subst e
    exact hml (h.inj m l o blk _ hgm hg hb2 (.inl hb hrg))))
 refine⟨?_,hI,hL⟩
 have key:∀ m o b',get (put σ l blk') m=some o->Z3 β (w.setCells b off vs) m o b'->∃ o2,get σ m=some o2/\Z3 β w m o2 b':=fun m o b' hm hb'=>by
  by_cases hml:m=l
  .subst hml
   have:some o=some blk':=Eq.trans (Eq.symm hm) hgs
   cases this
   exact⟨blk,hg,hO' b' hb'⟩
  .have hm':get σ m=some o:=by rw [<- hgo m hml];exact hm
   exact⟨o,hm',hO m o hml hm' b' hb'⟩
 obtain⟨e1,e2,e3⟩:=Zga b vs off w
 exact { defers := h.defers, sz := h.sz, base := by rw [Zf9]; exact h.base, os := e1.trans h.os, tape := e2.trans h.tape, output := e3.trans h.output,
         old:=fun b' hb' ho=>by
          have:b'≠b:=by
           rintro rfl
           rcases hsep.2 with h4 | h4
           .omega
           .exact ho h4
          exact (Zc7 b vs off w b' this).trans (h.old b' hb' ho),
         A:=h.A,gl:=h.gl,
         inj:=fun m m' o o' b' hm hm' hb1 hb2=>by
          obtain⟨o1,h1,k1⟩:=key m o b' hm hb1
          obtain⟨o2,h2,k2⟩:=key m' o' b' hm' hb2
          exact h.inj m m' o1 o2 b' h1 h2 k1 k2,
         sep:=fun m o b' hm hb'=>by
          rw [Zf9]
          obtain⟨o1,h1,k1⟩:=key m o b' hm hb'
          exact h.sep m o1 b' h1 k1,
         fix:=fun m cs' h1 hm=>by
          by_cases hml:m=l
          .subst hml
           have:some (Blk.box cs')=some blk':=Eq.trans (Eq.symm hm) hgs
           cases this
           rcases hkind with ⟨k,es,es',h2,h3,_⟩ | ⟨cs,cs2,h2,h3⟩ | ⟨_,_,_,_,_,_,h3⟩ | ⟨_,_,_,_,_,_,_,h3,_⟩
           .cases h3
           .subst h2;exact h.fix m cs h1 hg
           .cases h3
           .cases h3
          .exact h.fix m cs' h1 (by rw [<- hgo m hml];exact hm),
         row0:=h.row0.step (fun m _=>hL m),
         blk:=fun m o hm=>by
          by_cases hml:m=l
          .subst hml
           have:some o=some blk':=Eq.trans (Eq.symm hm) hgs
           cases this
           exact hblk hI hL
          .have hm':get σ m=some o:=by rw [<- hgo m hml];exact hm
           refine BR.step hI rfl (fun b' hb'=>Zc7 b vs off w b' ?_) (fun q _=>hL q) (h.blk m o hm')
           rintro rfl
           exact hml (h.inj m l o blk b' hm' hg hb' (.inl hb hrg)),
         tm:=fun i p hp=>⟨(h.tm i p hp).1,VR.step hI p _ (fun q _=>hL q) (h.tm i p hp).2⟩ }
section
variable {P:Program} {o:Oper} {n:Nat} {tm:List (Nat×PV)} {σ:List (Nat×Blk)}
theorem opup {st' : St} (h : ∀ (G : Frm) (β : Nat -> Option Nat) (a : Act) (w : World), (∀ x q, Zi tm x = some q -> VR (ctx G β w σ) q (a.eval x)) -> Zaw G β ⟨n, tm, σ⟩ a w ->
      ∃ v w',((execOp a.eval o).run P w = .ok (.value v) w'\/((execOp a.eval o).run P w = .ok .skip w'/\v=undef))/\∃ β',Zaw G β' st' (a.put o.dst v) w'):Zvr P o ⟨n,tm,σ⟩ st':=by
 intro G a w K Q hr hK
 obtain⟨β,hr⟩:=hr
 obtain⟨v,w',hv,β',hr'⟩:=h G β a w (fun x q hq=>Zh1 hr hq (fun t r _ hr'=>hr')) hr
 unfold Oper.wp
 rcases hv with hv | ⟨hv,rfl⟩
 .rw [hv];exact hK _ _ ⟨β',hr'⟩
 .rw [hv];exact hK _ _ ⟨β',hr'⟩
theorem opF {ρ : List (Nat × PV)} {need rm : List Nat} {p : PV} {news : List (Nat × Blk)} (h : ∀ (G : Frm) (β : Nat -> Option Nat) (n : Nat) (tm : List (Nat × PV)) (σ' : List (Nat × Blk)) (a : Act) (w : World),
      (∀ x q,x∈o.op.operands->Zi ρ x=some q->VR (ctx G β w σ') q (a.eval x))->(∀ l,l∈need->get σ' l=get σ l)->Zaw G β ⟨n,tm,σ'⟩ a w ->
      ∃ v w',(execOp a.eval o).run P w = .ok (.value v) w'/\∃ β',Zaw G β' ⟨n,tm,news++Za5 rm σ'⟩ a w'/\VR (ctx G β' w' (news++Za5 rm σ')) p v):OpF P o ρ σ need rm p news:=by
 intro G n tm σ' a w K Q hag hneed _ hr hK
 obtain⟨β,hr⟩:=hr
 obtain⟨v,w',hv,hp⟩:=h G β n tm σ' a w (fun x q hx hq=>Zh1 hr hq (fun t r ht hr'=>hag t r (ht▸hx) hr')) hneed hr
 unfold Oper.wp
 rw [hv]
 exact hK v w' hp
theorem Z85{c:Ctx}{ps:List PV}{vs:List Value}(h:VRs c ps vs)(h1:ps.all PV.one=true):∀ v,v∈vs->v.oneCell'=true:=by
 induction ps generalizing vs with
 | nil=>simp only [VRs] at h;subst h;intro v hv;cases hv
 | cons p ps ih=>
  simp only [VRs] at h
  obtain⟨v,rest,rfl,hv,hr⟩:=h
  simp only [List.all_cons,Bool.and_eq_true] at h1
  intro u hu
  rcases List.mem_cons.1 hu with hu | hu
  .subst hu;exact hv.oneCell h1.1
  .exact ih hr h1.2 u hu
theorem Zhq{c:Ctx}{t:TypeId}{agg:Bool}{size b q m:Nat}(hT:TyF P t agg size)(w:World){p:PV}{v:Value}(hv:VR c p v)(hs:(Zz p).length=size)(h1:(Zz p).all PV.one=true)(hr:Za7 w b m)(hm:q+size<=m) :
 (Instr.storeAt t (.pointer (some ⟨b,q,none⟩)) v).run P w = .ok () (w.setCells b q v.cells.toList):=by
 have hc:=hv.cells
 have hl:v.cells.size=size:=by rw [<- Array.length_toList,hc.length,hs]
 have hst:=run_storeCells_cells (P:=P) b q v.cells.toList 0 w (fun j hj=>by
  have:=Zka hr hm j (by simp at hj;omega)
  rw [Nat.add_zero];exact this.1) (fun j hj=>by
  have:=Zka hr hm j (by simp at hj;omega)
  rw [Nat.add_zero];exact this.2) (Z85 hc h1)
 rw [Nat.add_zero] at hst
 simp only [Instr.storeAt,Instr.sureAddr,Sem.run_bind,Sem.run_pure,Result.andThen_ok,storeVar,hT.run_sizeOf w,hl,ne_eq,not_true_eq_false,if_false,hst]
theorem Zix{w:World}{b q:Nat}{vs us:List Value}(hc:Zxo w b vs)(hq:q+us.length<=vs.length):Zxo (w.setCells b q us) b (PW.splice vs q us):=by
 have hthere:∀ j,j < us.length->(w.cell? ⟨b,q+j,none⟩).isSome=true:=fun j hj=>by
  have:vs[q+j]?=some vs[q+j]:=List.getElem?_eq_getElem (by omega)
  rw [hc _ _ this];rfl
 intro j v hj
 unfold PW.splice at hj
 rcases Nat.lt_or_ge j q with h | h
 .rw [World.cell?_setCells_out b us q w ⟨b,j,none⟩ (fun _ _ => .inl h)]
  rw [List.append_assoc,List.getElem?_append_left (by simp;omega),List.getElem?_take,if_pos h] at hj
  exact hc j v hj
 .rcases Nat.lt_or_ge j (q+us.length) with h' | h'
  .have:=World.cell?_setCells_in b us q w hthere (j - q) (by omega)
   rw [show q+(j - q)=j by omega] at this
   rw [this]
   rw [List.append_assoc,List.getElem?_append_right (by simp;omega),List.getElem?_append_left (by simp;omega)] at hj
   have e:j - (vs.take q).length=j - q:=by simp;omega
   rw [e,List.getElem?_eq_getElem (by omega)] at hj
   exact hj
  .rw [World.cell?_setCells_out b us q w ⟨b,j,none⟩ (fun _ _ => .inr h')]
   rw [List.getElem?_append_right (by simp;omega),List.getElem?_drop] at hj
   have e:q+us.length+(j - (vs.take q++us).length)=j:=by simp;omega
   rw [e] at hj
   exact hc j v hj
theorem VRs.splice{c:Ctx}{ps qs:List PV}{vs us:List Value}(q:Nat)(h:VRs c ps vs)(k:VRs c qs us):VRs c (PW.splice ps q qs) (PW.splice vs q us):=by
 unfold PW.splice
 rw [k.length]
 exact ((h.take q).append k).append (h.drop _)
theorem Zj4{α:Type}(cs:List α)(q:Nat)(ds:List α)(h:q+ds.length<=cs.length):(splice cs q ds).length=cs.length:=by simp [splice];omega
theorem Zai3{t:TypeId}{x y:Operand}{l q size:Nat}{agg:Bool}{cs:List PV}{p:PV}(ho:o.op = .store t x y)(hd:o.dst=none)(hT:TyF P t agg size)(hx:Zi tm x=some (.bptr l q))(hy:Zi tm y=some p)(hg:get σ l=some (.box cs))
 (hs:(Zz p).length=size) (h1:(Zz p).all PV.one=true) (hq:q+size<=cs.length):Zvr P o ⟨n,tm,σ⟩ ⟨n,tm,put σ l (.box (splice cs q (Zz p)))⟩:=
 opup fun G β a w hop hr=>by
  have e1:=hop x _ hx
  have e2:=hop y _ hy
  simp only [VR] at e1
  obtain⟨b,hb,hv⟩:=e1.1 cs hg
  obtain⟨b',vs,hb',hrow,hc,hvs,hall⟩:=hr.blk l _ hg
  have:b'=b:=by have:=hb'.symm.trans hb;simpa using this
  subst this
  have hrun:=Zhq hT w e2 hs h1 hrow hq
  have hcells:=e2.cells
  have hul:(a.eval y).cells.toList.length=size:=by rw [hcells.length,hs]
  obtain⟨hr',hI,hL⟩:=Zkg hr (off:=q) (blk' := .box (splice cs q (Zz p))) (a.eval y).cells.toList hg hb (.inr (.inl ⟨cs,_,rfl,rfl⟩)) (fun hI hL=>
   ⟨b',splice vs q (a.eval y).cells.toList,hb,by rw [Zj4 _ _ _ (by rw [hs];exact hq)];exact Zb0 _ _ _ _ hrow,Zix hc (by rw [hul,hvs.length];exact hq),
    (VRs.step hI _ _ (fun m _=>hL m) hvs).splice q (VRs.step hI _ _ (fun m _=>hL m) hcells),by
     unfold splice
     simp only [List.all_append,Bool.and_eq_true]
     exact⟨⟨List.all_eq_true.2 fun z hz=>List.all_eq_true.1 hall z (List.mem_of_mem_take hz),h1⟩,List.all_eq_true.2 fun z hz=>List.all_eq_true.1 hall z (List.mem_of_mem_drop hz)⟩⟩)
  refine⟨undef,w.setCells b' q (a.eval y).cells.toList,.inr ⟨?_,rfl⟩,β,?_⟩
  .simp only [execOp,ho,hv,Sem.run_bind,hrun,Result.andThen_ok,Sem.run_pure]
  .rw [hd];exact hr'
theorem Zaly{ρ:List (Nat×PV)}{σ0:List (Nat×Blk)}{t:TypeId}{x y:Operand}{l q size:Nat}{agg:Bool}{cs:List PV}{p:PV}(ho:o.op = .store t x y)(hd:o.dst=none)(hT:TyF P t agg size)(hx:Zi ρ x=some (.bptr l q))(hy:Zi ρ y=some p)(hg0:get σ0 l=some (.box cs))
 (hs:(Zz p).length=size) (h1:(Zz p).all PV.one=true) (hq:q+size<=cs.length):OpF P o ρ σ0 [l] [l] (.tup []) [(l,.box (splice cs q (Zz p)))]:=by
 rintro G n tm σ a w K Q hag hneed _ ⟨β,hr⟩ hK
 have hg:get σ l=some (.box cs):=by rw [hneed l (by simp)];exact hg0
 have hop:∀ x q,x∈o.op.operands->Zi ρ x=some q->VR (ctx G β w σ) q (a.eval x):=fun x q hx hq=>Zh1 hr hq (fun t r ht hr'=>hag t r (ht▸hx) hr')
 have e1:=hop x _ (by simp [ho,Op.operands]) hx
 have e2:=hop y _ (by simp [ho,Op.operands]) hy
 simp only [VR] at e1
 obtain⟨b,hb,hv⟩:=e1.1 cs hg
 obtain⟨b',vs,hb',hrow,hc,hvs,hall⟩:=hr.blk l _ hg
 have:b'=b:=by have:=hb'.symm.trans hb;simpa using this
 subst this
 have hrun:=Zhq hT w e2 hs h1 hrow hq
 have hcells:=e2.cells
 have hul:(a.eval y).cells.toList.length=size:=by rw [hcells.length,hs]
 obtain⟨hr',hI,hL⟩:=Zkg hr (off:=q) (blk' := .box (splice cs q (Zz p))) (a.eval y).cells.toList hg hb (.inr (.inl ⟨cs,_,rfl,rfl⟩)) (fun hI hL=>
  ⟨b',splice vs q (a.eval y).cells.toList,hb,by rw [Zj4 _ _ _ (by rw [hs];exact hq)];exact Zb0 _ _ _ _ hrow,Zix hc (by rw [hul,hvs.length];exact hq),
   (VRs.step hI _ _ (fun m _=>hL m) hvs).splice q (VRs.step hI _ _ (fun m _=>hL m) hcells),by
    unfold splice
    simp only [List.all_append,Bool.and_eq_true]
    exact⟨⟨List.all_eq_true.2 fun z hz=>List.all_eq_true.1 hall z (List.mem_of_mem_take hz),h1⟩,List.all_eq_true.2 fun z hz=>List.all_eq_true.1 hall z (List.mem_of_mem_drop hz)⟩⟩)
 have hrun2:(execOp a.eval o).run P w = .ok .skip (w.setCells b' q (a.eval y).cells.toList):=by
  simp only [execOp,ho,hv,Sem.run_bind,hrun,Result.andThen_ok,Sem.run_pure]
 unfold Oper.wp
 rw [hrun2,Oper.upon_skip,hd]
 have:=hK (.tuple #[]) (w.setCells b' q (a.eval y).cells.toList) ⟨β,hr',by simp [VR,VRs]⟩
 rw [hd] at this
 exact this
theorem Z1c{qs:List PV}:∀ {us:List Zb},Zfp qs=some us->us.length=qs.length:=by
 induction qs with
 | nil=>intro us h;simp only [Zfp,Option.some.injEq] at h;subst h;rfl
 | cons q qs ih=>
  intro us h
  simp only [Zfp] at h
  split at h
  .rename_i t ts' _ hts'
   cases h
   simp [ih hts']
  .cases h
theorem Zm7{c:Ctx}:∀ {ps:List PV} {ts:List Zb} {vs:List Value},Zfp ps=some ts->VRs c ps vs->VRs c (ts.map .t) vs
 | [],ts,vs,h,hv=>by simp only [Zfp,Option.some.injEq] at h;subst h;exact hv
 | p::ps,ts,vs,h,hv=>by
  simp only [Zfp] at h
  split at h
  .rename_i t ts' ht hts
   cases h
   simp only [VRs] at hv
   obtain⟨v,rest,rfl,hv,hr⟩:=hv
   simp only [List.map_cons,VRs]
   exact⟨v,rest,rfl,by simpa [VR] using Zalv ht hv,Zm7 hts hr⟩
  .cases h
theorem Zgb{c:Ctx}{b:Nat}:∀ {ts:List Zb} {vs:List Value} {off:Nat},VRs c (ts.map .t) vs->(∀ j v,vs[j]?=some v->c.w.cell? ⟨b,off+j,none⟩=some v)->Z1 c.I c.w b ts off
 | [],_,_,_,_=>by simp [Z1]
 | t::ts,vs,off,h,hc=>by
  simp only [List.map_cons,VRs] at h
  obtain⟨v,rest,rfl,hv,hr⟩:=h
  simp only [Z1]
  refine⟨⟨v,by simpa using hc 0 v rfl,by simpa [VR] using hv⟩,Zgb hr fun j u hu=>?_⟩
  have:=hc (j+1) u (by simpa using hu)
  rwa [show off+(j+1)=off+1+j by omega] at this
theorem Z1.append{I:Nat->Prop}{w:World}{b:Nat}:∀ {ts us:List Zb} {off:Nat},Z1 I w b (ts++us) off↔Z1 I w b ts off/\Z1 I w b us (off+ts.length)
 | [],us,off=>by simp [Z1]
 | t::ts,us,off=>by
  simp only [List.cons_append,Z1,Z1.append (ts:=ts),List.length_cons,and_assoc]
  rw [show off+(ts.length+1)=off+1+ts.length by omega]
theorem Zm.flat{I:Nat->Prop}{w:World}{b:Nat}:∀ {es:List (List Zb)} {off:Nat},Zm I w b es off↔Z1 I w b es.flatten off
 | [],off=>by simp [Zm,Z1]
 | e::es,off=>by
  simp only [Zm,List.flatten_cons,Z1.append,Zm.flat (es:=es)]
theorem Zca{k:Nat}:∀ {es:List (List Zb)},(∀ el,el∈es->el.length=k)->es.flatten.length=es.length*k
 | [],_=>by simp
 | e::es,h=>by
  rw [List.flatten_cons,List.length_append,Zca (fun el hel=>h el (List.mem_cons_of_mem _ hel)),h e (by simp),List.length_cons,Nat.add_mul,Nat.one_mul];omega
theorem Z1d{k:Nat}:∀ {es:List (List Zb)} (j q:Nat) (e ts:List Zb),(∀ el,el∈es->el.length=k)->es[j]?=some e->q+ts.length<=k->(es.set j (splice e q ts)).flatten=splice es.flatten (j*k+q) ts
 | [],j,q,e,ts,_,h,_=>by simp at h
 | e0::es,0,q,e,ts,hk,h,hq=>by
  simp at h;subst h
  have h0:=hk e0 (by simp)
  simp only [List.set_cons_zero,List.flatten_cons,splice,Nat.zero_mul,Nat.zero_add]
  rw [List.take_append_of_le_length (by omega),List.drop_append_of_le_length (by omega)]
  simp
 | e0::es,j+1,q,e,ts,hk,h,hq=>by
  have h0:=hk e0 (by simp)
  have ih:=Z1d j q e ts (fun el hel=>hk el (List.mem_cons_of_mem _ hel)) (by simpa using h) hq
  rw [List.set_cons_succ,List.flatten_cons,ih]
  simp only [List.flatten_cons,splice]
  have e1:(j+1)*k+q=k+(j*k+q):=by rw [Nat.add_mul,Nat.one_mul];omega
  rw [e1,List.take_append,List.drop_append,h0]
  have t1:e0.take (k+(j*k+q))=e0:=List.take_of_length_le (by omega)
  have t2:e0.drop (k+(j*k+q)+ts.length)=[]:=List.drop_eq_nil_of_le (by omega)
  rw [t1,t2,show k+(j*k+q) - k=j*k+q by omega,show k+(j*k+q)+ts.length - k=j*k+q+ts.length by omega]
  simp
theorem Zaut{t:TypeId}{x y:Operand}{l m j q size k:Nat}{agg:Bool}{es:List (List Zb)}{e ts:List Zb}{p:PV}(ho:o.op = .store t x y)(hd:o.dst=none)(hT:TyF P t agg size)(hx:Zi tm x=some (.rptr l m j q))(hy:Zi tm y=some p)
 (hg:get σ l=some (.row k es)) (hm:es.length=m) (he:es[j]?=some e) (hts:Zfp (Zz p)=some ts) (hs:ts.length=size) (hq:q+size<=k) :
 Zvr P o ⟨n,tm,σ⟩ ⟨n,tm,put σ l (.row k (es.set j (splice e q ts)))⟩:=
 opup fun G β a w hop hr=>by
  have e1:=hop x _ hx
  have e2:=hop y _ hy
  simp only [VR] at e1
  obtain⟨b,hb,hv⟩:=(e1.1 k es hg).2 hm.symm
  obtain⟨hk0,hkl,h⟩:=hr.blk l _ hg
  rcases h with ⟨_,h⟩ | ⟨b',sz,hb',hrow,hsz,hel⟩
  .subst h;simp at he
  .have:b'=b:=by have:=hb'.symm.trans hb;simpa using this
   subst this
   have hlt:j < es.length:=(List.getElem?_eq_some_iff.1 he).1
   have hle:(j+1)*k<=es.length*k:=Nat.mul_le_mul_right _ hlt
   rw [Nat.add_mul,Nat.one_mul] at hle
   have hcl:(Zz p).length=size:=by rw [<- Z1c hts,hs]
   have hone:(Zz p).all PV.one=true:=by
    rw [List.all_eq_true]
    intro z hz
    have:∀ {qs:List PV} {us:List Zb},Zfp qs=some us->∀ z,z∈qs->z.one=true:=by
     intro qs
     induction qs with
     | nil=>intro us _ z hz;cases hz
     | cons q qs ih=>
      intro us h z hz
      simp only [Zfp] at h
      split at h
      .rename_i t ts' ht hts'
       rcases List.mem_cons.1 hz with hz | hz
       .subst hz;cases z<;>simp_all [toT,PV.one]
       .exact ih hts' z hz
      .cases h
    exact this hts z hz
   have hrun:=Zhq hT w e2 hcl hone hrow (q:=j*k+q) (by omega)
   have hcells:=Zm7 hts e2.cells
   have hul:(a.eval y).cells.toList.length=size:=by rw [hcells.length];simpa using hs
   have hflat:=Zm.flat.1 hel
   obtain⟨vs,hvs,hcs⟩:=Z1.vals (c:=ctx G β w σ) hflat
   have hvl:vs.length=es.length*k:=by rw [hvs.length,List.length_map,Zca hkl]
   obtain⟨hr',hI,hL⟩:=Zkg hr (off:=j*k+q) (blk' := .row k (es.set j (splice e q ts))) (a.eval y).cells.toList hg hb (.inl ⟨k,es,_,rfl,rfl,by simp⟩) (fun hI hL=>by
    refine⟨hk0,fun el hel'=>?_,.inr ⟨b',sz,hb,Zb0 _ _ _ _ hrow,by simpa using hsz,Zm.flat.2 ?_⟩⟩
    .rcases List.mem_or_eq_of_mem_set hel' with h | h
     .exact hkl el h
     .subst h
      rw [Zj4 _ _ _ (by rw [hs,hkl e (List.mem_of_getElem? he)];exact hq)]
      exact hkl e (List.mem_of_getElem? he)
    .rw [Z1d j q e ts hkl he (by rw [hs];exact hq)]
     refine Zgb (vs:=splice vs (j*k+q) (a.eval y).cells.toList) ?_ (fun j' v hj'=>?_)
     .have h1:=VRs.step hI _ _ (fun m _=>hL m) hvs
      have h2:=VRs.step hI _ _ (fun m _=>hL m) hcells
      have:=h1.splice (j*k+q) h2
      unfold splice at this⊢
      simpa using this
     .rw [Nat.zero_add]
      exact Zix (w:=w) (fun j v hj=>by have:=hcs j v hj;rwa [Nat.zero_add] at this) (by rw [hul,hvl];omega) j' v hj')
   refine⟨undef,w.setCells b' (j*k+q) (a.eval y).cells.toList,.inr ⟨?_,rfl⟩,β,?_⟩
   .simp only [execOp,ho,hv,Sem.run_bind,hrun,Result.andThen_ok,Sem.run_pure]
   .rw [hd];exact hr'
theorem Zawl{ρ:List (Nat×PV)}{σ0:List (Nat×Blk)}{t:TypeId}{x y:Operand}{l m j q size k:Nat}{agg:Bool}{es:List (List Zb)}{e ts:List Zb}{p:PV}(ho:o.op = .store t x y)(hd:o.dst=none)(hT:TyF P t agg size)(hx:Zi ρ x=some (.rptr l m j q))(hy:Zi ρ y=some p)
 (hg0:get σ0 l=some (.row k es)) (hm:es.length=m) (he:es[j]?=some e) (hts:Zfp (Zz p)=some ts) (hs:ts.length=size) (hq:q+size<=k) :
 OpF P o ρ σ0 [l] [l] (.tup []) [(l,.row k (es.set j (splice e q ts)))]:=by
 rintro G n tm σ a w K Q hag hneed _ ⟨β,hr⟩ hK
 have hg:get σ l=some (.row k es):=by rw [hneed l (by simp)];exact hg0
 have hop:∀ x q,x∈o.op.operands->Zi ρ x=some q->VR (ctx G β w σ) q (a.eval x):=fun x q hx hq=>Zh1 hr hq (fun t r ht hr'=>hag t r (ht▸hx) hr')
 have e1:=hop x _ (by simp [ho,Op.operands]) hx
 have e2:=hop y _ (by simp [ho,Op.operands]) hy
 simp only [VR] at e1
 obtain⟨b,hb,hv⟩:=(e1.1 k es hg).2 hm.symm
 obtain⟨hk0,hkl,h⟩:=hr.blk l _ hg
 rcases h with ⟨_,h⟩ | ⟨b',sz,hb',hrow,hsz,hel⟩
 .subst h;simp at he
 .have:b'=b:=by have:=hb'.symm.trans hb;simpa using this
  subst this
  have hlt:j < es.length:=(List.getElem?_eq_some_iff.1 he).1
  have hle:(j+1)*k<=es.length*k:=Nat.mul_le_mul_right _ hlt
  rw [Nat.add_mul,Nat.one_mul] at hle
  have hcl:(Zz p).length=size:=by rw [<- Z1c hts,hs]
  have hone:(Zz p).all PV.one=true:=by
   rw [List.all_eq_true]
   intro z hz
   have:∀ {qs:List PV} {us:List Zb},Zfp qs=some us->∀ z,z∈qs->z.one=true:=by
    intro qs
    induction qs with
    | nil=>intro us _ z hz;cases hz
    | cons q qs ih=>
     intro us h z hz
     simp only [Zfp] at h
     split at h
     .rename_i t ts' ht hts'
      rcases List.mem_cons.1 hz with hz | hz
      .subst hz;cases z<;>simp_all [toT,PV.one]
      .exact ih hts' z hz
     .cases h
   exact this hts z hz
  have hrun:=Zhq hT w e2 hcl hone hrow (q:=j*k+q) (by omega)
  have hcells:=Zm7 hts e2.cells
  have hul:(a.eval y).cells.toList.length=size:=by rw [hcells.length];simpa using hs
  have hflat:=Zm.flat.1 hel
  obtain⟨vs,hvs,hcs⟩:=Z1.vals (c:=ctx G β w σ) hflat
  have hvl:vs.length=es.length*k:=by rw [hvs.length,List.length_map,Zca hkl]
  obtain⟨hr',hI,hL⟩:=Zkg hr (off:=j*k+q) (blk' := .row k (es.set j (splice e q ts))) (a.eval y).cells.toList hg hb (.inl ⟨k,es,_,rfl,rfl,by simp⟩) (fun hI hL=>by
   refine⟨hk0,fun el hel'=>?_,.inr ⟨b',sz,hb,Zb0 _ _ _ _ hrow,by simpa using hsz,Zm.flat.2 ?_⟩⟩
   .rcases List.mem_or_eq_of_mem_set hel' with h | h
    .exact hkl el h
    .subst h
     rw [Zj4 _ _ _ (by rw [hs,hkl e (List.mem_of_getElem? he)];exact hq)]
     exact hkl e (List.mem_of_getElem? he)
   .rw [Z1d j q e ts hkl he (by rw [hs];exact hq)]
    refine Zgb (vs:=splice vs (j*k+q) (a.eval y).cells.toList) ?_ (fun j' v hj'=>?_)
    .have h1:=VRs.step hI _ _ (fun m _=>hL m) hvs
     have h2:=VRs.step hI _ _ (fun m _=>hL m) hcells
     have:=h1.splice (j*k+q) h2
     unfold splice at this⊢
     simpa using this
    .rw [Nat.zero_add]
     exact Zix (w:=w) (fun j v hj=>by have:=hcs j v hj;rwa [Nat.zero_add] at this) (by rw [hul,hvl];omega) j' v hj')
  have hrun2:(execOp a.eval o).run P w = .ok .skip (w.setCells b' (j*k+q) (a.eval y).cells.toList):=by
   simp only [execOp,ho,hv,Sem.run_bind,hrun,Result.andThen_ok,Sem.run_pure]
  unfold Oper.wp
  rw [hrun2,Oper.upon_skip,hd]
  have:=hK (.tuple #[]) (w.setCells b' (j*k+q) (a.eval y).cells.toList) ⟨β,hr',by simp [VR,VRs]⟩
  rw [hd] at this
  exact this
end
end Go.PW
namespace Go.PW
open Go.RowKit
def Zm8(β:Nat->Option Nat)(l:Nat):Nat->Option Nat:=fun m=>if m=l then none else β m
theorem Zadz{G:Frm}{β:Nat->Option Nat}{n:Nat}{tm:List (Nat×PV)}{σ:List (Nat×Blk)}{a:Act}{w:World}(h:Zaw G β ⟨n,tm,σ⟩ a w)(l k:Nat)(hk:0 < k)(hlab:1000<=l)
 (hf1:∀ i q,get tm i=some q->q.has l=false) (hf2:∀ m y,get σ m=some y->m≠l/\y.has l=false):Zaw G (Zm8 β l) ⟨n,tm,(l,.row k [])::σ⟩ a w:=by
 have hβo:∀ m,m≠l->Zm8 β l m=β m:=fun m hm=>by simp [Zm8,hm]
 have hβs:Zm8 β l l=none:=by simp [Zm8]
 have hgl:∀ m,m≠l->get ((l,Blk.row k [])::σ) m=get σ m:=fun m hm=>by simp [get,Zdi (Ne.symm hm)]
 have hgs:get ((l,Blk.row k [])::σ) l=some (.row k []):=by simp [get]
 have hI:∀ b,(ctx G β w σ).I b->(ctx G (Zm8 β l) w ((l,.row k [])::σ)).I b/\(ctx G (Zm8 β l) w ((l,.row k [])::σ)).w.heap[b]?=(ctx G β w σ).w.heap[b]?:=fun b hb=>by
  refine⟨?_,rfl⟩
  obtain⟨h1,h2,h3⟩:=hb
  .refine⟨h1,h2,fun m o hm=>?_⟩
   by_cases hml:m=l
   .subst hml
    have:some o=some (.row k []):=Eq.trans (Eq.symm hm) hgs
    cases this
    intro ho
    have:=Z3.flat (o := .row _ _) trivial ho
    rw [hβs] at this;cases this
   .exact fun ho=>h3 m o ((hgl m hml).symm.trans hm) (ho.of (hβo m hml) (fun _ _=>rfl))
 have hL:∀ m,m≠l->Zac (ctx G β w σ) (ctx G (Zm8 β l) w ((l,.row k [])::σ)) m:=fun m hm=>Zac.same (hgl m hm) (hβo m hm) (fun _ _ _ _=>rfl)
 have hne:∀ m o b,get ((l,Blk.row k [])::σ) m=some o->Z3 (Zm8 β l) w m o b->m≠l:=fun m o b hm ho e=>by
  subst e
  have:some o=some (.row k []):=Eq.trans (Eq.symm hm) hgs
  cases this
  have:=Z3.flat (o := .row _ _) trivial ho
  rw [hβs] at this;cases this
 exact { defers := h.defers, sz := h.sz, base := h.base, os := h.os, tape := h.tape, output := h.output, old := h.old, A := h.A, gl := h.gl,
         inj:=fun m m' o o' b hm hm' hb hb'=>by
          have h1:=hne m o b hm hb
          have h2:=hne m' o' b hm' hb'
          exact h.inj m m' o o' b ((hgl m h1).symm.trans hm) ((hgl m' h2).symm.trans hm') (hb.of (hβo m h1) (fun _ _=>rfl)) (hb'.of (hβo m' h2) (fun _ _=>rfl)),
         sep:=fun m o b hm hb=>by
          have h1:=hne m o b hm hb
          exact h.sep m o b ((hgl m h1).symm.trans hm) (hb.of (hβo m h1) (fun _ _=>rfl)),
         fix:=fun m cs' h1 hm=>by
          have h2:m≠l:=by omega
          rw [hβo m h2]
          exact h.fix m cs' h1 ((hgl m h2).symm.trans hm),
         row0:=h.row0.step (fun m hm=>hL m (by omega)),
         blk:=fun m o hm=>by
          by_cases h1:m=l
          .subst h1
           have:some o=some (.row k []):=Eq.trans (Eq.symm hm) hgs
           cases this
           exact⟨hk,(fun el h=>by cases h),.inl ⟨hβs,rfl⟩⟩
          .have hm':get σ m=some o:=(hgl m h1).symm.trans hm
           exact BR.step hI (hβo m h1) (fun _ _=>rfl) (fun q hq=>hL q (fun e=>by subst e;rw [(hf2 m o hm').2] at hq;cases hq)) (h.blk m o hm'),
         tm:=fun i p hp=>⟨(h.tm i p hp).1,VR.step hI p _ (fun q hq=>hL q (fun e=>by subst e;rw [hf1 i p hp] at hq;cases hq)) (h.tm i p hp).2⟩ }
theorem Zauu{G:Frm}{β:Nat->Option Nat}{n:Nat}{tm:List (Nat×PV)}{σ:List (Nat×Blk)}{a:Act}{w:World}(h:Zaw G β ⟨n,tm,σ⟩ a w)(cs:Array Value)(e:TypeId){l k:Nat}{es es':List (List Zb)}
 (hg:get σ l=some (.row k es)) (hlt:es.length < es'.length)
 (hblk:(∀ b,(ctx G β w σ).I b->(ctx G (Zf5 β l w.heap.size) (w.alloc (.cells cs e)) (put σ l (.row k es'))).I b/\(ctx G (Zf5 β l w.heap.size) (w.alloc (.cells cs e)) (put σ l (.row k es'))).w.heap[b]?=(ctx G β w σ).w.heap[b]?) ->
  Za7 (w.alloc (.cells cs e)) w.heap.size cs.size->BR (ctx G (Zf5 β l w.heap.size) (w.alloc (.cells cs e)) (put σ l (.row k es'))) l (.row k es')) :
 Zaw G (Zf5 β l w.heap.size) ⟨n,tm,put σ l (.row k es')⟩ a (w.alloc (.cells cs e))/\Za7 (w.alloc (.cells cs e)) w.heap.size cs.size:=by
 have hgl:∀ m,m≠l->get (put σ l (.row k es')) m=get σ m:=fun m hm=>Zcf σ _ (Ne.symm hm)
 have hgs:get (put σ l (.row k es')) l=some (.row k es'):=Zb4 σ l _
 have hltI:∀ b,Imm G β w σ b->b < w.heap.size:=fun b hb=>hb.1
 have hO:∀ m o,m≠l->get σ m=some o->∀ b,Z3 (Zf5 β l w.heap.size) (w.alloc (.cells cs e)) m o b->Z3 β w m o b:=fun m o hm hg b ho=>ho.of (Zg0 β _ hm) (fun b hb=>Za4 w _ b (h.sep m o b hg hb).1)
 have hrow:Za7 (w.alloc (.cells cs e)) w.heap.size cs.size:=⟨cs,e,(0,0),heap_alloc_new w _,rfl,.inl rfl⟩
 have hI:∀ b,(ctx G β w σ).I b->(ctx G (Zf5 β l w.heap.size) (w.alloc (.cells cs e)) (put σ l (.row k es'))).I b/\(ctx G (Zf5 β l w.heap.size) (w.alloc (.cells cs e)) (put σ l (.row k es'))).w.heap[b]?=(ctx G β w σ).w.heap[b]?:=fun b hb=>by
  refine⟨?_,Za4 w _ b (hltI b hb)⟩
  have hbl:=hltI b hb
  obtain⟨h1,h2,h3⟩:=hb
  .refine⟨by simp;omega,h2,fun m o hm=>?_⟩
   by_cases hml:m=l
   .subst hml
    have:some o=some (.row k es'):=Eq.trans (Eq.symm hm) hgs
    cases this
    intro hh
    have:=Z3.flat (o := .row _ _) trivial hh
    rw [Zcv] at this
    cases this;omega
   .have hm':=(hgl m hml).symm.trans hm
    exact fun ho=>h3 m o hm' (hO m o hml hm' b ho)
 have hL:∀ m,Zac (ctx G β w σ) (ctx G (Zf5 β l w.heap.size) (w.alloc (.cells cs e)) (put σ l (.row k es'))) m:=fun m=>by
  by_cases hml:m=l
  .subst hml
   refine⟨fun k' es'' hg'=>?_,fun cs' hg'=>?_,fun k' q' es'' hg'=>?_,fun k' es'' hg'=>?_,fun k' i' es'' cs' hg'=>?_,fun h' hg'=>?_,fun k' i' r' es'' hg'=>?_⟩
   .have:some (Blk.row k' es'')=some (.row k es'):=Eq.trans (Eq.symm hg') hgs
    cases this
    exact⟨es,hg,Nat.le_of_lt hlt,fun he=>by omega⟩
   .have:some (Blk.box cs')=some (.row k es'):=Eq.trans (Eq.symm hg') hgs
    cases this
   .have:some (Blk.mat k' q' es'')=some (.row k es'):=Eq.trans (Eq.symm hg') hgs
    cases this
   .have:some (Blk.map k' es'')=some (.row k es'):=Eq.trans (Eq.symm hg') hgs
    cases this
   .have:some (Blk.prow k' i' es'' cs')=some (.row k es'):=Eq.trans (Eq.symm hg') hgs
    cases this
   .have:some (Blk.reg h')=some (.row k es'):=Eq.trans (Eq.symm hg') hgs
    cases this
   .have:some (Blk.xrow k' i' r' es'')=some (.row k es'):=Eq.trans (Eq.symm hg') hgs
    cases this
  .have hg':=hgl m hml
   cases hgm:get σ m with
   | none=>exact Zac.none (hg'.trans hgm)
   | some o=>exact Zac.same hg' (Zg0 β _ hml) (fun o b hgm hb=>Za4 w _ b (h.sep m o b hgm hb).1)
 have hns:∀ m o,m≠l->get (put σ l (.row k es')) m=some o->get σ m=some o:=fun m o hm hg=>(hgl m hm).symm.trans hg
 have hnew:∀ o b,get (put σ l (.row k es')) l=some o->Z3 (Zf5 β l w.heap.size) (w.alloc (.cells cs e)) l o b->w.heap.size=b:=fun o b hm ho=>by
  have:some o=some (.row k es'):=Eq.trans (Eq.symm hm) hgs
  cases this
  have:=Z3.flat (o := .row _ _) trivial ho
  rw [Zcv] at this
  exact Option.some.inj this
 refine⟨?_,hrow⟩
 exact { defers := h.defers, sz := h.sz, base := by simp; have := h.base; omega, os := h.os, tape := h.tape, output := h.output,
         old:=fun b hb ho=>(Za4 w _ b (Nat.lt_of_lt_of_le hb h.base)).trans (h.old b hb ho),A:=h.A,gl:=h.gl,
         inj:=fun m m' o o' b hm hm' hb hb'=>by
          by_cases h1:m=l
          .by_cases h2:m'=l
           .rw [h1,h2]
           .subst h1
            have hb:=hnew o b hm hb
            have:=(h.sep m' o' b (hns m' o' h2 hm') (hO m' o' h2 (hns m' o' h2 hm') b hb')).1
            omega
          .by_cases h2:m'=l
           .subst h2
            have hb':=hnew o' b hm' hb'
            have:=(h.sep m o b (hns m o h1 hm) (hO m o h1 (hns m o h1 hm) b hb)).1
            omega
           .exact h.inj m m' o o' b (hns m o h1 hm) (hns m' o' h2 hm') (hO m o h1 (hns m o h1 hm) b hb) (hO m' o' h2 (hns m' o' h2 hm') b hb'),
         sep:=fun m o b hm hb=>by
          by_cases h1:m=l
          .subst h1
           have hb:=hnew o b hm hb
           subst hb
           exact⟨by simp,.inl h.base⟩
          .have:=h.sep m o b (hns m o h1 hm) (hO m o h1 (hns m o h1 hm) b hb)
           exact⟨by simp;omega,this.2⟩,
         fix:=fun m cs' h1 hm=>by
          have h2:m≠l:=fun e=>by
           subst e
           have:some (Blk.box cs')=some (.row k es'):=Eq.trans (Eq.symm hm) hgs
           cases this
          rw [Zg0 β _ h2]
          exact h.fix m cs' h1 (hns m _ h2 hm),
         row0:=h.row0.step (fun m _=>hL m),
         blk:=fun m o hm=>by
          by_cases h1:m=l
          .subst h1
           have:some o=some (.row k es'):=Eq.trans (Eq.symm hm) hgs
           cases this
           exact hblk hI hrow
          .have hm':=hns m o h1 hm
           exact BR.step hI (Zg0 β _ h1) (fun b hb=>Za4 w _ b (h.sep m o b hm' hb).1) (fun q _=>hL q) (h.blk m o hm'),
         tm:=fun i p hp=>⟨(h.tm i p hp).1,VR.step hI p _ (fun q _=>hL q) (h.tm i p hp).2⟩ }
section
variable {P:Program} {o:Oper} {n:Nat} {tm:List (Nat×PV)} {σ:List (Nat×Blk)}
inductive Zrg (σ:List (Nat×Blk)):PV->List (List Zb)->Prop
 | tree (es:List (List Zb)):Zrg σ (.t (.sl es)) es
 | nils:Zrg σ .nils []
 | own (l m k:Nat) (es:List (List Zb)) (h:get σ l=some (.row k es)) (hm:es.length=m):Zrg σ (.osl l m) es
 | con (a:Option Addr) (c:Nat):Zrg σ (.t (.con (.slice a 0 c))) []
theorem Zrg.src{G:Frm}{β:Nat->Option Nat}{a:Act}{w:World}(hr:Zaw G β ⟨n,tm,σ⟩ a w){p:PV}{es:List (List Zb)}{v:Value}{k:Nat}{tx e:TypeId}(h:Zrg σ p es)(hv:VR (ctx G β w σ) p v)
 (hk:∀ el,el∈es->el.length=k) (htx:P.underlying tx=some (.slice e)):∃ news,Src P k tx v es.length news w/\VRs (ctx G β w σ) (es.flatten.map .t) news:=by
 have fromCells:∀ (b off cap:Nat),Zm (ctx G β w σ).I (ctx G β w σ).w b es off->∃ news,Src P k tx (.slice (some ⟨b,off,none⟩) es.length cap) es.length news w/\VRs (ctx G β w σ) (es.flatten.map .t) news:=by
  intro b off cap hel
  obtain⟨vs,h1,h2⟩:=Z1.vals (Zm.flat.1 hel)
  refine⟨vs,Src.ofSlice w htx ⟨b,off,none⟩ es.length cap vs ?_ (fun j u hu=>by rw [Addr.add_mid];exact h2 j u hu) ?_,h1⟩
  .rw [h1.length,List.length_map,Zca hk]
  .intro u hu
   refine Z85 h1 ?_ u hu
   rw [List.all_eq_true]
   intro x hx
   obtain⟨t,_,rfl⟩:=List.mem_map.1 hx
   rfl
 have empty:∀ (a':Option Addr) (cap:Nat),es=[]->∃ news,Src P k tx (.slice a' es.length cap) es.length news w/\VRs (ctx G β w σ) (es.flatten.map .t) news:=by
  intro a' cap he
  subst he
  cases a' with
  | none=>exact⟨[],Src.ofNil w htx cap,by simp [VRs]⟩
  | some ad=>exact⟨[],Src.ofSlice w htx ad 0 cap [] (by simp) (by simp) (by simp),by simp [VRs]⟩
 cases h with
 | tree es=>
  simp only [VR,Zx] at hv
  obtain⟨a',cap,rfl,_,_,h⟩:=hv
  rcases h with h | ⟨b,off,rfl,_,hel⟩
  .exact empty a' cap h
  .exact fromCells b off cap hel
 | nils=>
  simp only [VR] at hv
  obtain⟨a',rfl⟩:=hv
  exact empty a' 0 rfl
 | con a' c=>
  simp only [VR,Zx] at hv
  rw [hv.1]
  exact empty a' c rfl
 | own l m k' es h hm=>
  simp only [VR] at hv
  obtain⟨a',cap,rfl,_,_,h3⟩:=(hv.1 k' es h).2 hm.symm
  obtain⟨_,_,hb⟩:=hr.blk l _ h
  subst hm
  rcases hb with ⟨_,he⟩ | ⟨b,sz,hb,_,_,hel⟩
  .exact empty a' cap he
  .rcases h3 with ⟨hc,hb'⟩ | ⟨b',sz',ha,hb',_,_⟩
   .exact absurd (hb.symm.trans hb') (by simp)
   .have:b'=b:=by have:=hb'.symm.trans hb;simpa using this
    subst this;subst ha
    exact fromCells b' 0 cap hel
theorem Zmv(w:World)(t tx ty e:TypeId)(i:TypeInfo)(ht:P.underlying t=some (.slice e))(hi:P.info? e=some i)(a:Option Addr)(m cap:Nat)(hm:m<=cap)(x:Value)(hs:Src P i.size tx x 0 [] w) :
 (Builtin.append_ #[t,tx] ty #[.slice a m cap,x]).run P w = .ok (.slice a m cap) w:=by
 have hc:=hs.cells
 rcases hs.kind with ⟨e',hk⟩ | hk<;>cases a<;>simp [Builtin.append_,run_underlying ht,run_underlying hk,sizeOf,typeInfo,hi,hs.len,hm,hc,storeCells]
theorem Z9z{c:Ctx}{b:Nat}{olds news:List Value}{es es2:List (List Zb)}(h1:VRs c (es.flatten.map .t) olds)(h2:VRs c (es2.flatten.map .t) news)
 (hc:∀ j v,(olds++news)[j]?=some v->c.w.cell? ⟨b,j,none⟩=some v):Zm c.I c.w b (es++es2) 0:=by
 refine Zm.flat.2 (Zgb (vs:=olds++news) ?_ (fun j v hj=>by rw [Nat.zero_add];exact hc j v hj))
 rw [List.flatten_append,List.map_append]
 exact h1.append h2
theorem Zalz{ρ:List (Nat×PV)}{t tx e:TypeId}{x y:Operand}{k bytes:Nat}{zero:List PV}{es:List (List Zb)}{p:PV}{need:List Nat}(l:Nat)(hlab:1000<=l)(ho:o.op = .call { callee := .builtin .append,args := #[x,y],argTypes := #[t,tx] })
 (hE:ElF P t e k bytes zero) (htx:∃ e',P.underlying tx=some (.slice e')) (hx:Zi ρ x=some .nils) (hy:Zi ρ y=some p) (hsrc:Zrg σ p es) (hneed:∀ m,p.has m=true->m∈need)
 (hk:∀ el,el∈es->el.length=k) (h63:es.length<=9223372036854775807) (hby:es.length*bytes<=140737488355328):Za3 P o ρ σ need (.osl l es.length) [(l,.row k es)]:=
 Zsz (fun G β n tm σ' A w hop hnd hf1 hf2 hr=>by
  obtain⟨e1,_⟩:=hop x _ (by simp [ho,Op.operands,Call.operands]) hx
  obtain⟨e2,_⟩:=hop y _ (by simp [ho,Op.operands,Call.operands]) hy
  simp only [VR] at e1
  obtain⟨a0,e1⟩:=e1
  obtain⟨e',htx⟩:=htx
  have hsrc':Zrg σ' p es:=by
   cases hsrc with
   | tree es=>exact .tree es
   | nils=>exact .nils
   | con a c=>exact .con a c
   | own l' m k' es h hm=>exact .own l' m k' es ((hnd l' (hneed l' (by simp [PV.has]))).trans h) hm
  obtain⟨news,hs,hnv⟩:=hsrc'.src (P:=P) (tx:=tx) hr e2 hk htx
  have hnewsl:news.length=es.length*k:=hs.newsLen
  cases hi:P.info? e with
  | none=>have:=hE.info;simp [hi] at this
  | some i=>
   have hik:i.size=k/\i.bytes=bytes:=by have:=hE.info;simpa [hi] using this
   have hz:=hE.z
   unfold Zge at hz
   simp only [hi,Option.bind_some,Option.bind_eq_some_iff] at hz
   obtain⟨z,hiz,hz⟩:=hz
   have hzl:z.cells.size=k:=by have:=(Zgo (c:=ctx G β w σ') hz).length;rw [hE.len] at this;simpa using this
   have hexec:∀ r,(Builtin.append_ #[t,tx] o.type #[.slice a0 0 0,A.eval y]).run P w=r->(execOp A.eval o).run P w=r.andThen fun v w => .ok (.value v) w:=by
    intro r hr
    simp only [execOp,ho,resolve,invoke,builtin,Sem.run_bind,Sem.run_pure,Result.andThen_ok,List.map_toArray,List.map_cons,List.map_nil,e1,hr]
   by_cases hem:es.length=0
   .have hes:es=[]:=List.eq_nil_of_length_eq_zero hem
    subst hes
    have hnil:news=[]:=List.eq_nil_of_length_eq_zero (by simpa using hnewsl)
    subst hnil
    have hrun:=Zmv w t tx o.type e i hE.und hi a0 0 0 (Nat.le_refl _) (A.eval y) (by rw [hik.1];exact hs)
    refine⟨.slice a0 0 0,w,by rw [hexec _ hrun];rfl,Zm8 β l,Zadz hr l k hE.pos hlab hf1 hf2,?_⟩
    simp only [VR]
    refine⟨fun k' es' hg=>?_,_,_,_,rfl⟩
    have hgs:get ((l,Blk.row k [])::σ') l=some (.row k []):=by simp [get]
    have:some (Blk.row k' es')=some (.row k []):=Eq.trans (Eq.symm hg) hgs
    cases this
    exact⟨Nat.le_refl _,fun _=>⟨a0,0,rfl,Nat.le_refl _,by simp [maxLen],.inl ⟨rfl,by simp [ctx,Zm8]⟩⟩⟩
   .have hpos:0 < es.length:=Nat.pos_of_ne_zero hem
    have hrun:=run_append_grow_src (P:=P) w t tx o.type e i z hE.und hi hiz a0 0 0 [] (by cases a0<;>simp [Builtin.firstCells,loadCells,loadCellsFrom]) (A.eval y) es.length news (by rw [hik.1];exact hs) (by omega) (by omega)
     (by rw [hik.2];exact growslice_fits (by omega) (by simpa using hby))
    simp only [List.nil_append,Nat.zero_add] at hrun
    generalize hcs:news.toArray++Builtin.zeroCells z.cells (grownCap w es.length 0 e - es.length)=cs at hrun
    have hge:=grownCap_ge w es.length 0 e
    have hcm:grownCap w es.length 0 e<=maxLen:=grownCap_le_maxLen w es.length 0 e (by simp only [maxLen];omega)
    have hcsz:cs.size=grownCap w es.length 0 e*k:=by
     rw [<- hcs]
     simp only [Array.size_append,List.size_toArray,size_zeroCells,hzl,hnewsl,<- Nat.add_mul]
     congr 1;omega
    obtain⟨hr',hrow,hI,hL⟩:=(Zaw.drew hr).allocOwn cs e l (.row k es) hlab trivial hf1 hf2 (fun hI hL hrow=>
     ⟨hE.pos,hk,.inr ⟨w.heap.size,cs.size,Zcv _ _ _,hrow,by rw [hcsz];exact Nat.mul_le_mul_right _ hge,by
      refine Zm.flat.2 (Zgb (vs:=news) ?_ (fun j v hj=>?_))
      .exact VRs.step (c:=ctx G β w.drew σ') hI _ _ (fun q hq=>by rw [Zif] at hq;cases hq) (VRs.step (c:=ctx G β w σ') (c':=ctx G β w.drew σ') Zuh _ _ (fun q hq=>by rw [Zif] at hq;cases hq) hnv)
      .show (w.drew.alloc _).cell? ⟨w.drew.heap.size,_,none⟩=_
       rw [World.cell?_alloc_new,Nat.zero_add,<- hcs]
       have hlt:=(List.getElem?_eq_some_iff.1 hj).1
       rw [Array.getElem?_append_left (by simpa using hlt)]
       simpa using hj⟩⟩)
    refine⟨.slice (some ⟨w.heap.size,0,none⟩) es.length (grownCap w es.length 0 e),_,by rw [hexec _ hrun];rfl,_,hr',?_⟩
    simp only [VR]
    refine⟨fun k' es' hg=>?_,_,_,_,rfl⟩
    have hgs:get ((l,Blk.row k es)::σ') l=some (.row k es):=by simp [get]
    have:some (Blk.row k' es')=some (.row k es):=Eq.trans (Eq.symm hg) hgs
    cases this
    exact⟨Nat.le_refl _,fun _=>⟨_,_,rfl,hge,hcm,.inr ⟨w.heap.size,cs.size,rfl,Zcv _ _ _,hrow,by rw [hcsz];exact Nat.le_refl _⟩⟩⟩) (fun _ _ _ hx hq=>Zqc l hx hq)
theorem Zrg.need{σ σ':List (Nat×Blk)}{p:PV}{es:List (List Zb)}(h:Zrg σ p es)(hn:∀ m,p.has m=true->get σ' m=get σ m):Zrg σ' p es:=by
 cases h with
 | tree es=>exact .tree es
 | nils=>exact .nils
 | con a c=>exact .con a c
 | own l' m k' es h hm=>exact .own l' m k' es ((hn l' (by simp [PV.has])).trans h) hm
theorem Zawm{ρ:List (Nat×PV)}{σ0:List (Nat×Blk)}{need:List Nat}{t tx e:TypeId}{x y:Operand}{k bytes l m:Nat}{zero:List PV}{es0 es:List (List Zb)}{p:PV}(ho:o.op = .call { callee := .builtin .append,args := #[x,y],argTypes := #[t,tx] })
 (hE:ElF P t e k bytes zero) (htx:∃ e',P.underlying tx=some (.slice e')) (hx:Zi ρ x=some (.osl l m)) (hg0:get σ0 l=some (.row k es0)) (hm:es0.length=m) (hy:Zi ρ y=some p) (hsrc0:Zrg σ0 p es) (hneed:∀ q,(q=l\/p.has q=true)->q∈need)
 (hk:∀ el,el∈es->el.length=k) (h63:m+es.length<=9223372036854775807) (hby:(m+es.length)*bytes<=140737488355328) :
 OpF P o ρ σ0 need [l] (.osl l (m+es.length)) [(l,.row k (es0++es))]:=
 opF fun G β n tm σ A w hop hnd hr=>by
  have e1:=hop x _ (by simp [ho,Op.operands,Call.operands]) hx
  have e2:=hop y _ (by simp [ho,Op.operands,Call.operands]) hy
  have hg:=(hnd l (hneed l (.inl rfl))).trans hg0
  have hsrc:=hsrc0.need (σ':=σ) (fun q hq=>hnd q (hneed q (.inr hq)))
  show ∃ v w',(execOp A.eval o).run P w = .ok (.value v) w'/\∃ β',Zaw G β' ⟨n,tm,put σ l (.row k (es0++es))⟩ A w'/\VR (ctx G β' w' (put σ l (.row k (es0++es)))) (.osl l (m+es.length)) v
  simp only [VR] at e1
  obtain⟨a0,cap,hv,hmc,hcm0,h3⟩:=(e1.1 k es0 hg).2 hm.symm
  obtain⟨e',htx⟩:=htx
  obtain⟨news,hs,hnv⟩:=hsrc.src (P:=P) (tx:=tx) hr e2 hk htx
  have hnewsl:news.length=es.length*k:=hs.newsLen
  have hnv1:∀ u,u∈news->u.oneCell'=true:=hs.one
  obtain⟨hk0,hkl,hbr⟩:=hr.blk l _ hg
  have hkl':∀ el,el∈es0++es->el.length=k:=fun el hel=>(List.mem_append.1 hel).elim (hkl el) (hk el)
  cases hi:P.info? e with
  | none=>have:=hE.info;simp [hi] at this
  | some i=>
   have hik:i.size=k/\i.bytes=bytes:=by have:=hE.info;simpa [hi] using this
   have hz:=hE.z
   unfold Zge at hz
   simp only [hi,Option.bind_some,Option.bind_eq_some_iff] at hz
   obtain⟨z,hiz,hz⟩:=hz
   have hzl:z.cells.size=k:=by have:=(Zgo (c:=ctx G β w σ) hz).length;rw [hE.len] at this;simpa using this
   have hexec:∀ r,(Builtin.append_ #[t,tx] o.type #[.slice a0 m cap,A.eval y]).run P w=r->(execOp A.eval o).run P w=r.andThen fun v w => .ok (.value v) w:=by
    intro r hr
    simp only [execOp,ho,resolve,invoke,builtin,Sem.run_bind,Sem.run_pure,Result.andThen_ok,List.map_toArray,List.map_cons,List.map_nil,hv,hr]
   have holds:∃ olds,VRs (ctx G β w σ) (es0.flatten.map .t) olds/\(Builtin.firstCells i.size m (.slice a0 m cap)).run P w.drew = .ok olds.toArray w.drew /\
    (∀ b,β l=some b->∀ j v,olds[j]?=some v->w.cell? ⟨b,j,none⟩=some v):=by
    rcases hbr with ⟨hb,he⟩ | ⟨b,sz,hb,hrow,hsz,hel⟩
    .subst he
     have hm0:m=0:=by simpa using hm.symm
     subst hm0
     refine⟨[],by simp [VRs],by cases a0<;>simp [Builtin.firstCells,loadCells,loadCellsFrom],fun b hb'=>?_⟩
     intro j v hj;simp at hj
    .obtain⟨vs,hv1,hv2⟩:=Z1.vals (c:=ctx G β w σ) (Zm.flat.1 hel)
     refine⟨vs,hv1,?_,fun b' hb' j v hj=>?_⟩
     .rcases h3 with ⟨_,hb'⟩ | ⟨b',sz',ha,hb',_,_⟩
      .exact absurd (hb.symm.trans hb') (by simp)
      .have:b'=b:=by have:=hb'.symm.trans hb;simpa using this
       subst this;subst ha
       refine run_firstCells_some w.drew i.size m ⟨b',0,none⟩ m cap vs ?_ (fun j v hj=>?_)
       .rw [hv1.length,List.length_map,Zca hkl,hm,hik.1]
       .rw [Addr.add_mid];exact hv2 j v hj
     .have:b'=b:=by have:=hb'.symm.trans hb;simpa using this
      subst this
      have:=hv2 j v hj
      rwa [Nat.zero_add] at this
   obtain⟨olds,hov,hold,hoc⟩:=holds
   have holl:olds.length=m*k:=by rw [hov.length,List.length_map,Zca hkl,hm]
   by_cases hroom:m+es.length<=cap
   .rcases h3 with ⟨hc0,hb⟩ | ⟨b,sz,ha,hb,hrow,hsz⟩
    ·-- nothing there,nothing appended
     have hem:es.length=0:=by omega
     have hm0:m=0:=by omega
     have hes:es=[]:=List.eq_nil_of_length_eq_zero hem
     subst hes
     have hnil:news=[]:=List.eq_nil_of_length_eq_zero (by simpa using hnewsl)
     subst hnil
     have hrun:=Zmv w t tx o.type e i hE.und hi a0 m cap hmc (A.eval y) (by rw [hik.1];exact hs)
     refine⟨.slice a0 m cap,w,(by rw [hexec _ hrun];rfl),β,?_⟩
     have hsame:∀ q,get (put σ l (.row k (es0++[]))) q=get σ q:=fun q=>by
      by_cases hq:q=l
      .subst hq;rw [Zb4,hg,List.append_nil]
      .exact Zcf σ _ (Ne.symm hq)
     have hr2:Zaw G β ⟨n,tm,put σ l (.row k (es0++[]))⟩ A w:=hr.sub (Nat.le_refl _) (fun i p hp=>⟨hp,(hr.tm i p hp).1⟩) (fun q o hq=>by rw [<- hsame q];exact hq)
     refine⟨hr2,?_⟩
     simp only [VR,List.length_nil,Nat.add_zero]
     refine⟨fun k' es' hg'=>?_,_,_,_,rfl⟩
     have hgl:get σ l=some (.row k' es'):=(hsame l).symm.trans hg'
     rw [hg] at hgl
     cases hgl
     exact⟨by omega,fun _=>⟨a0,cap,rfl,hmc,hcm0,.inl ⟨hc0,hb⟩⟩⟩
    ·-- in place
     subst ha
     have hle:(m+es.length)*k<=sz:=Nat.le_trans (Nat.mul_le_mul_right _ hroom) hsz
     rw [Nat.add_mul] at hle
     have hth:=Zka hrow (o:=m*k) (n:=es.length*k) hle
     have hrun:=run_append_room_src (P:=P) w t tx o.type e i hE.und hi b 0 m cap (A.eval y) es.length news (by rw [hik.1];exact hs) hroom (fun j hj=>by
      have:=(hth j (by omega)).1
      rwa [hik.1,Nat.zero_add]) (fun j hj=>by
      have:=(hth j (by omega)).2
      rwa [hik.1,Nat.zero_add])
     rw [hik.1,Nat.zero_add] at hrun
     obtain⟨hr',hI,hL⟩:=Zkg hr (off:=m*k) (blk' := .row k (es0++es)) news hg hb (.inl ⟨k,es0,_,rfl,rfl,by simp⟩) (fun hI hL=>by
      refine⟨hk0,hkl',.inr ⟨b,sz,hb,Zb0 _ _ _ _ hrow,?_,?_⟩⟩
      .rw [List.length_append,Nat.add_mul,hm];exact hle
      .refine Z9z (olds:=olds) (news:=news) (VRs.step hI _ _ (fun q _=>hL q) hov) (VRs.step hI _ _ (fun q _=>hL q) hnv) (fun j v hj=>?_)
       show (w.setCells b (m*k) news).cell? _=_
       rcases Nat.lt_or_ge j olds.length with h | h
       .rw [List.getElem?_append_left h] at hj
        rw [World.cell?_setCells_out b news (m*k) w ⟨b,j,none⟩ (fun _ _ => .inl (by simp;omega))]
        exact hoc b hb j v hj
       .rw [List.getElem?_append_right h] at hj
        have hjl:=(List.getElem?_eq_some_iff.1 hj).1
        have:=World.cell?_setCells_in b news (m*k) w (fun j' hj'=>(hth j' (by omega)).1) (j - olds.length) hjl
        rw [show m*k+(j - olds.length)=j by omega] at this
        rw [this,<- hj,List.getElem?_eq_getElem hjl])
     refine⟨.slice (some ⟨b,0,none⟩) (m+es.length) cap,w.setCells b (m*k) news,(by rw [hexec _ hrun];rfl),β,hr',?_⟩
     simp only [VR]
     refine⟨fun k' es' hg'=>?_,_,_,_,rfl⟩
     have:some (Blk.row k' es')=some (.row k (es0++es)):=Eq.trans (Eq.symm hg') (Zb4 σ l _)
     cases this
     rw [List.length_append,hm]
     exact⟨Nat.le_refl _,fun _=>⟨_,cap,rfl,hroom,hcm0,.inr ⟨b,sz,rfl,hb,Zb0 _ _ _ _ hrow,hsz⟩⟩⟩
   ·-- a new row
    have hgt:cap < m+es.length:=by omega
    have hpos:0 < es.length:=by omega
    have hrun:=run_append_grow_src (P:=P) w t tx o.type e i z hE.und hi hiz a0 m cap olds hold (A.eval y) es.length news (by rw [hik.1];exact hs) hgt (by omega) (by rw [hik.2];exact growslice_fits hgt hby)
    generalize hcs:(olds++news).toArray++Builtin.zeroCells z.cells (grownCap w (m+es.length) cap e - (m+es.length))=cs at hrun
    have hge:=grownCap_ge w (m+es.length) cap e
    have hcm:grownCap w (m+es.length) cap e<=maxLen:=grownCap_le_maxLen w (m+es.length) cap e (by simp only [maxLen];omega)
    have hcsz:cs.size=grownCap w (m+es.length) cap e*k:=by
     rw [<- hcs]
     simp only [Array.size_append,List.size_toArray,List.length_append,size_zeroCells,hzl,hnewsl,holl,<- Nat.add_mul]
     congr 1;omega
    have hdrew:∀ {ts:List Zb} {vs:List Value},VRs (ctx G β w σ) (ts.map .t) vs->VRs (ctx G β w.drew σ) (ts.map .t) vs:=fun h=>
     VRs.step (c:=ctx G β w σ) (c':=ctx G β w.drew σ) Zuh _ _ (fun q _=>Zac.drew q) h
    obtain⟨hr',hrow⟩:=Zauu (Zaw.drew hr) cs e (es':=es0++es) hg (by simp;omega) (fun hI hrow=>
     ⟨hk0,hkl',.inr ⟨w.heap.size,cs.size,Zcv _ _ _,hrow,by rw [hcsz,List.length_append,hm];exact Nat.mul_le_mul_right _ hge,by
      refine Z9z (olds:=olds) (news:=news) (VRs.step hI _ _ (fun q hq=>by rw [Zif] at hq;cases hq) (hdrew hov)) (VRs.step hI _ _ (fun q hq=>by rw [Zif] at hq;cases hq) (hdrew hnv)) (fun j v hj=>?_)
      show (w.drew.alloc _).cell? ⟨w.drew.heap.size,_,none⟩=_
      rw [World.cell?_alloc_new,<- hcs]
      have hlt:=(List.getElem?_eq_some_iff.1 hj).1
      rw [Array.getElem?_append_left (by simpa using hlt)]
      simpa using hj⟩⟩)
    refine⟨.slice (some ⟨w.heap.size,0,none⟩) (m+es.length) (grownCap w (m+es.length) cap e),_,(by rw [hexec _ hrun];rfl),_,hr',?_⟩
    simp only [VR]
    refine⟨fun k' es' hg'=>?_,_,_,_,rfl⟩
    have:some (Blk.row k' es')=some (.row k (es0++es)):=Eq.trans (Eq.symm hg') (Zb4 σ l _)
    cases this
    rw [List.length_append,hm]
    exact⟨Nat.le_refl _,fun _=>⟨_,_,rfl,hge,hcm,.inr ⟨w.heap.size,cs.size,rfl,Zcv _ _ _,hrow,by rw [hcsz];exact Nat.le_refl _⟩⟩⟩
end
end Go.PW
namespace Go.PW
open Go.RowKit
def Zmn:List PV->Option (List Zb)
 | []=>some []
 | .t x::ps=>(Zmn ps).map (x :: ·)
 | _::_=>none
theorem Zoc:∀ {ps:List PV} {ts:List Zb},Zmn ps=some ts->ps=ts.map .t
 | [],ts,h=>by simp only [Zmn,Option.some.injEq] at h;subst h;rfl
 | p::ps,ts,h=>by
  cases p<;>simp only [Zmn] at h<;>try cases h
  simp only [Option.map_eq_some_iff] at h
  obtain⟨ts',h,rfl⟩:=h
  rw [Zoc h];rfl
theorem Zawn{c c':Ctx}{l o:Nat}{ts:List Zb}{v:Value}(hb:BR c l (.box (ts.map .t)))(hg:get c.σ l=some (.box (ts.map .t)))(hv:VR c (.bptr l o) v)(hI:∀ b,c.I b->c'.I b/\c'.w.heap[b]?=c.w.heap[b]?)(hf:∀ b,c.β l=some b->c'.I b/\c'.w.heap[b]?=c.w.heap[b]?) :
 VR c' (.vptr (ts.drop o)) v:=by
 simp only [VR] at hv⊢
 obtain⟨b,hb1,hv⟩:=hv.1 _ hg
 obtain⟨b',vs,hb',_,hcs,hvs,_⟩:=hb
 have:b'=b:=by have:=hb'.symm.trans hb1;simpa using this
 subst this
 have h1:=Zgb (off:=0) hvs (fun j v hj=>by rw [Nat.zero_add];exact hcs j v hj)
 have h2:=Z1.drop o ts 0 h1
 rw [Nat.zero_add] at h2
 exact⟨b',o,hv,fun _=>(hf b' hb1).1,Z1.mono hI (hf b' hb1).2 _ _ h2⟩
mutual
def Frz(σ σ':List (Nat×Blk)):PV->PV->Prop
 | .t x,q=>q = .t x
 | .nils,q=>q = .t (.sl [])\/q = .nils
 | .osl l n,q=>q = .osl l n\/∃ k es,get σ l=some (.row k es)/\es.length=n/\get σ' l=none/\q = .t (.sl es)
 | .bptr l o,q=>q = .bptr l o\/∃ ts:List Zb,get σ l=some (.box (ts.map .t))/\get σ' l=none/\q = .vptr (ts.drop o)
 | .rptr l n i o,q=>q = .rptr l n i o
 | .vptr cs,q=>q = .vptr cs
 | .agg cs,q=>∃ ds,q = .agg ds/\Zbi σ σ' cs ds
 | .tup cs,q=>∃ ds,q = .tup ds/\Zbi σ σ' cs ds
 | .fn f cs,q=>∃ ds,q = .fn f ds/\Zbi σ σ' cs ds
 | .own l d,q=>q = .own l d\/∃ n k q0 es,d = .msl n/\get σ l=some (.mat k q0 es)/\es.length=n/\get σ' l=none/\q = .t (.sl es)
def Zbi(σ σ':List (Nat×Blk)):List PV->List PV->Prop
 | [],qs=>qs=[]
 | p::ps,qs=>∃ q rs,qs=q::rs/\Frz σ σ' p q/\Zbi σ σ' ps rs
end
def Zby(σ σ':List (Nat×Blk)):Blk->Blk->Prop
 | .row k es,b=>b = .row k es
 | .box cs,b=>∃ ds,b = .box ds/\Zbi σ σ' cs ds
 | .mat k q es,b=>b = .mat k q es
 | .map ag es,b=>b = .map ag es
 | .prow k i es cs,b=>∃ ds,b = .prow k i es ds/\Zbi σ σ' cs ds
 | .reg h,b=>b = .reg h
 | .xrow k i r es,b=>b = .xrow k i r es
structure FrzC (c c':Ctx):Prop where
 I:∀ b,c.I b->c'.I b/\c'.w.heap[b]?=c.w.heap[b]?
 L:∀ l,Zac c c' l
 blk:∀ l o,get c.σ l=some o->BR c l o
 fz:∀ l o b,get c.σ l=some o->get c'.σ l=none->Z3 c.β c.w l o b->c'.I b/\c'.w.heap[b]?=c.w.heap[b]?
mutual
theorem Frz.ok{c c':Ctx}(h:FrzC c c'):∀ (p q:PV) (v:Value),Frz c.σ c'.σ p q->VR c p v->VR c' q v
 | .t x,q,v,hf,hv=>by simp only [Frz] at hf;subst hf;exact VR.step h.I (.t x) v (fun l _=>h.L l) hv
 | .nils,q,v,hf,hv=>by
  simp only [Frz] at hf
  rcases hf with rfl | rfl
  .simp only [VR] at hv⊢
   obtain⟨a,rfl⟩:=hv
   simp only [Zx]
   exact⟨a,0,rfl,by simp,by simp [maxLen],.inl trivial⟩
  .exact hv
 | .osl l n,q,v,hf,hv=>by
  simp only [Frz] at hf
  rcases hf with rfl | ⟨k,es,hg,hn,hg',rfl⟩
  .exact VR.step h.I (.osl l n) v (fun l _=>h.L l) hv
  .simp only [VR] at hv⊢
   obtain⟨a,cap,rfl,hc1,hc2,h3⟩:=(hv.1 k es hg).2 hn.symm
   simp only [Zx]
   subst hn
   refine⟨a,cap,rfl,hc1,hc2,?_⟩
   obtain⟨_,_,hb⟩:=h.blk l _ hg
   rcases hb with ⟨_,he⟩ | ⟨b,sz,hb,_,_,hel⟩
   .exact .inl he
   .rcases h3 with ⟨_,hb'⟩ | ⟨b',sz',ha,hb',_,_⟩
    .exact absurd (hb.symm.trans hb') (by simp)
    .have:b'=b:=by have:=hb'.symm.trans hb;simpa using this
     subst this
     obtain⟨hI,hh⟩:=h.fz l _ b' hg hg' (.inl hb)
     exact .inr ⟨b',0,ha,hI,Zm.mono h.I hh es 0 hel⟩
 | .bptr l o,q,v,hf,hv=>by
  simp only [Frz] at hf
  rcases hf with rfl | ⟨ts,hg,hg',rfl⟩
  .exact VR.step h.I (.bptr l o) v (fun l _=>h.L l) hv
  .exact Zawn (h.blk l _ hg) hg hv h.I (fun b hb=>h.fz l _ b hg hg' (.inl hb))
 | .rptr l n i o,q,v,hf,hv=>by simp only [Frz] at hf;subst hf;exact VR.step h.I (.rptr l n i o) v (fun l _=>h.L l) hv
 | .vptr cs,q,v,hf,hv=>by simp only [Frz] at hf;subst hf;exact VR.step h.I (.vptr cs) v (fun l _=>h.L l) hv
 | .agg cs,q,v,hf,hv=>by
  simp only [Frz] at hf
  obtain⟨ds,rfl,hd⟩:=hf
  simp only [VR] at hv⊢
  obtain⟨vs,hv,hs⟩:=hv
  exact⟨vs,hv,Zbi.ok h cs ds vs hd hs⟩
 | .tup cs,q,v,hf,hv=>by
  simp only [Frz] at hf
  obtain⟨ds,rfl,hd⟩:=hf
  simp only [VR] at hv⊢
  obtain⟨vs,hv,hs⟩:=hv
  exact⟨vs,hv,Zbi.ok h cs ds vs hd hs⟩
 | .fn f cs,q,v,hf,hv=>by
  simp only [Frz] at hf
  obtain⟨ds,rfl,hd⟩:=hf
  simp only [VR] at hv⊢
  obtain⟨vs,hv,hs⟩:=hv
  exact⟨vs,hv,Zbi.ok h cs ds vs hd hs⟩
 | .own l d,q,v,hf,hv=>by
  simp only [Frz] at hf
  rcases hf with rfl | ⟨n,k,q0,es,rfl,hg,hn,hg',rfl⟩
  .exact VR.step h.I (.own l d) v (fun l _=>h.L l) hv
  .simp only [VR] at hv⊢
   obtain⟨a,cap,rfl,hc1,hc2,h3⟩:=(hv.1 k q0 es hg).2 hn.symm
   simp only [Zx]
   subst hn
   refine⟨a,cap,rfl,hc1,hc2,?_⟩
   obtain⟨_,_,hb⟩:=h.blk l _ hg
   rcases hb with ⟨_,he⟩ | ⟨b,sz,hb,_,_,hel,_⟩
   .exact .inl he
   .rcases h3 with ⟨_,hb'⟩ | ⟨b',sz',ha,hb',_,_⟩
    .exact absurd (hb.symm.trans hb') (by simp)
    .have:b'=b:=by have:=hb'.symm.trans hb;simpa using this
     subst this
     obtain⟨hI,hh⟩:=h.fz l _ b' hg hg' (.inl hb)
     refine .inr ⟨b',0,ha,hI,Zm.mono (fun d hd=>?_) hh es 0 hel⟩
     rcases hd with hd | hd
     .exact h.I d hd
     .exact h.fz l _ d hg hg' (.inr ⟨b',hb,hd⟩)
theorem Zbi.ok{c c':Ctx}(h:FrzC c c'):∀ (ps qs:List PV) (vs:List Value),Zbi c.σ c'.σ ps qs->VRs c ps vs->VRs c' qs vs
 | [],qs,vs,hf,hv=>by simp only [Zbi] at hf;subst hf;exact hv
 | p::ps,qs,vs,hf,hv=>by
  simp only [Zbi] at hf
  obtain⟨q,rs,rfl,hq,hr⟩:=hf
  simp only [VRs] at hv⊢
  obtain⟨v,rest,rfl,hv,hrest⟩:=hv
  exact⟨v,rest,rfl,Frz.ok h p q v hq hv,Zbi.ok h ps rs rest hr hrest⟩
end
theorem Frz.one{σ σ':List (Nat×Blk)}{p q:PV}(h:Frz σ σ' p q)(h1:p.one=true):q.one=true:=by
 cases p<;>simp only [Frz] at h<;>simp only [PV.one,Bool.false_eq_true] at h1
 case t=>subst h;rfl
 case nils=>rcases h with rfl | rfl<;>rfl
 case osl=>rcases h with rfl | ⟨_,_,_,_,_,rfl⟩<;>rfl
 case bptr=>rcases h with rfl | ⟨_,_,_,rfl⟩<;>rfl
 case rptr=>subst h;rfl
 case vptr=>subst h;rfl
 case fn=>obtain⟨ds,rfl,_⟩:=h;rfl
 case own=>rcases h with rfl | ⟨_,_,_,_,_,_,_,_,rfl⟩<;>rfl
theorem Zbi.one{σ σ':List (Nat×Blk)}:∀ {ps qs:List PV},Zbi σ σ' ps qs->ps.all PV.one=true->qs.all PV.one=true
 | [],qs,h,_=>by simp only [Zbi] at h;subst h;rfl
 | p::ps,qs,h,h1=>by
  simp only [Zbi] at h
  obtain⟨q,rs,rfl,hq,hr⟩:=h
  simp only [List.all_cons,Bool.and_eq_true] at h1⊢
  exact⟨hq.one h1.1,Zbi.one hr h1.2⟩
theorem Zbi.length{σ σ':List (Nat×Blk)}:∀ {ps qs:List PV},Zbi σ σ' ps qs->qs.length=ps.length
 | [],qs,h=>by simp only [Zbi] at h;subst h;rfl
 | p::ps,qs,h=>by
  simp only [Zbi] at h
  obtain⟨q,rs,rfl,_,hr⟩:=h
  simp [Zbi.length hr]
theorem Zbi.trees{σ σ':List (Nat×Blk)}:∀ (ts:List Zb),Zbi σ σ' (ts.map .t) (ts.map .t)
 | []=>by simp only [List.map_nil,Zbi]
 | t::ts=>by simp only [List.map_cons,Zbi];exact⟨_,_,rfl,rfl,Zbi.trees ts⟩
theorem Zbi.app{σ σ':List (Nat×Blk)}:∀ {ps qs ps' qs':List PV},Zbi σ σ' ps ps'->Zbi σ σ' qs qs'->Zbi σ σ' (ps++qs) (ps'++qs')
 | [],qs,ps',qs',h1,h2=>by simp only [Zbi] at h1;subst h1;exact h2
 | p::ps,qs,ps',qs',h1,h2=>by
  simp only [Zbi] at h1
  obtain⟨q,rs,rfl,h3,h4⟩:=h1
  simp only [List.cons_append,Zbi]
  exact⟨q,_,rfl,h3,Zbi.app h4 h2⟩
theorem Zbi.prow{σ σ':List (Nat×Blk)}{i:Nat}{es:List (List Zb)}{cs ds:List PV}(h:Zbi σ σ' cs ds):Zbi σ σ' (Zg8 i es cs) (Zg8 i es ds):=
 (Zbi.trees _).app (h.app (Zbi.trees _))
mutual
theorem Frz.need{σ σ1 σ':List (Nat×Blk)}:∀ (p q:PV),(∀ m,p.has m=true->get σ1 m=get σ m)->Frz σ σ' p q->Frz σ1 σ' p q
 | .t _,_,_,h=>h
 | .nils,_,_,h=>h
 | .osl l n,q,hm,h=>by
  simp only [Frz] at h⊢
  rcases h with h | ⟨k,es,h1,h2,h3,h4⟩
  .exact .inl h
  .exact .inr ⟨k,es,(hm l (by simp [PV.has])).trans h1,h2,h3,h4⟩
 | .bptr l _,q,hm,h=>by
  simp only [Frz] at h⊢
  rcases h with h | ⟨ts,h1,h2⟩
  .exact .inl h
  .exact .inr ⟨ts,(hm l (by simp [PV.has])).trans h1,h2⟩
 | .rptr _ _ _ _,_,_,h=>h
 | .vptr _,_,_,h=>h
 | .agg cs,q,hm,h=>by simp only [Frz] at h⊢;obtain⟨ds,h1,h2⟩:=h;exact⟨ds,h1,Zbi.need cs ds (fun m hh=>hm m (by simpa [PV.has] using hh)) h2⟩
 | .tup cs,q,hm,h=>by simp only [Frz] at h⊢;obtain⟨ds,h1,h2⟩:=h;exact⟨ds,h1,Zbi.need cs ds (fun m hh=>hm m (by simpa [PV.has] using hh)) h2⟩
 | .fn f cs,q,hm,h=>by simp only [Frz] at h⊢;obtain⟨ds,h1,h2⟩:=h;exact⟨ds,h1,Zbi.need cs ds (fun m hh=>hm m (by simpa [PV.has] using hh)) h2⟩
 | .own l d,q,hm,h=>by
  simp only [Frz] at h⊢
  rcases h with h | ⟨n,k,q0,es,h0,h1,h2⟩
  .exact .inl h
  .exact .inr ⟨n,k,q0,es,h0,(hm l (by simp [PV.has])).trans h1,h2⟩
theorem Zbi.need{σ σ1 σ':List (Nat×Blk)}:∀ (ps qs:List PV),(∀ m,PV.hasAny m ps=true->get σ1 m=get σ m)->Zbi σ σ' ps qs->Zbi σ1 σ' ps qs
 | [],_,_,h=>h
 | p::ps,qs,hm,h=>by
  simp only [Zbi] at h⊢
  obtain⟨q,rs,h1,h2,h3⟩:=h
  exact⟨q,rs,h1,Frz.need p q (fun m hh=>hm m (by simp [PV.hasAny,hh])) h2,Zbi.need ps rs (fun m hh=>hm m (by simp [PV.hasAny,hh])) h3⟩
end
def Zvt(σ σ':List (Nat×Blk)):Prop:=∀ l o',get σ' l=some o'->∃ o,get σ l=some o/\Zby σ σ' o o'
theorem Zby.lstep{G:Frm}{β:Nat->Option Nat}{w:World}{σ σ':List (Nat×Blk)}(hσ:Zvt σ σ')(l:Nat):Zac (ctx G β w σ) (ctx G β w σ') l:=by
 refine⟨fun k es' hg=>?_,fun cs' hg=>?_,fun k q es' hg=>?_,fun k es' hg=>?_,fun k i es' cs' hg=>?_,fun h' hg=>?_,fun k i r es' hg=>?_⟩
 .obtain⟨o,ho,hf⟩:=hσ l _ hg
  cases o with
  | reg h2=>simp only [Zby] at hf;cases hf
  | xrow k2 i2 r2 es2=>simp only [Zby] at hf;cases hf
  | row k2 es2=>simp only [Zby] at hf;cases hf;exact⟨es',ho,Nat.le_refl _,fun _=>⟨rfl,fun _ _ _ h=>h⟩⟩
  | box cs=>simp only [Zby] at hf;obtain⟨ds,h,_⟩:=hf;cases h
  | mat k2 q2 es2=>simp only [Zby] at hf;cases hf
  | map k2 es2=>simp only [Zby] at hf;cases hf
  | prow k2 i2 es2 cs2=>simp only [Zby] at hf;obtain⟨ds,h,_⟩:=hf;cases h
 .obtain⟨o,ho,hf⟩:=hσ l _ hg
  cases o with
  | reg h2=>simp only [Zby] at hf;cases hf
  | xrow k2 i2 r2 es2=>simp only [Zby] at hf;cases hf
  | row k2 es2=>simp only [Zby] at hf;cases hf
  | box cs=>exact⟨cs,ho,rfl⟩
  | mat k2 q2 es2=>simp only [Zby] at hf;cases hf
  | map k2 es2=>simp only [Zby] at hf;cases hf
  | prow k2 i2 es2 cs2=>simp only [Zby] at hf;obtain⟨ds,h,_⟩:=hf;cases h
 .obtain⟨o,ho,hf⟩:=hσ l _ hg
  cases o with
  | reg h2=>simp only [Zby] at hf;cases hf
  | xrow k2 i2 r2 es2=>simp only [Zby] at hf;cases hf
  | row k2 es2=>simp only [Zby] at hf;cases hf
  | box cs=>simp only [Zby] at hf;obtain⟨ds,h,_⟩:=hf;cases h
  | mat k2 q2 es2=>simp only [Zby] at hf;cases hf;exact⟨es',ho,Nat.le_refl _,fun _=>⟨rfl,fun _ _=>⟨fun _ h=>h,fun _ _=>rfl⟩⟩⟩
  | map k2 es2=>simp only [Zby] at hf;cases hf
  | prow k2 i2 es2 cs2=>simp only [Zby] at hf;obtain⟨ds,h,_⟩:=hf;cases h
 .obtain⟨o,ho,hf⟩:=hσ l _ hg
  cases o with
  | reg h2=>simp only [Zby] at hf;cases hf
  | xrow k2 i2 r2 es2=>simp only [Zby] at hf;cases hf
  | row k2 es2=>simp only [Zby] at hf;cases hf
  | box cs=>simp only [Zby] at hf;obtain⟨ds,h,_⟩:=hf;cases h
  | mat k2 q2 es2=>simp only [Zby] at hf;cases hf
  | map k2 es2=>simp only [Zby] at hf;cases hf;exact⟨_,es',ho,rfl⟩
  | prow k2 i2 es2 cs2=>simp only [Zby] at hf;obtain⟨ds,h,_⟩:=hf;cases h
 .obtain⟨o,ho,hf⟩:=hσ l _ hg
  cases o with
  | reg h2=>simp only [Zby] at hf;cases hf
  | xrow k2 i2 r2 es2=>simp only [Zby] at hf;cases hf
  | row k2 es2=>simp only [Zby] at hf;cases hf
  | box cs=>simp only [Zby] at hf;obtain⟨ds,h,_⟩:=hf;cases h
  | mat k2 q2 es2=>simp only [Zby] at hf;cases hf
  | map k2 es2=>simp only [Zby] at hf;cases hf
  | prow k2 i2 es2 cs2=>simp only [Zby] at hf;obtain⟨ds,h,_⟩:=hf;cases h;exact⟨_,cs2,ho,rfl,rfl,fun _ _ _ h=>h⟩
 .obtain⟨o,ho,hf⟩:=hσ l _ hg
  cases o with
  | reg h2=>simp only [Zby] at hf;cases hf;exact⟨ho,fun n hn=>⟨n,hn,fun _ hb=>⟨hb,ShB.same rfl⟩⟩⟩
  | xrow k2 i2 r2 es2=>simp only [Zby] at hf;cases hf
  | row k2 es2=>simp only [Zby] at hf;cases hf
  | box cs=>simp only [Zby] at hf;obtain⟨ds,h,_⟩:=hf;cases h
  | mat k2 q2 es2=>simp only [Zby] at hf;cases hf
  | map k2 es2=>simp only [Zby] at hf;cases hf
  | prow k2 i2 es2 cs2=>simp only [Zby] at hf;obtain⟨ds,h,_⟩:=hf;cases h
 .obtain⟨o,ho,hf⟩:=hσ l _ hg
  cases o with
  | reg h2=>simp only [Zby] at hf;cases hf
  | xrow k2 i2 r2 es2=>simp only [Zby] at hf;cases hf;exact⟨_,es',ho,Nat.le_refl _,fun _=>⟨rfl,fun _ _ _ h=>h⟩⟩
  | row k2 es2=>simp only [Zby] at hf;cases hf
  | box cs=>simp only [Zby] at hf;obtain⟨ds,h,_⟩:=hf;cases h
  | mat k2 q2 es2=>simp only [Zby] at hf;cases hf
  | map k2 es2=>simp only [Zby] at hf;cases hf
  | prow k2 i2 es2 cs2=>simp only [Zby] at hf;obtain⟨ds,h,_⟩:=hf;cases h
theorem Zby.own{β:Nat->Option Nat}{w:World}{σ σ':List (Nat×Blk)}{l:Nat}{o o':Blk}{b:Nat}(hf:Zby σ σ' o o')(h:Z3 β w l o' b):Z3 β w l o b:=by
 cases o with
 | reg h2=>simp only [Zby] at hf;subst hf;exact h
 | xrow k i r es=>simp only [Zby] at hf;subst hf;exact h
 | row k es=>simp only [Zby] at hf;subst hf;exact h
 | mat k q es=>simp only [Zby] at hf;subst hf;exact h
 | map ag es=>simp only [Zby] at hf;subst hf;exact h
 | prow k i es cs=>simp only [Zby] at hf;obtain⟨ds,rfl,_⟩:=hf;exact .inl (Z3.flat (o := .prow k i es ds) trivial h)
 | box cs=>simp only [Zby] at hf;obtain⟨ds,rfl,_⟩:=hf;exact .inl (Z3.flat (o := .box ds) trivial h)
theorem Zart{G:Frm}{β:Nat->Option Nat}{n:Nat}{tm:List (Nat×PV)}{σ σ':List (Nat×Blk)}{a:Act}{w:World}(h:Zaw G β ⟨n,tm,σ⟩ a w)(hσ:Zvt σ σ'):FrzC (ctx G β w σ) (ctx G β w σ') where
 I:=fun b hb=>⟨⟨hb.1,hb.2.1,fun l o hl=>by obtain⟨o2,ho2,hf⟩:=hσ l o hl;exact fun ho=>hb.2.2 l o2 ho2 (hf.own ho)⟩,rfl⟩
 L:=Zby.lstep hσ
 blk:=fun l o hg=>h.blk l _ hg
 fz:=fun l o b hg hg' hb=>by
  refine⟨⟨(h.sep l o b hg hb).1,?_,fun l' o' hl' hb'=>?_⟩,rfl⟩
  .rcases (h.sep l o b hg hb).2 with h1 | h1
   .exact .inl h1
   .exact .inr (.inr h1)
  .obtain⟨o2,ho2,hf⟩:=hσ l' o' hl'
   have:=h.inj l' l o2 o b ho2 hg (hf.own hb') hb
   subst this
   rw [show get σ' l'=none from hg'] at hl';cases hl'
theorem Zal0{G:Frm}{β:Nat->Option Nat}{n:Nat}{tm tm':List (Nat×PV)}{σ σ':List (Nat×Blk)}{a:Act}{w:World}(h:Zaw G β ⟨n,tm,σ⟩ a w)(hσ:Zvt σ σ')
 (ht:∀ i q,get tm' i=some q->∃ p,get tm i=some p/\Frz σ σ' p q):Zaw G β ⟨n,tm',σ'⟩ a w:=by
 have hc:=Zart h hσ
 exact { defers := h.defers, sz := h.sz, base := h.base, os := h.os, tape := h.tape, output := h.output, old := h.old, A := h.A, gl := h.gl,
         inj:=fun l l' o o' b hl hl' hb hb'=>by
          obtain⟨o1,h1,f1⟩:=hσ l o hl
          obtain⟨o2,h2,f2⟩:=hσ l' o' hl'
          exact h.inj l l' o1 o2 b h1 h2 (f1.own hb) (f2.own hb'),
         sep:=fun l o b hl hb=>by obtain⟨o1,h1,f1⟩:=hσ l o hl;exact h.sep l o1 b h1 (f1.own hb),
         fix:=fun l cs h1 hl=>by
          obtain⟨o1,h2,hf⟩:=hσ l _ hl
          cases o1 with
          | reg h=>simp only [Zby] at hf;cases hf
          | xrow k i r es=>simp only [Zby] at hf;cases hf
          | row k es=>simp only [Zby] at hf;cases hf
          | mat k q es=>simp only [Zby] at hf;cases hf
          | map ag es=>simp only [Zby] at hf;cases hf
          | prow k i es cs=>simp only [Zby] at hf;obtain⟨ds,h3,_⟩:=hf;cases h3
          | box cs0=>exact h.fix l cs0 h1 h2,
         row0:=h.row0.step (fun m _=>hc.L m),
         blk:=fun l o hl=>by
          obtain⟨o1,h2,hf⟩:=hσ l o hl
          have hb:=h.blk l o1 h2
          cases o1 with
          | reg h2=>simp only [Zby] at hf;subst hf;exact BR.step hc.I rfl (fun _ _=>rfl) (fun m _=>hc.L m) hb
          | xrow k i r es=>simp only [Zby] at hf;subst hf;exact BR.step hc.I rfl (fun _ _=>rfl) (fun m _=>hc.L m) hb
          | row k es=>simp only [Zby] at hf;subst hf;exact BR.step hc.I rfl (fun _ _=>rfl) (fun m _=>hc.L m) hb
          | mat k q es=>simp only [Zby] at hf;subst hf;exact BR.step hc.I rfl (fun _ _=>rfl) (fun m _=>hc.L m) hb
          | map ag es=>simp only [Zby] at hf;subst hf;exact BR.step hc.I rfl (fun _ _=>rfl) (fun m _=>hc.L m) hb
          | prow k i es cs0=>
           simp only [Zby] at hf
           obtain⟨ds,rfl,hd⟩:=hf
           obtain⟨h0,h1,h3,h4,h5,b,m,vs,h6,h7,h8,h9,h10⟩:=hb
           exact⟨h0,h1,h3,by rw [hd.length];exact h4,hd.one h5,b,m,vs,h6,h7,h8,h9,Zbi.ok hc _ _ _ (Zbi.prow hd) h10⟩
          | box cs0=>
           simp only [Zby] at hf
           obtain⟨ds,rfl,hd⟩:=hf
           obtain⟨b,vs,h3,h4,h5,h6,h7⟩:=hb
           exact⟨b,vs,h3,by rw [hd.length];exact h4,h5,Zbi.ok hc _ _ _ hd h6,hd.one h7⟩,
         tm:=fun i q hq=>by
          obtain⟨p,hp,hf⟩:=ht i q hq
          exact⟨(h.tm i p hp).1,Frz.ok hc p q _ hf (h.tm i p hp).2⟩ }
theorem Wk.frz{n:Nat}{tm tm':List (Nat×PV)}{σ σ':List (Nat×Blk)}(hσ:Zvt σ σ')(ht:∀ i q,get tm' i=some q->∃ p,get tm i=some p/\Frz σ σ' p q):Wk ⟨n,tm,σ⟩ ⟨n,tm',σ'⟩:=
 fun _ _ _ ⟨β,h⟩=>⟨β,Zal0 h hσ ht⟩
def idx:Nat->List PV->List (Nat×PV)
 | _,[]=>[]
 | i,p::ps=>(i,p)::idx (i+1) ps
theorem Z86:∀ (ps:List PV) (i j:Nat),get (idx i ps) j=if i<=j then ps[j - i]? else none
 | [],i,j=>by simp [idx,get]
 | p::ps,i,j=>by
  simp only [idx,get]
  by_cases h:i=j
  .subst h;simp
  .rw [Zdi h,cond_false,Z86 ps (i+1) j]
   by_cases h1:i+1<=j
   .rw [if_pos h1,if_pos (by omega),show j - i=(j - (i+1))+1 by omega,List.getElem?_cons_succ]
   .rw [if_neg h1,if_neg (by omega)]
def FnOk (P : Program) (f : FuncId) : Prop := ∃ fn c, P.funcs[f]? = some fn /\ fn.body = some c /\ (fn.name == "runtime.NumGoroutine") = false
def Zayk(β:Nat->Option Nat)(w:World)(σ:List (Nat×Blk))(b:Nat):Prop:=∃ l o,get σ l=some o/\Z3 β w l o b
def Zey(β:Nat->Option Nat)(σ:List (Nat×Blk))(A:Nat->Prop)(w:World):Frm:=⟨w.heap.size,w,Zayk β w σ,A,β,get σ⟩
def FnG(P:Program)(f:FuncId)(σ:List (Nat×Blk))(args:List PV)(σ':List (Nat×Blk))(res:PV):Prop:=
 FnOk P f/\∀ (A:Nat->Prop) (β:Nat->Option Nat) (w:World) (vals:List Value),vals.length=args.length ->
  Zaw (Zey β σ A w) β ⟨args.length,idx 0 args,σ⟩ ⟨vals.toArray,[]⟩ w ->
  Calls P f vals.toArray w fun e w'=>∃ v β',e = .returned v/\Zaw (Zey β σ A w) β' ⟨1,[(0,res)],σ'⟩ ⟨#[v],[]⟩ w'
def Fn(P:Program)(f:FuncId)(args:List PV)(res:PV):Prop:=FnG P f [] args [] res
inductive RV where
 | t (t:Nat)
 | c (a t:Nat) (agg:Bool) (size:Nat)
def RV.to:RV->ResultVar
 | .t i => .tmp i
 | .c a i _ _ => .cell a i
def Zaso(st:St):RV->Option PV
 | .t t=>get st.tm t
 | .c a _ agg size=>
  match get st.tm a with
  | some (.bptr l q)=>
   match get st.σ l with
   | some (.box cs)=>Zec agg size q cs
   | _=>none
  | _=>none
def Zzw(st:St):List RV->Option (List PV)
 | []=>some []
 | r::rs=>
  match Zaso st r,Zzw st rs with
  | some p,some ps=>some (p::ps)
  | _,_=>none
def Zalb(σ σ':List (Nat×Blk))(ps:List PV)(res:PV):Prop:=
 match ps with
 | [p]=>Frz σ σ' p res
 | ps=>∃ ds,res = .tup ds/\Zbi σ σ' ps ds
def Zad0(rs:List RV)(σ':List (Nat×Blk))(res:PV)(st:St):Prop:=∃ ps,Zzw st rs=some ps/\Zvt st.σ σ'/\Zalb st.σ σ' ps res
def Zxy(rs:List RV)(σ':List (Nat×Blk))(res:PV):Exit->St->Prop
 | .normal,st | .ret,st=>Zad0 rs σ' res st
 | _,_=>False
theorem Zaqi{P:Program}{G:Frm}{β:Nat->Option Nat}{st:St}{a:Act}{w:World}(hr:Zaw G β st a w){r:RV}{p:PV}(hty:∀ x t ag sz,r = .c x t ag sz->TyF P t ag sz)(hs:Zaso st r=some p)
 (g:ResultVar->Sem Value) (h1:∀ t,g (.tmp t)=pure (a.tmps.getD t undef)) (h2:∀ x t,g (.cell x t)=(do loadVar t (<- asAddr (a.tmps.getD x undef)))):∃ v,(g r.to).run P w = .ok v w/\VR (ctx G β w st.σ) p v:=by
 cases r with
 | t t=>exact⟨_,by simp only [RV.to,h1,Sem.run_pure],(hr.tm t p hs).2⟩
 | c x t ag sz=>
  simp only [Zaso] at hs
  split at hs
  .rename_i l q hx
   split at hs
   .rename_i cs hg
    have e1:=(hr.tm x _ hx).2
    simp only [VR] at e1
    obtain⟨b,hb,hv⟩:=e1.1 cs hg
    obtain⟨b',vs,hb',hrow,hc,hvs,_⟩:=hr.blk l _ hg
    have:b'=b:=by have:=hb'.symm.trans hb;simpa using this
    subst this
    obtain⟨v,hrun,hpv⟩:=Zkf (q:=0) (hty x t ag sz rfl) w hvs (fun j v hj=>by rw [Nat.zero_add];exact hc j v hj) hs
    rw [Nat.zero_add] at hrun
    have hrun':(loadVar t ⟨b',q,none⟩).run P w = .ok v w:=by
     have:=hrun
     simp only [Instr.loadAt,Instr.sureAddr] at this
     simpa using this
    exact⟨v,by simp only [RV.to,h2,hv,asAddr,Sem.run_bind,Sem.run_pure,Result.andThen_ok,hrun'],hpv⟩
   .cases hs
  .cases hs
theorem Zaqj{P:Program}{fn:Func}{rs:List RV}(h:fn.results=(rs.map RV.to).toArray)(hty:∀ x t ag sz,RV.c x t ag sz∈rs->TyF P t ag sz){G:Frm}{β:Nat->Option Nat}{st:St}{a:Act}{w:World}(hr:Zaw G β st a w){ps:List PV}(hs:Zzw st rs=some ps) :
 ∃ vs,VRs (ctx G β w st.σ) ps vs/\(results fn a.tmps).run P w = .ok (match vs with | [v]=>v | vs => .tuple vs.toArray) w:=by
 have hm:∀ (g:ResultVar->Sem Value),(∀ t,g (.tmp t)=pure (a.tmps.getD t undef))->(∀ x t,g (.cell x t)=(do loadVar t (<- asAddr (a.tmps.getD x undef))))->∀ (rs:List RV) (ps:List PV),(∀ x t ag sz,RV.c x t ag sz∈rs->TyF P t ag sz)->Zzw st rs=some ps ->
  ∃ vs,VRs (ctx G β w st.σ) ps vs/\((rs.map RV.to).mapM g).run P w = .ok vs w:=by
  intro g h1 h2 rs
  induction rs with
  | nil=>intro ps _ hs;simp only [Zzw,Option.some.injEq] at hs;subst hs;exact⟨[],by simp [VRs],rfl⟩
  | cons r rs ih=>
   intro ps hty hs
   simp only [Zzw] at hs
   split at hs
   .rename_i p qs hp hq
    cases hs
    obtain⟨v,hv1,hv2⟩:=Zaqi hr (fun x t ag sz e=>hty x t ag sz (by rw [e];simp)) hp g h1 h2
    obtain⟨vs,h3,h4⟩:=ih qs (fun x t ag sz hm=>hty x t ag sz (List.mem_cons_of_mem _ hm)) hq
    refine⟨v::vs,by simp only [VRs];exact⟨v,vs,rfl,hv2,h3⟩,?_⟩
    simp only [List.map_cons,List.mapM_cons,Sem.run_bind,hv1,Result.andThen_ok,h4,Sem.run_pure]
   .cases hs
 obtain⟨g,hg,g1,g2⟩:∃ g:ResultVar->Sem Value,results fn a.tmps=(do
  let vs <- fn.results.mapM g
  pure (if h:vs.size=1 then vs[0] else .tuple vs))/\(∀ t,g (.tmp t)=pure (a.tmps.getD t undef))/\(∀ x t,g (.cell x t)=(do loadVar t (<- asAddr (a.tmps.getD x undef)))):=
  ⟨_,rfl,fun _=>rfl,fun _ _=>rfl⟩
 rw [hg,h,Array.mapM_eq_mapM_toList]
 obtain⟨vs,h1,h2⟩:=hm g g1 g2 rs ps hty hs
 refine⟨vs,h1,?_⟩
 simp only [bind_map_left,Sem.run_bind,h2,Result.andThen_ok,Sem.run_pure]
 match vs with
 | []=>rfl
 | [r]=>rfl
 | r::r'::rs=>simp
theorem FnG.of_pw {P : Program} {f : FuncId} {σ σ' : List (Nat × Blk)} {args : List PV} {res : PV} {fn : Func} {c : Code} (hf : P.funcs[f]? = some fn) (hb : fn.body = some c) (hname : (fn.name == "runtime.NumGoroutine") = false)
 (n:Nat) (hn:fn.ntmps=n) (hna:args.length<=n) (rs:List RV) (hres:fn.results=(rs.map RV.to).toArray) (hty:∀ x t ag sz,RV.c x t ag sz∈rs->TyF P t ag sz) (h:PW P c (Zxy rs σ' res) ⟨n,idx 0 args,σ⟩):FnG P f σ args σ' res:=by
 refine⟨⟨fn,c,hf,hb,hname⟩,fun A β w vals hvl hr=>?_⟩
 refine calls_of_wp hf hb ?_
 have hr':Zaw (Zey β σ A w) β ⟨n,idx 0 args,σ⟩ { tmps:=vals.toArray++Array.replicate (fn.ntmps - vals.toArray.size) undef,defers:=[] } w:=
  { defers:=rfl,sz:=by simp;omega,base:=hr.base,os:=hr.os,tape:=hr.tape,output:=hr.output,old:=hr.old,A:=hr.A,gl:=hr.gl,inj:=hr.inj,sep:=hr.sep,fix:=hr.fix,row0:=hr.row0,blk:=hr.blk,
    tm:=fun i p hp=>by
     obtain⟨h1,h2⟩:=hr.tm i p hp
     refine⟨by simp at h1⊢;omega,?_⟩
     have hlt:i < vals.length:=by simp at h1;omega
     have:(vals.toArray++Array.replicate (fn.ntmps - vals.toArray.size) undef).getD i undef=vals.toArray.getD i undef:=by
      simp [Array.getElem?_append_left,hlt]
     rw [this];exact h2 }
 refine wp_mono (h _ _ w ⟨β,hr'⟩) ?_
 rintro e a' w' ⟨st',hq,β',hrel⟩
 have key:Zad0 rs σ' res st'->a'.defers=[]/\∃ v,(results fn a'.tmps).run P w' = .ok v w'/\∃ v0 β',Ending.returned v = .returned v0/\Zaw (Zey β σ A w) β' ⟨1,[(0,res)],σ'⟩ ⟨#[v0],[]⟩ w':=by
  rintro ⟨ps,hs,hσ,hres'⟩
  obtain⟨vs,hv,hrun⟩:=Zaqj hres hty hrel hs
  refine⟨hrel.defers,_,hrun,_,β',rfl,?_⟩
  have hc:=Zart (n:=st'.n) (tm:=st'.tm) (σ:=st'.σ) hrel hσ
  have hempty:=Zal0 (n:=st'.n) (tm:=st'.tm) (σ:=st'.σ) (tm':=[]) hrel hσ (fun i q hq=>by simp [get] at hq)
  refine { defers:=rfl,sz:=by simp,base:=hempty.base,os:=hempty.os,tape:=hempty.tape,output:=hempty.output,old:=hempty.old,A:=hempty.A,gl:=hempty.gl,inj:=hempty.inj,sep:=hempty.sep,fix:=hempty.fix,row0:=hempty.row0,blk:=hempty.blk,tm:=fun i p hp=>?_ }
  simp only [get] at hp
  cases hi:Nat.beq 0 i with
  | false=>simp [hi] at hp
  | true=>
   have:i=0:=((Zu _ _).1 hi).symm
   subst this
   simp only [hi,cond_true,Option.some.injEq] at hp
   subst hp
   refine⟨by simp,?_⟩
   rw [show ∀ X:Value,(#[X]:Array Value).getD 0 undef=X from fun _=>rfl]
   unfold Zalb at hres'
   match vs,ps,hv,hres' with
   | [v],[p],hv,hres'=>
    simp only [VRs] at hv
    obtain⟨v',rest,he,hv,_⟩:=hv
    cases he
    exact Frz.ok hc p res _ hres' hv
   | [],[],hv,hres'=>
    obtain⟨ds,rfl,hd⟩:=hres'
    simp only [VR]
    exact⟨_,rfl,Zbi.ok hc _ _ _ hd hv⟩
   | v::v2::vs,p::p2::ps,hv,hres'=>
    obtain⟨ds,rfl,hd⟩:=hres'
    simp only [VR]
    exact⟨_,rfl,Zbi.ok hc _ _ _ hd hv⟩
   | [],_::_,hv,_=>have:=hv.length;simp at this
   | [_],[],hv,_=>have:=hv.length;simp at this
   | [_],_::_::_,hv,_=>have:=hv.length;simp at this
   | _::_::_,[],hv,_=>have:=hv.length;simp at this
   | _::_::_,[_],hv,_=>have:=hv.length;simp at this
 cases e<;>simp only [Zxy] at hq
 case normal=>exact key hq
 case ret=>exact key hq
theorem Zvt.nil(σ:List (Nat×Blk)):Zvt σ []:=fun l o h=>by simp [PW.get] at h
theorem Zal1{G:Frm}{β:Nat->Option Nat}{st:St}{a:Act}{w w':World}(h:Zaw G β st a w)(hs:w.heap.size<=w'.heap.size)(hh:∀ b,b < w.heap.size->w'.heap[b]?=w.heap[b]?)
 (hos:w'.os=w.os) (htp:w'.tape=w.tape) (hout:w'.output=w.output):Zaw G β st a w' /\
 (∀ b,(ctx G β w st.σ).I b->(ctx G β w' st.σ).I b/\(ctx G β w' st.σ).w.heap[b]?=(ctx G β w st.σ).w.heap[b]?)/\(∀ l,Zac (ctx G β w st.σ) (ctx G β w' st.σ) l):=by
 have hO:∀ l o,get st.σ l=some o->∀ b,Z3 β w' l o b->Z3 β w l o b:=fun l o hl b ho=>ho.of_heap (fun b hb=>hh b (h.sep l o b hl hb).1)
 have hI:∀ b,(ctx G β w st.σ).I b->(ctx G β w' st.σ).I b/\(ctx G β w' st.σ).w.heap[b]?=(ctx G β w st.σ).w.heap[b]?:=fun b hb=>⟨⟨Nat.lt_of_lt_of_le hb.1 hs,hb.2.1,fun l o hl ho=>hb.2.2 l o hl (hO l o hl b ho)⟩,hh b hb.1⟩
 have hL:∀ l,Zac (ctx G β w st.σ) (ctx G β w' st.σ) l:=fun l=>by
  cases hg:get st.σ l with
  | none=>exact Zac.none hg
  | some o=>exact Zac.same rfl rfl (fun o b hg hb=>hh b (h.sep l o b hg hb).1)
 refine⟨?_,hI,hL⟩
 exact { defers := h.defers, sz := h.sz, base := Nat.le_trans h.base hs, os := hos.trans h.os, tape := htp.trans h.tape, output := hout.trans h.output,
         old:=fun b hb ho=>(hh b (Nat.lt_of_lt_of_le hb h.base)).trans (h.old b hb ho),A:=h.A,gl:=h.gl,inj:=fun l l' o o' b hl hl' hb hb'=>h.inj l l' o o' b hl hl' (hO l o hl b hb) (hO l' o' hl' b hb'),
         sep:=fun l o b hl hb=>by have:=h.sep l o b hl (hO l o hl b hb);exact⟨Nat.lt_of_lt_of_le this.1 hs,this.2⟩,fix:=h.fix,row0:=h.row0.step (fun m _=>hL m),
         blk:=fun l o hl=>BR.step hI rfl (fun b hb=>hh b (h.sep l o b hl hb).1) (fun m _=>hL m) (h.blk l o hl),
         tm:=fun i p hp=>⟨(h.tm i p hp).1,VR.step hI p _ (fun m _=>hL m) (h.tm i p hp).2⟩ }
mutual
def PV.free:PV->Bool
 | .t _=>true
 | .nils=>true
 | .vptr _=>true
 | .agg cs=>PV.frees cs
 | .tup cs=>PV.frees cs
 | .fn _ cs=>PV.frees cs
 | _=>false
def PV.frees:List PV->Bool
 | []=>true
 | p::ps=>p.free&&PV.frees ps
end
mutual
theorem PV.free_has(l:Nat):∀ (p:PV),p.free=true->p.has l=false
 | .t _,_=>rfl
 | .nils,_=>rfl
 | .vptr _,_=>rfl
 | .agg cs,h=>by simp only [PV.has];exact PV.frees_has l cs (by simpa [PV.free] using h)
 | .tup cs,h=>by simp only [PV.has];exact PV.frees_has l cs (by simpa [PV.free] using h)
 | .fn _ cs,h=>by simp only [PV.has];exact PV.frees_has l cs (by simpa [PV.free] using h)
 | .osl _ _,h=>by simp [PV.free] at h
 | .bptr _ _,h=>by simp [PV.free] at h
 | .rptr _ _ _ _,h=>by simp [PV.free] at h
theorem PV.frees_has(l:Nat):∀ (ps:List PV),PV.frees ps=true->PV.hasAny l ps=false
 | [],_=>rfl
 | p::ps,h=>by
  simp only [PV.frees,Bool.and_eq_true] at h
  simp [PV.hasAny,PV.free_has l p h.1,PV.frees_has l ps h.2]
end
mutual
def PV.scal:PV->Bool
 | .t x=>x.scal
 | .agg cs=>PV.scals cs
 | .tup cs=>PV.scals cs
 | _=>false
def PV.scals:List PV->Bool
 | []=>true
 | p::ps=>p.scal&&PV.scals ps
end
mutual
theorem VR.scal{c c':Ctx}:∀ (p:PV) (v:Value),p.scal=true->VR c p v->VR c' p v
 | .t x,v,h,hv=>by
  simp only [VR] at hv⊢
  cases x
  case sl es=>
   cases es with
   | nil=>
    simp only [Zx] at hv⊢
    obtain⟨a,cap,hv,h1,h2,_⟩:=hv
    exact⟨a,cap,hv,h1,h2,.inl trivial⟩
   | cons e es=>simp [PV.scal,Zb.scal] at h
  all_goals simpa [Zx] using hv
 | .agg cs,v,h,hv=>by
  simp only [VR] at hv⊢
  obtain⟨vs,hv,hs⟩:=hv
  exact⟨vs,hv,VRs.scals cs vs (by simpa [PV.scal] using h) hs⟩
 | .tup cs,v,h,hv=>by
  simp only [VR] at hv⊢
  obtain⟨vs,hv,hs⟩:=hv
  exact⟨vs,hv,VRs.scals cs vs (by simpa [PV.scal] using h) hs⟩
 | .nils,_,h,_=>by simp [PV.scal] at h
 | .osl _ _,_,h,_=>by simp [PV.scal] at h
 | .bptr _ _,_,h,_=>by simp [PV.scal] at h
 | .rptr _ _ _ _,_,h,_=>by simp [PV.scal] at h
 | .vptr _,_,h,_=>by simp [PV.scal] at h
 | .fn _ _,_,h,_=>by simp [PV.scal] at h
theorem VRs.scals{c c':Ctx}:∀ (ps:List PV) (vs:List Value),PV.scals ps=true->VRs c ps vs->VRs c' ps vs
 | [],vs,_,h=>h
 | p::ps,vs,hs,h=>by
  simp only [PV.scals,Bool.and_eq_true] at hs
  simp only [VRs] at h⊢
  obtain⟨v,rest,rfl,hv,hr⟩:=h
  exact⟨v,rest,rfl,VR.scal p v hs.1 hv,VRs.scals ps rest hs.2 hr⟩
end
section
variable {P:Program} {o:Oper} {ρ:List (Nat×PV)} {σ:List (Nat×Blk)}
theorem Zasp{f:FuncId}{fo:Operand}{xs:Array Operand}{ats:Array TypeId}{cv:Array Value}(hok:FnOk P f)(ho:o.op = .call { callee := .value fo,args:=xs,argTypes:=ats })(A:Act)(w:World)(hfo:A.eval fo = .func (.func f) #[] cv) :
 (execOp A.eval o).run P w = .ok (.enter f (xs.map A.eval++cv)) w:=by
 obtain⟨fn,c,hf,hb,hn⟩:=hok
 simp [execOp,ho,resolve,hfo,Deferred.ofValue,invoke,callFunc,hf,hb]
 simpa using hn
theorem Zayy{G:Frm}{β:Nat->Option Nat}{n:Nat}{tm:List (Nat×PV)}{σ':List (Nat×Blk)}{a:Act}{w:World}{f:FuncId}{fo:Operand}{caps:List PV}{xs:Array Operand}{ats:Array TypeId}(hr:Zaw G β ⟨n,tm,σ'⟩ a w)
 (ho:o.op = .call { callee := .value fo,args:=xs,argTypes:=ats }) (hfo:Zi ρ fo=some (.fn f caps)) (hag:∀ t q,Operand.tmp t∈o.op.operands->PW.get ρ t=some q->PW.get tm t=some q):∃ vs,a.eval fo = .func (.func f) #[] vs.toArray/\VRs (ctx G β w σ') caps vs:=by
 have hv:=Zh1 hr hfo (fun t r ht hr'=>hag t r (by subst ht;simp [ho,Op.operands,Call.operands]) hr')
 simp only [VR] at hv
 exact hv
theorem Zaqk{fo:Operand}{xs:Array Operand}{ats:Array TypeId}(ho:o.op = .call { callee := .value fo,args:=xs,argTypes:=ats }){x:Operand}(hx:x∈xs.toList):x∈o.op.operands:=by
 simp only [ho,Op.operands,Call.operands]
 exact Array.mem_append.2 (.inr (by simpa using hx))
theorem Zai4{c:Ctx}(f:Operand->Value):∀ {xs:List Operand} {ps:List PV},xs.mapM (Zi ρ)=some ps->(∀ x q,x∈xs->Zi ρ x=some q->VR c q (f x))->VRs c ps (xs.map f)
 | [],ps,h,_=>by simp at h;subst h;simp [VRs]
 | x::xs,ps,h,hall=>by
  rw [List.mapM_cons] at h
  simp only [bind,Option.bind_eq_some_iff,pure,Option.some.injEq] at h
  obtain⟨q,hq,qs,hqs,rfl⟩:=h
  simp only [List.map_cons,VRs]
  exact⟨_,_,rfl,hall x q (by simp) hq,Zai4 f hqs (fun y r hy=>hall y r (List.mem_cons_of_mem _ hy))⟩
theorem VRs.app{c:Ctx}:∀ {ps qs:List PV} {vs us:List Value},VRs c ps vs->VRs c qs us->VRs c (ps++qs) (vs++us)
 | [],qs,vs,us,h,k=>by simp only [VRs] at h;subst h;exact k
 | p::ps,qs,vs,us,h,k=>by
  simp only [VRs] at h
  obtain⟨v,rest,rfl,hv,hr⟩:=h
  simp only [List.cons_append,VRs]
  exact⟨v,_,rfl,hv,VRs.app hr k⟩
theorem Z31{f:FuncId}{fo:Operand}{caps ps:List PV}{xs:Array Operand}{ats:Array TypeId}(ho:o.op = .call { callee := .value fo,args:=xs,argTypes:=ats })(hfo:Zi ρ fo=some (.fn f caps))(hps:(xs.toList.mapM (Zi ρ)).map (· ++ caps)=some ps)
 {G:Frm} {β:Nat->Option Nat} {n:Nat} {tm:List (Nat×PV)} {σ':List (Nat×Blk)} {a:Act} {w:World} (hr:Zaw G β ⟨n,tm,σ'⟩ a w) (hag:∀ t q,Operand.tmp t∈o.op.operands->PW.get ρ t=some q->PW.get tm t=some q) :
 ∃ vals,VRs (ctx G β w σ') ps vals/\(FnOk P f->(execOp a.eval o).run P w = .ok (.enter f vals.toArray) w):=by
 obtain⟨vs,hev,hcv⟩:=Zayy hr ho hfo hag
 simp only [Option.map_eq_some_iff] at hps
 obtain⟨ps0,hps,rfl⟩:=hps
 have hv:=Zai4 (c:=ctx G β w σ') a.eval hps (fun x q hx hq=>Zh1 hr hq (fun t r ht hr'=>hag t r (ht▸Zaqk ho hx) hr'))
 refine⟨xs.toList.map a.eval++vs,hv.app hcv,fun hok=>?_⟩
 rw [Zasp hok ho a w hev]
 simp
theorem Zabu{f:FuncId}{qs:List PV}{res:PV}(hfn:Fn P f qs res){w:World}{vals:List Value}(A:Nat->Prop)(hA:∀ b,A b->b < w.heap.size)(hgA:∀ g k,(g,k)∈gset->A g)(hgl:Zak9 w)(hv:VRs ⟨fun _=>none,A,w,[]⟩ qs vals) :
 Calls P f vals.toArray w fun e w'=>∃ v,e = .returned v/\VR ⟨fun _=>none,fun b=>b < w'.heap.size/\(w.heap.size<=b\/A b),w',[]⟩ res v/\w.heap.size<=w'.heap.size/\(∀ b,b < w.heap.size->w'.heap[b]?=w.heap[b]?) /\
  w'.os=w.os/\w'.tape=w.tape/\w'.output=w.output:=by
 have hlen:=hv.length
 refine (hfn.2 A (fun _=>none) w vals hlen ?_).mono ?_
 .refine { defers := rfl, sz := by simp [hlen], base := Nat.le_refl _, os := rfl, tape := rfl, output := rfl, old := fun _ _ _ => rfl, A := fun b hb => ⟨hA b hb, fun ⟨l, o, h, _⟩ => by simp [get] at h⟩, gl := fun g k hg => ⟨(hgl g k hg).1, fun ⟨l, o, h, _⟩ => by simp [get] at h, hgA g k hg, (hgl g k hg).2⟩, inj := fun l _ o _ _ h => by simp [get] at h,
           sep:=fun l o _ h=>by simp [get] at h,fix:=fun l _ _ h=>by simp [get] at h,row0:=fun l _ _ _ h=>by simp [get] at h,blk:=fun l o h=>by simp [get] at h,tm:=fun i p hp=>?_ }
  rw [Z86] at hp
  simp only [Nat.zero_le,if_true,Nat.sub_zero] at hp
  obtain⟨v,hv1,hv2⟩:=hv.get i p hp
  refine⟨(List.getElem?_eq_some_iff.1 hp).1,?_⟩
  simp only [Array.getD_eq_getD_getElem?,List.getElem?_toArray,hv1,Option.getD_some]
  exact VR.step (c:=⟨fun _=>none,A,w,[]⟩) (c':=ctx (Zey (fun _=>none) [] A w) (fun _=>none) w []) (fun b hb=>⟨⟨hA b hb,.inr (.inl hb),fun l o h=>by simp [get] at h⟩,rfl⟩) p v (fun l _=>Zac.none rfl) hv2
 .rintro e w' ⟨v,β',he,hr⟩
  have hv:=(hr.tm 0 res (by simp [get])).2
  refine⟨v,he,?_,hr.base,fun b hb=>hr.old b hb (fun⟨l,o,h,_⟩=>by simp [get] at h),hr.os,hr.tape,hr.output⟩
  refine VR.step (c:=ctx (Zey (fun _=>none) [] A w) β' w' []) (c':=⟨fun _=>none,fun b=>b < w'.heap.size/\(w.heap.size<=b\/A b),w',[]⟩) (fun b hb=>⟨⟨hb.1,?_⟩,rfl⟩) res v (fun l _=>Zac.none rfl) (by simpa using hv)
  rcases hb.2.1 with h | h | h
  .exact .inl h
  .exact .inr h
  .obtain⟨l,o,h,_⟩:=h;simp [get] at h
theorem Zawp{f:FuncId}{fo:Operand}{xs:Array Operand}{ats:Array TypeId}{caps ps qs:List PV}{res:PV}{need:List Nat}(hfn:Fn P f qs res)(ho:o.op = .call { callee := .value fo,args:=xs,argTypes:=ats })(hfo:Zi ρ fo=some (.fn f caps))
 (hps:(xs.toList.mapM (Zi ρ)).map (· ++ caps)=some ps) (hfz:Zbi σ [] ps qs) (hneed:∀ m,PV.hasAny m ps=true->m∈need) (hs:res.scal=true):Za3 P o ρ σ need res []:=by
 intro G n tm σ' a w K Q hag hnd _ hr hK
 obtain⟨β,hr⟩:=hr
 obtain⟨vals,hv,hrun⟩:=Z31 (P:=P) ho hfo hps hr hag
 have hfz':Zbi σ' [] ps qs:=Zbi.need ps qs (fun m hm=>hnd m (hneed m hm)) hfz
 have hv2:VRs ⟨fun _=>none,fun b=>b < w.heap.size,w,[]⟩ qs vals:=by
  refine Zbi.ok (c:=ctx G β w σ') (c':=⟨fun _=>none,fun b=>b < w.heap.size,w,[]⟩) ⟨fun b hb=>⟨hb.1,rfl⟩,fun l=>Zac.none rfl,fun l o hg=>hr.blk l _ hg,fun l o b hg _ hb=>⟨(hr.sep l o b hg hb).1,rfl⟩⟩ ps qs _ hfz' hv
 have hcall:=Zabu hfn (fun b=>b < w.heap.size) (fun b hb=>hb) (fun g k hg=>(hr.glw g k hg).1) hr.glw hv2
 unfold Oper.wp
 rw [hrun hfn.1,Oper.upon_enter]
 refine hcall.mono ?_
 rintro e w' ⟨v,rfl,hres,hsz,hh,h1,h2,h3⟩
 obtain⟨hr',_,_⟩:=Zal1 hr hsz hh h1 h2 h3
 exact hK v w' ⟨β,hr',VR.scal res v hs hres⟩
theorem Zawq{f:FuncId}{fo:Operand}{xs:Array Operand}{ats:Array TypeId}{caps ps qs:List PV}{res:PV}(hfn:Fn P f qs res)(ho:o.op = .call { callee := .value fo,args:=xs,argTypes:=ats })(hfo:Zi ρ fo=some (.fn f caps))
 (hps:(xs.toList.mapM (Zi ρ)).map (· ++ caps)=some ps) (hfz:Zbi [] [] ps qs) (hfree:res.free=true):Za3 P o ρ σ [] res []:=by
 intro G n tm σ' a w K Q hag _ _ hr hK
 obtain⟨β,hr⟩:=hr
 obtain⟨vals,hv,hrun⟩:=Z31 (P:=P) ho hfo hps hr hag
 have hv1:VRs ⟨fun _=>none,(ctx G β w σ').I,w,[]⟩ ps vals:=VRs.step (c:=ctx G β w σ') (c':=⟨fun _=>none,(ctx G β w σ').I,w,[]⟩) (fun b hb=>⟨hb,rfl⟩) _ _ (fun l _=>Zac.none rfl) hv
 have hv2:VRs ⟨fun _=>none,(ctx G β w σ').I,w,[]⟩ qs vals:=
  Zbi.ok (c:=⟨fun _=>none,(ctx G β w σ').I,w,[]⟩) (c':=⟨fun _=>none,(ctx G β w σ').I,w,[]⟩) ⟨fun b hb=>⟨hb,rfl⟩,fun l=>Zac.none rfl,fun l o hg=>by simp [get] at hg,fun l o b hg=>by simp [get] at hg⟩ ps qs _ hfz hv1
 have hcall:=Zabu hfn (ctx G β w σ').I (fun b hb=>hb.1) (fun g k hg=>hr.glI hg) hr.glw hv2
 unfold Oper.wp
 rw [hrun hfn.1,Oper.upon_enter]
 refine hcall.mono ?_
 rintro e w' ⟨v,rfl,hres,hsz,hh,h1,h2,h3⟩
 obtain⟨hr',hI,_⟩:=Zal1 hr hsz hh h1 h2 h3
 refine hK v w' ⟨β,hr',VR.step (c:=⟨fun _=>none,fun b=>b < w'.heap.size/\(w.heap.size<=b\/(ctx G β w σ').I b),w',[]⟩) (c':=ctx G β w' σ') (fun b hb=>⟨?_,rfl⟩) res v (fun l hl=>?_) hres⟩
 .rcases hb.2 with h | h
  .exact⟨hb.1,.inl (Nat.le_trans hr.base h),fun l o hl hb'=>by have:=(hr.sep l o b hl (hb'.of_heap (fun b hb=>hh b (hr.sep l o b hl hb).1))).1;omega⟩
  .exact (hI b h).1
 .rw [PV.free_has l res hfree] at hl;cases hl
end
end Go.PW
