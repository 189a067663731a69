import Derived.Test.YtchddhcajpagjaaGreatQK
set_option linter.all false
set_option maxRecDepth 100000
namespace Go.PW
def Zzv(c:Zm):Prop:=0<=c.Line.Types/\c.Line.Types<=63/\0<=c.Power/\c.Power<=99/\0<=c.Tough/\c.Tough<=99
end Go.PW
set_option maxRecDepth 100000
namespace Go.PW
structure PRM (n:Nat) (Z:Int->Int):Prop where
 rg:∀ i:Int,0<=i->i < n->0<=Z i/\Z i < n
 inj:∀ i j:Int,0<=i->i < n->0<=j->j < n->Z i=Z j->i=j
 sur:∀ i:Int,0<=i->i < n->∃ j:Int,0<=j/\j < n/\Z j=i
structure PS (Z:Int->Int) (v w:Zc):Prop where
 so:v.s.Objects=w.s.Objects
 lf:v.forces.length=w.forces.length
 pm:PRM w.forces.length Z
 f:∀ i:Int,0<=i->i < w.forces.length->fAt v i=fAt w (Z i)
 t:v.traits=w.traits
 d:v.dropped=w.dropped
 ldv:v.done.length=w.forces.length
 ldw:w.done.length=w.forces.length
 lhv:v.hits.length=w.forces.length
 lhw:w.hits.length=w.forces.length
 dn:∀ i:Int,0<=i->i < w.forces.length->bA v.done i=bA w.done (Z i)
 ht:∀ i:Int,0<=i->i < w.forces.length->hA v.hits i=hA w.hits (Z i)
theorem Zbcy{l:List Bool}{i j:Int}{v:Bool}(h0:0<=i)(g0:0<=j)(h1:i < l.length):bA (l.set i.toNat v) j=if j=i then v else bA l j:=by
 unfold bA
 rw [List.getElem?_set]
 by_cases h:j=i
 .subst h;rw [if_pos rfl,if_pos rfl,if_pos O];rfl
 .rw [if_neg h,if_neg O]
theorem Zbcz{l:List (List Int)}{i j:Int}{v:List Int}(h0:0<=i)(g0:0<=j)(h1:i < l.length):hA (l.set i.toNat v) j=if j=i then v else hA l j:=by
 unfold hA
 rw [List.getElem?_set]
 by_cases h:j=i
 .subst h;rw [if_pos rfl,if_pos rfl,if_pos O];rfl
 .rw [if_neg h,if_neg O]
section
variable {Z:Int->Int} {v w:Zc}
theorem PS.you(h:PS Z v w){i:Int}(h0:0<=i)(h1:i < w.forces.length):Zjy v i=Zjy w (Z i):=by
 unfold Zjy;rw [h.f i h0 h1,h.so,h.t]
theorem PS.act(h:PS Z v w){i:Int}(h0:0<=i)(h1:i < w.forces.length):Zn3 v i=Zn3 w (Z i):=by
 unfold Zn3;rw [h.f i h0 h1,h.so,h.dn i h0 h1,h.d]
theorem PS.aff(h:PS Z v w){i:Int}(h0:0<=i)(h1:i < w.forces.length):Zmb v i=Zmb w (Z i):=by
 have e:Zt4 v (fAt v i) (Zjy v i)=Zt4 w (fAt w (Z i)) (Zjy w (Z i)):=by
  funext k o;unfold Zt4;rw [h.f i h0 h1,h.you h0 h1,h.t]
 unfold Zmb;rw [h.dn i h0 h1,h.ht i h0 h1,h.act h0 h1,e,h.so]
theorem Zbbi{s s':Zk}(e:s'.Objects=s.Objects)(all:List Zb)(you src:Int)(f:Ze):Zzt s' all you src f=Zzt s all you src f:=by unfold Zzt;rw [e]
theorem Zbfs{s s':Zk}(e:s'.Objects=s.Objects)(all:List Zb)(you src st:Int):Zyd s' all you src st=Zyd s all you src st:=by
 funext m;unfold Zyd;rw [Zbbi e]
theorem PS.num(h:PS Z v w){i:Int}(h0:0<=i)(h1:i < w.forces.length)(st:Int):Zye v i st=Zye w (Z i) st:=by
 unfold Zye;rw [h.f i h0 h1,h.you h0 h1,h.t,Zbfs h.so]
theorem PS.app(h:PS Z v w){j:Int}(st:Int)(h0:0<=j)(h1:j < w.forces.length):PS Z (Zvm v j st) (Zvm w (Z j) st) where
 so:=h.so
 lf:=h.lf
 pm:=h.pm
 f:=h.f
 t:=by unfold Zvm;simp only;rw [h.aff h0 h1,h.num h0 h1,h.you h0 h1,h.f j h0 h1,h.t]
 d:=by unfold Zvm;simp only;rw [h.aff h0 h1,h.f j h0 h1,h.d]
 ldv:=List.length_set.trans h.ldv
 ldw:=List.length_set.trans h.ldw
 lhv:=List.length_set.trans h.lhv
 lhw:=List.length_set.trans h.lhw
 dn:=fun i i0 i1=>by
  have r:=h.pm.rg j h0 h1;have q:=h.pm.rg i i0 i1
  show bA (v.done.set j.toNat true) i=bA (w.done.set (Z j).toNat true) (Z i)
  rw [Zbcy h0 i0 (by rw [h.ldv];exact h1),Zbcy r.1 q.1 (by rw [h.ldw];exact r.2),h.dn i i0 i1]
  by_cases e:i=j
  .rw [if_pos e,if_pos (by rw [e])]
  .rw [if_neg e,if_neg fun k=>e (h.pm.inj i j i0 i1 h0 h1 k)]
 ht:=fun i i0 i1=>by
  have r:=h.pm.rg j h0 h1;have q:=h.pm.rg i i0 i1
  show hA (v.hits.set j.toNat (Zmb v j)) i=hA (w.hits.set (Z j).toNat (Zmb w (Z j))) (Z i)
  rw [Zbcz h0 i0 (by rw [h.lhv];exact h1),Zbcz r.1 q.1 (by rw [h.lhw];exact r.2),h.ht i i0 i1,h.aff h0 h1]
  by_cases e:i=j
  .rw [if_pos e,if_pos (by rw [e])]
  .rw [if_neg e,if_neg fun k=>e (h.pm.inj i j i0 i1 h0 h1 k)]
theorem PS.nd(h:PS Z v w){i j:Int}(st:Int)(i0:0<=i)(i1:i < w.forces.length)(j0:0<=j)(j1:j < w.forces.length):ndB v st i j=ndB w st (Z i) (Z j):=by
 have e1:Zmc v i st=Zmc w (Z i) st:=by unfold Zmc;rw [h.f i i0 i1,h.dn i i0 i1]
 have e2:Zjj v i st=Zjj w (Z i) st:=by unfold Zjj;rw [h.act i0 i1,h.aff i0 i1,h.num i0 i1]
 have h':=h.app st j0 j1
 have e3:Zjj (Zvm v j st) i st=Zjj (Zvm w (Z j) st) (Z i) st:=by unfold Zjj;rw [h'.act i0 i1,h'.aff i0 i1,h'.num i0 i1]
 have e4:(i==j)=(Z i==Z j):=by
  rw [Bool.eq_iff_iff,beq_iff_eq,beq_iff_eq]
  exact⟨fun k=>by rw [k],h.pm.inj i j i0 i1 j0 j1⟩
 unfold ndB;rw [e1,e2,e3,e4]
theorem PS.cnt(h:PS Z v w):PS Z (Zt5 v) (Zt5 w):=⟨h.so,h.lf,h.pm,h.f,by unfold Zt5;simp only;rw [h.t,h.so],h.d,h.ldv,h.ldw,h.lhv,h.lhw,h.dn,h.ht⟩
end
structure LP (n:Nat) (Z:Int->Int) (l m:List Int):Prop where
 rl:INR n l
 rm:INR n m
 nl:l.Nodup
 nm:m.Nodup
 iff:∀ i:Int,0<=i->i < n->(i∈l↔Z i∈m)
theorem Za8w{n:Nat}{Z:Int->Int}(p:PRM n Z):∀ {l:List Int},INR n l->l.Nodup->(l.map Z).Nodup
 | [],_,_=>List.nodup_nil
 | x::l,hr,hn=>by
  obtain⟨h1,h2⟩:=List.nodup_cons.1 hn
  rw [List.map_cons,List.nodup_cons]
  refine⟨fun hm=>?_,Za8w p (fun k hk=>hr k (List.mem_cons_of_mem _ hk)) h2⟩
  obtain⟨y,hy,e⟩:=List.mem_map.1 hm
  have a:=hr x (by simp);have b:=hr y (List.mem_cons_of_mem _ hy)
  exact h1 (p.inj y x b.1 b.2 a.1 a.2 e▸hy)
theorem LP.len{n:Nat}{Z:Int->Int}{l m:List Int}(p:PRM n Z)(h:LP n Z l m):l.length=m.length:=by
 have a:l.length<=m.length:=by
  have:=Zwm (Za8w p h.rl h.nl) (b:=m) fun x hx=>by
   obtain⟨y,hy,rfl⟩:=List.mem_map.1 hx
   have:=h.rl y hy
   exact (h.iff y this.1 this.2).1 hy
  rwa [List.length_map] at this
 have b:m.length<=l.length:=by
  have:=Zwm h.nm (b:=l.map Z) fun x hx=>by
   have r:=h.rm x hx
   obtain⟨j,j0,j1,e⟩:=p.sur x r.1 r.2
   exact List.mem_map.2 ⟨j,(h.iff j j0 j1).2 (by rw [e];exact hx),e⟩
  rwa [List.length_map] at this
 omega
theorem Za2j{n:Nat}{Z:Int->Int}{l m:List Int}{N M:Int->Int->Bool}(p:PRM n Z)(h:LP n Z l m)(hN:∀ i j,i∈l->j∈l->N i j=M (Z i) (Z j)){i j:Int}(hi:i∈l)(hj:j∈l):Lds l (fun a b=>N a b=true) i j↔Lds m (fun a b=>M a b=true) (Z i) (Z j):=by
 have mem:∀ k,k∈l->Z k∈m:=fun k hk=>by have:=h.rl k hk;exact (h.iff k this.1 this.2).1 hk
 have back:∀ z,z∈m->∃ k,k∈l/\Z k=z:=fun z hz=>by
  have r:=h.rm z hz
  obtain⟨k,k0,k1,e⟩:=p.sur z r.1 r.2
  exact⟨k,(h.iff k k0 k1).2 (by rw [e];exact hz),e⟩
 constructor
 .intro g
  exact (g (fun k=>k∈l/\Lds m (fun a b=>M a b=true) (Z i) (Z k)) (fun z hz hn=>⟨hz,.one (mem z hz) (by rw [<- hN i z hi hz];exact hn)⟩) (fun a z ⟨ha,k⟩ hz hn=>⟨hz,k.trans (.one (mem z hz) (by rw [<- hN a z ha hz];exact hn))⟩)).2
 .intro g
  obtain⟨k,hk,e,hl⟩:=g (fun z=>∃ k,k∈l/\Z k=z/\Lds l (fun a b=>N a b=true) i k) (fun z hz hn=>by
   obtain⟨k,hk,rfl⟩:=back z hz
   exact⟨k,hk,rfl,.one hk (by rw [hN i k hi hk];exact hn)⟩) (fun a z ⟨k,hk,e,hl⟩ hz hn=>by
   subst e
   obtain⟨q,hq,rfl⟩:=back z hz
   exact⟨q,hq,rfl,hl.trans (.one hq (by rw [hN k q hk hq];exact hn))⟩)
  have a:=h.rl k hk;have b:=h.rl j hj
  rw [<- p.inj k j a.1 a.2 b.1 b.2 e];exact hl
theorem Za8x{n:Nat}{Z:Int->Int}{l m:List Int}{N M:Int->Int->Bool}(p:PRM n Z)(h:LP n Z l m)(hN:∀ i j,i∈l->j∈l->N i j=M (Z i) (Z j)){i:Int}(hi:i∈l):i∈rdV l N↔Z i∈rdV m M:=by
 have mem:∀ k,k∈l->Z k∈m:=fun k hk=>by have:=h.rl k hk;exact (h.iff k this.1 this.2).1 hk
 have key:RDL l N i↔RDL m M (Z i):=by
  constructor
  .intro g z hz hne hb
   have r:=h.rm z hz
   obtain⟨k,k0,k1,e⟩:=p.sur z r.1 r.2
   have hk:k∈l:=(h.iff k k0 k1).2 (by rw [e];exact hz)
   subst e
   exact (Za2j p h hN hk hi).1 (g k hk (fun e=>hne (by rw [e])) (by rw [hN i k hi hk];exact hb))
  .intro g k hk hne hb
   have a:=h.rl k hk;have b:=h.rl i hi
   exact (Za2j p h hN hk hi).2 (g (Z k) (mem k hk) (fun e=>hne (p.inj k i a.1 a.2 b.1 b.2 e)) (by rw [<- hN i k hi hk];exact hb))
 unfold rdV
 rw [List.mem_filter,List.mem_filter]
 refine⟨fun⟨_,k⟩=>⟨mem i hi,?_⟩,fun⟨_,k⟩=>⟨hi,?_⟩⟩
 .refine Zaep (key.1 (Classical.byContradiction fun q=>?_))
  rw [Zand q] at k;cases k
 .refine Zaep (key.2 (Classical.byContradiction fun q=>?_))
  rw [Zand q] at k;cases k
def leS(st:List Int)(i j:Int):Prop:=stp st i < stp st j\/(stp st i=stp st j/\i<=j)
theorem Za2k{st:List Int}:∀ (l:List Int) (b:Int),(∀ x,x∈l->0<=x)->0<=l.foldl (nxF st) b->(∀ x,x∈l->leS st (l.foldl (nxF st) b) x)/\(0<=b->leS st (l.foldl (nxF st) b) b)
 | [],b,_,_=>⟨fun x hx=>(nomatch hx),fun _ => .inr ⟨rfl,Int.le_refl _⟩⟩
 | a::l,b,h,h0=>by
  rw [List.foldl_cons] at h0 ⊢
  have ha:=h a (by simp)
  have hc:(nxF st b a=a/\(0<=b->leS st a b))\/(nxF st b a=b/\0<=b/\leS st b a):=by
   unfold nxF leS
   by_cases hc:b < 0\/stp st a < stp st b\/(stp st a=stp st b/\a < b)
   .rw [if_pos hc]
    refine .inl ⟨rfl,fun hb=>?_⟩
    rcases hc with k | k | k
    .omega
    .exact .inl k
    .exact .inr ⟨k.1,by omega⟩
   .rw [if_neg hc]
    exact .inr ⟨rfl,by omega,by omega⟩
  have hn:0<=nxF st b a:=by rcases hc with ⟨e,_⟩ | ⟨e,k,_⟩<;>omega
  obtain⟨i1,i2⟩:=Za2k l (nxF st b a) (fun x hx=>h x (List.mem_cons_of_mem _ hx)) h0
  have tr:∀ {x y z:Int},leS st x y->leS st y z->leS st x z:=fun {x y z} p q=>by unfold leS at *;omega
  have i2:=i2 hn
  refine⟨fun x hx=>?_,fun hb=>?_⟩
  .rcases List.mem_cons.1 hx with rfl | hx
   .rcases hc with ⟨e,_⟩ | ⟨e,_,k⟩
    .rw [e] at i2 ⊢;exact i2
    .rw [e] at i2 ⊢;exact tr i2 k
   .exact i1 x hx
  .rcases hc with ⟨e,k⟩ | ⟨e,_,_⟩
   .rw [e] at i2 ⊢;exact tr i2 (k hb)
   .rw [e] at i2 ⊢;exact i2
theorem Za2l{left st:List Int}{N:Int->Int->Bool}(hp:POS left)(hn:left.Nodup)(hl:0 < left.length):nxV left st N∈rdV left N/\∀ x,x∈rdV left N->leS st (nxV left st N) x:=by
 have e:elV left=left:=Zbhl hn hp
 unfold nxV
 rw [e]
 have hpr:∀ x,x∈rdV left N->0<=x:=fun x hx=>hp x (List.mem_filter.1 hx).1
 obtain⟨i,hi⟩:=Za8p (nd:=N) hn (fun e=>by rw [e] at hl;exact absurd hl (by decide))
 rcases Zapo (st:=st) (rdV left N) (-1) hpr with ⟨_,k,_⟩ | ⟨_,k1,k2⟩
 .rw [k] at hi;cases hi
 .refine⟨k2.resolve_right fun k=>by omega,(Za2k _ _ hpr k1).1⟩
structure DST (n:Nat) (Z:Int->Int) (sts sts':List Int):Prop where
 eq:∀ i:Int,0<=i->i < n->stp sts' i=stp sts (Z i)
 ap:∀ i j:Int,0<=i->i < n->0<=j->j < n->Z i≠Z j->stp sts (Z i)=stp sts (Z j)->Z i=i/\Z j=j
theorem Zbhv{n:Nat}{Z:Int->Int}{l m sts sts':List Int}{N M:Int->Int->Bool}(p:PRM n Z)(h:LP n Z l m)(hd:DST n Z sts sts')(hN:∀ i j,i∈l->j∈l->N i j=M (Z i) (Z j))(hl:0 < l.length):nxV l sts' N∈l/\Z (nxV l sts' N)=nxV m sts M:=by
 have hm:0 < m.length:=by have:=h.len p;omega
 obtain⟨a1,a2⟩:=Za2l (st:=sts') (N:=N) (fun k hk=>(h.rl k hk).1) h.nl hl
 obtain⟨b1,b2⟩:=Za2l (st:=sts) (N:=M) (fun k hk=>(h.rm k hk).1) h.nm hm
 have c1:nxV l sts' N∈l:=(List.mem_filter.1 a1).1
 have c2:nxV m sts M∈m:=(List.mem_filter.1 b1).1
 generalize nxV l sts' N=x at *
 generalize nxV m sts M=y at *
 refine⟨c1,?_⟩
 have rx:=h.rl x c1
 have ry:=h.rm y c2
 obtain⟨k,k0,k1,e⟩:=p.sur y ry.1 ry.2
 have hk:k∈l:=(h.iff k k0 k1).2 (by rw [e];exact c2)
 have g1:=a2 k ((Za8x p h hN hk).2 (by rw [e];exact b1))
 have g2:=b2 (Z x) ((Za8x p h hN c1).1 a1)
 unfold leS at g1 g2
 rw [hd.eq x rx.1 rx.2,hd.eq k k0 k1,e] at g1
 refine Classical.byContradiction fun hne=>?_
 have hst:stp sts (Z x)=stp sts y:=by omega
 have:=hd.ap x k rx.1 rx.2 k0 k1 (by rw [e];exact hne) (by rw [e];exact hst)
 rw [e] at this
 omega
theorem Zbft{Z:Int->Int}{v w:Zc}{l m o o' sts sts':List Int}(h:PS Z v w)(hl:LP w.forces.length Z l m)(hd:DST w.forces.length Z sts sts')(st:Int)(hn:0 < l.length) :
 ∃ v' w' l' m' p p',stF st sts' (v,l,o)=(v',l',p)/\stF st sts (w,m,o')=(w',m',p')/\PS Z v' w'/\LP w'.forces.length Z l' m'/\w'.forces=w.forces/\l'.length+1=l.length:=by
 obtain⟨h1,h2⟩:=Zbhv h.pm hl hd (N:=ndB v st) (M:=ndB w st) (fun i j hi hj=>by
  have a:=hl.rl i hi;have b:=hl.rl j hj
  exact h.nd st a.1 a.2 b.1 b.2) hn
 have r:=hl.rl _ h1
 refine⟨_,_,_,_,_,_,rfl,rfl,?_,?_,rfl,Za8v hl.nl h1⟩
 .rw [<- h2];exact h.app st r.1 r.2
 .refine⟨fun k hk=>hl.rl k (List.mem_filter.1 hk).1,fun k hk=>hl.rm k (List.mem_filter.1 hk).1,hl.nl.filter _,hl.nm.filter _,fun i i0 i1=>?_⟩
  rw [List.mem_filter,List.mem_filter,hl.iff i i0 i1,<- h2]
  unfold neI
  rw [show (i==nxV l sts' (ndB v st))=(Z i==Z (nxV l sts' (ndB v st))) by
   rw [Bool.eq_iff_iff,beq_iff_eq,beq_iff_eq]
   exact⟨fun k=>by rw [<- k],h.pm.inj _ _ i0 i1 r.1 r.2⟩]
theorem Za8y{Z:Int->Int}{v w:Zc}{l m sts sts':List Int}(h:PS Z v w)(hl:LP w.forces.length Z l m)(hd:DST w.forces.length Z sts sts')(st:Int):∀ n,n<=l.length ->
 ∃ v' w' l' m' p p',itr (stF st sts') n (v,l,[])=(v',l',p)/\itr (stF st sts) n (w,m,[])=(w',m',p')/\PS Z v' w'/\LP w'.forces.length Z l' m'/\w'.forces=w.forces/\l'.length+n=l.length
 | 0,_=>⟨v,w,l,m,[],[],rfl,rfl,h,hl,rfl,rfl⟩
 | n+1,hn=>by
  obtain⟨v1,w1,l1,m1,p1,q1,e1,e2,h1,h2,h3,h4⟩:=Za8y h hl hd st n O
  obtain⟨v2,w2,l2,m2,p2,q2,e3,e4,h5,h6,h7,h8⟩:=Zbft (o:=p1) (o':=q1) h1 h2 (by rw [h3];exact hd) st O
  refine⟨v2,w2,l2,m2,p2,q2,?_,?_,h5,h6,h7.trans h3,by omega⟩
  .show stF st sts' (itr (stF st sts') n (v,l,[]))=_
   rw [e1];exact e3
  .show stF st sts (itr (stF st sts) n (w,m,[]))=_
   rw [e2];exact e4
theorem Za2m{fs:List Zv}{st i:Int}(h0:0<=i)(h1:i < fs.length):i∈Zr7 fs st↔belB ((fs[i.toNat]?).getD fZ) st=true:=by
 unfold Zr7
 rw [Za2h]
 constructor
 .rintro ⟨k,x,h2,h3,e⟩
  have:i.toNat=k:=by omega
  subst this
  rw [h2];exact h3
 .intro h
  have hx:=List.getElem?_eq_getElem (show i.toNat < fs.length by omega)
  rw [hx] at h
  exact⟨i.toNat,_,hx,h,by omega⟩
theorem Za2n{fs:List Zv}{st:Int}:INR fs.length (Zr7 fs st):=fun k hk=>by
 unfold Zr7 at hk
 obtain⟨j,x,h1,_,rfl⟩:=Za2h.1 hk
 have:=(List.getElem?_eq_some_iff.1 h1).1
 omega
theorem PS.stg{Z:Int->Int}{v w:Zc}(h:PS Z v w)(hd:DST w.forces.length Z (w.forces.map fun f=>f.Stamp) (v.forces.map fun f=>f.Stamp))(st:Int):PS Z (Z1p v st).2 (Z1p w st).2/\(Z1p w st).2.forces=w.forces/\(Z1p v st).2.forces=v.forces:=by
 have h1:PS Z (if st=7 then Zt5 v else v) (if st=7 then Zt5 w else w):=by
  split
  .exact h.cnt
  .exact h
 have ew:(if st=7 then Zt5 w else w).forces=w.forces:=by split<;>rfl
 have ev:(if st=7 then Zt5 v else v).forces=v.forces:=by split<;>rfl
 have hb:LP w.forces.length Z (Zr7 v.forces st) (Zr7 w.forces st):=⟨by rw [<- h.lf];exact Za2n,Za2n,Zayk,Zayk,fun i i0 i1=>by
  have r:=h.pm.rg i i0 i1
  rw [Za2m i0 (by rw [h.lf];exact i1),Za2m r.1 r.2]
  have:=h.f i i0 i1
  unfold fAt at this
  rw [this]⟩
 obtain⟨v',w',l',m',p,p',e1,e2,h3,_,h5,_⟩:=Za8y h1 (by rw [ew];exact hb) (by rw [ew];exact hd) st _ (Nat.le_refl _)
 have hlen:=hb.len h.pm
 have ef:∀ (n:Nat) (x:Zc×List Int×List Int) (s:List Int),(itr (stF st s) n x).1.forces=x.1.forces:=by
  intro n
  induction n with
  | zero=>intro x s;rfl
  | succ n ih=>intro x s;exact ih x s
 have e3:=ef (Zr7 v.forces st).length ((if st=7 then Zt5 v else v),Zr7 v.forces st,[]) (v.forces.map fun f=>f.Stamp)
 unfold Z1p
 simp only
 rw [<- hlen,e2]
 refine⟨by rw [e1];exact h3,h5.trans ew,e3.trans ev⟩
theorem Za8z{Z:Int->Int}{cards:List Zm}{s s':Zk}(h:PS Z (begV cards s') (begV cards s))(hd:DST (FS fL gL cards s).length Z ((FS fL gL cards s).map fun f=>f.Stamp) ((FS fL gL cards s').map fun f=>f.Stamp)):∀ n,PS Z (Zpg cards s' n) (Zpg cards s n)/\(Zpg cards s n).forces=FS fL gL cards s/\(Zpg cards s' n).forces=FS fL gL cards s'
 | 0=>⟨h,rfl,rfl⟩
 | n+1=>by
  obtain⟨h1,h2,h3⟩:=Za8z h hd n
  obtain⟨a,b,c⟩:=h1.stg (by rw [h2,h3];exact hd) ((n+1:Nat):Int)
  exact⟨a,b.trans h2,c.trans h3⟩
def ROT{α:Type}(l r:List α):Prop:=∃ k:Nat,k<=l.length/\r=l.drop k++l.take k
def rtI(a k m:Nat)(i:Int):Int:=if i < a then i else if i - a+k < m then i+k else i+k - m
theorem Za80{a k m:Nat}(hk:k<=m):PRM (a+m) (rtI a k m) where
 rg:=fun i h0 h1=>by unfold rtI;split<;>(try split)<;>omega
 inj:=fun i j h0 h1 g0 g1 h=>by
  unfold rtI at h
  split at h<;>split at h<;>(try split at h)<;>(try split at h)<;>omega
 sur:=fun i h0 h1=>by
  by_cases h:i < a
  .exact⟨i,h0,h1,by unfold rtI;rw [if_pos h]⟩
  .by_cases g:i - a < k
   .refine⟨i+m - k,by omega,by omega,?_⟩
    unfold rtI;rw [if_neg O,if_neg O];omega
   .refine⟨i - k,by omega,by omega,?_⟩
    unfold rtI;rw [if_neg O,if_pos O];omega
theorem Zbc0{α:Type}{A C:List α}{k:Nat}(hk:k<=C.length){i:Int}(h0:0<=i)(h1:i < (A.length+C.length:Nat)):(A++(C.drop k++C.take k))[i.toNat]?=(A++C)[(rtI A.length k C.length i).toNat]?:=by
 unfold rtI
 by_cases h:i < A.length
 .rw [if_pos h,List.getElem?_append_left O,List.getElem?_append_left O]
 .rw [if_neg h,List.getElem?_append_right O]
  by_cases g:i - A.length+k < C.length
  .rw [if_pos g,List.getElem?_append_left (by rw [List.length_drop];omega),List.getElem?_drop,List.getElem?_append_right O]
   congr 1;omega
  .rw [if_neg g,List.getElem?_append_right (by rw [List.length_drop];omega),List.length_drop,List.getElem?_take,if_pos O,List.getElem?_append_right O]
   congr 1;omega
abbrev cfL(s:Zk)(C:List Zav):Zk:={ s with Conts:=C }
theorem Z8s(cards:List Zm)(s:Zk):FS fL gL cards s=obF fL cards s.Objects s.Objects.length++s.Conts.map gL:=by
 unfold FS coF
 rw [List.take_of_length_le (show s.Conts.length<=((s.Conts.length:Int)).toNat by omega)]
theorem Zbhw{cards:List Zm}{s:Zk}{C:List Zav}{k:Nat}(hk:k<=s.Conts.length)(hC:C=s.Conts.drop k++s.Conts.take k):PS (rtI (obF fL cards s.Objects s.Objects.length).length k s.Conts.length) (begV cards (cfL s C)) (begV cards s):=by
 have e1:=Z8s cards s
 have e2:=Z8s cards (cfL s C)
 have hm:C.map gL=(s.Conts.map gL).drop k++(s.Conts.map gL).take k:=by rw [hC,List.map_append,List.map_drop,List.map_take]
 have l1:(FS fL gL cards s).length=(obF fL cards s.Objects s.Objects.length).length+s.Conts.length:=by rw [e1,List.length_append,List.length_map]
 have l2:(FS fL gL cards (cfL s C)).length=(FS fL gL cards s).length:=by
  rw [e1,e2,List.length_append,List.length_append]
  show _+(C.map gL).length=_
  rw [hm,List.length_append,List.length_drop,List.length_take,List.length_map]
  show (obF fL cards s.Objects s.Objects.length).length+_=_
  omega
 have hb:∀ (n:Nat) (i:Int),bA (List.replicate n false) i=false:=fun n i=>by unfold bA;rw [List.getElem?_replicate];split<;>rfl
 have hh:∀ (n:Nat) (i:Int),hA (List.replicate n []) i=[]:=fun n i=>by unfold hA;rw [List.getElem?_replicate];split<;>rfl
 refine⟨rfl,l2,by show PRM (FS fL gL cards s).length _;rw [l1];exact Za80 hk,fun i h0 h1=>?_,rfl,rfl,List.length_replicate.trans l2,List.length_replicate,List.length_replicate.trans l2,List.length_replicate,fun i _ _=>(hb _ _).trans (hb _ _).symm,fun i _ _=>(hh _ _).trans (hh _ _).symm⟩
 have h1:i < (FS fL gL cards s).length:=h1
 show ((FS fL gL cards (cfL s C))[i.toNat]?).getD fZ=((FS fL gL cards s)[_]?).getD fZ
 have:=Zbc0 (A:=obF fL cards s.Objects s.Objects.length) (C:=s.Conts.map gL) (k:=k) (by rw [List.length_map];exact hk) h0 (by rw [List.length_map,<- l1];exact h1)
 rw [List.length_map] at this
 rw [e1,e2]
 show ((obF fL cards s.Objects s.Objects.length++C.map gL)[i.toNat]?).getD fZ=_
 rw [hm,this]
def STD(s:Zk):Prop:=(((s.Objects.filter fun o=>o.Zone==0).map fun o=>o.Stamp)++s.Conts.map fun c=>c.Stamp).Nodup
theorem Zbhx{cards:List Zm}{l:List Zg}{v:Int}{f:Zv}(h:f∈obF fL cards l v):f.Stamp∈(l.filter fun o=>o.Zone==0).map fun o=>o.Stamp:=by
 unfold obF at h
 obtain⟨o,ho,hf⟩:=List.mem_flatMap.1 h
 unfold obF1 at hf
 split at hf
 .rename_i hz
  unfold abF at hf
  obtain⟨q,_,rfl⟩:=List.mem_map.1 hf
  exact List.mem_map.2 ⟨o,List.mem_filter.2 ⟨List.mem_of_mem_take ho,by simpa using hz⟩,rfl⟩
 .cases hf
theorem Zbhy{cards:List Zm}{s:Zk}{C:List Zav}{k:Nat}(hk:k<=s.Conts.length)(hC:C=s.Conts.drop k++s.Conts.take k)(hs:STD s):DST (FS fL gL cards s).length (rtI (obF fL cards s.Objects s.Objects.length).length k s.Conts.length) ((FS fL gL cards s).map fun f=>f.Stamp) ((FS fL gL cards (cfL s C)).map fun f=>f.Stamp):=by
 have e1:=Z8s cards s
 have e2:=Z8s cards (cfL s C)
 have hm:C.map gL=(s.Conts.map gL).drop k++(s.Conts.map gL).take k:=by rw [hC,List.map_append,List.map_drop,List.map_take]
 have l1:(FS fL gL cards s).length=(obF fL cards s.Objects s.Objects.length).length+s.Conts.length:=by rw [e1,List.length_append,List.length_map]
 have p:PRM (FS fL gL cards s).length (rtI (obF fL cards s.Objects s.Objects.length).length k s.Conts.length):=by rw [l1];exact Za80 hk
 refine⟨fun i h0 h1=>?_,fun i j h0 h1 g0 g1 hne he=>?_⟩
 .unfold stp
  rw [List.getElem?_map,List.getElem?_map,e1,e2]
  have:=Zbc0 (A:=obF fL cards s.Objects s.Objects.length) (C:=s.Conts.map gL) (k:=k) (by rw [List.length_map];exact hk) h0 (by rw [List.length_map,<- l1];exact h1)
  rw [List.length_map] at this
  show (((obF fL cards s.Objects s.Objects.length++C.map gL)[i.toNat]?).map _).getD 0=_
  rw [hm,this]
 .have r:=p.rg i h0 h1
  have q:=p.rg j g0 g1
  have back:∀ x:Int,rtI (obF fL cards s.Objects s.Objects.length).length k s.Conts.length x < (obF fL cards s.Objects s.Objects.length).length->0<=x->x < (FS fL gL cards s).length->rtI (obF fL cards s.Objects s.Objects.length).length k s.Conts.length x=x:=fun x hx x0 x1=>by
   unfold rtI at hx ⊢
   split at hx
   .rename_i h;rw [if_pos h]
   .split at hx<;>omega
  have bi:=back i
  have bj:=back j
  clear back
  generalize rtI (obF fL cards s.Objects s.Objects.length).length k s.Conts.length i=x at *
  generalize rtI (obF fL cards s.Objects s.Objects.length).length k s.Conts.length j=y at *
  have at1:∀ z:Int,0<=z->z < (FS fL gL cards s).length->(z < (obF fL cards s.Objects s.Objects.length).length/\stp ((FS fL gL cards s).map fun f=>f.Stamp) z∈(s.Objects.filter fun o=>o.Zone==0).map fun o=>o.Stamp)\/((obF fL cards s.Objects s.Objects.length).length<=z/\(s.Conts.map fun c=>c.Stamp)[(z - (obF fL cards s.Objects s.Objects.length).length).toNat]?=some (stp ((FS fL gL cards s).map fun f=>f.Stamp) z)):=fun z z0 z1=>by
   unfold stp
   rw [e1,List.map_append]
   by_cases hz:z < (obF fL cards s.Objects s.Objects.length).length
   .refine .inl ⟨hz,?_⟩
    rw [List.getElem?_append_left (by rw [List.length_map];omega),List.getElem?_map,List.getElem?_eq_getElem O]
    exact Zbhx (List.getElem_mem _)
   .refine .inr ⟨by omega,?_⟩
    rw [List.getElem?_append_right (by rw [List.length_map];omega),List.length_map,List.map_map]
    have:(z.toNat - (obF fL cards s.Objects s.Objects.length).length)=(z - (obF fL cards s.Objects s.Objects.length).length).toNat:=by omega
    rw [this,List.getElem?_map,List.getElem?_map,List.getElem?_eq_getElem (show (z - (obF fL cards s.Objects s.Objects.length).length).toNat < s.Conts.length by omega)]
    rfl
  have hd:=List.nodup_append.1 hs
  rcases at1 x r.1 r.2 with ⟨x1,x2⟩ | ⟨x1,x2⟩<;>rcases at1 y q.1 q.2 with ⟨y1,y2⟩ | ⟨y1,y2⟩
  .exact⟨bi x1 h0 h1,bj y1 g0 g1⟩
  .rw [he] at x2
   exact absurd rfl (hd.2.2 _ x2 _ (List.mem_of_getElem? y2))
  .rw [<- he] at y2
   exact absurd rfl (hd.2.2 _ y2 _ (List.mem_of_getElem? x2))
  .rw [<- he] at y2
   have:=Zabk hd.2.1 x2 y2
   omega
theorem Zbfu{cards:List Zm}{s:Zk}{C:List Zav}(hC:ROT s.Conts C)(hs:STD s):(Zpg cards (cfL s C) 8).traits=(Zpg cards s 8).traits:=by
 obtain⟨k,hk,e⟩:=hC
 exact (Za8z (Zbhw hk e) (Zbhy hk e hs) 8).1.t
def RTL{α:Type}(l:List α)(k v:Int)(z:List α):Prop:=z=(l.drop k.toNat++l.take k.toNat).take v.toNat
theorem rl_0{α:Type}{l:List α}{k:Int}:RTL l k 0 []:=by unfold RTL;simp
theorem rl_n{α:Type}{l z z':List α}{k v v' n:Int}{x:α}(h:RTL l k v z)(hx:l[(Int.tmod (IntKind.wrap .i64 (k+v)) n).toNat]?=some x)(hz:z'=z++[x])(hn:n=l.length)(hb:n<=1000000)(h0:0<=v)(h1:v < n)(k0:0<=k)(k1:k < n)(hv:v'=v+1):RTL l k v' z':=by
 unfold RTL at *
 have e:IntKind.wrap .i64 (k+v)=k+v:=Zfj O O
 rw [e] at hx
 have hm:Int.tmod (k+v) n=if k+v < n then k+v else k+v - n:=by
  rw [Int.tmod_eq_emod_of_nonneg O]
  split
  .exact Int.emod_eq_of_lt O O
  .rw [<- Int.sub_emod_right,Int.emod_eq_of_lt O O]
 have key:(l.drop k.toNat++l.take k.toNat)[v.toNat]?=some x:=by
  rw [hm] at hx
  by_cases g:k+v < n
  .rw [if_pos g] at hx
   rw [List.getElem?_append_left (by rw [List.length_drop];omega),List.getElem?_drop]
   rw [<- hx];congr 1;omega
  .rw [if_neg g] at hx
   rw [List.getElem?_append_right (by rw [List.length_drop];omega),List.length_drop,List.getElem?_take,if_pos O]
   rw [<- hx];congr 1;omega
 rw [Zci key h0 hv,<- h,hz]
theorem rl_e{α:Type}{l z:List α}{k v:Int}(h:RTL l k v z)(k0:0<=k)(hk:k<=l.length)(hv:(l.length:Int)<=v):ROT l z:=by
 refine⟨k.toNat,by omega,?_⟩
 unfold RTL at h
 rw [h,List.take_of_length_le]
 rw [List.length_append,List.length_drop,List.length_take];omega
theorem rt_e{α:Type}{l:List α}(h:(l.length:Int)=0):ROT l []:=⟨0,Nat.zero_le _,by have:=List.eq_nil_of_length_eq_zero (show l.length=0 by omega);subst this;rfl⟩
theorem Zbfv{α:Type}{l r:List α}(h:ROT l r):r.length=l.length:=by
 obtain⟨k,hk,e⟩:=h
 rw [e,List.length_append,List.length_drop,List.length_take];omega
theorem Zbc1{α:Type} [DecidableEq α]:∀ {a l:List α},a.Nodup->(∀ x,x∈a->x∈l)->l.length<=a.length->l.Nodup
 | [],l,_,_,h=>by
  have:l=[]:=List.eq_nil_of_length_eq_zero (by simpa using h)
  rw [this];exact List.nodup_nil
 | x::a,l,hn,hs,hl=>by
  obtain⟨h1,h2⟩:=List.nodup_cons.1 hn
  have hx:=hs x (by simp)
  have hp:=List.perm_cons_erase hx
  have hle:=List.length_erase_of_mem hx
  have hpos:=List.length_pos_of_mem hx
  rw [List.length_cons] at hl
  have hsub:∀ y,y∈a->y∈l.erase x:=fun y hy=>(List.mem_erase_of_ne (fun e=>by subst e;exact h1 hy)).2 (hs y (List.mem_cons_of_mem _ hy))
  have ih:=Zbc1 h2 hsub O
  have hnx:x∉l.erase x:=fun hm=>h1 (Zakw h2 hsub O x hm)
  exact hp.nodup_iff.2 (List.nodup_cons.2 ⟨hnx,ih⟩)
def INS(l:List Int)(n v:Int)(out:List Int)(d:Bool):Prop:=l.Nodup->out.Nodup/\∀ x,x∈out->(x=n/\d=true)\/(x≠n/\∃ k:Nat,(k:Int) < v/\l[k]?=some x)
theorem is_0{l:List Int}{n:Int}:INS l n 0 [] false:=fun _=>⟨List.nodup_nil,fun x hx=>by cases hx⟩
theorem is_n{l:List Int}{n v:Int}{out z:List Int}{d:Bool}(h:INS l n v out d)(hz:z=out++[n])(hd:d=false):INS l n v z true:=fun hl=>by
 subst hd;subst hz
 obtain⟨h1,h2⟩:=h hl
 have hn:n∉out:=fun hm=>by
  rcases h2 n hm with ⟨_,e⟩ | ⟨e,_⟩
  .cases e
  .exact e rfl
 refine⟨Zzm h1 hn,fun x hx=>?_⟩
 rcases List.mem_append.1 hx with hx | hx
 .rcases h2 x hx with ⟨_,e⟩ | e
  .cases e
  .exact .inr e
 .exact .inl ⟨List.mem_singleton.1 hx,rfl⟩
theorem is_y{l:List Int}{n v w x:Int}{out z:List Int}{d:Bool}(h:INS l n v out d)(hx:l[v.toNat]?=some x)(hz:z=out++[x])(hn:¬ x=n)(h0:0<=v)(hw:w=v+1):INS l n w z d:=fun hl=>by
 subst hz
 obtain⟨h1,h2⟩:=h hl
 have hm:x∉out:=fun hm=>by
  rcases h2 x hm with ⟨e,_⟩ | ⟨_,k,hk,e⟩
  .exact hn e
  .have:=Zabk hl hx e;omega
 refine⟨Zzm h1 hm,fun y hy=>?_⟩
 rcases List.mem_append.1 hy with hy | hy
 .rcases h2 y hy with e | ⟨e,k,hk,g⟩
  .exact .inl e
  .exact .inr ⟨e,k,by omega,g⟩
 .rw [List.mem_singleton] at hy;subst hy
  exact .inr ⟨hn,v.toNat,by omega,hx⟩
theorem is_s{l:List Int}{n v w:Int}{out:List Int}{d:Bool}(h:INS l n v out d)(hw:w=v+1):INS l n w out d:=fun hl=>by
 obtain⟨h1,h2⟩:=h hl
 refine⟨h1,fun y hy=>?_⟩
 rcases h2 y hy with e | ⟨e,k,hk,g⟩
 .exact .inl e
 .exact .inr ⟨e,k,by omega,g⟩
def INR_(l:List Int)(n:Int)(r:List Int):Prop:=l.Nodup->r.Nodup/\∀ x,x∈r->x=n\/x∈l
theorem is_e{l:List Int}{n v:Int}{out:List Int}{d:Bool}(h:INS l n v out d):INR_ l n out:=fun hl=>by
 obtain⟨h1,h2⟩:=h hl
 refine⟨h1,fun x hx=>?_⟩
 rcases h2 x hx with e | ⟨_,k,_,g⟩
 .exact .inl e.1
 .exact .inr (List.mem_of_getElem? g)
def SOF(l:List Int)(v:Int)(r:List Int):Prop:=r.Nodup/\∀ x,x∈r->∃ k:Nat,(k:Int) < v/\l[k]?=some x
theorem so_0{l:List Int}:SOF l 0 []:=⟨List.nodup_nil,fun x hx=>by cases hx⟩
theorem so_n{l r r':List Int}{v w n:Int}(h:SOF l v r)(hx:l[v.toNat]?=some n)(hr:INR_ r n r')(h0:0<=v)(hw:w=v+1):SOF l w r':=by
 obtain⟨h1,h2⟩:=hr h.1
 refine⟨h1,fun x hm=>?_⟩
 rcases h2 x hm with e | e
 .subst e;exact⟨v.toNat,by omega,hx⟩
 .obtain⟨k,hk,g⟩:=h.2 x e
  exact⟨k,by omega,g⟩
theorem so_e{l r:List Int}{v:Int}(h:SOF l v r):r.Nodup/\∀ x,x∈r->x∈l:=⟨h.1,fun x hx=>by obtain⟨k,_,g⟩:=h.2 x hx;exact List.mem_of_getElem? g⟩
def stL(os:List Zg)(v:Int):List Int:=((os.take v.toNat).filter fun o=>o.Zone==0).map fun o=>o.Stamp
theorem Zbl3{os:List Zg}:[]=stL os 0:=by simp [stL]
theorem sl_y{os:List Zg}{z z':List Int}{v w:Int}{o:Zg}(h:z=stL os v)(hx:os[v.toNat]?=some o)(hz:z'=z++[o.Stamp])(h0:0<=v)(hw:w=v+1)(ho:o.Zone=0):z'=stL os w:=by
 unfold stL at *
 rw [Zci hx h0 hw,List.filter_append,List.map_append,<- h,List.filter_cons,if_pos (by simpa using ho),hz];rfl
theorem Zbl4{os:List Zg}{z:List Int}{v w:Int}{o:Zg}(h:z=stL os v)(hx:os[v.toNat]?=some o)(h0:0<=v)(hw:w=v+1)(ho:¬ o.Zone=0):z=stL os w:=by
 unfold stL at *
 rw [Zci hx h0 hw,List.filter_append,List.map_append,<- h,List.filter_cons,if_neg (by simpa using ho)];simp
def stC(s:Zk)(v:Int):List Int:=stL s.Objects s.Objects.length++(s.Conts.take v.toNat).map fun c=>c.Stamp
theorem sc_0{s:Zk}{z:List Int}{v:Int}(h:z=stL s.Objects v)(hv:(s.Objects.length:Int)<=v):z=stC s 0:=by
 unfold stC stL at *
 rw [h,List.take_of_length_le (show s.Objects.length<=v.toNat by omega),List.take_of_length_le (show s.Objects.length<=((s.Objects.length:Int)).toNat by omega)];simp
theorem sc_n{s:Zk}{z z':List Int}{v w:Int}{c:Zav}(h:z=stC s v)(hx:s.Conts[v.toNat]?=some c)(hz:z'=z++[c.Stamp])(h0:0<=v)(hw:w=v+1):z'=stC s w:=by
 unfold stC at *
 rw [Zci hx h0 hw,List.map_append,<- List.append_assoc,<- h,hz];rfl
theorem sc_e{s:Zk}{z r:List Int}{v:Int}(h:z=stC s v)(hv:(s.Conts.length:Int)<=v)(hr:r.Nodup/\∀ x,x∈r->x∈z):((r.length:Int)==(z.length:Int))=true->STD s:=fun e=>by
 have e:(r.length:Int)=z.length:=by simpa using e
 have:=Zbc1 hr.1 hr.2 O
 rw [h] at this
 unfold stC stL at this
 rw [List.take_of_length_le (show s.Conts.length<=v.toNat by omega),List.take_of_length_le (show s.Objects.length<=((s.Objects.length:Int)).toNat by omega)] at this
 exact this
theorem lo_1{cards:List Zm}{s:Zk}{C:List Zav}{x y:List Zb}{r q:Bool}(hs:x=y->r=true)(hx:x=(Zpg cards s 8).traits)(hy:y=(Zpg cards (cfL s C) 8).traits)(hC:ROT s.Conts C)(hd:q=true->STD s)(hq:q=true):r=true:=
 hs (by rw [hx,hy];exact (Zbfu hC (hd hq)).symm)
theorem rt_m{k v n:Int}(h0:0<=k)(h1:k < n)(g0:0<=v)(hn:n<=1000000):v < n->0<=Int.tmod (IntKind.wrap .i64 (k+v)) n/\Int.tmod (IntKind.wrap .i64 (k+v)) n < n:=fun g1=>by
 rw [Zfj O O]
 exact⟨Int.tmod_nonneg _ O,Int.tmod_lt_of_pos _ O⟩
theorem rt_k{a n:Int}(h:0 < n) : -n < Int.tmod a n/\Int.tmod a n < n:=by
 refine⟨?_,Int.tmod_lt_of_pos _ h⟩
 have:=Int.tmod_lt_of_pos (-a) h
 rw [Int.neg_tmod] at this;omega
theorem Zbh1{l r:List Int}{v:Int}(h:SOF l v r):r.length<=l.length:=Zwm h.1 fun x hx=>by obtain⟨k,_,g⟩:=h.2 x hx;exact List.mem_of_getElem? g
end Go.PW
