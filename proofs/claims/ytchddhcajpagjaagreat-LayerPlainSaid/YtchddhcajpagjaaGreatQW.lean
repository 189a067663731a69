import Derived.Test.YtchddhcajpagjaaGreatQSe
set_option linter.all false
set_option maxRecDepth 100000
namespace Go.PW
def Lds(l:List Int)(N:Int->Int->Prop)(x y:Int):Prop:=∀ S:Int->Prop,(∀ z,z∈l->N x z->S z)->(∀ w z,S w->z∈l->N w z->S z)->S y
theorem Lds.one{l:List Int}{N:Int->Int->Prop}{x y:Int}(hy:y∈l)(h:N x y):Lds l N x y:=fun S a _=>a y hy h
theorem Lds.trans{l:List Int}{N:Int->Int->Prop}{x y z:Int}(h:Lds l N x y)(g:Lds l N y z):Lds l N x z:=fun S a b=>g S (fun w hw hn=>b y w (h S a b) hw hn) b
def mE(m:List (List Bool))(a b:Nat):Bool:=(m[a]?.bind fun y=>y[b]?).getD false
def kB(e:Nat->Nat->Bool):Nat->Nat->Nat->Bool
 | 0,a,b=>e a b
 | m+1,a,b=>kB e m a b||(kB e m a m&&kB e m m b)
theorem Za8x(e:Nat->Nat->Bool)(m a:Nat):kB e (m+1) a m=kB e m a m:=by
 show (kB e m a m||(kB e m a m&&kB e m m m))=_
 cases kB e m a m<;>rfl
theorem Za8y(e:Nat->Nat->Bool)(m b:Nat):kB e (m+1) m b=kB e m m b:=by
 show (kB e m m b||(kB e m m m&&kB e m m b))=_
 cases kB e m m b<;>cases kB e m m m<;>rfl
theorem Zbfz(e:Nat->Nat->Bool){m n a b:Nat}(h:m<=n)(hk:kB e m a b=true):kB e n a b=true:=by
 induction h with
 | refl=>exact hk
 | step _ ih=>show (kB e _ a b||_)=true;rw [ih];rfl
theorem Zayw(e:Nat->Nat->Bool):∀ m c,c < m->∀ a b,kB e m a c=true->kB e m c b=true->kB e m a b=true
 | m+1,c,hc,a,b,h1,h2=>by
  by_cases hcm:c=m
  .subst hcm
   rw [Za8x] at h1;rw [Za8y] at h2
   show (kB e c a b||(kB e c a c&&kB e c c b))=true
   rw [h1,h2];simp
  .have hc':c < m:=by omega
   have ih:=Zayw e m c hc'
   have h1':kB e m a c=true\/(kB e m a m=true/\kB e m m c=true):=by
    have:(kB e m a c||(kB e m a m&&kB e m m c))=true:=h1
    simpa using this
   have h2':kB e m c b=true\/(kB e m c m=true/\kB e m m b=true):=by
    have:(kB e m c b||(kB e m c m&&kB e m m b))=true:=h2
    simpa using this
   show (kB e m a b||(kB e m a m&&kB e m m b))=true
   rcases h1' with h1 | ⟨h1,h1'⟩<;>rcases h2' with h2 | ⟨h2,h2'⟩
   .rw [ih a b h1 h2];rfl
   .rw [ih a m h1 h2,h2'];simp
   .rw [h1,ih m b h1' h2];simp
   .rw [h1,h2'];simp
def eB(l:List Int)(nd:List (List Bool))(a b:Nat):Bool:=nB nd (l[a]?.getD 0) (l[b]?.getD 0)
theorem Zanj{l:List Int}{nd:List (List Bool)}:∀ (m:Nat) (a b:Nat) (x y:Int),m<=l.length->l[a]?=some x->l[b]?=some y->kB (eB l nd) m a b=true->Lds l (fun p q=>nB nd p q=true) x y
 | 0,a,b,x,y,_,ha,hb,h=>by
  have h:nB nd (l[a]?.getD 0) (l[b]?.getD 0)=true:=h
  rw [ha,hb] at h
  exact .one (List.mem_of_getElem? hb) h
 | m+1,a,b,x,y,hm,ha,hb,h=>by
  have h:(kB (eB l nd) m a b||(kB (eB l nd) m a m&&kB (eB l nd) m m b))=true:=h
  have hz:=List.getElem?_eq_getElem (show m < l.length by omega)
  simp only [Bool.or_eq_true,Bool.and_eq_true] at h
  rcases h with h | ⟨h,g⟩
  .exact Zanj m a b x y (by omega) ha hb h
  .exact (Zanj m a m x _ (by omega) ha hz h).trans (Zanj m m b _ y (by omega) hz hb g)
theorem Zbhr{l:List Int}{nd:List (List Bool)}(hl:l.Nodup){a b:Nat}{x y:Int}(ha:l[a]?=some x)(hb:l[b]?=some y):kB (eB l nd) l.length a b=true↔Lds l (fun p q=>nB nd p q=true) x y:=by
 refine⟨Zanj _ a b x y (Nat.le_refl _) ha hb,fun h=>?_⟩
 have e0:∀ {p q:Nat} {u v:Int},l[p]?=some u->l[q]?=some v->nB nd u v=true->kB (eB l nd) l.length p q=true:=fun {p q u v} hp hq hn=>
  Zbfz _ (Nat.zero_le _) (by show nB nd (l[p]?.getD 0) (l[q]?.getD 0)=true;rw [hp,hq];exact hn)
 obtain⟨c,hc,hk⟩:=h (fun y=>∃ b:Nat,l[b]?=some y/\kB (eB l nd) l.length a b=true)
  (fun z hz hn=>by obtain⟨c,hc⟩:=List.mem_iff_getElem?.1 hz;exact⟨c,hc,e0 ha hc hn⟩)
  (fun w z ⟨c,hc,hk⟩ hz hn=>by
   obtain⟨d,hd⟩:=List.mem_iff_getElem?.1 hz
   exact⟨d,hd,Zayw _ _ c (List.getElem?_eq_some_iff.1 hc).1 a d hk (e0 hc hd hn)⟩)
 rw [Za7f hl hb hc];exact hk
def MK(n:Nat)(m:List (List Bool))(f:Nat->Nat->Bool):Prop:=∀ a b,a < n->b < n->mE m a b=f a b
theorem Zank{m:List (List Bool)}{a b:Nat}{y:List Bool}{v:Bool}(h:m[a]?=some y)(g:y[b]?=some v):v=mE m a b:=by unfold mE;rw [h,Option.bind_some,g];rfl
theorem Za8z{m:List (List Bool)}{i j a b:Nat}{y:List Bool}{v:Bool}(h:m[i]?=some y)(hj:j < y.length):mE (m.set i (y.set j v)) a b=if a=i/\b=j then v else mE m a b:=by
 unfold mE
 by_cases ha:a=i
 .subst ha
  rw [List.getElem?_set_self (List.getElem?_eq_some_iff.1 h).1,h,Option.bind_some,Option.bind_some]
  by_cases hb:b=j
  .subst hb;rw [List.getElem?_set_self hj,if_pos ⟨rfl,rfl⟩];rfl
  .rw [List.getElem?_set_ne (fun e=>hb e.symm),if_neg (fun e=>hb e.2)]
 .rw [List.getElem?_set_ne (fun e=>ha e.symm),if_neg (fun e=>ha e.1)]
def sel(f g:Nat->Nat->Bool)(i j:Nat)(a b:Nat):Bool:=if a < i\/(a=i/\b < j) then f a b else g a b
theorem Za80{n:Nat}{m z:List (List Bool)}{f g:Nat->Nat->Bool}{i i' j j':Int}{y:List Bool}{v q:Bool}(h:MK n m (sel f g i.toNat j.toNat))(e:z=m.set i'.toNat (y.set j.toNat v))(hy:m[i'.toNat]?=some y)(hq:y[j.toNat]?=some q)(ei:i'=i)(hv:v=f i'.toNat j.toNat)(h0:0<=j)(hj':j'=j+1):MK n z (sel f g i.toNat j'.toNat):=fun a b ha hb=>by
 subst e;subst ei
 have hj:=(List.getElem?_eq_some_iff.1 hq).1
 have e':j'.toNat=j.toNat+1:=by omega
 rw [Za8z hy hj,e']
 have:=h a b ha hb
 unfold sel at *
 by_cases hc:a=i'.toNat/\b=j.toNat
 .rw [if_pos hc,if_pos (.inr ⟨hc.1,by omega⟩),hv,hc.1,hc.2]
 .rw [if_neg hc,this]
  by_cases h1:a < i'.toNat\/(a=i'.toNat/\b < j.toNat)
  .rw [if_pos h1,if_pos (by omega)]
  .rw [if_neg h1,if_neg (by omega)]
theorem Za2p{n:Nat}{m:List (List Bool)}{f g:Nat->Nat->Bool}{i j j':Int}(h:MK n m (sel f g i.toNat j.toNat))(hv:f i.toNat j.toNat=g i.toNat j.toNat)(h0:0<=j)(hj':j'=j+1):MK n m (sel f g i.toNat j'.toNat):=fun a b ha hb=>by
 have e':j'.toNat=j.toNat+1:=by omega
 rw [h a b ha hb,e']
 unfold sel
 by_cases hc:a=i.toNat/\b=j.toNat
 .rw [if_neg (by omega),if_pos (by omega),hc.1,hc.2,hv]
 .by_cases h1:a < i.toNat\/(a=i.toNat/\b < j.toNat)
  .rw [if_pos h1,if_pos (by omega)]
  .rw [if_neg h1,if_neg (by omega)]
theorem Za81{n:Nat}{m:List (List Bool)}{f g:Nat->Nat->Bool}{i i' j:Int}(h:MK n m (sel f g i.toNat j.toNat))(h0:0<=i)(hj:(n:Int)<=j)(hi:i'=i+1):MK n m (sel f g i'.toNat (0:Int).toNat):=fun a b ha hb=>by
 have e':i'.toNat=i.toNat+1:=by omega
 rw [h a b ha hb,e']
 unfold sel
 by_cases h1:a < i.toNat\/(a=i.toNat/\b < j.toNat)
 .rw [if_pos h1,if_pos (by omega)]
 .rw [if_neg h1,if_neg (by show ¬ (a < i.toNat+1\/(a=i.toNat+1/\b < 0));omega)]
theorem Za82{n:Nat}{m:List (List Bool)}{f g:Nat->Nat->Bool}{i:Int}(h:MK n m (sel f g i.toNat (0:Int).toNat))(hi:(n:Int)<=i):MK n m f:=fun a b ha hb=>by
 rw [h a b ha hb];unfold sel;rw [if_pos (.inl (by omega))]
theorem MK_0{n:Nat}{m:List (List Bool)}{f g:Nat->Nat->Bool}(h:MK n m g):MK n m (sel f g (0:Int).toNat (0:Int).toNat):=fun a b ha hb=>by
 rw [h a b ha hb];unfold sel;rw [if_neg (by show ¬ (a < 0\/(a=0/\b < 0));omega)]
theorem Zblf{n:Nat}{m z:List (List Bool)}{f:Nat->Nat->Bool}{i:Int}{y:List Bool}{q p1 p2:Prop}(h:MK n m (sel f (fun _ _=>false) i.toNat (0:Int).toNat))(e:p1/\p2/\z=m.set i.toNat y)(hy:q/\∀ e,e∈y->e=false):MK n z (sel f (fun _ _=>false) i.toNat (0:Int).toNat):=fun a b ha hb=>by
 have:=h a b ha hb
 obtain⟨_,_,e⟩:=e
 subst e
 by_cases hc:a=i.toNat
 .subst hc
  unfold sel
  rw [if_neg (by show ¬ (i.toNat < i.toNat\/(i.toNat=i.toNat/\b < 0));omega)]
  unfold mE
  rw [List.getElem?_set_self']
  cases hm:m[i.toNat]? with
  | none=>rfl
  | some q=>
   show (y[b]?).getD false=false
   cases hq:y[b]? with
   | none=>rfl
   | some c=>exact hy.2 c (List.mem_of_getElem? hq)
 .unfold mE at *
  rw [List.getElem?_set_ne (fun e=>hc e.symm)];exact this
theorem Zbht{n:Nat}{m:List (List Bool)}{f:Nat->Nat->Bool}{q:Prop}(h:q/\∀ e,e∈m->e=[]):MK n m (sel f (fun _ _=>false) (0:Int).toNat (0:Int).toNat):=MK_0 fun a b _ _=>by
 unfold mE
 cases hm:m[a]? with
 | none=>rfl
 | some q=>rw [h.2 q (List.mem_of_getElem? hm)];rfl
theorem Zaew{α β:Type}{f:β->α->β}{a z:β}{l:List α}{v w:Int}{x:α}(hx:l[v.toNat]?=some x)(h0:0<=v)(hw:w=v+1)(h:z=(l.take v.toNat).foldl f a):f z x=(l.take w.toNat).foldl f a:=by
 rw [Zde hx h0 hw,List.foldl_append,<- h];rfl
theorem Za83{α β:Type}{f:β->α->β}{a z:β}{l:List α}{v:Int}(h:z=(l.take v.toNat).foldl f a)(hv:(l.length:Int)<=v):z=l.foldl f a:=by
 rw [h,List.take_of_length_le (by omega)]
def elF(out:List Int)(i:Int):List Int:=if 0<=i/\i∉out then out++[i] else out
def elV(l:List Int):List Int:=l.foldl elF []
theorem Zayx(l:List Int):∀ out:List Int,out.Nodup->(l.foldl elF out).Nodup/\∀ x,x∈l.foldl elF out↔x∈out\/(x∈l/\0<=x):=by
 induction l with
 | nil=>intro out h;exact⟨h,fun x=>by simp⟩
 | cons a l ih=>
  intro out h
  rw [List.foldl_cons]
  by_cases hc:0<=a/\a∉out
  .have e:elF out a=out++[a]:=if_pos hc
   rw [e]
   obtain⟨h1,h2⟩:=ih (out++[a]) (Zak4 h hc.2)
   refine⟨h1,fun x=>?_⟩
   rw [h2 x,List.mem_append,List.mem_singleton,List.mem_cons]
   constructor
   .rintro ((h | rfl) | h)
    .exact .inl h
    .exact .inr ⟨.inl rfl,hc.1⟩
    .exact .inr ⟨.inr h.1,h.2⟩
   .rintro (h | ⟨rfl | h,g⟩)
    .exact .inl (.inl h)
    .exact .inl (.inr rfl)
    .exact .inr ⟨h,g⟩
  .have e:elF out a=out:=if_neg hc
   rw [e]
   obtain⟨h1,h2⟩:=ih out h
   refine⟨h1,fun x=>?_⟩
   rw [h2 x,List.mem_cons]
   constructor
   .rintro (h | h)
    .exact .inl h
    .exact .inr ⟨.inr h.1,h.2⟩
   .rintro (h | ⟨rfl | h,g⟩)
    .exact .inl h
    .exact .inl (Classical.byContradiction fun hn=>hc ⟨g,hn⟩)
    .exact .inr ⟨h,g⟩
theorem Za84(l:List Int):(elV l).Nodup:=(Zayx l [] List.nodup_nil).1
theorem Zvp{l:List Int}{x:Int}:x∈elV l↔x∈l/\0<=x:=by
 have:=(Zayx l [] List.nodup_nil).2 x
 unfold elV
 simpa using this
theorem el_y{l out z:List Int}{v w x:Int}(hx:l[v.toNat]?=some x)(h:out=(l.take v.toNat).foldl elF [])(h0:0<=v)(hw:w=v+1)(hp:0<=x)(hn:x∉out)(hz:z=out++[x]):z=(l.take w.toNat).foldl elF []:=by
 rw [<- Zaew hx h0 hw h,hz];exact (if_pos ⟨hp,hn⟩).symm
theorem el_n{l out:List Int}{v w x:Int}(hx:l[v.toNat]?=some x)(h:out=(l.take v.toNat).foldl elF [])(h0:0<=v)(hw:w=v+1)(hp:x < 0\/x∈out):out=(l.take w.toNat).foldl elF []:=by
 rw [<- Zaew hx h0 hw h];exact (if_neg fun k=>hp.elim (fun e=>by omega) k.2).symm
def RDL(l:List Int)(nd:Int->Int->Bool)(x:Int):Prop:=∀ j,j∈l->j≠x->nd x j=true->Lds l (fun p q=>nd p q=true) j x
noncomputable def rdB(l:List Int)(nd:Int->Int->Bool)(x:Int):Bool := @decide (RDL l nd x) (Classical.propDecidable _)
theorem Zauj{l:List Int}{nd:Int->Int->Bool}{x:Int}(h:RDL l nd x):rdB l nd x=true:=by unfold rdB;exact @decide_eq_true _ (Classical.propDecidable _) h
theorem Za4h{l:List Int}{nd:Int->Int->Bool}{x:Int}(h:¬ RDL l nd x):rdB l nd x=false:=by unfold rdB;exact @decide_eq_false _ (Classical.propDecidable _) h
noncomputable def rdV(l:List Int)(nd:Int->Int->Bool):List Int:=l.filter (rdB l nd)
def stp(st:List Int)(i:Int):Int:=st[i.toNat]?.getD 0
def nxF(st:List Int)(b i:Int):Int:=if b < 0\/stp st i < stp st b\/(stp st i=stp st b/\i < b) then i else b
noncomputable def nxV(left st:List Int)(nd:Int->Int->Bool):Int:=(rdV (elV left) nd).foldl (nxF st) (-1)
theorem Lds.cong{l:List Int}{N M:Int->Int->Prop}(h:∀ x y,x∈l->y∈l->(N x y↔M x y)){x y:Int}(hx:x∈l)(g:Lds l N x y):Lds l M x y:=by
 refine (g (fun z=>z∈l/\Lds l M x z) (fun z hz hn=>⟨hz,.one hz ((h x z hx hz).1 hn)⟩) (fun w z ⟨hw,k⟩ hz hn=>⟨hz,k.trans (.one hz ((h w z hw hz).1 hn))⟩)).2
theorem Zbbp{l:List Int}{nd md:Int->Int->Bool}(h:∀ x y,x∈l->y∈l->nd x y=md x y):rdV l nd=rdV l md:=by
 unfold rdV
 refine List.filter_congr fun x hx=>?_
 have:RDL l nd x↔RDL l md x:=
  ⟨fun k j hj hne hb=>(k j hj hne (by rw [h x j hx hj];exact hb)).cong (fun a b ha hb=>by rw [h a b ha hb]) hj,fun k j hj hne hb=>(k j hj hne (by rw [<- h x j hx hj];exact hb)).cong (fun a b ha hb=>by rw [h a b ha hb]) hj⟩
 by_cases hc:RDL l nd x
 .rw [Zauj hc,Zauj (this.1 hc)]
 .rw [Za4h hc,Za4h fun k=>hc (this.2 k)]
theorem Zbhv{l:List Int}{nd:Int->Int->Bool}(hn:l.Nodup)(hl:l≠[]):∃ i,i∈rdV l nd:=by
 classical
 obtain⟨i,hi,h⟩:=Zba0 (N:=fun p q=>nd p q=true) (R:=fun i=>l.filter fun y=>decide (Lds l (fun p q=>nd p q=true) i y)) hl (fun i hi=>by
  have e:∀ y,y∈(l.filter fun y=>decide (Lds l (fun p q=>nd p q=true) i y))↔y∈l/\Lds l (fun p q=>nd p q=true) i y:=fun y=>by rw [List.mem_filter];simp
  exact⟨hn.filter _,fun x hx=>((e x).1 hx).1,fun x hx hb=>(e x).2 ⟨hx,.one hx hb⟩,fun y hy x hx hb=>(e x).2 ⟨hx,((e y).1 hy).2.trans (.one hx hb)⟩,fun S a b x hx=>((e x).1 hx).2 S a b⟩)
 refine⟨i,List.mem_filter.2 ⟨hi,Zauj fun j hj hne hb=>?_⟩⟩
 have:=h j hj hne hb
 rw [List.mem_filter] at this
 simpa using this.2
theorem Za2q{st:List Int}:∀ (l:List Int) (b:Int),(∀ x,x∈l->0<=x)->(b < 0/\l=[]/\l.foldl (nxF st) b=b)\/((l≠[]\/0<=b)/\0<=l.foldl (nxF st) b/\(l.foldl (nxF st) b∈l\/l.foldl (nxF st) b=b))
 | [],b,_=>by
  by_cases h:b < 0
  .exact .inl ⟨h,rfl,rfl⟩
  .exact .inr ⟨.inr (by omega),by show 0<=b;omega,.inr rfl⟩
 | a::l,b,h=>by
  right
  rw [List.foldl_cons]
  have ha:=h a (by simp)
  have hc:nxF st b a=a\/(nxF st b a=b/\0<=b):=by
   unfold nxF
   split
   .exact .inl rfl
   .exact .inr ⟨rfl,by omega⟩
  have h0:0<=nxF st b a:=by rcases hc with e | ⟨e,g⟩<;>omega
  rcases Za2q (st:=st) l (nxF st b a) (fun x hx=>h x (List.mem_cons_of_mem _ hx)) with ⟨k,_⟩ | ⟨_,k1,k2⟩
  .omega
  .refine⟨.inl (by simp),k1,?_⟩
   rcases k2 with k | k
   .exact .inl (List.mem_cons_of_mem _ k)
   .rw [k]
    rcases hc with e | ⟨e,_⟩
    .rw [e];exact .inl (by simp)
    .exact .inr e
theorem Zbf0{left st:List Int}{nd:Int->Int->Bool}(h:∃ x,x∈left/\0<=x):nxV left st nd∈left/\0<=nxV left st nd:=by
 obtain⟨x,hx,h0⟩:=h
 have hne:elV left≠[]:=fun e=>by have:=Zvp.2 ⟨hx,h0⟩;rw [e] at this;cases this
 obtain⟨i,hi⟩:=Zbhv (nd:=nd) (Za84 left) hne
 have hsub:∀ y,y∈rdV (elV left) nd->y∈left/\0<=y:=fun y hy=>Zvp.1 (List.mem_filter.1 hy).1
 unfold nxV
 rcases Za2q (st:=st) (rdV (elV left) nd) (-1) (fun y hy=>(hsub y hy).2) with ⟨_,k,_⟩ | ⟨_,k1,k2⟩
 .rw [k] at hi;cases hi
 .rcases k2 with k | k
  .exact⟨(hsub _ k).1,k1⟩
  .omega
theorem Zbbq{left st:List Int}{nd md:Int->Int->Bool}(h:∀ x y,x∈left->y∈left->0<=x->0<=y->nd x y=md x y):nxV left st nd=nxV left st md:=by
 unfold nxV
 rw [Zbbp fun x y hx hy=>h x y (Zvp.1 hx).1 (Zvp.1 hy).1 (Zvp.1 hx).2 (Zvp.1 hy).2]
theorem nx_y{l st:List Int}{b x v w:Int}(hx:l[v.toNat]?=some x)(h:b=(l.take v.toNat).foldl (nxF st) (-1))(h0:0<=v)(hw:w=v+1)(hc:b < 0\/stp st x < stp st b\/(stp st x=stp st b/\x < b)):x=(l.take w.toNat).foldl (nxF st) (-1):=by
 rw [<- Zaew hx h0 hw h];exact (if_pos hc).symm
theorem nx_n{l st:List Int}{b x v w:Int}(hx:l[v.toNat]?=some x)(h:b=(l.take v.toNat).foldl (nxF st) (-1))(h0:0<=v)(hw:w=v+1)(hc:¬ (b < 0\/stp st x < stp st b\/(stp st x=stp st b/\x < b))):b=(l.take w.toNat).foldl (nxF st) (-1):=by
 rw [<- Zaew hx h0 hw h];exact (if_neg hc).symm
theorem Zblg{l:List Int}{nd:List (List Bool)}{a b x y:Int}{r:Bool}(ha:l[a.toNat]?=some x)(hb:l[b.toNat]?=some y)(h:0<=x->0<=y->r=nB nd x y)(hp:POS l):r=eB l nd a.toNat b.toNat:=by
 unfold eB
 rw [ha,hb]
 exact h (hp x (List.mem_of_getElem? ha)) (hp y (List.mem_of_getElem? hb))
theorem Zblh{n:Nat}{m:List (List Bool)}{e:Nat->Nat->Bool}(h:MK n m e):MK n m (kB e (0:Int).toNat):=h
theorem Zbli{n:Nat}{m:List (List Bool)}{e:Nat->Nat->Bool}{g:Nat->Nat->Bool}{v w i:Int}(h:MK n m (sel (kB e (v.toNat+1)) g i.toNat (0:Int).toNat))(hi:(n:Int)<=i)(h0:0<=v)(hw:w=v+1):MK n m (kB e w.toNat):=by
 have:w.toNat=v.toNat+1:=by omega
 rw [this];exact Za82 h hi
theorem Za2r{e:Nat->Nat->Bool}{m i j a:Nat}:sel (kB e (m+1)) (kB e m) i j a m=kB e m a m:=by
 unfold sel;split
 .exact Za8x e m a
 .rfl
theorem Za2s{e:Nat->Nat->Bool}{m i j b:Nat}:sel (kB e (m+1)) (kB e m) i j m b=kB e m m b:=by
 unfold sel;split
 .exact Za8y e m b
 .rfl
theorem wm_y{n:Nat}{M:List (List Bool)}{e:Nat->Nat->Bool}{m i j m' i':Int}{ra rm:List Bool}{x y:Bool}(h:MK n M (sel (kB e (m.toNat+1)) (kB e m.toNat) i.toNat j.toNat))(hx:ra[m'.toNat]?=some x)(ha:M[i'.toNat]?=some ra)(hm:M[m'.toNat]?=some rm)(hy:rm[j.toNat]?=some y)(em:m'=m)(ei:i'=i)(h0:0<=i)(g0:0<=j)(m0:0<=m)(h1:i < n)(g1:j < n)(m1:m < n)(ex:x=true)(ey:y=true):true=kB e (m.toNat+1) i'.toNat j.toNat:=by
 subst em;subst ei
 have a:=(Zank ha hx).trans (h i'.toNat m'.toNat (by omega) (by omega))
 have b:=(Zank hm hy).trans (h m'.toNat j.toNat (by omega) (by omega))
 rw [Za2r] at a;rw [Za2s] at b
 show true=(kB e m'.toNat i'.toNat j.toNat||(kB e m'.toNat i'.toNat m'.toNat&&kB e m'.toNat m'.toNat j.toNat))
 rw [<- a,<- b,ex,ey];simp
theorem wm_a{n:Nat}{M:List (List Bool)}{e:Nat->Nat->Bool}{m i j m' i':Int}{ra:List Bool}{x:Bool}(h:MK n M (sel (kB e (m.toNat+1)) (kB e m.toNat) i.toNat j.toNat))(hx:ra[m'.toNat]?=some x)(ha:M[i'.toNat]?=some ra)(em:m'=m)(ei:i'=i)(h0:0<=i)(m0:0<=m)(h1:i < n)(m1:m < n)(ex:x=false):kB e (m.toNat+1) i.toNat j.toNat=kB e m.toNat i.toNat j.toNat:=by
 subst em;subst ei
 have a:=(Zank ha hx).trans (h i'.toNat m'.toNat (by omega) (by omega))
 rw [Za2r] at a
 show (kB e m'.toNat i'.toNat j.toNat||(kB e m'.toNat i'.toNat m'.toNat&&kB e m'.toNat m'.toNat j.toNat))=_
 rw [<- a,ex];simp
theorem wm_b{n:Nat}{M:List (List Bool)}{e:Nat->Nat->Bool}{m i j m':Int}{rm:List Bool}{y:Bool}(h:MK n M (sel (kB e (m.toNat+1)) (kB e m.toNat) i.toNat j.toNat))(hm:M[m'.toNat]?=some rm)(hy:rm[j.toNat]?=some y)(em:m'=m)(g0:0<=j)(m0:0<=m)(g1:j < n)(m1:m < n)(ey:y=false):kB e (m.toNat+1) i.toNat j.toNat=kB e m.toNat i.toNat j.toNat:=by
 subst em
 have b:=(Zank hm hy).trans (h m'.toNat j.toNat (by omega) (by omega))
 rw [Za2s] at b
 show (kB e m'.toNat i.toNat j.toNat||(kB e m'.toNat i.toNat m'.toNat&&kB e m'.toNat m'.toNat j.toNat))=_
 rw [<- b,ey];simp
theorem Zbf1(l:List Int):POS (elV l):=fun _ h=>(Zvp.1 h).2
def ixI(l:List Int)(x:Int):Int:=if x∈l then (l.idxOf x:Int) else -1
theorem Zbc6{l:List Int}{x v:Int}(h:∀ (k:Nat) y,(k:Int) < v->l[k]?=some y->y≠x)(hx:l[v.toNat]?=some x)(h0:0<=v):v=ixI l x:=by
 have hm:=List.mem_of_getElem? hx
 have hl:=(List.getElem?_eq_some_iff.1 hx).1
 have g1:=List.idxOf_lt_length_iff.2 hm
 have g2:l[l.idxOf x]?=some x:=by rw [List.getElem?_eq_getElem g1,List.getElem_idxOf g1]
 unfold ixI
 rw [if_pos hm]
 rcases Nat.lt_trichotomy (l.idxOf x) v.toNat with k | k | k
 .exact absurd rfl (h _ x (by omega) g2)
 .omega
 .have:=List.not_of_lt_findIdx (p:=(· == x)) (xs:=l) (i:=v.toNat) (by exact k)
  rw [(List.getElem?_eq_some_iff.1 hx).2] at this
  simp at this
theorem Zblj{l:List Int}{x v:Int}(h:∀ (k:Nat) y,(k:Int) < v->l[k]?=some y->y≠x)(hv:(l.length:Int)<=v) : -1=ixI l x:=by
 unfold ixI
 rw [if_neg fun hm=>by
  obtain⟨k,hk⟩:=List.mem_iff_getElem?.1 hm
  have:=(List.getElem?_eq_some_iff.1 hk).1
  exact h k x (by omega) hk rfl]
def ldV(l:List Int)(m:List (List Bool))(i j:Int):Bool:=decide (0<=ixI l i)&&(decide (0<=ixI l j)&&mE m (ixI l i).toNat (ixI l j).toNat)
theorem ld_y{l:List Int}{m:List (List Bool)}{i j a b:Int}{y:List Bool}{v:Bool}(ha:a=ixI l i)(hb:b=ixI l j)(h0:a>=0)(g0:b>=0)(hm:m[a.toNat]?=some y)(hy:y[b.toNat]?=some v):v=ldV l m i j:=by
 subst ha;subst hb
 unfold ldV
 rw [decide_eq_true (show 0<=ixI l i from h0),decide_eq_true (show 0<=ixI l j from g0),<- Zank hm hy];rfl
theorem ld_a{l:List Int}{m:List (List Bool)}{i j a:Int}(ha:a=ixI l i)(h0:¬ a>=0):false=ldV l m i j:=by
 subst ha;unfold ldV;rw [decide_eq_false (show ¬ 0<=ixI l i from h0)];rfl
theorem ld_b{l:List Int}{m:List (List Bool)}{i j b:Int}(hb:b=ixI l j)(h0:¬ b>=0):false=ldV l m i j:=by
 subst hb;unfold ldV;rw [decide_eq_false (show ¬ 0<=ixI l j from h0)];simp
def wtP(nd:List (List Bool))(c:List Int×List (List Bool))(i j:Int):Bool:=(j != i)&&(nB nd i j && !ldV c.1 c.2 j i)
theorem Za85{l:List Int}{x:Int}(hx:x∈l):l[(ixI l x).toNat]?=some x/\0<=ixI l x:=by
 have g1:=List.idxOf_lt_length_iff.2 hx
 unfold ixI
 rw [if_pos hx,Int.toNat_natCast,List.getElem?_eq_getElem g1,List.getElem_idxOf g1]
 exact⟨rfl,by omega⟩
theorem Za2t{l:List Int}{m:List (List Bool)}{nd:List (List Bool)}(hl:l.Nodup)(h:MK l.length m (kB (eB l nd) l.length)){i j:Int}(hi:i∈l)(hj:j∈l):ldV l m i j=true↔Lds l (fun p q=>nB nd p q=true) i j:=by
 obtain⟨h1,h2⟩:=Za85 hi
 obtain⟨g1,g2⟩:=Za85 hj
 unfold ldV
 rw [decide_eq_true h2,decide_eq_true g2,h _ _ (List.getElem?_eq_some_iff.1 h1).1 (List.getElem?_eq_some_iff.1 g1).1]
 simp only [Bool.true_and]
 exact Zbhr hl h1 g1
theorem Zblk{l:List Int}{m:List (List Bool)}{nd:List (List Bool)}{i:Int}{c:Bool}(hl:l.Nodup)(h:MK l.length m (kB (eB l nd) l.length))(hi:i∈l)(hc:c=true↔∃ j,j∈l/\wtP nd (l,m) i j=true):rdB l (nB nd) i = !c:=by
 have key:(∃ j,j∈l/\wtP nd (l,m) i j=true)↔¬ RDL l (nB nd) i:=by
  constructor
  .rintro ⟨j,hj,hw⟩ hr
   unfold wtP at hw
   simp only [Bool.and_eq_true,bne_iff_ne,ne_eq,Bool.not_eq_true'] at hw
   have:=(Za2t hl h hj hi).2 (hr j hj hw.1 hw.2.1)
   rw [hw.2.2] at this;cases this
  .intro hr
   refine Classical.byContradiction fun hn=>hr fun j hj hne hb=>?_
   refine Classical.byContradiction fun hd=>hn ⟨j,hj,?_⟩
   unfold wtP
   have:ldV l m j i=false:=by
    cases hb:ldV l m j i with
    | false=>rfl
    | true=>exact absurd ((Za2t hl h hj hi).1 hb) hd
   rw [this,hb]
   simp [hne]
 cases hcc:c with
 | true=>exact Za4h (key.1 (hc.1 hcc))
 | false=>exact Zauj (Classical.byContradiction fun hn=>by rw [hc.2 (key.2 hn)] at hcc;cases hcc)
theorem el_y'{l out z:List Int}{v w x:Int}{c:Bool}(hx:l[v.toNat]?=some x)(h:out=(l.take v.toNat).foldl elF [])(h0:0<=v)(hw:w=v+1)(hp:0<=x)(hc:c=true↔x∈out)(hb:c=false)(hz:z=out++[x]):z=(l.take w.toNat).foldl elF []:=
 el_y hx h h0 hw hp (fun hm=>by rw [hc.2 hm] at hb;cases hb) hz
theorem el_n'{l out:List Int}{v w x:Int}{c:Bool}(hx:l[v.toNat]?=some x)(h:out=(l.take v.toNat).foldl elF [])(h0:0<=v)(hw:w=v+1)(hc:c=true↔x∈out)(hb:c=true):out=(l.take w.toNat).foldl elF []:=
 el_n hx h h0 hw (.inr (hc.1 hb))
theorem ixc{l:List Int}{a x:Int}(h:x=ixI l a):decide (x>=0)=true↔a∈l:=by
 subst h;unfold ixI
 split
 .rename_i h;simp [h]
 .rename_i h;simp [h]
theorem Zbhw{m:List (List Bool)}{e:Nat->Nat->Bool}{v w:Int}{k:Nat}(h:MK v.toNat m (kB e w.toNat))(e1:v=k)(h1:w<=v)(h2:v<=w):MK k m (kB e k):=by
 have a:v.toNat=k:=by omega
 have b:w.toNat=k:=by omega
 rw [a,b] at h;exact h
theorem Za86{a b:List Int}(h:b=elV a):POS b:=by rw [h];exact Zbf1 a
def FX(l:List Int)(p:Int->Bool)(r:Int):Prop:=decide (r>=0)=true↔∃ x,x∈l/\p x=true
theorem fx_y{l:List Int}{p:Int->Bool}{v x:Int}(hx:l[v.toNat]?=some x)(h0:0<=v)(hp:p x=true):FX l p v:=⟨fun _=>⟨x,List.mem_of_getElem? hx,hp⟩,fun _=>decide_eq_true h0⟩
theorem fx_n{l:List Int}{p:Int->Bool}{v:Int}(h:∀ (k:Nat) y,(k:Int) < v->l[k]?=some y->p y=false)(hv:(l.length:Int)<=v):FX l p (-1):=
 ⟨fun k=>absurd k (by decide),fun⟨x,hx,hp⟩=>by
  obtain⟨k,hk⟩:=List.mem_iff_getElem?.1 hx
  have:=(List.getElem?_eq_some_iff.1 hk).1
  rw [h k x (by omega) hk] at hp;cases hp⟩
theorem rd_c{a l v5:List Int}{b1:List Int×List (List Bool)}{nd0 nd:List (List Bool)}{x v:Int}{y:Bool×Int×List (List Bool)×(List Int×List (List Bool))}(hc:y.1=true↔∃ j,j∈v5/\wtP nd0 b1 x j=true)(ey:y.2=(x,nd0,b1))(hx:l[v.toNat]?=some x)(e1:b1.1=l)(e2:nd0=nd)(e3:v5=l)(hl:l=elV a)(h:MK l.length b1.2 (kB (eB l nd) l.length)):rdB l (nB nd) y.2.1 = !y.1:=by
 subst e1;subst e2;subst e3
 rw [ey]
 exact Zblk (by rw [hl];exact Za84 a) h (List.mem_of_getElem? hx) hc
theorem nx_e{left st l:List Int}{N:Int->Int->Bool}{v w:Int}(h:v=(l.take w.toNat).foldl (nxF st) (-1))(e:l=rdV (elV left) N)(hw:(l.length:Int)<=w):v=nxV left st N:=by
 rw [Za83 h hw,e];rfl
end Go.PW
set_option maxRecDepth 100000
namespace Go.PW
def zfm{α β:Type}(p:Int->α->Bool)(f:Int->α->β)(l:List α)(v:Int):List β:=((l.take v.toNat).zipIdx.filter fun q=>p q.2 q.1).map fun q=>f q.2 q.1
theorem Zajg{α β:Type}{p:Int->α->Bool}{f:Int->α->β}{l:List α}{v w:Int}{x:α}(hx:l[v.toNat]?=some x)(h0:0<=v)(hw:w=v+1):zfm p f l w=zfm p f l v++if p v x then [f v x] else []:=by
 subst hw
 have hv:(v+1).toNat=v.toNat+1:=by omega
 have hlt:=(List.getElem?_eq_some_iff.1 hx).1
 have e:((v.toNat:Nat):Int)=v:=Int.toNat_of_nonneg h0
 unfold zfm
 rw [hv,List.take_add_one,hx,Option.toList_some,List.zipIdx_append,List.filter_append,List.map_append]
 congr 1
 rw [List.length_take,Nat.min_eq_left (by omega),Nat.zero_add]
 simp only [List.zipIdx_cons,List.zipIdx_nil,List.filter_cons,List.filter_nil,e]
 split
 .simp only [List.map_cons,List.map_nil,e]
 .rfl
theorem Za4i{α β:Type}{p:Int->α->Bool}{f:Int->α->β}{l:List α}:[]=zfm p f l 0:=by simp [zfm]
theorem Zbc7{α β:Type}{p:Int->α->Bool}{f:Int->α->β}{l:List α}{a z:List β}{v w:Int}{x:α}{y:β}(hx:l[v.toNat]?=some x)(ha:a=zfm p f l v)(h0:0<=v)(hw:w=v+1)(hz:z=a++[y])(hp:p v x=true)(hy:y=f v x):z=zfm p f l w:=by
 rw [Zajg hx h0 hw,if_pos hp,hz,ha,hy]
theorem Zbc8{α β:Type}{p:Int->α->Bool}{f:Int->α->β}{l:List α}{a:List β}{v w:Int}{x:α}(hx:l[v.toNat]?=some x)(ha:a=zfm p f l v)(h0:0<=v)(hw:w=v+1)(hp:p v x=false):a=zfm p f l w:=by
 rw [Zajg hx h0 hw,hp,ha];simp
theorem Zaps{α β:Type}{p:Int->α->Bool}{f:Int->α->β}{l:List α}{a:List β}{v:Int}(ha:a=zfm p f l v)(hv:(l.length:Int)<=v):a=zfm p f l l.length:=by
 rw [ha];unfold zfm;rw [List.take_of_length_le (show l.length<=v.toNat by omega),List.take_of_length_le (show l.length<=((l.length:Int)).toNat by omega)]
theorem Zbhx{α:Type}{p:Int->α->Bool}{l:List α}{v:Int}:(zfm p (fun k _=>k) l v).Nodup:=by
 have key:∀ n:Nat,n<=l.length->(zfm p (fun k _=>k) l n).Nodup/\∀ y,y∈zfm p (fun k _=>k) l n->y < n:=by
  intro n
  induction n with
  | zero=>intro _;rw [show ((0:Nat):Int)=0 from rfl,<- Za4i];exact⟨List.nodup_nil,fun y h=>by cases h⟩
  | succ n ih=>
   intro hn
   obtain⟨h1,h2⟩:=ih (by omega)
   have hx:=List.getElem?_eq_getElem (show (n:Int).toNat < l.length by omega)
   rw [Zajg (w:=((n+1:Nat):Int)) hx (by omega) (by omega)]
   split
   .refine⟨Zak4 h1 fun hm=>by have:=h2 _ hm;omega,fun y hy=>?_⟩
    rcases List.mem_append.1 hy with h | h
    .have:=h2 y h;omega
    .rw [List.mem_singleton] at h;omega
   .rw [List.append_nil];exact⟨h1,fun y hy=>by have:=h2 y hy;omega⟩
 by_cases hv:v.toNat<=l.length
 .have:=(key v.toNat hv).1
  by_cases h0:0<=v
  .rwa [Int.toNat_of_nonneg h0] at this
  .have e:v.toNat=0:=by omega
   unfold zfm;rw [e];exact List.nodup_nil
 .have:=(key l.length (Nat.le_refl _)).1
  unfold zfm at *
  rwa [List.take_of_length_le (show l.length<=((l.length:Int)).toNat by omega),<- List.take_of_length_le (show l.length<=v.toNat by omega)] at this
theorem Zbhy{α β:Type}{f g:Nat->α->β}{l:List α}{z z':List β}{k:Nat}{y:β}(h:z=l.mapIdx f)(e:z'=z.set k y)(hf:∀ j x,l[j]?=some x->g j x=if j=k then y else f j x):z'=l.mapIdx g:=by
 subst h;subst e
 refine List.ext_getElem? fun j=>?_
 rw [List.getElem?_set,List.getElem?_mapIdx,List.length_mapIdx,List.getElem?_mapIdx]
 cases hx:l[j]? with
 | none=>
  have:=List.getElem?_eq_none_iff.1 hx
  split
  .rw [if_neg (by omega)];rfl
  .rfl
 | some x=>
  have hl:=(List.getElem?_eq_some_iff.1 hx).1
  rw [Option.map_some,Option.map_some,hf j x hx]
  by_cases hk:k=j
  .subst hk;rw [if_pos rfl,if_pos hl,if_pos rfl]
  .rw [if_neg hk,if_neg fun e=>hk e.symm]
theorem Zapt{α β:Type}{f g:Nat->α->β}{l:List α}{z:List β}(h:z=l.mapIdx f)(hf:∀ j x,l[j]?=some x->g j x=f j x):z=l.mapIdx g:=by
 subst h
 refine List.ext_getElem? fun j=>?_
 rw [List.getElem?_mapIdx,List.getElem?_mapIdx]
 cases hx:l[j]? with
 | none=>rfl
 | some x=>rw [Option.map_some,Option.map_some,hf j x hx]
def Zg6{α β:Type}(g:Nat->α->β)(d:Nat->α->β)(v:Int)(j:Nat)(x:α):β:=if (j:Int) < v then g j x else d j x
theorem Za87{α β:Type}{g d:Nat->α->β}{l:List α}{z z':List β}{v w:Int}{x:α}{y:β}(hx:l[v.toNat]?=some x)(h:z=l.mapIdx (Zg6 g d v))(h0:0<=v)(hw:w=v+1)(e:z'=z.set v.toNat y)(hy:y=g v.toNat x):z'=l.mapIdx (Zg6 g d w):=Zbhy h e fun j q hq=>by
 unfold Zg6
 by_cases hj:j=v.toNat
 .subst hj
  rw [if_pos rfl,if_pos (by omega),hy,Option.some.inj (hq.symm.trans hx)]
 .rw [if_neg hj]
  by_cases hk:(j:Int) < v
  .rw [if_pos hk,if_pos (by omega)]
  .rw [if_neg hk,if_neg (by omega)]
theorem Za4j{α β:Type}{g d:Nat->α->β}{l:List α}{z:List β}{v w:Int}{x:α}(hx:l[v.toNat]?=some x)(h:z=l.mapIdx (Zg6 g d v))(h0:0<=v)(hw:w=v+1)(hy:d v.toNat x=g v.toNat x):z=l.mapIdx (Zg6 g d w):=Zapt h fun j q hq=>by
 unfold Zg6
 by_cases hj:j=v.toNat
 .subst hj
  rw [if_pos (by omega),if_neg (by omega),Option.some.inj (hq.symm.trans hx),hy]
 .by_cases hk:(j:Int) < v
  .rw [if_pos hk,if_pos (by omega)]
  .rw [if_neg hk,if_neg (by omega)]
theorem Za88{α β:Type}{g d:Nat->α->β}{l:List α}{z:List β}{v:Int}(h:z=l.mapIdx (Zg6 g d v))(hv:(l.length:Int)<=v):z=l.mapIdx g:=Zapt h fun j q hq=>by
 have:=(List.getElem?_eq_some_iff.1 hq).1
 unfold Zg6;rw [if_pos (by omega)]
theorem up_0{α β:Type}{g d:Nat->α->β}{l:List α}{z:List β}(h:z=l.mapIdx d):z=l.mapIdx (Zg6 g d 0):=Zapt h fun j q _=>by unfold Zg6;rw [if_neg (by omega)]
def Zie{α:Type}(g:α->α)(l:List α)(k:Int):List α:=match l[k.toNat]? with | some t=>l.set k.toNat (g t) | none=>l
theorem Za2u{α:Type}{g:α->α}{l:List α}{k:Int}(h:∀ t,g t=t):l=Zie g l k:=by
 unfold Zie
 cases hx:l[k.toNat]? with
 | none=>rfl
 | some t=>show l=l.set k.toNat (g t);rw [h t,Zanh hx]
theorem Zaso{α:Type}{g g':α->α}{l z z':List α}{k:Int}{x y:α}(h:z=Zie g l k)(hx:z[k.toNat]?=some x)(e:z'=z.set k.toNat y)(hg:∀ t,x=g t->y=g' t):z'=Zie g' l k:=by
 subst h;subst e
 unfold Zie at *
 cases ht:l[k.toNat]? with
 | none=>rw [ht] at hx;simp only at hx;rw [ht] at hx;cases hx
 | some t=>
  rw [ht] at hx
  simp only at hx ⊢
  rw [List.getElem?_set_self (List.getElem?_eq_some_iff.1 ht).1] at hx
  rw [List.set_set,hg t (Option.some.inj hx).symm]
end Go.PW
