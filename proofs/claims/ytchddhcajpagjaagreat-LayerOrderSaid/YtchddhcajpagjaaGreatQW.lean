import Derived.Test.YtchddhcajpagjaaGreatQSe
set_option linter.all false
set_option maxRecDepth 100000
namespace Go.PW
def Lds(l:List Int)(N:Int->Int->Prop)(x y:Int):Prop:=∀ S:Int->Prop,(∀ z,z∈l->N x z->S z)->(∀ w z,S w->z∈l->N w z->S z)->S y
theorem Lds.one{l:List Int}{N:Int->Int->Prop}{x y:Int}(hy:y∈l)(h:N x y):Lds l N x y:=fun S a _=>a y hy h
theorem Lds.trans{l:List Int}{N:Int->Int->Prop}{x y z:Int}(h:Lds l N x y)(g:Lds l N y z):Lds l N x z:=fun S a b=>g S (fun w hw hn=>b y w (h S a b) hw hn) b
def mE(m:List (List Bool))(a b:Nat):Bool:=(m[a]?.bind fun y=>y[b]?).getD false
def kB(e:Nat->Nat->Bool):Nat->Nat->Nat->Bool
 | 0,a,b=>e a b
 | m+1,a,b=>kB e m a b||(kB e m a m&&kB e m m b)
theorem Za8h(e:Nat->Nat->Bool)(m a:Nat):kB e (m+1) a m=kB e m a m:=by
 show (kB e m a m||(kB e m a m&&kB e m m m))=_
 cases kB e m a m<;>rfl
theorem Za8i(e:Nat->Nat->Bool)(m b:Nat):kB e (m+1) m b=kB e m m b:=by
 show (kB e m m b||(kB e m m m&&kB e m m b))=_
 cases kB e m m b<;>cases kB e m m m<;>rfl
theorem Zbfk(e:Nat->Nat->Bool){m n a b:Nat}(h:m<=n)(hk:kB e m a b=true):kB e n a b=true:=by
 induction h with
 | refl=>exact hk
 | step _ ih=>show (kB e _ a b||_)=true;rw [ih];rfl
theorem Zayi(e:Nat->Nat->Bool):∀ m c,c < m->∀ a b,kB e m a c=true->kB e m c b=true->kB e m a b=true
 | m+1,c,hc,a,b,h1,h2=>by
  by_cases hcm:c=m
  .subst hcm
   rw [Za8h] at h1;rw [Za8i] at h2
   show (kB e c a b||(kB e c a c&&kB e c c b))=true
   rw [h1,h2];simp
  .have hc':c < m:=by omega
   have ih:=Zayi e m c hc'
   have h1':kB e m a c=true\/(kB e m a m=true/\kB e m m c=true):=by
    have:(kB e m a c||(kB e m a m&&kB e m m c))=true:=h1
    simpa using this
   have h2':kB e m c b=true\/(kB e m c m=true/\kB e m m b=true):=by
    have:(kB e m c b||(kB e m c m&&kB e m m b))=true:=h2
    simpa using this
   show (kB e m a b||(kB e m a m&&kB e m m b))=true
   rcases h1' with h1 | ⟨h1,h1'⟩<;>rcases h2' with h2 | ⟨h2,h2'⟩
   .rw [ih a b h1 h2];rfl
   .rw [ih a m h1 h2,h2'];simp
   .rw [h1,ih m b h1' h2];simp
   .rw [h1,h2'];simp
def eB(l:List Int)(nd:List (List Bool))(a b:Nat):Bool:=nB nd (l[a]?.getD 0) (l[b]?.getD 0)
theorem Zanb{l:List Int}{nd:List (List Bool)}:∀ (m:Nat) (a b:Nat) (x y:Int),m<=l.length->l[a]?=some x->l[b]?=some y->kB (eB l nd) m a b=true->Lds l (fun p q=>nB nd p q=true) x y
 | 0,a,b,x,y,_,ha,hb,h=>by
  have h:nB nd (l[a]?.getD 0) (l[b]?.getD 0)=true:=h
  rw [ha,hb] at h
  exact .one (List.mem_of_getElem? hb) h
 | m+1,a,b,x,y,hm,ha,hb,h=>by
  have h:(kB (eB l nd) m a b||(kB (eB l nd) m a m&&kB (eB l nd) m m b))=true:=h
  have hz:=List.getElem?_eq_getElem (show m < l.length by omega)
  simp only [Bool.or_eq_true,Bool.and_eq_true] at h
  rcases h with h | ⟨h,g⟩
  .exact Zanb m a b x y O ha hb h
  .exact (Zanb m a m x _ O ha hz h).trans (Zanb m m b _ y O hz hb g)
theorem Zbhi{l:List Int}{nd:List (List Bool)}(hl:l.Nodup){a b:Nat}{x y:Int}(ha:l[a]?=some x)(hb:l[b]?=some y):kB (eB l nd) l.length a b=true↔Lds l (fun p q=>nB nd p q=true) x y:=by
 refine⟨Zanb _ a b x y (Nat.le_refl _) ha hb,fun h=>?_⟩
 have e0:∀ {p q:Nat} {u v:Int},l[p]?=some u->l[q]?=some v->nB nd u v=true->kB (eB l nd) l.length p q=true:=fun {p q u v} hp hq hn=>
  Zbfk _ (Nat.zero_le _) (by show nB nd (l[p]?.getD 0) (l[q]?.getD 0)=true;rw [hp,hq];exact hn)
 obtain⟨c,hc,hk⟩:=h (fun y=>∃ b:Nat,l[b]?=some y/\kB (eB l nd) l.length a b=true)
  (fun z hz hn=>by obtain⟨c,hc⟩:=List.mem_iff_getElem?.1 hz;exact⟨c,hc,e0 ha hc hn⟩)
  (fun w z ⟨c,hc,hk⟩ hz hn=>by
   obtain⟨d,hd⟩:=List.mem_iff_getElem?.1 hz
   exact⟨d,hd,Zayi _ _ c (List.getElem?_eq_some_iff.1 hc).1 a d hk (e0 hc hd hn)⟩)
 rw [Zabk hl hb hc];exact hk
def MK(n:Nat)(m:List (List Bool))(f:Nat->Nat->Bool):Prop:=∀ a b,a < n->b < n->mE m a b=f a b
theorem Zanc{m:List (List Bool)}{a b:Nat}{y:List Bool}{v:Bool}(h:m[a]?=some y)(g:y[b]?=some v):v=mE m a b:=by unfold mE;rw [h,Option.bind_some,g];rfl
theorem Za8j{m:List (List Bool)}{i j a b:Nat}{y:List Bool}{v:Bool}(h:m[i]?=some y)(hj:j < y.length):mE (m.set i (y.set j v)) a b=if a=i/\b=j then v else mE m a b:=by
 unfold mE
 by_cases ha:a=i
 .subst ha
  rw [List.getElem?_set_self (List.getElem?_eq_some_iff.1 h).1,h,Option.bind_some,Option.bind_some]
  by_cases hb:b=j
  .subst hb;rw [List.getElem?_set_self hj,if_pos ⟨rfl,rfl⟩];rfl
  .rw [List.getElem?_set_ne (fun e=>hb e.symm),if_neg (fun e=>hb e.2)]
 .rw [List.getElem?_set_ne (fun e=>ha e.symm),if_neg (fun e=>ha e.1)]
def sel(f g:Nat->Nat->Bool)(i j:Nat)(a b:Nat):Bool:=if a < i\/(a=i/\b < j) then f a b else g a b
theorem Za8k{n:Nat}{m z:List (List Bool)}{f g:Nat->Nat->Bool}{i i' j j':Int}{y:List Bool}{v q:Bool}(h:MK n m (sel f g i.toNat j.toNat))(e:z=m.set i'.toNat (y.set j.toNat v))(hy:m[i'.toNat]?=some y)(hq:y[j.toNat]?=some q)(ei:i'=i)(hv:v=f i'.toNat j.toNat)(h0:0<=j)(hj':j'=j+1):MK n z (sel f g i.toNat j'.toNat):=fun a b ha hb=>by
 subst e;subst ei
 have hj:=(List.getElem?_eq_some_iff.1 hq).1
 have e':j'.toNat=j.toNat+1:=by omega
 rw [Za8j hy hj,e']
 have:=h a b ha hb
 unfold sel at *
 by_cases hc:a=i'.toNat/\b=j.toNat
 .rw [if_pos hc,if_pos (.inr ⟨hc.1,by omega⟩),hv,hc.1,hc.2]
 .rw [if_neg hc,this]
  by_cases h1:a < i'.toNat\/(a=i'.toNat/\b < j.toNat)
  .rw [if_pos h1,if_pos O]
  .rw [if_neg h1,if_neg O]
theorem Za2d{n:Nat}{m:List (List Bool)}{f g:Nat->Nat->Bool}{i j j':Int}(h:MK n m (sel f g i.toNat j.toNat))(hv:f i.toNat j.toNat=g i.toNat j.toNat)(h0:0<=j)(hj':j'=j+1):MK n m (sel f g i.toNat j'.toNat):=fun a b ha hb=>by
 have e':j'.toNat=j.toNat+1:=by omega
 rw [h a b ha hb,e']
 unfold sel
 by_cases hc:a=i.toNat/\b=j.toNat
 .rw [if_neg O,if_pos O,hc.1,hc.2,hv]
 .by_cases h1:a < i.toNat\/(a=i.toNat/\b < j.toNat)
  .rw [if_pos h1,if_pos O]
  .rw [if_neg h1,if_neg O]
theorem Za8l{n:Nat}{m:List (List Bool)}{f g:Nat->Nat->Bool}{i i' j:Int}(h:MK n m (sel f g i.toNat j.toNat))(h0:0<=i)(hj:(n:Int)<=j)(hi:i'=i+1):MK n m (sel f g i'.toNat (0:Int).toNat):=fun a b ha hb=>by
 have e':i'.toNat=i.toNat+1:=by omega
 rw [h a b ha hb,e']
 unfold sel
 by_cases h1:a < i.toNat\/(a=i.toNat/\b < j.toNat)
 .rw [if_pos h1,if_pos O]
 .rw [if_neg h1,if_neg (by show ¬ (a < i.toNat+1\/(a=i.toNat+1/\b < 0));omega)]
theorem Za8m{n:Nat}{m:List (List Bool)}{f g:Nat->Nat->Bool}{i:Int}(h:MK n m (sel f g i.toNat (0:Int).toNat))(hi:(n:Int)<=i):MK n m f:=fun a b ha hb=>by
 rw [h a b ha hb];unfold sel;rw [if_pos (.inl O)]
theorem MK_0{n:Nat}{m:List (List Bool)}{f g:Nat->Nat->Bool}(h:MK n m g):MK n m (sel f g (0:Int).toNat (0:Int).toNat):=fun a b ha hb=>by
 rw [h a b ha hb];unfold sel;rw [if_neg (by show ¬ (a < 0\/(a=0/\b < 0));omega)]
theorem Zblb{n:Nat}{m z:List (List Bool)}{f:Nat->Nat->Bool}{i:Int}{y:List Bool}{q p1 p2:Prop}(h:MK n m (sel f (fun _ _=>false) i.toNat (0:Int).toNat))(e:p1/\p2/\z=m.set i.toNat y)(hy:q/\∀ e,e∈y->e=false):MK n z (sel f (fun _ _=>false) i.toNat (0:Int).toNat):=fun a b ha hb=>by
 have:=h a b ha hb
 obtain⟨_,_,e⟩:=e
 subst e
 by_cases hc:a=i.toNat
 .subst hc
  unfold sel
  rw [if_neg (by show ¬ (i.toNat < i.toNat\/(i.toNat=i.toNat/\b < 0));omega)]
  unfold mE
  rw [List.getElem?_set_self']
  cases hm:m[i.toNat]? with
  | none=>rfl
  | some q=>
   show (y[b]?).getD false=false
   cases hq:y[b]? with
   | none=>rfl
   | some c=>exact hy.2 c (List.mem_of_getElem? hq)
 .unfold mE at *
  rw [List.getElem?_set_ne (fun e=>hc e.symm)];exact this
theorem Zbhk{n:Nat}{m:List (List Bool)}{f:Nat->Nat->Bool}{q:Prop}(h:q/\∀ e,e∈m->e=[]):MK n m (sel f (fun _ _=>false) (0:Int).toNat (0:Int).toNat):=MK_0 fun a b _ _=>by
 unfold mE
 cases hm:m[a]? with
 | none=>rfl
 | some q=>rw [h.2 q (List.mem_of_getElem? hm)];rfl
theorem Zaeo{α β:Type}{f:β->α->β}{a z:β}{l:List α}{v w:Int}{x:α}(hx:l[v.toNat]?=some x)(h0:0<=v)(hw:w=v+1)(h:z=(l.take v.toNat).foldl f a):f z x=(l.take w.toNat).foldl f a:=by
 rw [Zci hx h0 hw,List.foldl_append,<- h];rfl
theorem Za8n{α β:Type}{f:β->α->β}{a z:β}{l:List α}{v:Int}(h:z=(l.take v.toNat).foldl f a)(hv:(l.length:Int)<=v):z=l.foldl f a:=by
 rw [h,List.take_of_length_le O]
def elF(out:List Int)(i:Int):List Int:=if 0<=i/\i∉out then out++[i] else out
def elV(l:List Int):List Int:=l.foldl elF []
theorem Zayj(l:List Int):∀ out:List Int,out.Nodup->(l.foldl elF out).Nodup/\∀ x,x∈l.foldl elF out↔x∈out\/(x∈l/\0<=x):=by
 induction l with
 | nil=>intro out h;exact⟨h,fun x=>by simp⟩
 | cons a l ih=>
  intro out h
  rw [List.foldl_cons]
  by_cases hc:0<=a/\a∉out
  .have e:elF out a=out++[a]:=if_pos hc
   rw [e]
   obtain⟨h1,h2⟩:=ih (out++[a]) (Zzm h hc.2)
   refine⟨h1,fun x=>?_⟩
   rw [h2 x,List.mem_append,List.mem_singleton,List.mem_cons]
   constructor
   .rintro ((h | rfl) | h)
    .exact .inl h
    .exact .inr ⟨.inl rfl,hc.1⟩
    .exact .inr ⟨.inr h.1,h.2⟩
   .rintro (h | ⟨rfl | h,g⟩)
    .exact .inl (.inl h)
    .exact .inl (.inr rfl)
    .exact .inr ⟨h,g⟩
  .have e:elF out a=out:=if_neg hc
   rw [e]
   obtain⟨h1,h2⟩:=ih out h
   refine⟨h1,fun x=>?_⟩
   rw [h2 x,List.mem_cons]
   constructor
   .rintro (h | h)
    .exact .inl h
    .exact .inr ⟨.inr h.1,h.2⟩
   .rintro (h | ⟨rfl | h,g⟩)
    .exact .inl h
    .exact .inl (Classical.byContradiction fun hn=>hc ⟨g,hn⟩)
    .exact .inr ⟨h,g⟩
theorem Za8o(l:List Int):(elV l).Nodup:=(Zayj l [] List.nodup_nil).1
theorem Zvl{l:List Int}{x:Int}:x∈elV l↔x∈l/\0<=x:=by
 have:=(Zayj l [] List.nodup_nil).2 x
 unfold elV
 simpa using this
theorem Zbhl{l:List Int}(h:l.Nodup)(h0:∀ x,x∈l->0<=x):elV l=l:=by
 have key:∀ (l out:List Int),(out++l).Nodup->(∀ x,x∈l->0<=x)->l.foldl elF out=out++l:=by
  intro l
  induction l with
  | nil=>intro out _ _;simp
  | cons a l ih=>
   intro out hn hp
   have ha:a∉out:=fun hm=>by
    have:=(List.nodup_append.1 hn).2.2 a hm a (by simp)
    exact this rfl
   rw [List.foldl_cons,show elF out a=out++[a] from if_pos ⟨hp a (by simp),ha⟩,ih (out++[a]) (by rw [List.append_assoc];exact hn) (fun x hx=>hp x (List.mem_cons_of_mem _ hx)),List.append_assoc]
   rfl
 exact (key l [] (by simpa using h) h0).trans (by simp)
theorem el_y{l out z:List Int}{v w x:Int}(hx:l[v.toNat]?=some x)(h:out=(l.take v.toNat).foldl elF [])(h0:0<=v)(hw:w=v+1)(hp:0<=x)(hn:x∉out)(hz:z=out++[x]):z=(l.take w.toNat).foldl elF []:=by
 rw [<- Zaeo hx h0 hw h,hz];exact (if_pos ⟨hp,hn⟩).symm
theorem el_n{l out:List Int}{v w x:Int}(hx:l[v.toNat]?=some x)(h:out=(l.take v.toNat).foldl elF [])(h0:0<=v)(hw:w=v+1)(hp:x < 0\/x∈out):out=(l.take w.toNat).foldl elF []:=by
 rw [<- Zaeo hx h0 hw h];exact (if_neg fun k=>hp.elim (fun e=>by omega) k.2).symm
def RDL(l:List Int)(nd:Int->Int->Bool)(x:Int):Prop:=∀ j,j∈l->j≠x->nd x j=true->Lds l (fun p q=>nd p q=true) j x
noncomputable def rdB(l:List Int)(nd:Int->Int->Bool)(x:Int):Bool := @decide (RDL l nd x) (Classical.propDecidable _)
theorem Zaep{l:List Int}{nd:Int->Int->Bool}{x:Int}(h:RDL l nd x):rdB l nd x=true:=by unfold rdB;exact @decide_eq_true _ (Classical.propDecidable _) h
theorem Zand{l:List Int}{nd:Int->Int->Bool}{x:Int}(h:¬ RDL l nd x):rdB l nd x=false:=by unfold rdB;exact @decide_eq_false _ (Classical.propDecidable _) h
noncomputable def rdV(l:List Int)(nd:Int->Int->Bool):List Int:=l.filter (rdB l nd)
def stp(st:List Int)(i:Int):Int:=st[i.toNat]?.getD 0
def nxF(st:List Int)(b i:Int):Int:=if b < 0\/stp st i < stp st b\/(stp st i=stp st b/\i < b) then i else b
noncomputable def nxV(left st:List Int)(nd:Int->Int->Bool):Int:=(rdV (elV left) nd).foldl (nxF st) (-1)
theorem Lds.cong{l:List Int}{N M:Int->Int->Prop}(h:∀ x y,x∈l->y∈l->(N x y↔M x y)){x y:Int}(hx:x∈l)(g:Lds l N x y):Lds l M x y:=by
 refine (g (fun z=>z∈l/\Lds l M x z) (fun z hz hn=>⟨hz,.one hz ((h x z hx hz).1 hn)⟩) (fun w z ⟨hw,k⟩ hz hn=>⟨hz,k.trans (.one hz ((h w z hw hz).1 hn))⟩)).2
theorem Zbbf{l:List Int}{nd md:Int->Int->Bool}(h:∀ x y,x∈l->y∈l->nd x y=md x y):rdV l nd=rdV l md:=by
 unfold rdV
 refine List.filter_congr fun x hx=>?_
 have:RDL l nd x↔RDL l md x:=
  ⟨fun k j hj hne hb=>(k j hj hne (by rw [h x j hx hj];exact hb)).cong (fun a b ha hb=>by rw [h a b ha hb]) hj,fun k j hj hne hb=>(k j hj hne (by rw [<- h x j hx hj];exact hb)).cong (fun a b ha hb=>by rw [h a b ha hb]) hj⟩
 by_cases hc:RDL l nd x
 .rw [Zaep hc,Zaep (this.1 hc)]
 .rw [Zand hc,Zand fun k=>hc (this.2 k)]
theorem Za8p{l:List Int}{nd:Int->Int->Bool}(hn:l.Nodup)(hl:l≠[]):∃ i,i∈rdV l nd:=by
 classical
 obtain⟨i,hi,h⟩:=Zbaq (N:=fun p q=>nd p q=true) (R:=fun i=>l.filter fun y=>decide (Lds l (fun p q=>nd p q=true) i y)) hl (fun i hi=>by
  have e:∀ y,y∈(l.filter fun y=>decide (Lds l (fun p q=>nd p q=true) i y))↔y∈l/\Lds l (fun p q=>nd p q=true) i y:=fun y=>by rw [List.mem_filter];simp
  exact⟨hn.filter _,fun x hx=>((e x).1 hx).1,fun x hx hb=>(e x).2 ⟨hx,.one hx hb⟩,fun y hy x hx hb=>(e x).2 ⟨hx,((e y).1 hy).2.trans (.one hx hb)⟩,fun S a b x hx=>((e x).1 hx).2 S a b⟩)
 refine⟨i,List.mem_filter.2 ⟨hi,Zaep fun j hj hne hb=>?_⟩⟩
 have:=h j hj hne hb
 rw [List.mem_filter] at this
 simpa using this.2
theorem Zapo{st:List Int}:∀ (l:List Int) (b:Int),(∀ x,x∈l->0<=x)->(b < 0/\l=[]/\l.foldl (nxF st) b=b)\/((l≠[]\/0<=b)/\0<=l.foldl (nxF st) b/\(l.foldl (nxF st) b∈l\/l.foldl (nxF st) b=b))
 | [],b,_=>by
  by_cases h:b < 0
  .exact .inl ⟨h,rfl,rfl⟩
  .exact .inr ⟨.inr O,by show 0<=b;omega,.inr rfl⟩
 | a::l,b,h=>by
  right
  rw [List.foldl_cons]
  have ha:=h a (by simp)
  have hc:nxF st b a=a\/(nxF st b a=b/\0<=b):=by
   unfold nxF
   split
   .exact .inl rfl
   .exact .inr ⟨rfl,by omega⟩
  have h0:0<=nxF st b a:=by rcases hc with e | ⟨e,g⟩<;>omega
  rcases Zapo (st:=st) l (nxF st b a) (fun x hx=>h x (List.mem_cons_of_mem _ hx)) with ⟨k,_⟩ | ⟨_,k1,k2⟩
  .omega
  .refine⟨.inl (by simp),k1,?_⟩
   rcases k2 with k | k
   .exact .inl (List.mem_cons_of_mem _ k)
   .rw [k]
    rcases hc with e | ⟨e,_⟩
    .rw [e];exact .inl (by simp)
    .exact .inr e
theorem Zbfl{left st:List Int}{nd:Int->Int->Bool}(h:∃ x,x∈left/\0<=x):nxV left st nd∈left/\0<=nxV left st nd:=by
 obtain⟨x,hx,h0⟩:=h
 have hne:elV left≠[]:=fun e=>by have:=Zvl.2 ⟨hx,h0⟩;rw [e] at this;cases this
 obtain⟨i,hi⟩:=Za8p (nd:=nd) (Za8o left) hne
 have hsub:∀ y,y∈rdV (elV left) nd->y∈left/\0<=y:=fun y hy=>Zvl.1 (List.mem_filter.1 hy).1
 unfold nxV
 rcases Zapo (st:=st) (rdV (elV left) nd) (-1) (fun y hy=>(hsub y hy).2) with ⟨_,k,_⟩ | ⟨_,k1,k2⟩
 .rw [k] at hi;cases hi
 .rcases k2 with k | k
  .exact⟨(hsub _ k).1,k1⟩
  .omega
theorem Zbbg{left st:List Int}{nd md:Int->Int->Bool}(h:∀ x y,x∈left->y∈left->0<=x->0<=y->nd x y=md x y):nxV left st nd=nxV left st md:=by
 unfold nxV
 rw [Zbbf fun x y hx hy=>h x y (Zvl.1 hx).1 (Zvl.1 hy).1 (Zvl.1 hx).2 (Zvl.1 hy).2]
theorem nx_y{l st:List Int}{b x v w:Int}(hx:l[v.toNat]?=some x)(h:b=(l.take v.toNat).foldl (nxF st) (-1))(h0:0<=v)(hw:w=v+1)(hc:b < 0\/stp st x < stp st b\/(stp st x=stp st b/\x < b)):x=(l.take w.toNat).foldl (nxF st) (-1):=by
 rw [<- Zaeo hx h0 hw h];exact (if_pos hc).symm
theorem nx_n{l st:List Int}{b x v w:Int}(hx:l[v.toNat]?=some x)(h:b=(l.take v.toNat).foldl (nxF st) (-1))(h0:0<=v)(hw:w=v+1)(hc:¬ (b < 0\/stp st x < stp st b\/(stp st x=stp st b/\x < b))):b=(l.take w.toNat).foldl (nxF st) (-1):=by
 rw [<- Zaeo hx h0 hw h];exact (if_neg hc).symm
theorem Zblc{l:List Int}{nd:List (List Bool)}{a b x y:Int}{r:Bool}(ha:l[a.toNat]?=some x)(hb:l[b.toNat]?=some y)(h:0<=x->0<=y->r=nB nd x y)(hp:POS l):r=eB l nd a.toNat b.toNat:=by
 unfold eB
 rw [ha,hb]
 exact h (hp x (List.mem_of_getElem? ha)) (hp y (List.mem_of_getElem? hb))
theorem Zbld{n:Nat}{m:List (List Bool)}{e:Nat->Nat->Bool}(h:MK n m e):MK n m (kB e (0:Int).toNat):=h
theorem Zble{n:Nat}{m:List (List Bool)}{e:Nat->Nat->Bool}{g:Nat->Nat->Bool}{v w i:Int}(h:MK n m (sel (kB e (v.toNat+1)) g i.toNat (0:Int).toNat))(hi:(n:Int)<=i)(h0:0<=v)(hw:w=v+1):MK n m (kB e w.toNat):=by
 have:w.toNat=v.toNat+1:=by omega
 rw [this];exact Za8m h hi
theorem Za2e{e:Nat->Nat->Bool}{m i j a:Nat}:sel (kB e (m+1)) (kB e m) i j a m=kB e m a m:=by
 unfold sel;split
 .exact Za8h e m a
 .rfl
theorem Za2f{e:Nat->Nat->Bool}{m i j b:Nat}:sel (kB e (m+1)) (kB e m) i j m b=kB e m m b:=by
 unfold sel;split
 .exact Za8i e m b
 .rfl
theorem wm_y{n:Nat}{M:List (List Bool)}{e:Nat->Nat->Bool}{m i j m' i':Int}{ra rm:List Bool}{x y:Bool}(h:MK n M (sel (kB e (m.toNat+1)) (kB e m.toNat) i.toNat j.toNat))(hx:ra[m'.toNat]?=some x)(ha:M[i'.toNat]?=some ra)(hm:M[m'.toNat]?=some rm)(hy:rm[j.toNat]?=some y)(em:m'=m)(ei:i'=i)(h0:0<=i)(g0:0<=j)(m0:0<=m)(h1:i < n)(g1:j < n)(m1:m < n)(ex:x=true)(ey:y=true):true=kB e (m.toNat+1) i'.toNat j.toNat:=by
 subst em;subst ei
 have a:=(Zanc ha hx).trans (h i'.toNat m'.toNat O O)
 have b:=(Zanc hm hy).trans (h m'.toNat j.toNat O O)
 rw [Za2e] at a;rw [Za2f] at b
 show true=(kB e m'.toNat i'.toNat j.toNat||(kB e m'.toNat i'.toNat m'.toNat&&kB e m'.toNat m'.toNat j.toNat))
 rw [<- a,<- b,ex,ey];simp
theorem wm_a{n:Nat}{M:List (List Bool)}{e:Nat->Nat->Bool}{m i j m' i':Int}{ra:List Bool}{x:Bool}(h:MK n M (sel (kB e (m.toNat+1)) (kB e m.toNat) i.toNat j.toNat))(hx:ra[m'.toNat]?=some x)(ha:M[i'.toNat]?=some ra)(em:m'=m)(ei:i'=i)(h0:0<=i)(m0:0<=m)(h1:i < n)(m1:m < n)(ex:x=false):kB e (m.toNat+1) i.toNat j.toNat=kB e m.toNat i.toNat j.toNat:=by
 subst em;subst ei
 have a:=(Zanc ha hx).trans (h i'.toNat m'.toNat O O)
 rw [Za2e] at a
 show (kB e m'.toNat i'.toNat j.toNat||(kB e m'.toNat i'.toNat m'.toNat&&kB e m'.toNat m'.toNat j.toNat))=_
 rw [<- a,ex];simp
theorem wm_b{n:Nat}{M:List (List Bool)}{e:Nat->Nat->Bool}{m i j m':Int}{rm:List Bool}{y:Bool}(h:MK n M (sel (kB e (m.toNat+1)) (kB e m.toNat) i.toNat j.toNat))(hm:M[m'.toNat]?=some rm)(hy:rm[j.toNat]?=some y)(em:m'=m)(g0:0<=j)(m0:0<=m)(g1:j < n)(m1:m < n)(ey:y=false):kB e (m.toNat+1) i.toNat j.toNat=kB e m.toNat i.toNat j.toNat:=by
 subst em
 have b:=(Zanc hm hy).trans (h m'.toNat j.toNat O O)
 rw [Za2f] at b
 show (kB e m'.toNat i.toNat j.toNat||(kB e m'.toNat i.toNat m'.toNat&&kB e m'.toNat m'.toNat j.toNat))=_
 rw [<- b,ey];simp
theorem Zbfm(l:List Int):POS (elV l):=fun _ h=>(Zvl.1 h).2
def ixI(l:List Int)(x:Int):Int:=if x∈l then (l.idxOf x:Int) else -1
theorem Zbct{l:List Int}{x v:Int}(h:∀ (k:Nat) y,(k:Int) < v->l[k]?=some y->y≠x)(hx:l[v.toNat]?=some x)(h0:0<=v):v=ixI l x:=by
 have hm:=List.mem_of_getElem? hx
 have hl:=(List.getElem?_eq_some_iff.1 hx).1
 have g1:=List.idxOf_lt_length_iff.2 hm
 have g2:l[l.idxOf x]?=some x:=by rw [List.getElem?_eq_getElem g1,List.getElem_idxOf g1]
 unfold ixI
 rw [if_pos hm]
 rcases Nat.lt_trichotomy (l.idxOf x) v.toNat with k | k | k
 .exact absurd rfl (h _ x O g2)
 .omega
 .have:=List.not_of_lt_findIdx (p:=(· == x)) (xs:=l) (i:=v.toNat) (by exact k)
  rw [(List.getElem?_eq_some_iff.1 hx).2] at this
  simp at this
theorem Zblf{l:List Int}{x v:Int}(h:∀ (k:Nat) y,(k:Int) < v->l[k]?=some y->y≠x)(hv:(l.length:Int)<=v) : -1=ixI l x:=by
 unfold ixI
 rw [if_neg fun hm=>by
  obtain⟨k,hk⟩:=List.mem_iff_getElem?.1 hm
  have:=(List.getElem?_eq_some_iff.1 hk).1
  exact h k x O hk rfl]
def ldV(l:List Int)(m:List (List Bool))(i j:Int):Bool:=decide (0<=ixI l i)&&(decide (0<=ixI l j)&&mE m (ixI l i).toNat (ixI l j).toNat)
theorem ld_y{l:List Int}{m:List (List Bool)}{i j a b:Int}{y:List Bool}{v:Bool}(ha:a=ixI l i)(hb:b=ixI l j)(h0:a>=0)(g0:b>=0)(hm:m[a.toNat]?=some y)(hy:y[b.toNat]?=some v):v=ldV l m i j:=by
 subst ha;subst hb
 unfold ldV
 rw [decide_eq_true (show 0<=ixI l i from h0),decide_eq_true (show 0<=ixI l j from g0),<- Zanc hm hy];rfl
theorem ld_a{l:List Int}{m:List (List Bool)}{i j a:Int}(ha:a=ixI l i)(h0:¬ a>=0):false=ldV l m i j:=by
 subst ha;unfold ldV;rw [decide_eq_false (show ¬ 0<=ixI l i from h0)];rfl
theorem ld_b{l:List Int}{m:List (List Bool)}{i j b:Int}(hb:b=ixI l j)(h0:¬ b>=0):false=ldV l m i j:=by
 subst hb;unfold ldV;rw [decide_eq_false (show ¬ 0<=ixI l j from h0)];simp
def wtP(nd:List (List Bool))(c:List Int×List (List Bool))(i j:Int):Bool:=(j != i)&&(nB nd i j && !ldV c.1 c.2 j i)
theorem Za8q{l:List Int}{x:Int}(hx:x∈l):l[(ixI l x).toNat]?=some x/\0<=ixI l x:=by
 have g1:=List.idxOf_lt_length_iff.2 hx
 unfold ixI
 rw [if_pos hx,Int.toNat_natCast,List.getElem?_eq_getElem g1,List.getElem_idxOf g1]
 exact⟨rfl,by omega⟩
theorem Za2g{l:List Int}{m:List (List Bool)}{nd:List (List Bool)}(hl:l.Nodup)(h:MK l.length m (kB (eB l nd) l.length)){i j:Int}(hi:i∈l)(hj:j∈l):ldV l m i j=true↔Lds l (fun p q=>nB nd p q=true) i j:=by
 obtain⟨h1,h2⟩:=Za8q hi
 obtain⟨g1,g2⟩:=Za8q hj
 unfold ldV
 rw [decide_eq_true h2,decide_eq_true g2,h _ _ (List.getElem?_eq_some_iff.1 h1).1 (List.getElem?_eq_some_iff.1 g1).1]
 simp only [Bool.true_and]
 exact Zbhi hl h1 g1
theorem Zblg{l:List Int}{m:List (List Bool)}{nd:List (List Bool)}{i:Int}{c:Bool}(hl:l.Nodup)(h:MK l.length m (kB (eB l nd) l.length))(hi:i∈l)(hc:c=true↔∃ j,j∈l/\wtP nd (l,m) i j=true):rdB l (nB nd) i = !c:=by
 have key:(∃ j,j∈l/\wtP nd (l,m) i j=true)↔¬ RDL l (nB nd) i:=by
  constructor
  .rintro ⟨j,hj,hw⟩ hr
   unfold wtP at hw
   simp only [Bool.and_eq_true,bne_iff_ne,ne_eq,Bool.not_eq_true'] at hw
   have:=(Za2g hl h hj hi).2 (hr j hj hw.1 hw.2.1)
   rw [hw.2.2] at this;cases this
  .intro hr
   refine Classical.byContradiction fun hn=>hr fun j hj hne hb=>?_
   refine Classical.byContradiction fun hd=>hn ⟨j,hj,?_⟩
   unfold wtP
   have:ldV l m j i=false:=by
    cases hb:ldV l m j i with
    | false=>rfl
    | true=>exact absurd ((Za2g hl h hj hi).1 hb) hd
   rw [this,hb]
   simp [hne]
 cases hcc:c with
 | true=>exact Zand (key.1 (hc.1 hcc))
 | false=>exact Zaep (Classical.byContradiction fun hn=>by rw [hc.2 (key.2 hn)] at hcc;cases hcc)
theorem el_y'{l out z:List Int}{v w x:Int}{c:Bool}(hx:l[v.toNat]?=some x)(h:out=(l.take v.toNat).foldl elF [])(h0:0<=v)(hw:w=v+1)(hp:0<=x)(hc:c=true↔x∈out)(hb:c=false)(hz:z=out++[x]):z=(l.take w.toNat).foldl elF []:=
 el_y hx h h0 hw hp (fun hm=>by rw [hc.2 hm] at hb;cases hb) hz
theorem el_n'{l out:List Int}{v w x:Int}{c:Bool}(hx:l[v.toNat]?=some x)(h:out=(l.take v.toNat).foldl elF [])(h0:0<=v)(hw:w=v+1)(hc:c=true↔x∈out)(hb:c=true):out=(l.take w.toNat).foldl elF []:=
 el_n hx h h0 hw (.inr (hc.1 hb))
theorem ixc{l:List Int}{a x:Int}(h:x=ixI l a):decide (x>=0)=true↔a∈l:=by
 subst h;unfold ixI
 split
 .rename_i h;simp [h]
 .rename_i h;simp [h]
theorem Zbhn{m:List (List Bool)}{e:Nat->Nat->Bool}{v w:Int}{k:Nat}(h:MK v.toNat m (kB e w.toNat))(e1:v=k)(h1:w<=v)(h2:v<=w):MK k m (kB e k):=by
 have a:v.toNat=k:=by omega
 have b:w.toNat=k:=by omega
 rw [a,b] at h;exact h
theorem Za8r{a b:List Int}(h:b=elV a):POS b:=by rw [h];exact Zbfm a
def FX(l:List Int)(p:Int->Bool)(r:Int):Prop:=decide (r>=0)=true↔∃ x,x∈l/\p x=true
theorem fx_y{l:List Int}{p:Int->Bool}{v x:Int}(hx:l[v.toNat]?=some x)(h0:0<=v)(hp:p x=true):FX l p v:=⟨fun _=>⟨x,List.mem_of_getElem? hx,hp⟩,fun _=>decide_eq_true h0⟩
theorem fx_n{l:List Int}{p:Int->Bool}{v:Int}(h:∀ (k:Nat) y,(k:Int) < v->l[k]?=some y->p y=false)(hv:(l.length:Int)<=v):FX l p (-1):=
 ⟨fun k=>absurd k (by decide),fun⟨x,hx,hp⟩=>by
  obtain⟨k,hk⟩:=List.mem_iff_getElem?.1 hx
  have:=(List.getElem?_eq_some_iff.1 hk).1
  rw [h k x O hk] at hp;cases hp⟩
theorem rd_c{a l v5:List Int}{b1:List Int×List (List Bool)}{nd0 nd:List (List Bool)}{x v:Int}{y:Bool×Int×List (List Bool)×(List Int×List (List Bool))}(hc:y.1=true↔∃ j,j∈v5/\wtP nd0 b1 x j=true)(ey:y.2=(x,nd0,b1))(hx:l[v.toNat]?=some x)(e1:b1.1=l)(e2:nd0=nd)(e3:v5=l)(hl:l=elV a)(h:MK l.length b1.2 (kB (eB l nd) l.length)):rdB l (nB nd) y.2.1 = !y.1:=by
 subst e1;subst e2;subst e3
 rw [ey]
 exact Zblg (by rw [hl];exact Za8o a) h (List.mem_of_getElem? hx) hc
theorem nx_e{left st l:List Int}{N:Int->Int->Bool}{v w:Int}(h:v=(l.take w.toNat).foldl (nxF st) (-1))(e:l=rdV (elV left) N)(hw:(l.length:Int)<=w):v=nxV left st N:=by
 rw [Za8n h hw,e];rfl
end Go.PW
set_option maxRecDepth 100000
namespace Go.PW
def zfm{α β:Type}(p:Int->α->Bool)(f:Int->α->β)(l:List α)(v:Int):List β:=((l.take v.toNat).zipIdx.filter fun q=>p q.2 q.1).map fun q=>f q.2 q.1
theorem Zai9{α β:Type}{p:Int->α->Bool}{f:Int->α->β}{l:List α}{v w:Int}{x:α}(hx:l[v.toNat]?=some x)(h0:0<=v)(hw:w=v+1):zfm p f l w=zfm p f l v++if p v x then [f v x] else []:=by
 subst hw
 have hv:(v+1).toNat=v.toNat+1:=by omega
 have hlt:=(List.getElem?_eq_some_iff.1 hx).1
 have e:((v.toNat:Nat):Int)=v:=Int.toNat_of_nonneg h0
 unfold zfm
 rw [hv,List.take_add_one,hx,Option.toList_some,List.zipIdx_append,List.filter_append,List.map_append]
 congr 1
 rw [List.length_take,Nat.min_eq_left O,Nat.zero_add]
 simp only [List.zipIdx_cons,List.zipIdx_nil,List.filter_cons,List.filter_nil,e]
 split
 .simp only [List.map_cons,List.map_nil,e]
 .rfl
theorem Za37{α β:Type}{p:Int->α->Bool}{f:Int->α->β}{l:List α}:[]=zfm p f l 0:=by simp [zfm]
theorem Zbcu{α β:Type}{p:Int->α->Bool}{f:Int->α->β}{l:List α}{a z:List β}{v w:Int}{x:α}{y:β}(hx:l[v.toNat]?=some x)(ha:a=zfm p f l v)(h0:0<=v)(hw:w=v+1)(hz:z=a++[y])(hp:p v x=true)(hy:y=f v x):z=zfm p f l w:=by
 rw [Zai9 hx h0 hw,if_pos hp,hz,ha,hy]
theorem Zbcv{α β:Type}{p:Int->α->Bool}{f:Int->α->β}{l:List α}{a:List β}{v w:Int}{x:α}(hx:l[v.toNat]?=some x)(ha:a=zfm p f l v)(h0:0<=v)(hw:w=v+1)(hp:p v x=false):a=zfm p f l w:=by
 rw [Zai9 hx h0 hw,hp,ha];simp
theorem Zapp{α β:Type}{p:Int->α->Bool}{f:Int->α->β}{l:List α}{a:List β}{v:Int}(ha:a=zfm p f l v)(hv:(l.length:Int)<=v):a=zfm p f l l.length:=by
 rw [ha];unfold zfm;rw [List.take_of_length_le (show l.length<=v.toNat by omega),List.take_of_length_le (show l.length<=((l.length:Int)).toNat by omega)]
theorem Za2h{α β:Type}{p:Int->α->Bool}{f:Int->α->β}{l:List α}{y:β}:y∈zfm p f l l.length↔∃ (k:Nat) (x:α),l[k]?=some x/\p k x=true/\y=f k x:=by
 unfold zfm
 rw [List.take_of_length_le (show l.length<=((l.length:Int)).toNat by omega)]
 simp only [List.mem_map,List.mem_filter,Prod.exists]
 constructor
 .rintro ⟨x,k,⟨h1,h2⟩,rfl⟩
  exact⟨k,x,List.mem_zipIdx_iff_getElem?.1 h1,h2,rfl⟩
 .rintro ⟨k,x,h1,h2,rfl⟩
  exact⟨x,k,⟨List.mem_zipIdx_iff_getElem?.2 h1,h2⟩,rfl⟩
theorem Zayk{α:Type}{p:Int->α->Bool}{l:List α}{v:Int}:(zfm p (fun k _=>k) l v).Nodup:=by
 have key:∀ n:Nat,n<=l.length->(zfm p (fun k _=>k) l n).Nodup/\∀ y,y∈zfm p (fun k _=>k) l n->y < n:=by
  intro n
  induction n with
  | zero=>intro _;rw [show ((0:Nat):Int)=0 from rfl,<- Za37];exact⟨List.nodup_nil,fun y h=>by cases h⟩
  | succ n ih=>
   intro hn
   obtain⟨h1,h2⟩:=ih O
   have hx:=List.getElem?_eq_getElem (show (n:Int).toNat < l.length by omega)
   rw [Zai9 (w:=((n+1:Nat):Int)) hx O O]
   split
   .refine⟨Zzm h1 fun hm=>by have:=h2 _ hm;omega,fun y hy=>?_⟩
    rcases List.mem_append.1 hy with h | h
    .have:=h2 y h;omega
    .rw [List.mem_singleton] at h;omega
   .rw [List.append_nil];exact⟨h1,fun y hy=>by have:=h2 y hy;omega⟩
 by_cases hv:v.toNat<=l.length
 .have:=(key v.toNat hv).1
  by_cases h0:0<=v
  .rwa [Int.toNat_of_nonneg h0] at this
  .have e:v.toNat=0:=by omega
   unfold zfm;rw [e];exact List.nodup_nil
 .have:=(key l.length (Nat.le_refl _)).1
  unfold zfm at *
  rwa [List.take_of_length_le (show l.length<=((l.length:Int)).toNat by omega),<- List.take_of_length_le (show l.length<=v.toNat by omega)] at this
theorem Zbho{α β:Type}{f g:Nat->α->β}{l:List α}{z z':List β}{k:Nat}{y:β}(h:z=l.mapIdx f)(e:z'=z.set k y)(hf:∀ j x,l[j]?=some x->g j x=if j=k then y else f j x):z'=l.mapIdx g:=by
 subst h;subst e
 refine List.ext_getElem? fun j=>?_
 rw [List.getElem?_set,List.getElem?_mapIdx,List.length_mapIdx,List.getElem?_mapIdx]
 cases hx:l[j]? with
 | none=>
  have:=List.getElem?_eq_none_iff.1 hx
  split
  .rw [if_neg O];rfl
  .rfl
 | some x=>
  have hl:=(List.getElem?_eq_some_iff.1 hx).1
  rw [Option.map_some,Option.map_some,hf j x hx]
  by_cases hk:k=j
  .subst hk;rw [if_pos rfl,if_pos hl,if_pos rfl]
  .rw [if_neg hk,if_neg fun e=>hk e.symm]
theorem Zapq{α β:Type}{f g:Nat->α->β}{l:List α}{z:List β}(h:z=l.mapIdx f)(hf:∀ j x,l[j]?=some x->g j x=f j x):z=l.mapIdx g:=by
 subst h
 refine List.ext_getElem? fun j=>?_
 rw [List.getElem?_mapIdx,List.getElem?_mapIdx]
 cases hx:l[j]? with
 | none=>rfl
 | some x=>rw [Option.map_some,Option.map_some,hf j x hx]
def Zg3{α β:Type}(g:Nat->α->β)(d:Nat->α->β)(v:Int)(j:Nat)(x:α):β:=if (j:Int) < v then g j x else d j x
theorem Za8s{α β:Type}{g d:Nat->α->β}{l:List α}{z z':List β}{v w:Int}{x:α}{y:β}(hx:l[v.toNat]?=some x)(h:z=l.mapIdx (Zg3 g d v))(h0:0<=v)(hw:w=v+1)(e:z'=z.set v.toNat y)(hy:y=g v.toNat x):z'=l.mapIdx (Zg3 g d w):=Zbho h e fun j q hq=>by
 unfold Zg3
 by_cases hj:j=v.toNat
 .subst hj
  rw [if_pos rfl,if_pos O,hy,Option.some.inj (hq.symm.trans hx)]
 .rw [if_neg hj]
  by_cases hk:(j:Int) < v
  .rw [if_pos hk,if_pos O]
  .rw [if_neg hk,if_neg O]
theorem Za38{α β:Type}{g d:Nat->α->β}{l:List α}{z:List β}{v w:Int}{x:α}(hx:l[v.toNat]?=some x)(h:z=l.mapIdx (Zg3 g d v))(h0:0<=v)(hw:w=v+1)(hy:d v.toNat x=g v.toNat x):z=l.mapIdx (Zg3 g d w):=Zapq h fun j q hq=>by
 unfold Zg3
 by_cases hj:j=v.toNat
 .subst hj
  rw [if_pos O,if_neg O,Option.some.inj (hq.symm.trans hx),hy]
 .by_cases hk:(j:Int) < v
  .rw [if_pos hk,if_pos O]
  .rw [if_neg hk,if_neg O]
theorem Za8t{α β:Type}{g d:Nat->α->β}{l:List α}{z:List β}{v:Int}(h:z=l.mapIdx (Zg3 g d v))(hv:(l.length:Int)<=v):z=l.mapIdx g:=Zapq h fun j q hq=>by
 have:=(List.getElem?_eq_some_iff.1 hq).1
 unfold Zg3;rw [if_pos O]
theorem up_0{α β:Type}{g d:Nat->α->β}{l:List α}{z:List β}(h:z=l.mapIdx d):z=l.mapIdx (Zg3 g d 0):=Zapq h fun j q _=>by unfold Zg3;rw [if_neg O]
def Zic{α:Type}(g:α->α)(l:List α)(k:Int):List α:=match l[k.toNat]? with | some t=>l.set k.toNat (g t) | none=>l
theorem Za2i{α:Type}{g:α->α}{l:List α}{k:Int}(h:∀ t,g t=t):l=Zic g l k:=by
 unfold Zic
 cases hx:l[k.toNat]? with
 | none=>rfl
 | some t=>show l=l.set k.toNat (g t);rw [h t,Zam9 hx]
theorem Zash{α:Type}{g g':α->α}{l z z':List α}{k:Int}{x y:α}(h:z=Zic g l k)(hx:z[k.toNat]?=some x)(e:z'=z.set k.toNat y)(hg:∀ t,x=g t->y=g' t):z'=Zic g' l k:=by
 subst h;subst e
 unfold Zic at *
 cases ht:l[k.toNat]? with
 | none=>rw [ht] at hx;simp only at hx;rw [ht] at hx;cases hx
 | some t=>
  rw [ht] at hx
  simp only at hx ⊢
  rw [List.getElem?_set_self (List.getElem?_eq_some_iff.1 ht).1] at hx
  rw [List.set_set,hg t (Option.some.inj hx).symm]
end Go.PW
