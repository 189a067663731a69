import Derived.Test.YtncgejlelfefdaaGreatPwX
set_option linter.all false
namespace Go.PW
theorem Zafh{α:Type} [DecidableEq α]:∀ {a b:List α},a.Nodup->(∀ x,x∈a->x∈b)->a.length<=b.length
 | [],_,_,_=>Nat.zero_le _
 | x::a,b,h,hs=>by
  have hx:=hs x (List.mem_cons_self ..)
  have h':=List.nodup_cons.1 h
  have:=Zafh (b:=b.erase x) h'.2 (fun y hy=>(List.mem_erase_of_ne (fun e=>by subst e;exact h'.1 hy)).2 (hs y (List.mem_cons_of_mem _ hy)))
  rw [List.length_erase_of_mem hx] at this
  have:0 < b.length:=List.length_pos_of_mem hx
  simp only [List.length_cons]
  omega
theorem Zbei{α:Type} [DecidableEq α] {a b:List α} (h:a.Nodup) (hs:∀ x,x∈a->x∈b) (hl:b.length<=a.length):∀ x,x∈b->x∈a:=fun x hx=>
 Classical.byContradiction fun hn=>by
  have:=Zafh (a:=x::a) (b:=b) (List.nodup_cons.2 ⟨hn,h⟩) (fun y hy=>(List.mem_cons.1 hy).elim (fun e=>e▸hx) (hs y))
  simp only [List.length_cons] at this
  omega
theorem Za0f{α:Type}{l:List α}(h:l.Nodup){i j:Nat}{x:α}(hi:l[i]?=some x)(hj:l[j]?=some x):i=j:=by
 obtain⟨h1,e1⟩:=List.getElem?_eq_some_iff.1 hi
 obtain⟨h2,e2⟩:=List.getElem?_eq_some_iff.1 hj
 have h:=List.pairwise_iff_getElem.1 h
 rcases Nat.lt_trichotomy i j with hl | hl | hl
 .exact absurd (e1.trans e2.symm) (h i j h1 h2 hl)
 .exact hl
 .exact absurd (e2.trans e1.symm) (h j i h2 h1 hl)
theorem Zs5{α:Type}{l:List α}{x:α}(h:l.Nodup)(hx:x∉l):(l++[x]).Nodup:=by
 rw [List.nodup_append]
 refine⟨h,by simp,fun a ha b hb=>?_⟩
 rw [List.mem_singleton.1 hb]
 exact fun e=>hx (e▸ha)
theorem Zbna{α:Type}(f:α->Nat):∀ {l:List α},l≠[]->∃ i,i∈l/\∀ j,j∈l->f i<=f j
 | [],h=>absurd rfl h
 | [x],_=>⟨x,List.mem_singleton.2 rfl,fun j hj=>by rw [List.mem_singleton.1 hj];exact Nat.le_refl _⟩
 | x::y::l,_=>by
  obtain⟨i,h1,h2⟩:=Zbna f (l:=y::l) (by simp)
  by_cases h:f x<=f i
  .refine⟨x,List.mem_cons_self ..,fun j hj=>?_⟩
   rcases List.mem_cons.1 hj with rfl | hj
   .exact Nat.le_refl _
   .exact Nat.le_trans h (h2 j hj)
  .refine⟨i,List.mem_cons_of_mem _ h1,fun j hj=>?_⟩
   rcases List.mem_cons.1 hj with rfl | hj
   .omega
   .exact h2 j hj
structure Rch (l:List Int) (N:Int->Int->Prop) (i:Int) (r:List Int):Prop where
 nd:r.Nodup
 sub:∀ x,x∈r->x∈l
 st:∀ x,x∈l->N i x->x∈r
 cl:∀ y,y∈r->∀ x,x∈l->N y x->x∈r
 mn:∀ S:Int->Prop,(∀ x,x∈l->N i x->S x)->(∀ y x,S y->x∈l->N y x->S x)->∀ x,x∈r->S x
theorem Zbk8{l:List Int}{N:Int->Int->Prop}{R:Int->List Int}(hl:l≠[])(h:∀ i,i∈l->Rch l N i (R i)):∃ i,i∈l/\∀ j,j∈l->j≠i->N i j->i∈R j:=by
 classical
 let U:Int->List Int:=fun i=>if i∈R i then R i else i::R i
 have hU:∀ i x,x∈U i↔x=i\/x∈R i:=fun i x=>by
  show x∈(if i∈R i then R i else i::R i)↔_
  split
  .rename_i hi
   exact⟨.inr,fun e=>e.elim (fun e=>e▸hi) id⟩
  .exact List.mem_cons
 have hN:∀ i,i∈l->(U i).Nodup:=fun i hi=>by
  show (if i∈R i then R i else i::R i).Nodup
  split
  .exact (h i hi).nd
  .rename_i hn;exact List.nodup_cons.2 ⟨hn,(h i hi).nd⟩
 obtain⟨i,h1,h2⟩:=Zbna (fun i=>(U i).length) hl
 refine⟨i,h1,fun j hj hne hij=>?_⟩
 have hjR:j∈R i:=(h i h1).st j hj hij
 have hsub:∀ x,x∈U j->x∈U i:=fun x hx=>by
  refine (hU i x).2 (.inr ?_)
  rcases (hU j x).1 hx with rfl | hx
  .exact hjR
  .exact (h j hj).mn (fun x=>x∈R i) (fun x hx hn=>(h i h1).cl j hjR x hx hn) (fun y x hy hx hn=>(h i h1).cl y hy x hx hn) x hx
 have:=Zbei (hN j hj) hsub (h2 j hj) i ((hU i i).2 (.inl rfl))
 rcases (hU j i).1 this with e | e
 .exact absurd e.symm hne
 .exact e
def nB(nd:List (List Bool))(i j:Int):Bool:=(nd[i.toNat]?.bind fun y=>y[j.toNat]?).getD false
def RI(l:List Int)(nd:List (List Bool))(i:Int)(out:List Int):Prop:=
 out.Nodup/\(∀ x,x∈out->x∈l)/\∀ S:Int->Prop,(∀ x,x∈l->nB nd i x=true->S x)->(∀ y x,S y->x∈l->nB nd y x=true->S x)->∀ x,x∈out->S x
theorem RI.snoc{l:List Int}{nd:List (List Bool)}{i:Int}{out:List Int}{x:Int}(h:RI l nd i out)(hx:x∈l)(hn:x∉out)(hw:nB nd i x=true\/∃ y,y∈out/\nB nd y x=true):RI l nd i (out++[x]):=by
 obtain⟨h1,h2,h3⟩:=h
 refine⟨Zs5 h1 hn,fun z hz=>?_,fun S a b z hz=>?_⟩
 .rcases List.mem_append.1 hz with hz | hz
  .exact h2 z hz
  .rw [List.mem_singleton.1 hz];exact hx
 .rcases List.mem_append.1 hz with hz | hz
  .exact h3 S a b z hz
  .rw [List.mem_singleton.1 hz]
   rcases hw with hw | ⟨y,hy,hw⟩
   .exact a x hx hw
   .exact b y x (h3 S a b y hy) hx hw
theorem RI.len{l:List Int}{nd:List (List Bool)}{i:Int}{out:List Int}(h:RI l nd i out):out.length<=l.length:=Zafh h.1 h.2.1
def RA(l:List Int)(nd:List (List Bool))(i:Int)(out:List Int)(v:Int):Prop:=
 RI l nd i out/\(∀ x,x∈out->∃ k:Nat,(k:Int) < v/\l[k]?=some x)/\∀ (k:Nat) x,(k:Int) < v->l[k]?=some x->nB nd i x=true->x∈out
theorem RA_0{l:List Int}{nd:List (List Bool)}{i:Int}:RA l nd i [] 0:=
 ⟨⟨List.nodup_nil,fun x hx=>(nomatch hx),fun _ _ _ x hx=>(nomatch hx)⟩,fun x hx=>(nomatch hx),fun k x hk=>by omega⟩
theorem Zwn{α:Type}{l:List α}{v w:Int}{k:Nat}{x y:α}(h0:0<=v)(hw:w=v+1)(hk:(k:Int) < w)(hy:l[k]?=some y)(hx:l[v.toNat]?=some x):(k:Int) < v\/y=x:=by
 by_cases h:(k:Int) < v
 .exact .inl h
 .right
  have:k=v.toNat:=by omega
  subst this
  exact Option.some.inj (hy.symm.trans hx)
theorem Za55{l:List Int}{nd:List (List Bool)}{i:Int}{out z:List Int}{v w x:Int}(hz:z=out++[x])(hx:l[v.toNat]?=some x)(hl:l.Nodup)(h:RA l nd i out v)(h0:0<=v)(hb:nB nd i x=true)(hw:w=v+1):RA l nd i z w:=by
 obtain⟨h1,h2,h3⟩:=h
 subst hz
 have hn:x∉out:=fun hm=>by
  obtain⟨k,hk,he⟩:=h2 x hm
  have:=Za0f hl he hx
  omega
 refine⟨h1.snoc (List.mem_of_getElem? hx) hn (.inl hb),fun y hy=>?_,fun k y hk he hb'=>?_⟩
 .rcases List.mem_append.1 hy with hy | hy
  .obtain⟨k,hk,he⟩:=h2 y hy
   exact⟨k,by omega,he⟩
  .rw [List.mem_singleton.1 hy]
   exact⟨v.toNat,by omega,hx⟩
 .rcases Zwn h0 hw hk he hx with hk | rfl
  .exact List.mem_append_left _ (h3 k y hk he hb')
  .exact List.mem_append_right _ (List.mem_singleton.2 rfl)
theorem Zax6{l:List Int}{nd:List (List Bool)}{i:Int}{out:List Int}{v w x:Int}(hx:l[v.toNat]?=some x)(h:RA l nd i out v)(h0:0<=v)(hb:nB nd i x=false)(hw:w=v+1):RA l nd i out w:=by
 obtain⟨h1,h2,h3⟩:=h
 refine⟨h1,fun y hy=>?_,fun k y hk he hb'=>?_⟩
 .obtain⟨k,hk,he⟩:=h2 y hy
  exact⟨k,by omega,he⟩
 .rcases Zwn h0 hw hk he hx with hk | rfl
  .exact h3 k y hk he hb'
  .rw [hb] at hb';cases hb'
def RB(l:List Int)(nd:List (List Bool))(i:Int)(out:List Int)(v:Int):Prop:=
 RI l nd i out/\(∀ x,x∈l->nB nd i x=true->x∈out)/\∀ (k:Nat) y,(k:Int) < v->out[k]?=some y->∀ x,x∈l->nB nd y x=true->x∈out
theorem RB_0{l:List Int}{nd:List (List Bool)}{i:Int}{out:List Int}{v:Int}(h:RA l nd i out v)(hv:(l.length:Int)<=v):RB l nd i out 0:=
 ⟨h.1,fun x hx hb=>by
  obtain⟨k,hk,he⟩:=List.mem_iff_getElem.1 hx
  exact h.2.2 k x (by omega) (by rw [List.getElem?_eq_getElem hk,he]) hb,fun k y hk=>by omega⟩
def RC(l:List Int)(nd:List (List Bool))(i:Int)(out:List Int)(v w:Int):Prop:=
 RB l nd i out v/\∀ y,out[v.toNat]?=some y->∀ (k:Nat) x,(k:Int) < w->l[k]?=some x->nB nd y x=true->x∈out
theorem RC_0{l:List Int}{nd:List (List Bool)}{i:Int}{out:List Int}{v:Int}(h:RB l nd i out v):RC l nd i out v 0:=⟨h,fun y _ k x hk=>by omega⟩
theorem Zbh6{l:List Int}{nd:List (List Bool)}{i:Int}{out z:List Int}{v w w' x y:Int}(hz:z=out++[x])(hx:l[w.toNat]?=some x)(hy:out[v.toNat]?=some y)(h:RC l nd i out v w)(h0:0<=w)(hv:0<=v)(hb:nB nd y x=true)(hn:x∉out)(hw:w'=w+1):RC l nd i z v w':=by
 obtain⟨⟨h1,h2,h3⟩,h4⟩:=h
 subst hz
 have hl:=(List.getElem?_eq_some_iff.1 hy).1
 refine⟨⟨h1.snoc (List.mem_of_getElem? hx) hn (.inr ⟨y,List.mem_of_getElem? hy,hb⟩),fun a ha hb'=>List.mem_append_left _ (h2 a ha hb'),fun k a hk he b hb' hc=>?_⟩,fun a ha k b hk he hb'=>?_⟩
 .rw [List.getElem?_append_left (by omega)] at he
  exact List.mem_append_left _ (h3 k a hk he b hb' hc)
 .rw [List.getElem?_append_left hl] at ha
  rcases Zwn h0 hw hk he hx with hk | rfl
  .exact List.mem_append_left _ (h4 a ha k b hk he hb')
  .exact List.mem_append_right _ (List.mem_singleton.2 rfl)
theorem Zbcs{l:List Int}{nd:List (List Bool)}{i:Int}{out:List Int}{v w w' x y:Int}(hx:l[w.toNat]?=some x)(hy:out[v.toNat]?=some y)(h:RC l nd i out v w)(h0:0<=w)(hb:nB nd y x=false\/x∈out)(hw:w'=w+1):RC l nd i out v w':=by
 refine⟨h.1,fun a ha k b hk he hb'=>?_⟩
 rcases Zwn h0 hw hk he hx with hk | rfl
 .exact h.2 a ha k b hk he hb'
 .have:a=y:=Option.some.inj (ha.symm.trans hy)
  subst this
  rcases hb with hb | hb
  .rw [hb] at hb';cases hb'
  .exact hb
theorem Zbq4{l:List Int}{nd:List (List Bool)}{i:Int}{out:List Int}{v v' w:Int}(h:RC l nd i out v w)(h0:0<=v)(hw:(l.length:Int)<=w)(hv:v'=v+1):RB l nd i out v':=by
 obtain⟨⟨h1,h2,h3⟩,h4⟩:=h
 refine⟨h1,h2,fun k y hk he x hx hb=>?_⟩
 by_cases hk':(k:Int) < v
 .exact h3 k y hk' he x hx hb
 .have:k=v.toNat:=by omega
  subst this
  obtain⟨j,hj,hje⟩:=List.mem_iff_getElem.1 hx
  exact h4 y he j x (by omega) (by rw [List.getElem?_eq_getElem hj,hje]) hb
theorem Zbq5{l:List Int}{nd:List (List Bool)}{i:Int}{out:List Int}{v:Int}(h:RB l nd i out v)(hv:(out.length:Int)<=v):Rch l (fun a b=>nB nd a b=true) i out:=
 ⟨h.1.1,h.1.2.1,h.2.1,fun y hy x hx hb=>by
  obtain⟨j,hj,hje⟩:=List.mem_iff_getElem.1 hy
  exact h.2.2 j y (by omega) (by rw [List.getElem?_eq_getElem hj,hje]) x hx hb,h.1.2.2⟩
def RD(l:List Int)(nd:List (List Bool))(x:Int):Prop:=∀ j,j∈l->j≠x->nB nd x j=true->∀ r,Rch l (fun a b=>nB nd a b=true) j r->x∈r
theorem Rch.uniq{l:List Int}{N:Int->Int->Prop}{i:Int}{r s:List Int}(h:Rch l N i r)(g:Rch l N i s):∀ x,x∈r->x∈s:=h.mn (fun x=>x∈s) g.st (fun y x hy hx hn=>g.cl y hy x hx hn)
theorem Zbvh{l:List Int}{nd:List (List Bool)}(hl:l≠[])(h:∀ i,i∈l->∃ r,Rch l (fun a b=>nB nd a b=true) i r):∃ x,x∈l/\RD l nd x:=by
 classical
 let R:Int->List Int:=fun i=>if hi:i∈l then (h i hi).choose else []
 have hR:∀ i,i∈l->Rch l (fun a b=>nB nd a b=true) i (R i):=fun i hi=>by
  show Rch l _ i (if hi:i∈l then (h i hi).choose else [])
  rw [dif_pos hi]
  exact (h i hi).choose_spec
 obtain⟨i,h1,h2⟩:=Zbk8 hl hR
 exact⟨i,h1,fun j hj hne hb r hr=>(hR j hj).uniq hr i (h2 j hj hne hb)⟩
theorem Zbvi{l:List Int}{nd:List (List Bool)}{x x' y v w:Int}{r:List Int}{b c:Bool}(hr:Rch l (fun a b=>nB nd a b=true) y r)(hb:b=nB nd x' y)(hb1:b=true)(hn:c=true↔x'∈r)(hc:c=false)
 (hx':l[v.toNat]?=some x') (hy:l[w.toNat]?=some y) (hne:w≠v) (h0:0<=v) (h1:0<=w) (hl:l.Nodup) (hx:l[v.toNat]?=some x):¬ RD l nd x:=fun hd=>by
 have e:x=x':=Option.some.inj (hx.symm.trans hx')
 subst e
 have:=hd y (List.mem_of_getElem? hy) (fun e=>by
  subst e
  have:=Za0f hl hy hx
  omega) (by rw [<- hb];exact hb1) r hr
 rw [hn.2 this] at hc
 cases hc
theorem Zbla{a l out:List Int}{nd:List (List Bool)}{v:Int}(h1:∀ x,x∈a->0<=x->x∈l)(h2:∀ (k:Nat) x,(k:Int) < v->l[k]?=some x->RD l nd x->x∈out)(hl:l.Nodup)(hv:(l.length:Int)<=v)(_:0<=(0:Int))(h:∀ i,i∈l->∃ r,Rch l (fun a b=>nB nd a b=true) i r) :
 ∀ x,x∈a->0<=x->out≠[]:=fun x hx h0 e=>by
 have hm:=h1 x hx h0
 obtain⟨y,hy,hd⟩:=Zbvh (nd:=nd) (fun e=>by rw [e] at hm;cases hm) h
 obtain⟨j,hj,hje⟩:=List.mem_iff_getElem.1 hy
 have:=h2 j y (by omega) (by rw [List.getElem?_eq_getElem hj,hje]) hd
 rw [e] at this
 cases this
def cnt{α:Type}(p:α->Bool)(l:List α)(v:Int):Nat:=((l.take v.toNat).filter p).length
theorem Zfk{α:Type}{l:List α}{v w:Int}{x:α}(hx:l[v.toNat]?=some x)(h0:0<=v)(hw:w=v+1):l.take w.toNat=l.take v.toNat++[x]:=by
 have:w.toNat=v.toNat+1:=by omega
 rw [this,List.take_add_one,hx];rfl
theorem Zax7{α:Type}{p:α->Bool}{l:List α}{v w:Int}{x:α}(hx:l[v.toNat]?=some x)(h0:0<=v)(hp:p x=true)(hw:w=v+1):cnt p l w=cnt p l v+1:=by
 unfold cnt;rw [Zfk hx h0 hw,List.filter_append,List.length_append,List.filter_cons,if_pos hp];rfl
theorem Za56{α:Type}{p:α->Bool}{l:List α}{v w:Int}{x:α}(hx:l[v.toNat]?=some x)(h0:0<=v)(hp:p x=false)(hw:w=v+1):cnt p l w=cnt p l v:=by
 unfold cnt;rw [Zfk hx h0 hw,List.filter_append,List.length_append,List.filter_cons,if_neg (by rw [hp];decide)];rfl
theorem Zbpn{α:Type}{p:α->Bool}{l:List α}{v:Int}(hv:(l.length:Int)<=v):cnt p l v=(l.filter p).length:=by
 unfold cnt;rw [List.take_of_length_le (by omega)]
theorem Zbq6{α:Type}{p:α->Bool}{l:List α}{v:Int}{x:α}(hx:l[v.toNat]?=some x)(h0:0<=v)(hp:p x=true):cnt p l v < (l.filter p).length:=by
 have h:=Zax7 (w:=v+1) hx h0 hp rfl
 have:cnt p l (v+1)<=(l.filter p).length:=by
  unfold cnt
  exact (List.Sublist.filter p (List.take_sublist ..)).length_le
 omega
theorem Zbct{α:Type}{p:α->Bool}{l acc z:List α}{v w:Int}{x:α}(hz:z=acc++[x])(hx:l[v.toNat]?=some x)(h:acc=(l.take v.toNat).filter p)(h0:0<=v)(hp:p x=true)(hw:w=v+1):z=(l.take w.toNat).filter p:=by
 rw [hz,h,Zfk hx h0 hw,List.filter_append,List.filter_cons,if_pos hp];rfl
theorem Za57{α:Type}{p:α->Bool}{l acc:List α}{v w:Int}{x:α}(hx:l[v.toNat]?=some x)(h:acc=(l.take v.toNat).filter p)(h0:0<=v)(hp:p x=false)(hw:w=v+1):acc=(l.take w.toNat).filter p:=by
 rw [h,Zfk hx h0 hw,List.filter_append,List.filter_cons,if_neg (by rw [hp];decide),List.filter_nil,List.append_nil]
theorem Zbcu{α:Type}{p:α->Bool}{l acc:List α}{v:Int}(h:acc=(l.take v.toNat).filter p)(hv:(l.length:Int)<=v):acc=l.filter p:=by
 rw [h,List.take_of_length_le (by omega)]
def DI{α:Type}(b v:List α)(p:α->Bool)(i j:Int):Prop:=v.length=b.length/\0<=i/\i<=j/\v.take i.toNat=(b.take j.toNat).filter p/\v.drop j.toNat=b.drop j.toNat
theorem Zblb{α:Type}{b:List α}{p:α->Bool}{i j:Int}{y:α}(hy:b[i.toNat]?=some y)(h:∀ (k:Nat) x,(k:Int) < i->b[k]?=some x->p x=true)(hp:p y=false)(h0:0<=i)(hj:j=i+1):DI b b p i j:=by
 refine⟨rfl,h0,by omega,?_,rfl⟩
 rw [Zfk hy h0 hj,List.filter_append,List.filter_cons,if_neg (by rw [hp];decide),List.filter_nil,List.append_nil]
 refine (List.filter_eq_self.2 fun x hx=>?_).symm
 obtain⟨k,hk,he⟩:=List.mem_iff_getElem.1 hx
 rw [List.length_take] at hk
 rw [List.getElem_take] at he
 exact h k x (by omega) (by rw [List.getElem?_eq_getElem (by omega),he])
theorem DI.at{α:Type}{b v:List α}{p:α->Bool}{i j:Int}{x:α}(h:DI b v p i j)(hx:v[j.toNat]?=some x):b[j.toNat]?=some x:=by
 have:(v.drop j.toNat)[0]?=(b.drop j.toNat)[0]?:=by rw [h.2.2.2.2]
 simpa [List.getElem?_drop,hx] using this.symm
theorem DI.next{α:Type}{b v:List α}{p:α->Bool}{i j:Int}(h:DI b v p i j){j':Int}(hj:j'=j+1):v.drop j'.toNat=b.drop j'.toNat:=by
 have e:j'.toNat=j.toNat+1:=by have:=h.2.1;have:=h.2.2.1;omega
 rw [e,<- List.drop_drop,<- List.drop_drop,h.2.2.2.2]
theorem Zbpo{α:Type}{b v z:List α}{p:α->Bool}{i j i' j':Int}{x:α}(hx:v[j.toNat]?=some x)(hz:z=v.set i.toNat x)(h:DI b v p i j)(hp:p x=true)(hi:i'=i+1)(hj:j'=j+1):DI b z p i' j':=by
 have hb:=h.at hx
 have hl:=(List.getElem?_eq_some_iff.1 hx).1
 obtain⟨h1,h2,h3,h4,h5⟩:=id h
 refine⟨by rw [hz,List.length_set];exact h1,by omega,by omega,?_,?_⟩
 .rw [Zfk hb (by omega) hj,List.filter_append,List.filter_cons,if_pos hp,<- h4]
  have e:i'.toNat=i.toNat+1:=by omega
  have hil:i.toNat < (v.set i.toNat x).length:=by rw [List.length_set];omega
  rw [hz,e,List.take_add_one,List.getElem?_eq_getElem hil,List.getElem_set_self,List.take_set_of_le (Nat.le_refl _)]
  rfl
 .rw [hz,List.drop_set,if_pos (by omega)]
  exact h.next hj
theorem Zbpp{α:Type}{b v:List α}{p:α->Bool}{i j j':Int}{x:α}(hx:v[j.toNat]?=some x)(h:DI b v p i j)(hp:p x=false)(hj:j'=j+1):DI b v p i j':=by
 have hb:=h.at hx
 refine⟨h.1,h.2.1,by have:=h.2.2.1;omega,?_,h.next hj⟩
 rw [Zfk hb (by have:=h.2.1;have:=h.2.2.1;omega) hj,List.filter_append,List.filter_cons,if_neg (by rw [hp];decide),List.filter_nil,List.append_nil]
 exact h.2.2.2.1
theorem Zbq7{α:Type}{b v z r:List α}{p:α->Bool}{i j:Int}{n:Nat}{c:α}(hz:z=v.take i.toNat++List.replicate n c)(hr:r=(z.take i.toNat).drop (0:Int).toNat)(h:DI b v p i j)(hi:i<=(v.length:Int))(hj:(v.length:Int)<=j):r=b.filter p:=by
 obtain⟨h1,h2,h3,h4,h5⟩:=h
 rw [List.take_of_length_le (l:=b) (by omega)] at h4
 rw [hr,hz,<- h4,List.take_append_of_le_length (by rw [List.length_take];omega),List.take_take,Nat.min_self]
 rfl
def FD{α:Type}(b:List α)(p:α->Bool)(r:Int):Prop:=(r = -1/\∀ x,x∈b->p x=true)\/(0<=r/\r < (b.length:Int)/\(∀ (k:Nat) x,(k:Int) < r->b[k]?=some x->p x=true)/\∀ x,b[r.toNat]?=some x->p x=false)
theorem Zbq8{α:Type}{b:List α}{p:α->Bool}{v:Int}{x:α}(hx:b[v.toNat]?=some x)(h:∀ (k:Nat) x,(k:Int) < v->b[k]?=some x->p x=true)(h0:0<=v)(hp:p x=false):FD b p v:=
 .inr ⟨h0,by have:=(List.getElem?_eq_some_iff.1 hx).1;omega,h,fun y hy=>by rw [<- Option.some.inj (hx.symm.trans hy)];exact hp⟩
theorem Zbpq{α:Type}{b:List α}{p:α->Bool}{v:Int}(h:∀ (k:Nat) x,(k:Int) < v->b[k]?=some x->p x=true)(hv:(b.length:Int)<=v):FD b p (-1):=
 .inl ⟨rfl,fun x hx=>by
  obtain⟨k,hk,he⟩:=List.mem_iff_getElem.1 hx
  exact h k x (by omega) (by rw [List.getElem?_eq_getElem hk,he])⟩
theorem Zrl{α:Type}{l:List α}{P:α->Prop}{v w:Int}{x:α}(hx:l[v.toNat]?=some x)(h:∀ (k:Nat) y,(k:Int) < v->l[k]?=some y->P y)(h0:0<=v)(hp:P x)(hw:w=v+1):∀ (k:Nat) y,(k:Int) < w->l[k]?=some y->P y:=fun k y hk hy=>by
 rcases Zwn h0 hw hk hy hx with hk | rfl
 .exact h k y hk hy
 .exact hp
theorem Zbq9{α:Type}{b:List α}{p:α->Bool}{r:Int}(h:FD b p r)(hr:r = -1):b=b.filter p:=by
 rcases h with ⟨_,h⟩ | ⟨h,_⟩
 .exact (List.filter_eq_self.2 h).symm
 .omega
theorem Zblc{α:Type}{b:List α}{p:α->Bool}{r j:Int}(h:FD b p r)(hr:r ≠ -1)(hj:j=r+1):DI b b p r j:=by
 rcases h with ⟨h,_⟩ | ⟨h0,h1,h2,h3⟩
 .exact absurd h hr
 .have hx:=List.getElem?_eq_getElem (show r.toNat < b.length by omega)
  exact Zblb hx h2 (h3 _ hx) h0 hj
theorem Zbra{α:Type}{b:List α}{p:α->Bool}{r:Int}(h:FD b p r) : -1<=r/\r < (b.length:Int):=by
 rcases h with ⟨h,_⟩ | ⟨h0,h1,_⟩<;>omega
theorem Tot.bt{α:Type}{b:Bool}{x y:Option α}{Q:α->Prop}(h:b=true)(g:Tot x Q):Tot (bif b then x else y) Q:=by subst h;exact g
theorem Tot.we{α:Type}{o:Option α}{P:α->Prop}(h:Tot o P):Tot o fun a=>P a/\o = .some a:=by
 obtain⟨a,h1,h2⟩:=h
 exact⟨a,h1,h2,h1⟩
theorem SzL.setM{α:Type}{k m:Nat}{xs z:List (List α)}{y:List α}{i j:Int}{v:α}(h:z=xs.set i.toNat (y.set j.toNat v))(hx:SzL k (SzL m fun _=>True) xs)(hy:SzL m (fun _=>True) y):SzL k (SzL m fun _=>True) z:=by
 subst h
 refine⟨by rw [List.length_set];exact hx.1,fun e he=>?_⟩
 rcases List.mem_or_eq_of_mem_set he with he | he
 .exact hx.2 e he
 .rw [he];exact⟨by rw [List.length_set];exact hy.1,fun _ _=>trivial⟩
theorem Zbld{α:Type}{xs z:List (List α)}{y:List α}{i j:Int}{v:α}{n:Nat}(h:z=xs.set i.toNat (y.set j.toNat v))(hy:y∈xs)(hx:∀ e,e∈xs->e.length=n):∀ e,e∈z->e.length=n:=fun e he=>by
 subst h
 rcases List.mem_or_eq_of_mem_set he with he | he
 .exact hx e he
 .rw [he,List.length_set];exact hx y hy
theorem Zba4{l:List Int}{x:Int}(h:l.Nodup)(hx:x∈l):(l.filter fun y=>y != x).length+1=l.length:=by
 rw [<- List.Nodup.erase_eq_filter h x,List.length_erase_of_mem hx]
 have:=List.length_pos_of_mem hx
 omega
end Go.PW
