import Derived.Test.YtchddhcajpagjaaGreatPwX
set_option linter.all false
namespace Go.PW
theorem Zwm{α:Type} [DecidableEq α]:∀ {a b:List α},a.Nodup->(∀ x,x∈a->x∈b)->a.length<=b.length
 | [],_,_,_=>Nat.zero_le _
 | x::a,b,h,hs=>by
  have hx:=hs x (List.mem_cons_self ..)
  have h':=List.nodup_cons.1 h
  have:=Zwm (b:=b.erase x) h'.2 (fun y hy=>(List.mem_erase_of_ne (fun e=>by subst e;exact h'.1 hy)).2 (hs y (List.mem_cons_of_mem _ hy)))
  rw [List.length_erase_of_mem hx] at this
  have:0 < b.length:=List.length_pos_of_mem hx
  simp only [List.length_cons]
  omega
theorem Zakw{α:Type} [DecidableEq α] {a b:List α} (h:a.Nodup) (hs:∀ x,x∈a->x∈b) (hl:b.length<=a.length):∀ x,x∈b->x∈a:=fun x hx=>
 Classical.byContradiction fun hn=>by
  have:=Zwm (a:=x::a) (b:=b) (List.nodup_cons.2 ⟨hn,h⟩) (fun y hy=>(List.mem_cons.1 hy).elim (fun e=>e▸hx) (hs y))
  simp only [List.length_cons] at this
  omega
theorem Zabk{α:Type}{l:List α}(h:l.Nodup){i j:Nat}{x:α}(hi:l[i]?=some x)(hj:l[j]?=some x):i=j:=by
 obtain⟨h1,e1⟩:=List.getElem?_eq_some_iff.1 hi
 obtain⟨h2,e2⟩:=List.getElem?_eq_some_iff.1 hj
 have h:=List.pairwise_iff_getElem.1 h
 rcases Nat.lt_trichotomy i j with hl | hl | hl
 .exact absurd (e1.trans e2.symm) (h i j h1 h2 hl)
 .exact hl
 .exact absurd (e2.trans e1.symm) (h j i h2 h1 hl)
theorem Zzm{α:Type}{l:List α}{x:α}(h:l.Nodup)(hx:x∉l):(l++[x]).Nodup:=by
 rw [List.nodup_append]
 refine⟨h,by simp,fun a ha b hb=>?_⟩
 rw [List.mem_singleton.1 hb]
 exact fun e=>hx (e▸ha)
theorem Zbcp{α:Type}(f:α->Nat):∀ {l:List α},l≠[]->∃ i,i∈l/\∀ j,j∈l->f i<=f j
 | [],h=>absurd rfl h
 | [x],_=>⟨x,List.mem_singleton.2 rfl,fun j hj=>by rw [List.mem_singleton.1 hj];exact Nat.le_refl _⟩
 | x::y::l,_=>by
  obtain⟨i,h1,h2⟩:=Zbcp f (l:=y::l) (by simp)
  by_cases h:f x<=f i
  .refine⟨x,List.mem_cons_self ..,fun j hj=>?_⟩
   rcases List.mem_cons.1 hj with rfl | hj
   .exact Nat.le_refl _
   .exact Nat.le_trans h (h2 j hj)
  .refine⟨i,List.mem_cons_of_mem _ h1,fun j hj=>?_⟩
   rcases List.mem_cons.1 hj with rfl | hj
   .omega
   .exact h2 j hj
structure Rch (l:List Int) (N:Int->Int->Prop) (i:Int) (r:List Int):Prop where
 nd:r.Nodup
 sub:∀ x,x∈r->x∈l
 st:∀ x,x∈l->N i x->x∈r
 cl:∀ y,y∈r->∀ x,x∈l->N y x->x∈r
 mn:∀ S:Int->Prop,(∀ x,x∈l->N i x->S x)->(∀ y x,S y->x∈l->N y x->S x)->∀ x,x∈r->S x
theorem Zbaq{l:List Int}{N:Int->Int->Prop}{R:Int->List Int}(hl:l≠[])(h:∀ i,i∈l->Rch l N i (R i)):∃ i,i∈l/\∀ j,j∈l->j≠i->N i j->i∈R j:=by
 classical
 let U:Int->List Int:=fun i=>if i∈R i then R i else i::R i
 have hU:∀ i x,x∈U i↔x=i\/x∈R i:=fun i x=>by
  show x∈(if i∈R i then R i else i::R i)↔_
  split
  .rename_i hi
   exact⟨.inr,fun e=>e.elim (fun e=>e▸hi) id⟩
  .exact List.mem_cons
 have hN:∀ i,i∈l->(U i).Nodup:=fun i hi=>by
  show (if i∈R i then R i else i::R i).Nodup
  split
  .exact (h i hi).nd
  .rename_i hn;exact List.nodup_cons.2 ⟨hn,(h i hi).nd⟩
 obtain⟨i,h1,h2⟩:=Zbcp (fun i=>(U i).length) hl
 refine⟨i,h1,fun j hj hne hij=>?_⟩
 have hjR:j∈R i:=(h i h1).st j hj hij
 have hsub:∀ x,x∈U j->x∈U i:=fun x hx=>by
  refine (hU i x).2 (.inr ?_)
  rcases (hU j x).1 hx with rfl | hx
  .exact hjR
  .exact (h j hj).mn (fun x=>x∈R i) (fun x hx hn=>(h i h1).cl j hjR x hx hn) (fun y x hy hx hn=>(h i h1).cl y hy x hx hn) x hx
 have:=Zakw (hN j hj) hsub (h2 j hj) i ((hU i i).2 (.inl rfl))
 rcases (hU j i).1 this with e | e
 .exact absurd e.symm hne
 .exact e
def nB(nd:List (List Bool))(i j:Int):Bool:=(nd[i.toNat]?.bind fun y=>y[j.toNat]?).getD false
theorem Zat8{α:Type}{l:List α}{v w:Int}{k:Nat}{x y:α}(h0:0<=v)(hw:w=v+1)(hk:(k:Int) < w)(hy:l[k]?=some y)(hx:l[v.toNat]?=some x):(k:Int) < v\/y=x:=by
 by_cases h:(k:Int) < v
 .exact .inl h
 .right
  have:k=v.toNat:=by omega
  subst this
  exact Option.some.inj (hy.symm.trans hx)
def cnt{α:Type}(p:α->Bool)(l:List α)(v:Int):Nat:=((l.take v.toNat).filter p).length
theorem Zci{α:Type}{l:List α}{v w:Int}{x:α}(hx:l[v.toNat]?=some x)(h0:0<=v)(hw:w=v+1):l.take w.toNat=l.take v.toNat++[x]:=by
 have:w.toNat=v.toNat+1:=by omega
 rw [this,List.take_add_one,hx];rfl
theorem Zbep{α:Type}{p:α->Bool}{l acc z:List α}{v w:Int}{x:α}(hz:z=acc++[x])(hx:l[v.toNat]?=some x)(h:acc=(l.take v.toNat).filter p)(h0:0<=v)(hp:p x=true)(hw:w=v+1):z=(l.take w.toNat).filter p:=by
 rw [hz,h,Zci hx h0 hw,List.filter_append,List.filter_cons,if_pos hp];rfl
theorem Zbar{α:Type}{p:α->Bool}{l acc:List α}{v w:Int}{x:α}(hx:l[v.toNat]?=some x)(h:acc=(l.take v.toNat).filter p)(h0:0<=v)(hp:p x=false)(hw:w=v+1):acc=(l.take w.toNat).filter p:=by
 rw [h,Zci hx h0 hw,List.filter_append,List.filter_cons,if_neg (by rw [hp];decide),List.filter_nil,List.append_nil]
theorem Zbeq{α:Type}{p:α->Bool}{l acc:List α}{v:Int}(h:acc=(l.take v.toNat).filter p)(hv:(l.length:Int)<=v):acc=l.filter p:=by
 rw [h,List.take_of_length_le O]
def DI{α:Type}(b v:List α)(p:α->Bool)(i j:Int):Prop:=v.length=b.length/\0<=i/\i<=j/\v.take i.toNat=(b.take j.toNat).filter p/\v.drop j.toNat=b.drop j.toNat
theorem Zbas{α:Type}{b:List α}{p:α->Bool}{i j:Int}{y:α}(hy:b[i.toNat]?=some y)(h:∀ (k:Nat) x,(k:Int) < i->b[k]?=some x->p x=true)(hp:p y=false)(h0:0<=i)(hj:j=i+1):DI b b p i j:=by
 refine⟨rfl,h0,by omega,?_,rfl⟩
 rw [Zci hy h0 hj,List.filter_append,List.filter_cons,if_neg (by rw [hp];decide),List.filter_nil,List.append_nil]
 refine (List.filter_eq_self.2 fun x hx=>?_).symm
 obtain⟨k,hk,he⟩:=List.mem_iff_getElem.1 hx
 rw [List.length_take] at hk
 rw [List.getElem_take] at he
 exact h k x O (by rw [List.getElem?_eq_getElem O,he])
theorem DI.at{α:Type}{b v:List α}{p:α->Bool}{i j:Int}{x:α}(h:DI b v p i j)(hx:v[j.toNat]?=some x):b[j.toNat]?=some x:=by
 have:(v.drop j.toNat)[0]?=(b.drop j.toNat)[0]?:=by rw [h.2.2.2.2]
 simpa [List.getElem?_drop,hx] using this.symm
theorem DI.next{α:Type}{b v:List α}{p:α->Bool}{i j:Int}(h:DI b v p i j){j':Int}(hj:j'=j+1):v.drop j'.toNat=b.drop j'.toNat:=by
 have e:j'.toNat=j.toNat+1:=by have:=h.2.1;have:=h.2.2.1;omega
 rw [e,<- List.drop_drop,<- List.drop_drop,h.2.2.2.2]
theorem Zber{α:Type}{b v z:List α}{p:α->Bool}{i j i' j':Int}{x:α}(hx:v[j.toNat]?=some x)(hz:z=v.set i.toNat x)(h:DI b v p i j)(hp:p x=true)(hi:i'=i+1)(hj:j'=j+1):DI b z p i' j':=by
 have hb:=h.at hx
 have hl:=(List.getElem?_eq_some_iff.1 hx).1
 obtain⟨h1,h2,h3,h4,h5⟩:=id h
 refine⟨by rw [hz,List.length_set];exact h1,by omega,by omega,?_,?_⟩
 .rw [Zci hb O hj,List.filter_append,List.filter_cons,if_pos hp,<- h4]
  have e:i'.toNat=i.toNat+1:=by omega
  have hil:i.toNat < (v.set i.toNat x).length:=by rw [List.length_set];omega
  rw [hz,e,List.take_add_one,List.getElem?_eq_getElem hil,List.getElem_set_self,List.take_set_of_le (Nat.le_refl _)]
  rfl
 .rw [hz,List.drop_set,if_pos O]
  exact h.next hj
theorem Zbes{α:Type}{b v:List α}{p:α->Bool}{i j j':Int}{x:α}(hx:v[j.toNat]?=some x)(h:DI b v p i j)(hp:p x=false)(hj:j'=j+1):DI b v p i j':=by
 have hb:=h.at hx
 refine⟨h.1,h.2.1,by have:=h.2.2.1;omega,?_,h.next hj⟩
 rw [Zci hb (by have:=h.2.1;have:=h.2.2.1;omega) hj,List.filter_append,List.filter_cons,if_neg (by rw [hp];decide),List.filter_nil,List.append_nil]
 exact h.2.2.2.1
theorem Zbgm{α:Type}{b v z r:List α}{p:α->Bool}{i j:Int}{n:Nat}{c:α}(hz:z=v.take i.toNat++List.replicate n c)(hr:r=(z.take i.toNat).drop (0:Int).toNat)(h:DI b v p i j)(hi:i<=(v.length:Int))(hj:(v.length:Int)<=j):r=b.filter p:=by
 obtain⟨h1,h2,h3,h4,h5⟩:=h
 rw [List.take_of_length_le (l:=b) O] at h4
 rw [hr,hz,<- h4,List.take_append_of_le_length (by rw [List.length_take];omega),List.take_take,Nat.min_self]
 rfl
def FD{α:Type}(b:List α)(p:α->Bool)(r:Int):Prop:=(r = -1/\∀ x,x∈b->p x=true)\/(0<=r/\r < (b.length:Int)/\(∀ (k:Nat) x,(k:Int) < r->b[k]?=some x->p x=true)/\∀ x,b[r.toNat]?=some x->p x=false)
theorem Zbgn{α:Type}{b:List α}{p:α->Bool}{v:Int}{x:α}(hx:b[v.toNat]?=some x)(h:∀ (k:Nat) x,(k:Int) < v->b[k]?=some x->p x=true)(h0:0<=v)(hp:p x=false):FD b p v:=
 .inr ⟨h0,by have:=(List.getElem?_eq_some_iff.1 hx).1;omega,h,fun y hy=>by rw [<- Option.some.inj (hx.symm.trans hy)];exact hp⟩
theorem Zbet{α:Type}{b:List α}{p:α->Bool}{v:Int}(h:∀ (k:Nat) x,(k:Int) < v->b[k]?=some x->p x=true)(hv:(b.length:Int)<=v):FD b p (-1):=
 .inl ⟨rfl,fun x hx=>by
  obtain⟨k,hk,he⟩:=List.mem_iff_getElem.1 hx
  exact h k x O (by rw [List.getElem?_eq_getElem hk,he])⟩
theorem Zrw{α:Type}{l:List α}{P:α->Prop}{v w:Int}{x:α}(hx:l[v.toNat]?=some x)(h:∀ (k:Nat) y,(k:Int) < v->l[k]?=some y->P y)(h0:0<=v)(hp:P x)(hw:w=v+1):∀ (k:Nat) y,(k:Int) < w->l[k]?=some y->P y:=fun k y hk hy=>by
 rcases Zat8 h0 hw hk hy hx with hk | rfl
 .exact h k y hk hy
 .exact hp
theorem Zbgo{α:Type}{b:List α}{p:α->Bool}{r:Int}(h:FD b p r)(hr:r = -1):b=b.filter p:=by
 rcases h with ⟨_,h⟩ | ⟨h,_⟩
 .exact (List.filter_eq_self.2 h).symm
 .omega
theorem Zbat{α:Type}{b:List α}{p:α->Bool}{r j:Int}(h:FD b p r)(hr:r ≠ -1)(hj:j=r+1):DI b b p r j:=by
 rcases h with ⟨h,_⟩ | ⟨h0,h1,h2,h3⟩
 .exact absurd h hr
 .have hx:=List.getElem?_eq_getElem (show r.toNat < b.length by omega)
  exact Zbas hx h2 (h3 _ hx) h0 hj
theorem Zbgp{α:Type}{b:List α}{p:α->Bool}{r:Int}(h:FD b p r) : -1<=r/\r < (b.length:Int):=by
 rcases h with ⟨h,_⟩ | ⟨h0,h1,_⟩<;>omega
theorem Tot.we{α:Type}{o:Option α}{P:α->Prop}(h:Tot o P):Tot o fun a=>P a/\o = .some a:=by
 obtain⟨a,h1,h2⟩:=h
 exact⟨a,h1,h2,h1⟩
theorem SzL.setM{α:Type}{k m:Nat}{xs z:List (List α)}{y:List α}{i j:Int}{v:α}(h:z=xs.set i.toNat (y.set j.toNat v))(hx:SzL k (SzL m fun _=>True) xs)(hy:SzL m (fun _=>True) y):SzL k (SzL m fun _=>True) z:=by
 subst h
 refine⟨by rw [List.length_set];exact hx.1,fun e he=>?_⟩
 rcases List.mem_or_eq_of_mem_set he with he | he
 .exact hx.2 e he
 .rw [he];exact⟨by rw [List.length_set];exact hy.1,fun _ _=>trivial⟩
theorem Zaz6{l:List Int}{x:Int}(h:l.Nodup)(hx:x∈l):(l.filter fun y=>y != x).length+1=l.length:=by
 rw [<- List.Nodup.erase_eq_filter h x,List.length_erase_of_mem hx]
 have:=List.length_pos_of_mem hx
 omega
end Go.PW
