import Derived.Test.YtchddhcajpagjaaGreatPwX
set_option linter.all false
namespace Go.PW
theorem Zatf{α:Type}{l:List α}{v w:Int}{k:Nat}{x y:α}(h0:0<=v)(hw:w=v+1)(hk:(k:Int) < w)(hy:l[k]?=some y)(hx:l[v.toNat]?=some x):(k:Int) < v\/y=x:=by
 by_cases h:(k:Int) < v
 .exact .inl h
 .right
  have:k=v.toNat:=by omega
  subst this
  exact Option.some.inj (hy.symm.trans hx)
theorem Zwl{α:Type}{l:List α}{v w:Int}{x:α}(hx:l[v.toNat]?=some x)(h0:0<=v)(hw:w=v+1):l.take w.toNat=l.take v.toNat++[x]:=by
 have:w.toNat=v.toNat+1:=by omega
 rw [this,List.take_add_one,hx];rfl
def DI{α:Type}(b v:List α)(p:α->Bool)(i j:Int):Prop:=v.length=b.length/\0<=i/\i<=j/\v.take i.toNat=(b.take j.toNat).filter p/\v.drop j.toNat=b.drop j.toNat
theorem Za79{α:Type}{b:List α}{p:α->Bool}{i j:Int}{y:α}(hy:b[i.toNat]?=some y)(h:∀ (k:Nat) x,(k:Int) < i->b[k]?=some x->p x=true)(hp:p y=false)(h0:0<=i)(hj:j=i+1):DI b b p i j:=by
 refine⟨rfl,h0,by omega,?_,rfl⟩
 rw [Zwl hy h0 hj,List.filter_append,List.filter_cons,if_neg (by rw [hp];decide),List.filter_nil,List.append_nil]
 refine (List.filter_eq_self.2 fun x hx=>?_).symm
 obtain⟨k,hk,he⟩:=List.mem_iff_getElem.1 hx
 rw [List.length_take] at hk
 rw [List.getElem_take] at he
 exact h k x (by omega) (by rw [List.getElem?_eq_getElem (by omega),he])
theorem DI.at{α:Type}{b v:List α}{p:α->Bool}{i j:Int}{x:α}(h:DI b v p i j)(hx:v[j.toNat]?=some x):b[j.toNat]?=some x:=by
 have:(v.drop j.toNat)[0]?=(b.drop j.toNat)[0]?:=by rw [h.2.2.2.2]
 simpa [List.getElem?_drop,hx] using this.symm
theorem DI.next{α:Type}{b v:List α}{p:α->Bool}{i j:Int}(h:DI b v p i j){j':Int}(hj:j'=j+1):v.drop j'.toNat=b.drop j'.toNat:=by
 have e:j'.toNat=j.toNat+1:=by have:=h.2.1;have:=h.2.2.1;omega
 rw [e,<- List.drop_drop,<- List.drop_drop,h.2.2.2.2]
theorem Zbbp{α:Type}{b v z:List α}{p:α->Bool}{i j i' j':Int}{x:α}(hx:v[j.toNat]?=some x)(hz:z=v.set i.toNat x)(h:DI b v p i j)(hp:p x=true)(hi:i'=i+1)(hj:j'=j+1):DI b z p i' j':=by
 have hb:=h.at hx
 have hl:=(List.getElem?_eq_some_iff.1 hx).1
 obtain⟨h1,h2,h3,h4,h5⟩:=id h
 refine⟨by rw [hz,List.length_set];exact h1,by omega,by omega,?_,?_⟩
 .rw [Zwl hb (by omega) hj,List.filter_append,List.filter_cons,if_pos hp,<- h4]
  have e:i'.toNat=i.toNat+1:=by omega
  have hil:i.toNat < (v.set i.toNat x).length:=by rw [List.length_set];omega
  rw [hz,e,List.take_add_one,List.getElem?_eq_getElem hil,List.getElem_set_self,List.take_set_of_le (Nat.le_refl _)]
  rfl
 .rw [hz,List.drop_set,if_pos (by omega)]
  exact h.next hj
theorem Zbbq{α:Type}{b v:List α}{p:α->Bool}{i j j':Int}{x:α}(hx:v[j.toNat]?=some x)(h:DI b v p i j)(hp:p x=false)(hj:j'=j+1):DI b v p i j':=by
 have hb:=h.at hx
 refine⟨h.1,h.2.1,by have:=h.2.2.1;omega,?_,h.next hj⟩
 rw [Zwl hb (by have:=h.2.1;have:=h.2.2.1;omega) hj,List.filter_append,List.filter_cons,if_neg (by rw [hp];decide),List.filter_nil,List.append_nil]
 exact h.2.2.2.1
theorem Zbdb{α:Type}{b v z r:List α}{p:α->Bool}{i j:Int}{n:Nat}{c:α}(hz:z=v.take i.toNat++List.replicate n c)(hr:r=(z.take i.toNat).drop (0:Int).toNat)(h:DI b v p i j)(hi:i<=(v.length:Int))(hj:(v.length:Int)<=j):r=b.filter p:=by
 obtain⟨h1,h2,h3,h4,h5⟩:=h
 rw [List.take_of_length_le (l:=b) (by omega)] at h4
 rw [hr,hz,<- h4,List.take_append_of_le_length (by rw [List.length_take];omega),List.take_take,Nat.min_self]
 rfl
def FD{α:Type}(b:List α)(p:α->Bool)(r:Int):Prop:=(r = -1/\∀ x,x∈b->p x=true)\/(0<=r/\r < (b.length:Int)/\(∀ (k:Nat) x,(k:Int) < r->b[k]?=some x->p x=true)/\∀ x,b[r.toNat]?=some x->p x=false)
theorem Zbdc{α:Type}{b:List α}{p:α->Bool}{v:Int}{x:α}(hx:b[v.toNat]?=some x)(h:∀ (k:Nat) x,(k:Int) < v->b[k]?=some x->p x=true)(h0:0<=v)(hp:p x=false):FD b p v:=
 .inr ⟨h0,by have:=(List.getElem?_eq_some_iff.1 hx).1;omega,h,fun y hy=>by rw [<- Option.some.inj (hx.symm.trans hy)];exact hp⟩
theorem Zbbr{α:Type}{b:List α}{p:α->Bool}{v:Int}(h:∀ (k:Nat) x,(k:Int) < v->b[k]?=some x->p x=true)(hv:(b.length:Int)<=v):FD b p (-1):=
 .inl ⟨rfl,fun x hx=>by
  obtain⟨k,hk,he⟩:=List.mem_iff_getElem.1 hx
  exact h k x (by omega) (by rw [List.getElem?_eq_getElem hk,he])⟩
theorem Zau0{α:Type}{l:List α}{P:α->Prop}{v w:Int}{x:α}(hx:l[v.toNat]?=some x)(h:∀ (k:Nat) y,(k:Int) < v->l[k]?=some y->P y)(h0:0<=v)(hp:P x)(hw:w=v+1):∀ (k:Nat) y,(k:Int) < w->l[k]?=some y->P y:=fun k y hk hy=>by
 rcases Zatf h0 hw hk hy hx with hk | rfl
 .exact h k y hk hy
 .exact hp
theorem Zbdd{α:Type}{b:List α}{p:α->Bool}{r:Int}(h:FD b p r)(hr:r = -1):b=b.filter p:=by
 rcases h with ⟨_,h⟩ | ⟨h,_⟩
 .exact (List.filter_eq_self.2 h).symm
 .omega
theorem Za8a{α:Type}{b:List α}{p:α->Bool}{r j:Int}(h:FD b p r)(hr:r ≠ -1)(hj:j=r+1):DI b b p r j:=by
 rcases h with ⟨h,_⟩ | ⟨h0,h1,h2,h3⟩
 .exact absurd h hr
 .have hx:=List.getElem?_eq_getElem (show r.toNat < b.length by omega)
  exact Za79 hx h2 (h3 _ hx) h0 hj
theorem Zbde{α:Type}{b:List α}{p:α->Bool}{r:Int}(h:FD b p r) : -1<=r/\r < (b.length:Int):=by
 rcases h with ⟨h,_⟩ | ⟨h0,h1,_⟩<;>omega
theorem Tot.we{α:Type}{o:Option α}{P:α->Prop}(h:Tot o P):Tot o fun a=>P a/\o = .some a:=by
 obtain⟨a,h1,h2⟩:=h
 exact⟨a,h1,h2,h1⟩
theorem SzL.setM{α:Type}{k m:Nat}{xs z:List (List α)}{y:List α}{i j:Int}{v:α}(h:z=xs.set i.toNat (y.set j.toNat v))(hx:SzL k (SzL m fun _=>True) xs)(hy:SzL m (fun _=>True) y):SzL k (SzL m fun _=>True) z:=by
 subst h
 refine⟨by rw [List.length_set];exact hx.1,fun e he=>?_⟩
 rcases List.mem_or_eq_of_mem_set he with he | he
 .exact hx.2 e he
 .rw [he];exact⟨by rw [List.length_set];exact hy.1,fun _ _=>trivial⟩
end Go.PW
