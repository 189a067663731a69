import Derived.Test.YtncgejlelfefdaaGreatQS
set_option linter.all false
set_option maxRecDepth 100000
namespace Go.PW
section
variable {s:Za} {all:List Zb} {you src id i:Int} {w:Bool} {x:Zc}
end
abbrev Cons(l:List Zc)(v:Int):Prop:=(∀ (k:Nat) x,(k:Int) < v->l[k]?=some x->1<=x.Id)/\∀ (k:Nat) x y,(k:Int)+1 < v->l[k]?=some x->l[k+1]?=some y->x.Id < y.Id
theorem Zbrr{l:List Zc}:Cons l 0:=⟨fun k x h=>by omega,fun k x y h=>by omega⟩
theorem Za2d{l:List Zc}{v w:Int}{x:Zc}(hx:l[v.toNat]?=some x)(h:Cons l v)(h0:0<=v)(h1:1<=x.Id)(h2:∀ y,0 < v->l[(v - 1).toNat]?=some y->y.Id < x.Id)(hw:w=v+1):Cons l w:=by
 refine⟨fun k y hk hy=>?_,fun k y z hk hy hz=>?_⟩
 .rcases Zwn h0 hw hk hy hx with h' | rfl
  .exact h.1 k y h' hy
  .exact h1
 .by_cases hk':(k:Int)+1 < v
  .exact h.2 k y z hk' hy hz
  .have e:k+1=v.toNat:=by omega
   rw [e,hx] at hz
   cases hz
   exact h2 y (by omega) (by rw [show (v - 1).toNat=k by omega];exact hy)
abbrev Ids(l:List Zc):Prop:=(∀ o,o∈l->1<=o.Id)/\∀ (i j:Nat) x y,l[i]?=some x->l[j]?=some y->x.Id=y.Id->i=j
theorem Zbde{l:List Zc}(h:Cons l l.length):∀ (d i:Nat) x y,l[i]?=some x->l[i+d+1]?=some y->x.Id < y.Id:=by
 intro d
 induction d with
 | zero=>intro i x y hx hy;exact h.2 i x y (by have:=(List.getElem?_eq_some_iff.1 hy).1;omega) hx hy
 | succ d ih=>
  intro i x y hx hy
  have hl:=(List.getElem?_eq_some_iff.1 hy).1
  have hz:=List.getElem?_eq_getElem (l:=l) (i:=i+d+1) (by omega)
  have h1:=ih i x _ hx hz
  have h2:=h.2 (i+d+1) _ y (by omega) hz hy
  omega
theorem Zblr{l:List Zc}{v:Int}(h:Cons l v)(hv:(l.length:Int)<=v):Ids l:=by
 have h':Cons l l.length:=⟨fun k x hk=>h.1 k x (by omega),fun k x y hk=>h.2 k x y (by omega)⟩
 refine⟨fun o ho=>?_,fun i j x y hx hy e=>?_⟩
 .obtain⟨k,hk⟩:=List.mem_iff_getElem?.1 ho
  exact h'.1 k o (by have:=(List.getElem?_eq_some_iff.1 hk).1;omega) hk
 .rcases Nat.lt_trichotomy i j with hij | hij | hij
  .have:=Zbde h' (j - i - 1) i x y hx (by rw [show i+(j - i - 1)+1=j by omega];exact hy);omega
  .exact hij
  .have:=Zbde h' (i - j - 1) j y x hy (by rw [show j+(i - j - 1)+1=i by omega];exact hx);omega
theorem Zv3{l:List Zc}(h:Ids l){i:Nat}{o:Zc}(ho:l[i]?=some o):ixO l o.Id=i:=by
 rcases Zlk l o.Id with ⟨_,hn⟩ | ⟨x,h1,h2,h3,h4⟩
 .exact absurd rfl (hn o (List.mem_of_getElem? ho))
 .have:=h.2 _ _ _ _ h3 ho h4;omega
section
variable {s:Za} {all:List Zb} {sp:Za9}
end
theorem oeq{x y:Zd}(h:Zah (Zf x) (Zf y)=true):x=y:=by rw [Zadw] at h;exact of_decide_eq_true h
theorem one{x y:Zd}(h:Zah (Zf x) (Zf y)=false):x≠y:=by rw [Zadw] at h;exact of_decide_eq_false h
theorem teq{x y:Zbb}(h:Zah (Zar x) (Zar y)=true):x=y:=by rw [Za21] at h;exact of_decide_eq_true h
theorem Zbp0{α:Type}{l:List α}{v:Int}{x y:α}(hx:l[v.toNat]?=some x)(h0:0<=v)(e:y=x):0<=v↔y∈l:=⟨fun _=>e▸List.mem_of_getElem? hx,fun _=>h0⟩
theorem Zbrs{α:Type}{l:List α}{v:Int}{y:α}(h:∀ (k:Nat) x,(k:Int) < v->l[k]?=some x->x≠y)(hv:(l.length:Int)<=v):0<=(-1:Int)↔y∈l:=
 ⟨fun e=>absurd e (by decide),fun e=>by
  obtain⟨k,hk⟩:=List.mem_iff_getElem?.1 e
  exact absurd rfl (h k y (by have:=(List.getElem?_eq_some_iff.1 hk).1;omega) hk)⟩
section
variable {s:Za} {all:List Zb} {t:Zbb} {l acc z:List Zbb} {a b b':Bool} {v w:Int}
end
theorem Zbp1{α:Type}{a b:List α}{v:Int}{x y:α}(hx:a[v.toNat]?=some x)(hy:b[v.toNat]?=some y)(e:x≠y):false=true↔a=b:=⟨fun h=>absurd h (by decide),fun h=>by subst h;exact absurd (Option.some.inj (hx.symm.trans hy)) e⟩
theorem Zbls{α:Type}{a b:List α}(e:(a.length:Int)≠(b.length:Int)):false=true↔a=b:=⟨fun h=>absurd h (by decide),fun h=>by subst h;exact absurd rfl e⟩
theorem Zbrt{l:List Zc}{v w:Int}{x z:Zc}(hz:l[w.toNat]?=some z)(e:w=v - 1)(h:¬ z.Id>=x.Id):∀ y,0 < v->l[(v - 1).toNat]?=some y->y.Id < x.Id:=fun y _ hy=>by
 rw [<- e,hz] at hy;cases hy;omega
end Go.PW
