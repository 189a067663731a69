import Derived.Test.YtchddhcajpagjaaGreatQS
set_option linter.all false
set_option maxRecDepth 100000
namespace Go.PW
def kwB(a b:Int):Bool:=Zbf .and .i64 a b==b
section
variable {s:Zl} {all:List Zb} {you src id i:Int} {w:Bool} {x:Ze}
end
abbrev Cons(l:List Ze)(v:Int):Prop:=(∀ (k:Nat) x,(k:Int) < v->l[k]?=some x->1<=x.Id)/\∀ (k:Nat) x y,(k:Int)+1 < v->l[k]?=some x->l[k+1]?=some y->x.Id < y.Id
theorem Zaw4{l:List Ze}:Cons l 0:=⟨fun k x h=>by omega,fun k x y h=>by omega⟩
theorem Ztl{l:List Ze}{v w:Int}{x:Ze}(hx:l[v.toNat]?=some x)(h:Cons l v)(h0:0<=v)(h1:1<=x.Id)(h2:∀ y,0 < v->l[(v - 1).toNat]?=some y->y.Id < x.Id)(hw:w=v+1):Cons l w:=by
 refine⟨fun k y hk hy=>?_,fun k y z hk hy hz=>?_⟩
 .rcases Zalk h0 hw hk hy hx with h' | rfl
  .exact h.1 k y h' hy
  .exact h1
 .by_cases hk':(k:Int)+1 < v
  .exact h.2 k y z hk' hy hz
  .have e:k+1=v.toNat:=by omega
   rw [e,hx] at hz
   cases hz
   exact h2 y (by omega) (by rw [show (v - 1).toNat=k by omega];exact hy)
abbrev Ids(l:List Ze):Prop:=(∀ o,o∈l->1<=o.Id)/\∀ (i j:Nat) x y,l[i]?=some x->l[j]?=some y->x.Id=y.Id->i=j
theorem Zapr{l:List Ze}(h:Cons l l.length):∀ (d i:Nat) x y,l[i]?=some x->l[i+d+1]?=some y->x.Id < y.Id:=by
 intro d
 induction d with
 | zero=>intro i x y hx hy;exact h.2 i x y (by have:=(List.getElem?_eq_some_iff.1 hy).1;omega) hx hy
 | succ d ih=>
  intro i x y hx hy
  have hl:=(List.getElem?_eq_some_iff.1 hy).1
  have hz:=List.getElem?_eq_getElem (l:=l) (i:=i+d+1) (by omega)
  have h1:=ih i x _ hx hz
  have h2:=h.2 (i+d+1) _ y (by omega) hz hy
  omega
theorem Zp0{l:List Ze}{v:Int}(h:Cons l v)(hv:(l.length:Int)<=v):Ids l:=by
 have h':Cons l l.length:=⟨fun k x hk=>h.1 k x (by omega),fun k x y hk=>h.2 k x y (by omega)⟩
 refine⟨fun o ho=>?_,fun i j x y hx hy e=>?_⟩
 .obtain⟨k,hk⟩:=List.mem_iff_getElem?.1 ho
  exact h'.1 k o (by have:=(List.getElem?_eq_some_iff.1 hk).1;omega) hk
 .rcases Nat.lt_trichotomy i j with hij | hij | hij
  .have:=Zapr h' (j - i - 1) i x y hx (by rw [show i+(j - i - 1)+1=j by omega];exact hy);omega
  .exact hij
  .have:=Zapr h' (i - j - 1) j y x hy (by rw [show j+(i - j - 1)+1=i by omega];exact hx);omega
section
variable {s:Zl} {all:List Zb} {sp:Zba}
end
section
variable {s:Zl} {all:List Zb} {t:Zt6} {l acc z:List Zt6} {a b b':Bool} {v w:Int}
end
theorem Zaw5{l:List Ze}{v w:Int}{x z:Ze}(hz:l[w.toNat]?=some z)(e:w=v - 1)(h:¬ z.Id>=x.Id):∀ y,0 < v->l[(v - 1).toNat]?=some y->y.Id < x.Id:=fun y _ hy=>by
 rw [<- e,hz] at hy;cases hy;omega
end Go.PW
