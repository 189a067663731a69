import Derived.Test.YtchddhcajpagjaaGreatPwX
set_option linter.all false
namespace Go.PW
theorem Zae2{α:Type}{l:List α}{v w:Int}{k:Nat}{x y:α}(h0:0<=v)(hw:w=v+1)(hk:(k:Int) < w)(hy:l[k]?=some y)(hx:l[v.toNat]?=some x):(k:Int) < v\/y=x:=by
 by_cases h:(k:Int) < v
 .exact .inl h
 .right
  have:k=v.toNat:=by omega
  subst this
  exact Option.some.inj (hy.symm.trans hx)
theorem Zak1{α:Type}{l:List α}{v w:Int}{x:α}(hx:l[v.toNat]?=some x)(h0:0<=v)(hw:w=v+1):l.take w.toNat=l.take v.toNat++[x]:=by
 have:w.toNat=v.toNat+1:=by omega
 rw [this,List.take_add_one,hx];rfl
def DI{α:Type}(b v:List α)(p:α->Bool)(i j:Int):Prop:=v.length=b.length/\0<=i/\i<=j/\v.take i.toNat=(b.take j.toNat).filter p/\v.drop j.toNat=b.drop j.toNat
theorem DI.at{α:Type}{b v:List α}{p:α->Bool}{i j:Int}{x:α}(h:DI b v p i j)(hx:v[j.toNat]?=some x):b[j.toNat]?=some x:=by
 have:(v.drop j.toNat)[0]?=(b.drop j.toNat)[0]?:=by rw [h.2.2.2.2]
 simpa [List.getElem?_drop,hx] using this.symm
theorem Zaoz{α:Type}{l:List α}{P:α->Prop}{v w:Int}{x:α}(hx:l[v.toNat]?=some x)(h:∀ (k:Nat) y,(k:Int) < v->l[k]?=some y->P y)(h0:0<=v)(hp:P x)(hw:w=v+1):∀ (k:Nat) y,(k:Int) < w->l[k]?=some y->P y:=fun k y hk hy=>by
 rcases Zae2 h0 hw hk hy hx with hk | rfl
 .exact h k y hk hy
 .exact hp
theorem Tot.we{α:Type}{o:Option α}{P:α->Prop}(h:Tot o P):Tot o fun a=>P a/\o = .some a:=by
 obtain⟨a,h1,h2⟩:=h
 exact⟨a,h1,h2,h1⟩
end Go.PW
