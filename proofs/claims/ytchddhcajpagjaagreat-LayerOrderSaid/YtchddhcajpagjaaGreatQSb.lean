import Derived.Test.YtchddhcajpagjaaGreatQPl
set_option linter.all false
set_option maxRecDepth 100000
namespace Go.PW
def ixO(l:List Zg)(id:Int):Int:=match l.findIdx? fun o=>o.Id==id with
 | some k=>k
 | none => -1
abbrev NoId(l:List Zg)(id v:Int):Prop:=∀ (k:Nat) x,(k:Int) < v->l[k]?=some x->x.Id≠id
theorem Zbgv{l:List Zg}{id:Int}:NoId l id 0:=fun k x hk=>by omega
theorem Za79{l:List Zg}{id v w:Int}{x:Zg}(hx:l[v.toNat]?=some x)(h:NoId l id v)(h0:0<=v)(hn:x.Id≠id)(hw:w=v+1):NoId l id w:=fun k y hk hy=>by
 rcases Zat8 h0 hw hk hy hx with hk | rfl
 .exact h k y hk hy
 .exact hn
theorem Za12{l:List Zg}{id v:Int}{x:Zg}(hx:l[v.toNat]?=some x)(h:NoId l id v)(h0:0<=v)(hn:x.Id=id):v=ixO l id:=by
 unfold ixO
 obtain⟨hi,he⟩:=List.getElem?_eq_some_iff.1 hx
 rw [List.findIdx?_eq_some_iff_getElem.2 ⟨hi,by rw [he];exact beq_iff_eq.2 hn,fun j hj=>by
  have:=h j l[j] O (List.getElem?_eq_getElem O)
  simpa using this⟩]
 show v=((v.toNat:Nat):Int)
 omega
theorem Zai8{l:List Zg}{id v:Int}(h:NoId l id v)(hv:(l.length:Int)<=v) : -1=ixO l id:=by
 unfold ixO
 rw [List.findIdx?_eq_none_iff.2 fun x hx=>by
  obtain⟨k,hk,he⟩:=List.mem_iff_getElem.1 hx
  have:=h k x O (by rw [List.getElem?_eq_getElem hk,he])
  simpa using this]
theorem Za8a(l:List Zg)(id:Int):(ixO l id = -1/\∀ x,x∈l->x.Id≠id)\/∃ x,0<=ixO l id/\ixO l id < l.length/\l[(ixO l id).toNat]?=some x/\x.Id=id:=by
 unfold ixO
 cases h:l.findIdx? fun o=>o.Id==id with
 | none=>
  left
  refine⟨rfl,fun x hx=>?_⟩
  have:=List.findIdx?_eq_none_iff.1 h x hx
  simpa using this
 | some k=>
  right
  obtain⟨hi,he,_⟩:=List.findIdx?_eq_some_iff_getElem.1 h
  refine⟨l[k],by show 0<=(k:Int);omega,by show (k:Int) < _;omega,?_,by simpa using he⟩
  show l[(k:Int).toNat]?=_
  rw [Int.toNat_natCast,List.getElem?_eq_getElem hi]
abbrev Za34:Zg:=⟨0,0,0,0,0,false,false,false,false,0,⟨0,0,0⟩,0,0,0,false,0,0⟩
def fdV(l:List Zg)(id:Int):Zg×Bool:=match l.find? fun o=>o.Id==id with
 | some o=>(o,true)
 | none=>(Za34,false)
theorem Zbgw{l:List Zg}{id:Int}(h:ixO l id < 0):(Za34,false)=fdV l id:=by
 unfold fdV
 rcases Za8a l id with ⟨_,hn⟩ | ⟨x,h1,_⟩
 .rw [List.find?_eq_none.2 fun x hx=>by simpa using hn x hx]
 .omega
theorem Zbe2{l:List Zg}{id:Int}{x:Zg}(hx:l[(ixO l id).toNat]?=some x)(h:¬ ixO l id < 0):(x,true)=fdV l id:=by
 unfold fdV
 have hf:l.find? (fun o=>o.Id==id)=some x:=by
  unfold ixO at hx h
  cases he:l.findIdx? fun o=>o.Id==id with
  | none=>rw [he] at h;exact absurd (by decide) h
  | some k=>
   rw [he] at hx
   obtain⟨hi,h1,h2⟩:=List.findIdx?_eq_some_iff_getElem.1 he
   have hx:l[k]?=some x:=hx
   rw [List.getElem?_eq_getElem hi] at hx
   have e:=Option.some.inj hx
   exact List.find?_eq_some_iff_getElem.2 ⟨by rw [<- e];exact h1,k,hi,e,fun j hj=>by simpa using h2 j hj⟩
 rw [hf]
def trV(all:List Zb)(i:Int):Zb:=(if i < 0 then none else all[i.toNat]?).getD Zadl
theorem Za8b{all:List Zb}{i:Int}{x:Zb}(hx:all[i.toNat]?=some x)(h:¬ i < 0):x=trV all i:=by unfold trV;rw [if_neg h,hx];rfl
abbrev Zle:Ze:=⟨0,0,0,0,0,0,0,[],0,0,⟨0,0⟩,⟨0,0⟩,⟨0,0⟩⟩
def clV(n:Int):Int:=minI (maxI n (-1000000)) 1000000
def amV(a:Zbk):Bool:=
 if a.Kind=0 then decide (0<=a.N/\a.N<=1000000/\a.Counter=0/\a.Filter=Zle)
 else if a.Kind=2 then decide (1<=a.N/\a.N<=99/\a.Counter=0)&&Z8k a.Filter
 else if a.Kind=4 then decide (0<=a.Counter/\a.Counter<=2/\a.N=0/\a.Filter=Zle)
 else decide (0<=a.Kind/\a.Kind<=7/\a.N=0/\a.Counter=0/\a.Filter=Zle)
def usV(a:Zbk):Zbk:=if a.Kind=2 then ⟨0,0,a.Counter,Zle⟩ else if a.Kind=0 then ⟨0,0,a.Counter,a.Filter⟩ else if a.Kind=4 then ⟨0,a.N,0,a.Filter⟩ else ⟨0,a.N,a.Counter,a.Filter⟩
theorem Zbkz(x y:Zbk):Zy (Zaq x) (Zaq y)=decide (x=y):=Zabi Zapf x y
theorem Zbgx{l:List Zg}{id i:Int}(hi:i=ixO l id)(h:i < 0):(Za34,false)=fdV l id:=Zbgw (hi▸h)
theorem Zbe3{l:List Zg}{id i:Int}{x:Zg}(hx:l[i.toNat]?=some x)(hi:i=ixO l id)(h:¬ i < 0):(x,true)=fdV l id:=by subst hi;exact Zbe2 hx h
end Go.PW
set_option maxRecDepth 100000
namespace Go.PW
section
variable {s:Zk} {all:List Zb} {you src id i:Int} {w:Bool} {x:Zg}
end
abbrev Z8o(l:List Zg)(v:Int):Prop:=(∀ (k:Nat) x,(k:Int) < v->l[k]?=some x->1<=x.Id)/\∀ (k:Nat) x y,(k:Int)+1 < v->l[k]?=some x->l[k+1]?=some y->x.Id < y.Id
theorem Zbgy{l:List Zg}:Z8o l 0:=⟨fun k x h=>by omega,fun k x y h=>by omega⟩
theorem Zasg{l:List Zg}{v w:Int}{x:Zg}(hx:l[v.toNat]?=some x)(h:Z8o l v)(h0:0<=v)(h1:1<=x.Id)(h2:∀ y,0 < v->l[(v - 1).toNat]?=some y->y.Id < x.Id)(hw:w=v+1):Z8o l w:=by
 refine⟨fun k y hk hy=>?_,fun k y z hk hy hz=>?_⟩
 .rcases Zat8 h0 hw hk hy hx with h' | rfl
  .exact h.1 k y h' hy
  .exact h1
 .by_cases hk':(k:Int)+1 < v
  .exact h.2 k y z hk' hy hz
  .have e:k+1=v.toNat:=by omega
   rw [e,hx] at hz
   cases hz
   exact h2 y O (by rw [show (v - 1).toNat=k by omega];exact hy)
abbrev Ids(l:List Zg):Prop:=(∀ o,o∈l->1<=o.Id)/\∀ (i j:Nat) x y,l[i]?=some x->l[j]?=some y->x.Id=y.Id->i=j
theorem Zapl{l:List Zg}(h:Z8o l l.length):∀ (d i:Nat) x y,l[i]?=some x->l[i+d+1]?=some y->x.Id < y.Id:=by
 intro d
 induction d with
 | zero=>intro i x y hx hy;exact h.2 i x y (by have:=(List.getElem?_eq_some_iff.1 hy).1;omega) hx hy
 | succ d ih=>
  intro i x y hx hy
  have hl:=(List.getElem?_eq_some_iff.1 hy).1
  have hz:=List.getElem?_eq_getElem (l:=l) (i:=i+d+1) O
  have h1:=ih i x _ hx hz
  have h2:=h.2 (i+d+1) _ y O hz hy
  omega
theorem Zba8{l:List Zg}{v:Int}(h:Z8o l v)(hv:(l.length:Int)<=v):Ids l:=by
 have h':Z8o l l.length:=⟨fun k x hk=>h.1 k x O,fun k x y hk=>h.2 k x y O⟩
 refine⟨fun o ho=>?_,fun i j x y hx hy e=>?_⟩
 .obtain⟨k,hk⟩:=List.mem_iff_getElem?.1 ho
  exact h'.1 k o (by have:=(List.getElem?_eq_some_iff.1 hk).1;omega) hk
 .rcases Nat.lt_trichotomy i j with hij | hij | hij
  .have:=Zapl h' (j - i - 1) i x y hx (by rw [show i+(j - i - 1)+1=j by omega];exact hy);omega
  .exact hij
  .have:=Zapl h' (i - j - 1) j y x hy (by rw [show j+(i - j - 1)+1=i by omega];exact hx);omega
section
variable {s:Zk} {all:List Zb} {sp:Za9}
end
section
variable {s:Zk} {all:List Zb} {t:Zs8} {l acc z:List Zs8} {a b b':Bool} {v w:Int}
end
theorem Zbgz{l:List Zg}{v w:Int}{x z:Zg}(hz:l[w.toNat]?=some z)(e:w=v - 1)(h:¬ z.Id>=x.Id):∀ y,0 < v->l[(v - 1).toNat]?=some y->y.Id < x.Id:=fun y _ hy=>by
 rw [<- e,hz] at hy;cases hy;omega
end Go.PW
