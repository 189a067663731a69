import Derived.Test.YtncgejlelfefdaaGreatQPl
set_option linter.all false
set_option maxRecDepth 100000
namespace Go.PW
def ixO(l:List Zc)(id:Int):Int:=match l.findIdx? fun o=>o.Id==id with
 | some k=>k
 | none => -1
abbrev NoId(l:List Zc)(id v:Int):Prop:=∀ (k:Nat) x,(k:Int) < v->l[k]?=some x->x.Id≠id
theorem Zbro{l:List Zc}{id:Int}:NoId l id 0:=fun k x hk=>by omega
theorem Zbje{l:List Zc}{id v w:Int}{x:Zc}(hx:l[v.toNat]?=some x)(h:NoId l id v)(h0:0<=v)(hn:x.Id≠id)(hw:w=v+1):NoId l id w:=fun k y hk hy=>by
 rcases Zwn h0 hw hk hy hx with hk | rfl
 .exact h k y hk hy
 .exact hn
theorem Zbpy{l:List Zc}{id v:Int}{x:Zc}(hx:l[v.toNat]?=some x)(h:NoId l id v)(h0:0<=v)(hn:x.Id=id):v=ixO l id:=by
 unfold ixO
 obtain⟨hi,he⟩:=List.getElem?_eq_some_iff.1 hx
 rw [List.findIdx?_eq_some_iff_getElem.2 ⟨hi,by rw [he];exact beq_iff_eq.2 hn,fun j hj=>by
  have:=h j l[j] (by omega) (List.getElem?_eq_getElem (by omega))
  simpa using this⟩]
 show v=((v.toNat:Nat):Int)
 omega
theorem Zblq{l:List Zc}{id v:Int}(h:NoId l id v)(hv:(l.length:Int)<=v) : -1=ixO l id:=by
 unfold ixO
 rw [List.findIdx?_eq_none_iff.2 fun x hx=>by
  obtain⟨k,hk,he⟩:=List.mem_iff_getElem.1 hx
  have:=h k x (by omega) (by rw [List.getElem?_eq_getElem hk,he])
  simpa using this]
theorem Zlk(l:List Zc)(id:Int):(ixO l id = -1/\∀ x,x∈l->x.Id≠id)\/∃ x,0<=ixO l id/\ixO l id < l.length/\l[(ixO l id).toNat]?=some x/\x.Id=id:=by
 unfold ixO
 cases h:l.findIdx? fun o=>o.Id==id with
 | none=>
  left
  refine⟨rfl,fun x hx=>?_⟩
  have:=List.findIdx?_eq_none_iff.1 h x hx
  simpa using this
 | some k=>
  right
  obtain⟨hi,he,_⟩:=List.findIdx?_eq_some_iff_getElem.1 h
  refine⟨l[k],by show 0<=(k:Int);omega,by show (k:Int) < _;omega,?_,by simpa using he⟩
  show l[(k:Int).toNat]?=_
  rw [Int.toNat_natCast,List.getElem?_eq_getElem hi]
theorem Z9c(l:List Zc)(id:Int) : -1<=ixO l id/\ixO l id < l.length:=by
 rcases Zlk l id with ⟨h,_⟩ | ⟨x,h1,h2,_⟩<;>omega
abbrev Zavx:Zc:=⟨0,0,0,0,0,false,false,false,false,0,⟨0,0,0⟩,0,0,0,false,0,0⟩
def fdV(l:List Zc)(id:Int):Zc×Bool:=match l.find? fun o=>o.Id==id with
 | some o=>(o,true)
 | none=>(Zavx,false)
theorem Z9d{l:List Zc}{id:Int}(h:ixO l id < 0):(Zavx,false)=fdV l id:=by
 unfold fdV
 rcases Zlk l id with ⟨_,hn⟩ | ⟨x,h1,_⟩
 .rw [List.find?_eq_none.2 fun x hx=>by simpa using hn x hx]
 .omega
theorem Zso{l:List Zc}{id:Int}{x:Zc}(hx:l[(ixO l id).toNat]?=some x)(h:¬ ixO l id < 0):(x,true)=fdV l id:=by
 unfold fdV
 have hf:l.find? (fun o=>o.Id==id)=some x:=by
  unfold ixO at hx h
  cases he:l.findIdx? fun o=>o.Id==id with
  | none=>rw [he] at h;exact absurd (by decide) h
  | some k=>
   rw [he] at hx
   obtain⟨hi,h1,h2⟩:=List.findIdx?_eq_some_iff_getElem.1 he
   have hx:l[k]?=some x:=hx
   rw [List.getElem?_eq_getElem hi] at hx
   have e:=Option.some.inj hx
   exact List.find?_eq_some_iff_getElem.2 ⟨by rw [<- e];exact h1,k,hi,e,fun j hj=>by simpa using h2 j hj⟩
 rw [hf]
theorem Zbrp(l:List Zc)(id:Int):(fdV l id).2=decide (0<=ixO l id):=by
 by_cases h:ixO l id < 0
 .rw [<- Z9d h,decide_eq_false (by omega)]
 .have:=(Z9c l id).2
  rw [<- Zso (List.getElem?_eq_getElem (show (ixO l id).toNat < l.length by omega)) h,decide_eq_true (by omega)]
def trV(all:List Zb)(i:Int):Zb:=(if i < 0 then none else all[i.toNat]?).getD Zua
theorem Zbdc{all:List Zb}{i:Int}(h:i < 0):Zua=trV all i:=by unfold trV;rw [if_pos h];rfl
theorem Zbdd{all:List Zb}{i:Int}(h:i>=(all.length:Int)):Zua=trV all i:=by
 unfold trV
 rw [if_neg (by omega),List.getElem?_eq_none (by omega)];rfl
theorem Zbjf{all:List Zb}{i:Int}{x:Zb}(hx:all[i.toNat]?=some x)(h:¬ i < 0):x=trV all i:=by unfold trV;rw [if_neg h,hx];rfl
def Znh(ps:List Z9)(p:Int):Bool:=decide (0<=p)&&((ps[p.toNat]?).map fun x => !x.Lost).getD false
theorem Za88{ps:List Z9}{p:Int}(h:p < 0\/p>=(ps.length:Int)):Znh ps p=false:=by
 unfold Znh
 by_cases h1:0<=p
 .rw [List.getElem?_eq_none (by omega)];simp
 .rw [decide_eq_false h1];rfl
theorem Zayz{ps:List Z9}{p:Int}{x:Z9}(hx:ps[p.toNat]?=some x)(h:0<=p):Znh ps p = !x.Lost:=by
 unfold Znh
 rw [decide_eq_true h,hx];rfl
abbrev Za4o:Zm:=⟨0,0,0,0,0,0,0,[],0,0,⟨0,0⟩,⟨0,0⟩,⟨0,0⟩⟩
def clV(n:Int):Int:=Zia (Zsy n (-1000000)) 1000000
def muV(a b:Int):Int:=clV (IntKind.wrap .i64 (clV a*clV b))
def amV(a:Zb0):Bool:=
 if a.Kind=0 then decide (0<=a.N/\a.N<=1000000/\a.Counter=0/\a.Filter=Za4o)
 else if a.Kind=2 then decide (1<=a.N/\a.N<=99/\a.Counter=0)&&filV a.Filter
 else if a.Kind=4 then decide (0<=a.Counter/\a.Counter<=2/\a.N=0/\a.Filter=Za4o)
 else decide (0<=a.Kind/\a.Kind<=7/\a.N=0/\a.Counter=0/\a.Filter=Za4o)
def usV(a:Zb0):Zb0:=if a.Kind=2 then ⟨0,0,a.Counter,Za4o⟩ else if a.Kind=0 then ⟨0,0,a.Counter,a.Filter⟩ else if a.Kind=4 then ⟨0,a.N,0,a.Filter⟩ else ⟨0,a.N,a.Counter,a.Filter⟩
theorem Zbvk(x y:Zb0):Zah (Za5 x) (Za5 y)=decide (x=y):=Z30 Zayt x y
theorem Zbrq{l:List Zc}{id i:Int}(hi:i=ixO l id)(h:i < 0):(Zavx,false)=fdV l id:=Z9d (hi▸h)
theorem Zbpz{l:List Zc}{id i:Int}{x:Zc}(hx:l[i.toNat]?=some x)(hi:i=ixO l id)(h:¬ i < 0):(x,true)=fdV l id:=by subst hi;exact Zso hx h
theorem Za2c{α:Type}{a b:List α}{v w:Int}{x y:α}(hx:a[v.toNat]?=some x)(hy:b[v.toNat]?=some y)(h:∀ k:Nat,(k:Int) < v->a[k]?=b[k]?)(h0:0<=v)(e:x=y)(hw:w=v+1):∀ k:Nat,(k:Int) < w->a[k]?=b[k]?:=fun k hk=>by
 by_cases hk':(k:Int) < v
 .exact h k hk'
 .have:k=v.toNat:=by omega
  subst this
  rw [hx,hy,e]
theorem Za89{α:Type}{a b:List α}{v:Int}(h:∀ k:Nat,(k:Int) < v->a[k]?=b[k]?)(hl:a.length=b.length)(hv:(a.length:Int)<=v):a=b:=
 List.ext_getElem? fun k=>by
  by_cases hk:(k:Int) < v
  .exact h k hk
  .rw [List.getElem?_eq_none (by omega),List.getElem?_eq_none (by omega)]
end Go.PW
