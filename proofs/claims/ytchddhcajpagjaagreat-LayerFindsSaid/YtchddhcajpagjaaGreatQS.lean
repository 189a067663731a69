import Derived.Test.YtchddhcajpagjaaGreatQPl
set_option linter.all false
set_option maxRecDepth 100000
namespace Go.PW
def ixO(l:List Ze)(id:Int):Int:=match l.findIdx? fun o=>o.Id==id with
 | some k=>k
 | none => -1
abbrev NoId(l:List Ze)(id v:Int):Prop:=∀ (k:Nat) x,(k:Int) < v->l[k]?=some x->x.Id≠id
theorem Zany{l:List Ze}{id:Int}:NoId l id 0:=fun k x hk=>by omega
theorem Z5l{l:List Ze}{id v w:Int}{x:Ze}(hx:l[v.toNat]?=some x)(h:NoId l id v)(h0:0<=v)(hn:x.Id≠id)(hw:w=v+1):NoId l id w:=fun k y hk hy=>by
 rcases Zalk h0 hw hk hy hx with hk | rfl
 .exact h k y hk hy
 .exact hn
theorem Zafl{l:List Ze}{id v:Int}{x:Ze}(hx:l[v.toNat]?=some x)(h:NoId l id v)(h0:0<=v)(hn:x.Id=id):v=ixO l id:=by
 unfold ixO
 obtain⟨hi,he⟩:=List.getElem?_eq_some_iff.1 hx
 rw [List.findIdx?_eq_some_iff_getElem.2 ⟨hi,by rw [he];exact beq_iff_eq.2 hn,fun j hj=>by
  have:=h j l[j] (by omega) (List.getElem?_eq_getElem (by omega))
  simpa using this⟩]
 show v=((v.toNat:Nat):Int)
 omega
theorem Z3r{l:List Ze}{id v:Int}(h:NoId l id v)(hv:(l.length:Int)<=v) : -1=ixO l id:=by
 unfold ixO
 rw [List.findIdx?_eq_none_iff.2 fun x hx=>by
  obtain⟨k,hk,he⟩:=List.mem_iff_getElem.1 hx
  have:=h k x (by omega) (by rw [List.getElem?_eq_getElem hk,he])
  simpa using this]
theorem Zarp(l:List Ze)(id:Int):(ixO l id = -1/\∀ x,x∈l->x.Id≠id)\/∃ x,0<=ixO l id/\ixO l id < l.length/\l[(ixO l id).toNat]?=some x/\x.Id=id:=by
 unfold ixO
 cases h:l.findIdx? fun o=>o.Id==id with
 | none=>
  left
  refine⟨rfl,fun x hx=>?_⟩
  have:=List.findIdx?_eq_none_iff.1 h x hx
  simpa using this
 | some k=>
  right
  obtain⟨hi,he,_⟩:=List.findIdx?_eq_some_iff_getElem.1 h
  refine⟨l[k],by show 0<=(k:Int);omega,by show (k:Int) < _;omega,?_,by simpa using he⟩
  show l[(k:Int).toNat]?=_
  rw [Int.toNat_natCast,List.getElem?_eq_getElem hi]
theorem Za9q(l:List Ze)(id:Int) : -1<=ixO l id/\ixO l id < l.length:=by
 rcases Zarp l id with ⟨h,_⟩ | ⟨x,h1,h2,_⟩<;>omega
abbrev Za12:Ze:=⟨0,0,0,0,0,false,false,false,false,0,⟨0,0,0⟩,0,0,0,false,0,0⟩
def fdV(l:List Ze)(id:Int):Ze×Bool:=match l.find? fun o=>o.Id==id with
 | some o=>(o,true)
 | none=>(Za12,false)
theorem Za9r{l:List Ze}{id:Int}(h:ixO l id < 0):(Za12,false)=fdV l id:=by
 unfold fdV
 rcases Zarp l id with ⟨_,hn⟩ | ⟨x,h1,_⟩
 .rw [List.find?_eq_none.2 fun x hx=>by simpa using hn x hx]
 .omega
theorem Za8n{l:List Ze}{id:Int}{x:Ze}(hx:l[(ixO l id).toNat]?=some x)(h:¬ ixO l id < 0):(x,true)=fdV l id:=by
 unfold fdV
 have hf:l.find? (fun o=>o.Id==id)=some x:=by
  unfold ixO at hx h
  cases he:l.findIdx? fun o=>o.Id==id with
  | none=>rw [he] at h;exact absurd (by decide) h
  | some k=>
   rw [he] at hx
   obtain⟨hi,h1,h2⟩:=List.findIdx?_eq_some_iff_getElem.1 he
   have hx:l[k]?=some x:=hx
   rw [List.getElem?_eq_getElem hi] at hx
   have e:=Option.some.inj hx
   exact List.find?_eq_some_iff_getElem.2 ⟨by rw [<- e];exact h1,k,hi,e,fun j hj=>by simpa using h2 j hj⟩
 rw [hf]
abbrev Zatd:Zc:=⟨0,0,0,0,0,0,0,[],0,0,⟨0,0⟩,⟨0,0⟩,⟨0,0⟩⟩
def clV(n:Int):Int:=minI (maxI n (-1000000)) 1000000
def muV(a b:Int):Int:=clV (IntKind.wrap .i64 (clV a*clV b))
def amV(a:Zbs):Bool:=
 if a.Kind=0 then decide (0<=a.N/\a.N<=1000000/\a.Counter=0/\a.Filter=Zatd)
 else if a.Kind=2 then decide (1<=a.N/\a.N<=99/\a.Counter=0)&&filV a.Filter
 else if a.Kind=4 then decide (0<=a.Counter/\a.Counter<=2/\a.N=0/\a.Filter=Zatd)
 else decide (0<=a.Kind/\a.Kind<=7/\a.N=0/\a.Counter=0/\a.Filter=Zatd)
def usV(a:Zbs):Zbs:=if a.Kind=2 then ⟨0,0,a.Counter,Zatd⟩ else if a.Kind=0 then ⟨0,0,a.Counter,a.Filter⟩ else if a.Kind=4 then ⟨0,a.N,0,a.Filter⟩ else ⟨0,a.N,a.Counter,a.Filter⟩
theorem Zki(x y:Zbs):Z5 (Zaq x) (Zaq y)=decide (x=y):=Zaq4 Zapm x y
theorem Za4v{l:List Ze}{id i:Int}(hi:i=ixO l id)(h:i < 0):(Za12,false)=fdV l id:=Za9r (hi▸h)
theorem Za0i{l:List Ze}{id i:Int}{x:Ze}(hx:l[i.toNat]?=some x)(hi:i=ixO l id)(h:¬ i < 0):(x,true)=fdV l id:=by subst hi;exact Za8n hx h
end Go.PW
