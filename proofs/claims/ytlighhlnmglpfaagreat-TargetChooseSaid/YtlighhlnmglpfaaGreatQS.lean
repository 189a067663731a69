import Derived.Test.YtlighhlnmglpfaaGreatQPl
set_option linter.all false
set_option maxRecDepth 100000
namespace Go.PW
def ixO(l:List Zl)(id:Int):Int:=match l.findIdx? fun o=>o.Id==id with
 | some k=>k
 | none => -1
abbrev NoId(l:List Zl)(id v:Int):Prop:=∀ (k:Nat) x,(k:Int) < v→l[k]?=some x→x.Id≠id
theorem Zbji{l:List Zl}{id:Int}:NoId l id 0:=fun k x hk=>by omega
theorem Zbdw{l:List Zl}{id v w:Int}{x:Zl}(hx:l[v.toNat]?=some x)(h:NoId l id v)(h0:0≤v)(hn:x.Id≠id)(hw:w=v+1):NoId l id w:=fun k y hk hy=>by
 rcases Zv3 h0 hw hk hy hx with hk | rfl
 ·exact h k y hk hy
 ·exact hn
theorem Zbh8{l:List Zl}{id v:Int}{x:Zl}(hx:l[v.toNat]?=some x)(h:NoId l id v)(h0:0≤v)(hn:x.Id=id):v=ixO l id:=by
 unfold ixO
 obtain⟨hi,he⟩:=List.getElem?_eq_some_iff.1 hx
 rw [List.findIdx?_eq_some_iff_getElem.2 ⟨hi,by rw [he];exact beq_iff_eq.2 hn,fun j hj=>by
  have:=h j l[j] (by omega) (List.getElem?_eq_getElem (by omega))
  simpa using this⟩]
 show v=((v.toNat:Nat):Int)
 omega
theorem Zbfz{l:List Zl}{id v:Int}(h:NoId l id v)(hv:(l.length:Int)≤v) : -1=ixO l id:=by
 unfold ixO
 rw [List.findIdx?_eq_none_iff.2 fun x hx=>by
  obtain⟨k,hk,he⟩:=List.mem_iff_getElem.1 hx
  have:=h k x (by omega) (by rw [List.getElem?_eq_getElem hk,he])
  simpa using this]
theorem Z46(l:List Zl)(id:Int):(ixO l id = -1∧∀ x,x∈l→x.Id≠id)∨∃ x,0≤ixO l id∧ixO l id < l.length∧l[(ixO l id).toNat]?=some x∧x.Id=id:=by
 unfold ixO
 cases h:l.findIdx? fun o=>o.Id==id with
 | none=>
  left
  refine⟨rfl,fun x hx=>?_⟩
  have:=List.findIdx?_eq_none_iff.1 h x hx
  simpa using this
 | some k=>
  right
  obtain⟨hi,he,_⟩:=List.findIdx?_eq_some_iff_getElem.1 h
  refine⟨l[k],by show 0≤(k:Int);omega,by show (k:Int) < _;omega,?_,by simpa using he⟩
  show l[(k:Int).toNat]?=_
  rw [Int.toNat_natCast,List.getElem?_eq_getElem hi]
theorem Za5z(l:List Zl)(id:Int) : -1≤ixO l id∧ixO l id < l.length:=by
 rcases Z46 l id with ⟨h,_⟩ | ⟨x,h1,h2,_⟩<;>omega
abbrev Zba5:Zl:=⟨0,0,0,0,0,false,false,false,false,0,⟨0,0,0⟩,0,0,0,false,0,0⟩
def fdV(l:List Zl)(id:Int):Zl×Bool:=match l.find? fun o=>o.Id==id with
 | some o=>(o,true)
 | none=>(Zba5,false)
theorem Zbjj{l:List Zl}{id:Int}(h:ixO l id < 0):(Zba5,false)=fdV l id:=by
 unfold fdV
 rcases Z46 l id with ⟨_,hn⟩ | ⟨x,h1,_⟩
 ·rw [List.find?_eq_none.2 fun x hx=>by simpa using hn x hx]
 ·omega
theorem Zbh9{l:List Zl}{id:Int}{x:Zl}(hx:l[(ixO l id).toNat]?=some x)(h:¬ ixO l id < 0):(x,true)=fdV l id:=by
 unfold fdV
 have hf:l.find? (fun o=>o.Id==id)=some x:=by
  unfold ixO at hx h
  cases he:l.findIdx? fun o=>o.Id==id with
  | none=>rw [he] at h;exact absurd (by decide) h
  | some k=>
   rw [he] at hx
   obtain⟨hi,h1,h2⟩:=List.findIdx?_eq_some_iff_getElem.1 he
   have hx:l[k]?=some x:=hx
   rw [List.getElem?_eq_getElem hi] at hx
   have e:=Option.some.inj hx
   exact List.find?_eq_some_iff_getElem.2 ⟨by rw [← e];exact h1,k,hi,e,fun j hj=>by simpa using h2 j hj⟩
 rw [hf]
def trV(all:List Za)(i:Int):Za:=(if i < 0 then none else all[i.toNat]?).getD Zatd
theorem Za9b{all:List Za}{i:Int}(h:i≥(all.length:Int)):Zatd=trV all i:=by
 unfold trV
 rw [if_neg (by omega),List.getElem?_eq_none (by omega)];rfl
theorem Za50{all:List Za}{i:Int}{x:Za}(hx:all[i.toNat]?=some x)(h:¬ i < 0):x=trV all i:=by unfold trV;rw [if_neg h,hx];rfl
def Zyu(ps:List Za2)(p:Int):Bool:=decide (0≤p)&&((ps[p.toNat]?).map fun x => !x.Lost).getD false
def Zvg(ps:List Za2)(v:Int):List Int:=((List.range v.toNat).map fun i:Nat=>(i:Int)).filter (Zyu ps)
theorem Zbf0{ps:List Za2}{p:Int}(h:p < 0∨p≥(ps.length:Int)):Zyu ps p=false:=by
 unfold Zyu
 by_cases h1:0≤p
 ·rw [List.getElem?_eq_none (by omega)];simp
 ·rw [decide_eq_false h1];rfl
theorem Zawg{ps:List Za2}{p:Int}{x:Za2}(hx:ps[p.toNat]?=some x)(h:0≤p):Zyu ps p = !x.Lost:=by
 unfold Zyu
 rw [decide_eq_true h,hx];rfl
theorem Zazk{ps:List Za2}{v w:Int}(h0:0≤v)(hw:w=v+1):Zvg ps w=Zvg ps v++(if Zyu ps v then [v] else []):=by
 unfold Zvg
 have:w.toNat=v.toNat+1:=by omega
 rw [this,List.range_succ,List.map_append,List.filter_append]
 congr 1
 show List.filter (Zyu ps) [((v.toNat:Nat):Int)]=_
 rw [Int.toNat_of_nonneg h0,List.filter_cons]
 rfl
theorem Zbf1{ps:List Za2}{acc z:List Int}{v w:Int}{x:Za2}(hz:z=acc++[v])(hx:ps[v.toNat]?=some x)(h:acc=Zvg ps v)(h0:0≤v)(hl:x.Lost=false)(hw:w=v+1):z=Zvg ps w:=by
 rw [Zazk h0 hw,Zawg hx h0,hl,hz,h];rfl
theorem Zbdx{ps:List Za2}{acc:List Int}{v w:Int}{x:Za2}(hx:ps[v.toNat]?=some x)(h:acc=Zvg ps v)(h0:0≤v)(hl:x.Lost=true)(hw:w=v+1):acc=Zvg ps w:=by
 rw [Zazk h0 hw,Zawg hx h0,hl,h];exact (List.append_nil _).symm
def Zyv(ps:List Za2):List Int:=Zvg ps ps.length
theorem Za51{ps:List Za2}{acc:List Int}{v:Int}(h:acc=Zvg ps v)(hv:v≤(ps.length:Int))(hl:(ps.length:Int)≤v):acc=Zyv ps:=by
 unfold Zyv;rw [h];congr 1;omega
theorem Zbf2{ps:List Za2}{x:Int}:x∈Zyv ps↔Zyu ps x=true:=by
 unfold Zyv Zvg
 rw [List.mem_filter]
 refine⟨fun h=>h.2,fun h=>⟨?_,h⟩⟩
 have h1:0≤x∧x < ps.length:=by
  refine Classical.byContradiction fun hn=>?_
  rw [Zbf0 (by omega)] at h;cases h
 exact List.mem_map.2 ⟨x.toNat,List.mem_range.2 (by omega),by omega⟩
theorem Zbf3(ps:List Za2):(Zyv ps).length≤ps.length:=by
 unfold Zyv Zvg
 refine Nat.le_trans (List.length_filter_le ..) ?_
 simp
abbrev Za1x:Ze:=⟨0,0,0,0,0,0,0,[],0,0,⟨0,0⟩,⟨0,0⟩,⟨0,0⟩⟩
def clV(n:Int):Int:=Zt8 (Zrp n (-1000000)) 1000000
def muV(a b:Int):Int:=clV (IntKind.wrap .i64 (clV a*clV b))
def amV(a:Zbn):Bool:=
 if a.Kind=0 then decide (0≤a.N∧a.N≤1000000∧a.Counter=0∧a.Filter=Za1x)
 else if a.Kind=2 then decide (1≤a.N∧a.N≤99∧a.Counter=0)&&filV a.Filter
 else if a.Kind=4 then decide (0≤a.Counter∧a.Counter≤2∧a.N=0∧a.Filter=Za1x)
 else decide (0≤a.Kind∧a.Kind≤7∧a.N=0∧a.Counter=0∧a.Filter=Za1x)
def usV(a:Zbn):Zbn:=if a.Kind=2 then ⟨0,0,a.Counter,Za1x⟩ else if a.Kind=0 then ⟨0,0,a.Counter,a.Filter⟩ else if a.Kind=4 then ⟨0,a.N,0,a.Filter⟩ else ⟨0,a.N,a.Counter,a.Filter⟩
theorem Zblb(x y:Zbn):Zar (Zbc x) (Zbc y)=decide (x=y):=Zaek Zawa x y
theorem Zbjk{l:List Zl}{id i:Int}(hi:i=ixO l id)(h:i < 0):(Zba5,false)=fdV l id:=Zbjj (hi▸h)
theorem Za9c{l:List Zl}{id i:Int}{x:Zl}(hx:l[i.toNat]?=some x)(hi:i=ixO l id)(h:¬ i < 0):(x,true)=fdV l id:=by subst hi;exact Zbh9 hx h
theorem Zahj{α:Type}{a b:List α}{v w:Int}{x y:α}(hx:a[v.toNat]?=some x)(hy:b[v.toNat]?=some y)(h:∀ k:Nat,(k:Int) < v→a[k]?=b[k]?)(h0:0≤v)(e:x=y)(hw:w=v+1):∀ k:Nat,(k:Int) < w→a[k]?=b[k]?:=fun k hk=>by
 by_cases hk':(k:Int) < v
 ·exact h k hk'
 ·have:k=v.toNat:=by omega
  subst this
  rw [hx,hy,e]
theorem Z3b{α:Type}{a b:List α}{v:Int}(h:∀ k:Nat,(k:Int) < v→a[k]?=b[k]?)(hl:a.length=b.length)(hv:(a.length:Int)≤v):a=b:=
 List.ext_getElem? fun k=>by
  by_cases hk:(k:Int) < v
  ·exact h k hk
  ·rw [List.getElem?_eq_none (by omega),List.getElem?_eq_none (by omega)]
theorem Zazl(s:Zb)(all:List Za)(you src:Int)(f:Ze):(Zs6 s all you src f).length≤s.Objects.length:=Zamv ..
theorem Zan8{α γ:Type}(p:Nat→α→Bool)(q:α→γ):∀ (xs:List α) (i:Nat) (y:γ),y∈Zx5 p q i xs→∃ x,x∈xs∧q x=y
 | x::xs,i,y,h=>by
  unfold Zx5 at h
  cases hp:p i x with
  | false=>
   rw [hp] at h
   obtain⟨z,h1,h2⟩:=Zan8 p q xs (i+1) y h
   exact⟨z,List.mem_cons_of_mem _ h1,h2⟩
  | true=>
   rw [hp] at h
   rcases List.mem_cons.1 h with rfl | h
   ·exact⟨x,List.mem_cons_self ..,rfl⟩
   ·obtain⟨z,h1,h2⟩:=Zan8 p q xs (i+1) y h
    exact⟨z,List.mem_cons_of_mem _ h1,h2⟩
end Go.PW
