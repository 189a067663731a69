import Derived.Test.YtchddhcajpagjaaGreatQSc
import Derived.Test.YtchddhcajpagjaaGreatPwX
set_option linter.all false
set_option maxRecDepth 100000
namespace Go.PW
def abF{α:Type}(f:Int->Zh->α)(l:List Zh)(v:Int):List α:=((l.take v.toNat).zipIdx.filter fun p=>p.1.Kind==1).map fun p=>f p.2 p.1
theorem Zaye{α:Type}{f:Int->Zh->α}{l:List Zh}{v w:Int}{x:Zh}(hx:l[v.toNat]?=some x)(h0:0<=v)(hw:w=v+1) :
 abF f l w=abF f l v++if x.Kind==1 then [f v x] else []:=by
 subst hw
 have hv:(v+1).toNat=v.toNat+1:=by omega
 have hlt:=(List.getElem?_eq_some_iff.1 hx).1
 unfold abF
 rw [hv,List.take_add_one,hx,Option.toList_some,List.zipIdx_append,List.filter_append,List.map_append]
 congr 1
 rw [List.length_take,Nat.min_eq_left O,Nat.zero_add]
 simp only [List.zipIdx_cons,List.zipIdx_nil,List.filter_cons,List.filter_nil]
 split
 .simp only [List.map_cons,List.map_nil];rw [Int.toNat_of_nonneg h0]
 .rfl
theorem Za15{α:Type}{f:Int->Zh->α}{l:List Zh}{c z a:List α}{v w:Int}{x:Zh}{y:α}(hz:z=a++[y])(ha:a=c++abF f l v)(hx:l[v.toNat]?=some x)(h0:0<=v)(hw:w=v+1)(hk:x.Kind=1)(hy:y=f v x):z=c++abF f l w:=by
 rw [Zaye hx h0 hw,if_pos (by simpa using hk),hz,ha,hy,List.append_assoc]
theorem Zbba{α:Type}{f:Int->Zh->α}{l:List Zh}{c a:List α}{v w:Int}{x:Zh}(ha:a=c++abF f l v)(hx:l[v.toNat]?=some x)(h0:0<=v)(hw:w=v+1)(hk:¬ x.Kind=1):a=c++abF f l w:=by
 rw [Zaye hx h0 hw,if_neg (by simpa using hk),ha,List.append_nil]
theorem Zbk6{α:Type}{f:Int->Zh->α}{l:List Zh}{c a:List α}(h:a=c):a=c++abF f l 0:=by
 rw [h];simp [abF]
def obF1{α:Type}(f:Zg->Int->Zh->α)(cards:List Zm)(o:Zg):List α:=if o.Zone=0 then abF (f o) (baV cards o).Abilities (baV cards o).Abilities.length else []
def obF{α:Type}(f:Zg->Int->Zh->α)(cards:List Zm)(l:List Zg)(v:Int):List α:=(l.take v.toNat).flatMap (obF1 f cards)
theorem Zbk7{α:Type}{f:Zg->Int->Zh->α}{cards:List Zm}{l:List Zg}:([]:List α)=obF f cards l 0:=by simp [obF]
theorem Zayf{α:Type}{f:Zg->Int->Zh->α}{cards:List Zm}{l:List Zg}{v w:Int}{x:Zg}(hx:l[v.toNat]?=some x)(h0:0<=v)(hw:w=v+1):obF f cards l w=obF f cards l v++obF1 f cards x:=by
 subst hw
 have hv:(v+1).toNat=v.toNat+1:=by omega
 unfold obF
 rw [hv,List.take_add_one,hx,Option.toList_some,List.flatMap_append]
 simp
theorem Zbbb{α:Type}{f:Zg->Int->Zh->α}{cards:List Zm}{l:List Zg}{a:List α}{v w:Int}{x:Zg}(ha:a=obF f cards l v)(hx:l[v.toNat]?=some x)(h0:0<=v)(hw:w=v+1)(hz:x.Zone≠0):a=obF f cards l w:=by
 rw [Zayf hx h0 hw,obF1,if_neg hz,List.append_nil,ha]
theorem Zbe8{α:Type}{f:Zg->Int->Zh->α}{cards:List Zm}{l:List Zg}{a:List α}{v w u:Int}{x:Zg}{t:List Zh}(ha:a=obF f cards l v++abF (f x) t u)(ht:t=(baV cards x).Abilities)(hx:l[v.toNat]?=some x)(h0:0<=v)(hw:w=v+1)(hz:x.Zone=0)(hu:u=t.length):a=obF f cards l w:=by
 rw [Zayf hx h0 hw,obF1,if_pos hz,ha,hu,ht]
theorem Za16{α:Type}{f:Int->Zh->α}{l:List Zh}{v:Int}:(abF f l v).length<=l.length:=by
 unfold abF
 rw [List.length_map]
 refine Nat.le_trans (List.length_filter_le _ _) ?_
 rw [List.length_zipIdx,List.length_take];omega
theorem Zaen{α:Type}{f:Zg->Int->Zh->α}{cards:List Zm}{l:List Zg}{v:Int}(h:∀ c,c∈cards->c.Abilities.length<=8):(obF f cards l v).length<=8*l.length:=by
 unfold obF
 have key:∀ m:List Zg,(m.flatMap (obF1 f cards)).length<=8*m.length:=by
  intro m
  induction m with
  | nil=>simp
  | cons o r ih=>
   rw [List.flatMap_cons,List.length_append,List.length_cons]
   have:(obF1 f cards o).length<=8:=by
    unfold obF1
    split
    .exact Nat.le_trans Za16 (Za14 h o)
    .simp
   omega
 refine Nat.le_trans (key _) ?_
 rw [List.length_take]
 omega
def coF{α:Type}(g:Zav->α)(l:List Zav)(v:Int):List α:=(l.take v.toNat).map g
theorem Zayg{α:Type}{g:Zav->α}{l:List Zav}{c a z:List α}{v w:Int}{x:Zav}{y:α}(hz:z=a++[y])(ha:a=c++coF g l v)(hx:l[v.toNat]?=some x)(h0:0<=v)(hw:w=v+1)(hy:y=g x):z=c++coF g l w:=by
 subst hw
 have hv:(v+1).toNat=v.toNat+1:=by omega
 unfold coF
 rw [hv,List.take_add_one,hx,Option.toList_some,List.map_append,hz,ha,hy,List.append_assoc]
 rfl
theorem Zbk8{α:Type}{g:Zav->α}{l:List Zav}{c a:List α}(h:a=c):a=c++coF g l 0:=by rw [h];simp [coF]
def FS{α:Type}(f:Zg->Int->Zh->α)(g:Zav->α)(cards:List Zm)(s:Zk):List α:=obF f cards s.Objects s.Objects.length++coF g s.Conts s.Conts.length
theorem Zbg3{α:Type}{f:Zg->Int->Zh->α}{g:Zav->α}{cards:List Zm}{s:Zk}{a:List α}{v:Int}{l:List Zav}(h:a=obF f cards s.Objects s.Objects.length++coF g l v)(hl:l=s.Conts)(hv:v=l.length):a=FS f g cards s:=by
 rw [h,hv,hl];rfl
theorem Zbg4{α:Type}{f:Zg->Int->Zh->α}{g:Zav->α}{cards:List Zm}{s:Zk}(h:∀ c,c∈cards->c.Abilities.length<=8):(FS f g cards s).length<=8*s.Objects.length+s.Conts.length:=by
 unfold FS coF
 have:=Zaen (f:=f) (l:=s.Objects) (v:=s.Objects.length) h
 rw [List.length_append,List.length_map,List.length_take]
 omega
abbrev Za17:Ze:=⟨0,0,0,0,0,0,0,[],0,0,⟨0,0⟩,⟨0,0⟩,⟨0,0⟩⟩
def fL(o:Zg)(k:Int)(a:Zh):Zv:=⟨o.Id,k,o.Control,o.Stamp,false,[],a.Filter,a.Mods⟩
def gL(c:Zav):Zv:=⟨c.Source,-1,c.Control,c.Stamp,true,c.Objects,Za17,c.Mods⟩
end Go.PW
namespace Go.PW
theorem Zbg5{i j n:Int}(h0:0<=i)(h1:i<=j)(h2:j<=n)(h3:n<=140737488351232):IntKind.wrap .i64 (shrI .u64 (IntKind.wrap .u64 (IntKind.wrap .i64 (i+j))) 1)=(i+j) / 2:=by
 have a:IntKind.wrap .i64 (i+j)=i+j:=Zfj O O
 have b:IntKind.wrap .u64 (i+j)=i+j:=by
  have:IntKind.u64.wrap (i+j)=(i+j) % 18446744073709551616:=by simp [IntKind.wrap,IntKind.bits,IntKind.signed]
  rw [this];omega
 have c:shrI .u64 (i+j) 1=(i+j) / 2:=by
  unfold shrI
  rw [Int.fdiv_eq_ediv_of_nonneg _ (by decide)]
  rfl
 rw [a,b,c]
 exact Zfj O O
def HI(n:Nat)(hs:List (List Int)):Prop:=∀ h,h∈hs->h.length<=n/\∀ k,k∈h->0<=k/\k < (n:Int)
theorem Za8c{n:Nat}:HI n []:=fun _ h=>by cases h
theorem Zbcr{n:Nat}{hs:List (List Int)}(h:∀ e,e∈hs->e=[]):HI n hs:=fun e he=>by rw [h e he];exact⟨Nat.zero_le _,fun _ h=>by cases h⟩
theorem Zbg6{n:Nat}{hs hs':List (List Int)}{v:List Int}(h:HI n hs)(hl:v.length<=n)(hv:∀ k,k∈v->0<=k/\k < (n:Int))(hm:∀ e,e∈hs'->e=v\/e∈hs):HI n hs':=fun e he=>by
 rcases hm e he with rfl | h1
 .exact⟨hl,hv⟩
 .exact h e h1
def ML(fs:List Zv)(a:Int)(l:List Int):Prop:=∀ f,fs[a.toNat]?=some f->l.length=f.Mods.length
theorem ml_i{fs:List Zv}{a:Int}{l:List Int}{f:Zv}(h:fs[a.toNat]?=some f)(hl:l.length=f.Mods.length):ML fs a l:=fun g hg=>by
 have:=Option.some.inj (hg.symm.trans h);subst this;exact hl
def INR(n:Nat)(l:List Int):Prop:=∀ k,k∈l->0<=k/\k < (n:Int)
theorem Zapn{n:Nat}:INR n []:=fun _ h=>by cases h
theorem Za18{n:Nat}{a b:List Int}{k:Int}(hb:b=a++[k])(h:INR n a)(h0:0<=k)(h1:k < (n:Int)):INR n b:=fun x hx=>by
 subst hb
 rcases List.mem_append.1 hx with h2 | h2
 .exact h x h2
 .rw [List.mem_singleton] at h2;subst h2;exact⟨h0,h1⟩
theorem Zana{n:Nat}{a:List Int}{i:Nat}{k:Int}(h:INR n a)(m:a[i]?=some k):0<=k/\k < (n:Int):=h k (List.mem_of_getElem? m)
theorem Zbe9{n:Nat}{a b:List Int}(h:INR n a)(hs:∀ x,x∈b->x∈a):INR n b:=fun k hk=>h k (hs k hk)
def SUB(b a:List Int):Prop:=∀ x,x∈b->x∈a
theorem Za19{a:List Int}:SUB [] a:=fun _ h=>by cases h
theorem Zbfa{a b c:List Int}{x:Int}{i:Nat}(hc:c=b++[x])(h:SUB b a)(m:a[i]?=some x):SUB c a:=fun y hy=>by
 subst hc
 rcases List.mem_append.1 hy with h2 | h2
 .exact h y h2
 .rw [List.mem_singleton] at h2;subst h2;exact List.mem_of_getElem? m
theorem sub_app'{a b c d:List Int}{x:Int}{i:Nat}(hc:c=b++[x])(h:SUB b a)(hd:SUB d a)(m:d[i]?=some x):SUB c a:=fun y hy=>by
 subst hc
 rcases List.mem_append.1 hy with h2 | h2
 .exact h y h2
 .rw [List.mem_singleton] at h2;subst h2;exact hd _ (List.mem_of_getElem? m)
theorem Zbg7{a d:List Int}{x:Int}{i:Nat}(hd:SUB d a)(m:d[i]?=some x):x < 0\/x∈a := .inr (hd _ (List.mem_of_getElem? m))
def RWS(n:Nat)(m:List (List Bool)):Prop:=∀ r,r∈m->r.length=n
theorem Zbfb{n:Nat}{m m':List (List Bool)}{i j:Int}{y:List Bool}{v:Bool}(h:RWS n m)(hy:m[i.toNat]?=some y)(e:m'=m.set i.toNat (y.set j.toNat v)):RWS n m':=fun r hr=>by
 subst e
 rcases List.mem_or_eq_of_mem_set hr with h1 | h1
 .exact h r h1
 .rw [h1,List.length_set];exact h y (List.mem_of_getElem? hy)
theorem Z1o{n:Nat}{m:List (List Bool)}{i:Nat}{y:List Bool}(h:RWS n m)(hy:m[i]?=some y):y.length=n:=h y (List.mem_of_getElem? hy)
def RWV(n:Nat)(m:List (List Bool))(v:Int):Prop:=∀ (k:Nat) r,(k:Int) < v->m[k]?=some r->r.length=n
theorem Zbcs{n:Nat}{m:List (List Bool)}:RWV n m 0:=fun k r hk=>by omega
theorem Zbfc{n:Nat}{m m':List (List Bool)}{v w:Int}{y:List Bool}(h:RWV n m v)(h0:0<=v)(hw:w=v+1)(hy:y.length=n)(e:m'=m.set v.toNat y):RWV n m' w:=fun k r hk hr=>by
 subst e;subst hw
 by_cases hkv:k=v.toNat
 .subst hkv
  rw [List.getElem?_set_self'] at hr
  cases h1:m[v.toNat]? with
  | none=>rw [h1] at hr;simp at hr
  | some z=>rw [h1] at hr;simp at hr;subst hr;exact hy
 .rw [List.getElem?_set_ne (fun e=>hkv e.symm)] at hr
  exact h k r O hr
theorem Zbfd{n:Nat}{m:List (List Bool)}{v:Int}(h:RWV n m v)(hv:(m.length:Int)<=v):RWS n m:=fun r hr=>by
 obtain⟨k,hk⟩:=List.mem_iff_getElem?.1 hr
 have:=(List.getElem?_eq_some_iff.1 hk).1
 exact h k r O hk
def neI(i x:Int):Bool := !(x==i)
theorem Zbg8{l:List Int}{i:Int}(h:i∈l):(l.filter (neI i)).length < l.length:=by
 induction l with
 | nil=>cases h
 | cons a l ih=>
  rw [List.filter_cons]
  by_cases ha:a=i
  .subst ha
   have:neI a a=false:=by simp [neI]
   rw [this]
   have:=List.length_filter_le (neI a) l
   simp only [Bool.false_eq_true,if_false,List.length_cons];omega
  .rcases List.mem_cons.1 h with h1 | h1
   .exact absurd h1.symm ha
   .have:=ih h1
    split<;>simp only [List.length_cons]<;>omega
theorem Zbfe{l:List Int}{p:Int->Bool}:SUB (l.filter p) l:=fun x hx=>(List.mem_filter.1 hx).1
theorem Zbbc{n:Nat}{m m':List (List Bool)}{w i j:Int}{y:List Bool}{v:Bool}(h:RWV n m w)(hy:m[i.toNat]?=some y)(hw:i < w)(h0:0<=i)(e:m'=m.set i.toNat (y.set j.toNat v)):RWV n m' w:=fun k r hk hr=>by
 subst e
 by_cases hkv:k=i.toNat
 .subst hkv
  rw [List.getElem?_set_self',hy] at hr
  simp at hr
  rw [<- hr,List.length_set]
  exact h i.toNat y O hy
 .rw [List.getElem?_set_ne (fun e=>hkv e.symm)] at hr
  exact h k r hk hr
theorem Zadn{n:Nat}{m:List (List Bool)}{w:Int}{i:Nat}{y:List Bool}(h:RWV n m w)(hi:(i:Int) < w)(hy:m[i]?=some y):y.length=n:=h i y hi hy
def POS(l:List Int):Prop:=∀ k,k∈l->0<=k
theorem Zbg9{a d:List Int}{i:Nat}{k:Int}(h:POS a)(hs:SUB d a)(m:d[i]?=some k):0<=k:=h k (hs k (List.mem_of_getElem? m))
theorem Za2a{n:Nat}{a:List Int}(h:INR n a):POS a:=fun k hk=>(h k hk).1
theorem Za8d{n:Nat}{m m':List (List Bool)}{v w:Int}{y:List Bool}(e:m'.length=m.length/\(∀ e:List Bool,e∈m'->e=y\/e∈m)/\m'=m.set v.toNat y)(h:RWV n m v)(h0:0<=v)(hw:w=v+1)(hy:y.length=n):RWV n m' w:=Zbfc h h0 hw hy e.2.2
theorem Zbha{n k:Nat}{m:List (List Bool)}(h:RWS n m)(e:k=n):RWS k m:=by rw [e];exact h
theorem Zbhb{n k:Nat}{m:List Int}(h:INR n m)(e:k=n):INR k m:=by rw [e];exact h
theorem asz{p:Prop}(h:p:=by with_reducible assumption):p:=h
theorem Zbhc{n:Nat}{a:List Int}{k:Int}(h:INR n a)(hk:k < 0\/k∈a):k < 0\/(0<=k/\k < (n:Int)):=hk.imp id (h k)
theorem flt_lt'{r l:List Int}{i:Int}(e:r=l.filter (neI i))(h:i < 0\/i∈l)(h0:¬ i < 0):r.length < l.length:=by rw [e];exact Zbg8 (h.resolve_left h0)
theorem flt_sub'{r l:List Int}{p:Int->Bool}(e:r=l.filter p):SUB r l:=by rw [e];exact Zbfe
theorem Za8e{n i:Nat}{hs:List (List Int)}{x:List Int}(h:HI n hs)(m:hs[i]?=some x):x.length<=n/\INR n x:=h x (List.mem_of_getElem? m)
theorem Tot.lk{α:Type}{x:α}:Tot (Option.some x) fun r=>r=x:=⟨x,rfl,rfl⟩
abbrev SZV(v:Zaa):Prop:=(SzL 8 (fun _=>True)) v.hits/\(SzL 8 (fun _=>True)) v.numbers
def MSZ(m:List (Int×Zaa)):Prop:=∀ p,p∈m->SZV p.2
theorem Zbff:MSZ []:=fun _ h=>by cases h
theorem Zbfg{m z:List (Int×Zaa)}{n:Int}{x:Zaa}(e:z=Zhl m n x)(h:MSZ m)(hx:SZV x):MSZ z:=fun p hp=>by
 subst e
 rcases Zau4 hp with h1 | h1
 .exact h p h1
 .rw [h1];exact hx
theorem Zbfh{m:List (Int×Zaa)}{n:Int}{z:Zaa}{x:Zaa×Bool}(e:x=mlk m n z)(h:MSZ m)(hz:SZV z):SZV x.1:=by
 subst e
 unfold mlk
 split
 .rename_i y hy
  have key:∀ {m:List (Int×Zaa)},Zi9 m n=some y->∃ p,p∈m/\p.2=y:=by
   intro m
   induction m with
   | nil=>intro h;cases h
   | cons q m ih=>
    intro h
    obtain⟨k,w⟩:=q
    unfold Zi9 at h
    cases hk:k==n with
    | true=>rw [hk,cond_true] at h;exact⟨(k,w),by simp,Option.some.inj h⟩
    | false=>
     rw [hk,cond_false] at h
     obtain⟨p,h1,h2⟩:=ih h
     exact⟨p,List.mem_cons_of_mem _ h1,h2⟩
  obtain⟨p,h1,h2⟩:=key hy
  rw [<- h2];exact h p h1
 .exact hz
theorem szx{p:Prop}(h:p:=by first | with_reducible assumption | (dsimp only;with_reducible assumption) | exact⟨by omega,fun _ _=>trivial⟩ | exact⟨by omega,fun r hr=>⟨by rw [(by assumption:RWS _ _) r hr];omega,fun _ _=>trivial⟩⟩ | exact Zbfh V V ⟨SzL.nil,SzL.nil⟩ | exact (by with_reducible assumption:Zz _).2.1 | exact (by with_reducible assumption:Zz _).2.2):p:=h
theorem sfA{l m:List Zf}(h:Zy l l=true)(k:Zy m m=true):Zy (l++m) (l++m)=true:=by rw [Zv0 _ _ _ _ rfl,h,k];rfl
theorem sfI(k:IntKind)(n:Int):Zy (cI k n) (cI k n)=true:=by simp [cI,Zy,Zm7]
theorem sfB(b:Bool):Zy (cB b) (cB b)=true:=by simp [cB,Zy,Zm7]
theorem sfS(b:List UInt8):Zy (cS b) (cS b)=true:=by simp [cS,Zy,Zm7]
theorem sf3(x:A3 Int):Zy ((cA3 (cI .i64)) x) ((cA3 (cI .i64)) x)=true:=by simp [cA3,cI,Zy,Zm7,A3.list]
theorem sf5(x:A5 Int):Zy ((cA5 (cI .i64)) x) ((cA5 (cI .i64)) x)=true:=by simp [cA5,cI,Zy,Zm7,A5.list]
theorem sf6(x:A6 Int):Zy ((cA6 (cI .i64)) x) ((cA6 (cI .i64)) x)=true:=by simp [cA6,cI,Zy,Zm7,A6.list]
theorem Zbbd(x:Za):Zy (Zb4 x) (Zb4 x)=true:=by
 unfold Zb4;repeat' first | exact sfI _ _ | exact sfB _ | exact sfS _ | exact sf3 _ | exact sf5 _ | exact sf6 _ | refine sfA ?_ ?_
theorem Za8f(x:Zgn):Zy (Zdf x) (Zdf x)=true:=by
 unfold Zdf;repeat' first | exact sfI _ _ | exact sfB _ | exact sfS _ | exact sf3 _ | exact sf5 _ | exact sf6 _ | refine sfA ?_ ?_
theorem Zsq(x:Ze):Zy (Zo x) (Zo x)=true:=by
 unfold Zo;repeat' first | exact sfI _ _ | exact sfB _ | exact sfS _ | exact sf3 _ | exact sf5 _ | exact sf6 _ | exact Zbbd _ | refine sfA ?_ ?_
theorem Za8g(x:Zbk):Zy (Zaq x) (Zaq x)=true:=by
 unfold Zaq;repeat' first | exact sfI _ _ | exact sfB _ | exact sfS _ | exact sf3 _ | exact sf5 _ | exact sf6 _ | exact Zsq _ | exact Za8f _ | refine sfA ?_ ?_
theorem Za2b(x:Zt):Zy (Zah x) (Zah x)=true:=by
 unfold Zah;repeat' first | exact sfI _ _ | exact sfB _ | exact sfS _ | exact sf3 _ | exact sf5 _ | exact sf6 _ | refine sfA ?_ ?_
theorem Zbbe(x:Zhn):Zy (Zdk x) (Zdk x)=true:=by
 unfold Zdk;repeat' first | exact sfI _ _ | exact sfB _ | exact sfS _ | exact sf3 _ | exact sf5 _ | exact sf6 _ | exact Za2b _ | refine sfA ?_ ?_
theorem Zbhd(x:Zd):Zy (Zl x) (Zl x)=true:=by
 unfold Zl;repeat' first | exact sfI _ _ | exact sfB _ | exact sfS _ | exact sf3 _ | exact sf5 _ | exact sf6 _ | exact Zsq _ | refine sfA ?_ ?_
theorem Zbfi(x:Za9):Zy (Zad x) (Zad x)=true:=by
 unfold Zad;repeat' first | exact sfI _ _ | exact sfB _ | exact sfS _ | exact sf3 _ | exact sf5 _ | exact sf6 _ | exact Zsq _ | refine sfA ?_ ?_
theorem Za35(x:Zcs):Zy (Zb8 x) (Zb8 x)=true:=by
 unfold Zb8;repeat' first | exact sfI _ _ | exact sfB _ | exact sfS _ | exact sf3 _ | exact sf5 _ | exact sf6 _ | exact Zsq _ | refine sfA ?_ ?_
theorem Za36(x:Za6):Zy (Zbh x) (Zbh x)=true:=by
 unfold Zbh;repeat' first | exact sfI _ _ | exact sfB _ | exact sfS _ | exact sf3 _ | exact sf5 _ | exact sf6 _ | exact Zsq _ | refine sfA ?_ ?_
theorem sm{p:Prop}(h:p:=by intro h;subst h;first | rfl | (exfalso;omega) | grind [Za8f,Zsq,Za8g,Za2b,Zbbe,Zbhd,Zbfi,Za35,Za36,sf6]):p:=h
def Zd4(l:List Zg):Prop:=∀ (i j:Nat) x y,i < j->l[i]?=some x->l[j]?=some y->x.Id < y.Id
theorem Zbfj{l:List Zg}{v:Int}(h:Z8o l v)(hv:(l.length:Int)<=v):Zd4 l:=by
 have h':Z8o l l.length:=⟨fun k x hk=>h.1 k x O,fun k x y hk=>h.2 k x y O⟩
 intro i j x y hij hx hy
 exact Zapl h' (j - i - 1) i x y hx (by rw [show i+(j - i - 1)+1=j by omega];exact hy)
def BSI(l:List Zg)(id i j:Int):Prop:=Zd4 l->(∀ (k:Nat) x,(k:Int) < i->l[k]?=some x->x.Id < id)/\∀ (k:Nat) x,j<=(k:Int)->l[k]?=some x->id<=x.Id
theorem Zbk9{l:List Zg}{id n:Int}(hn:n=l.length):BSI l id 0 n:=fun _=>⟨fun k x hk=>by omega,fun k x hk hx=>by have:=(List.getElem?_eq_some_iff.1 hx).1;omega⟩
theorem Zbhe{l:List Zg}{id i j k i':Int}{x:Zg}(h:BSI l id i j)(m:l[k.toNat]?=some x)(hx:x.Id < id)(h0:0<=k)(e:i'=k+1):BSI l id i' j:=fun hs=>⟨fun q y hq hy=>by
 by_cases hqk:q=k.toNat
 .subst hqk
  have:=Option.some.inj (hy.symm.trans m)
  subst this;exact hx
 .have:=hs q k.toNat y x O hy m;omega,(h hs).2⟩
theorem Zbhf{l:List Zg}{id i j k j':Int}{x:Zg}(h:BSI l id i j)(m:l[k.toNat]?=some x)(hx:id<=x.Id)(h0:0<=k)(e:j'=k):BSI l id i j':=fun hs=>⟨(h hs).1,fun q y hq hy=>by
 by_cases hqk:q=k.toNat
 .subst hqk
  have:=Option.some.inj (hy.symm.trans m)
  subst this;exact hx
 .have:=hs k.toNat q x y O m hy;omega⟩
def BSP(l:List Zg)(id:Int)(r:Int×Bool):Prop:=Zd4 l->(r.2=true->r.1=ixO l id)/\(r.2=false -> -1=ixO l id)
theorem Zbhg{l:List Zg}{id i j c:Int}{x:Zg}(h:BSI l id i j)(hij:j<=i)(m:l[i.toNat]?=some x)(h0:0<=i)(hc:(c = -1/\x.Id < id)\/(c=1/\id < x.Id)\/(c=0/\x.Id=id)):BSP l id (i,c==0):=fun hs=>by
 obtain⟨h1,h2⟩:=h hs
 refine⟨fun hr=>?_,fun hr=>?_⟩
 .have hr:c=0:=by simpa using hr
  exact Za12 m (fun k y hk hy=>by have:=h1 k y hk hy;omega) h0 O
 .have hr:c≠0:=by simpa using hr
  refine Zai8 (v:=l.length) (fun k y hk hy=>?_) (Int.le_refl _)
  by_cases hki:(k:Int) < i
  .have:=h1 k y hki hy;omega
  .by_cases hke:k=i.toNat
   .subst hke
    have:=Option.some.inj (hy.symm.trans m)
    subst this
    have:=h2 i.toNat y O hy;omega
   .have:=hs i.toNat k x y O m hy
    have:=h2 i.toNat x O m;omega
theorem Zbla{l:List Zg}{id i j:Int}(h:BSI l id i j)(hn:(l.length:Int)<=i):BSP l id (i,false):=fun hs=>by
 obtain⟨h1,_⟩:=h hs
 exact⟨fun hr=>absurd hr Bool.false_ne_true,fun _=>Zai8 (v:=l.length) (fun k y hk hy=>by have:=h1 k y O hy;omega) (Int.le_refl _)⟩
theorem li_n{l:List Zg}{id:Int}{r:Int×Bool}(h:BSP l id r)(hb:r.2=false):Zd4 l -> -1=ixO l id:=fun hs=>(h hs).2 hb
theorem li_y{l:List Zg}{id:Int}{r:Int×Bool}(h:BSP l id r)(hb:r.2=true):Zd4 l->r.1=ixO l id:=fun hs=>(h hs).1 hb
noncomputable def allV(c:List Zm)(s:Zk):List Zb:=(Zxh c s).getD []
theorem Zayh{α β:Type}{f:α->β}{l:List α}{t z:List β}{v w:Int}{x:β}{o:α}(e:z=t++[x])(h:t=(l.take v.toNat).map f)(m:l[v.toNat]?=some o)(hx:x=f o)(h0:0<=v)(hw:w=v+1):z=(l.take w.toNat).map f:=by
 subst hw
 rw [show (v+1).toNat=v.toNat+1 by omega,List.take_add_one,m,e,h,hx]
 simp
theorem Za2c{α β:Type}{f:α->β}{l l':List α}{t:List β}{v:Int}(h:t=(l.take v.toNat).map f)(hv:(l.length:Int)<=v)(e:l=l'):t=l'.map f:=by
 subst e
 rw [h,List.take_of_length_le O]
end Go.PW
