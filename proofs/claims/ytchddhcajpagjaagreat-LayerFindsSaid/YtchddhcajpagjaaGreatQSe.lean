import Derived.Test.YtchddhcajpagjaaGreatQSd
import Derived.Test.YtchddhcajpagjaaGreatPwX
set_option linter.all false
namespace Go.PW
theorem Za9x{i j n:Int}(h0:0<=i)(h1:i<=j)(h2:j<=n)(h3:n<=140737488351232):IntKind.wrap .i64 (shrI .u64 (IntKind.wrap .u64 (IntKind.wrap .i64 (i+j))) 1)=(i+j) / 2:=by
 have a:IntKind.wrap .i64 (i+j)=i+j:=Zgz (by omega) (by omega)
 have b:IntKind.wrap .u64 (i+j)=i+j:=by
  have:IntKind.u64.wrap (i+j)=(i+j) % 18446744073709551616:=by simp [IntKind.wrap,IntKind.bits,IntKind.signed]
  rw [this];omega
 have c:shrI .u64 (i+j) 1=(i+j) / 2:=by
  unfold shrI
  rw [Int.fdiv_eq_ediv_of_nonneg _ (by decide)]
  rfl
 rw [a,b,c]
 exact Zgz (by omega) (by omega)
def HI(n:Nat)(hs:List (List Int)):Prop:=∀ h,h∈hs->h.length<=n/\∀ k,k∈h->0<=k/\k < (n:Int)
theorem Zae{n:Nat}:HI n []:=fun _ h=>by cases h
theorem Zao{n:Nat}{hs:List (List Int)}(h:∀ e,e∈hs->e=[]):HI n hs:=fun e he=>by rw [h e he];exact⟨Nat.zero_le _,fun _ h=>by cases h⟩
theorem Za9y{n:Nat}{hs hs':List (List Int)}{v:List Int}(h:HI n hs)(hl:v.length<=n)(hv:∀ k,k∈v->0<=k/\k < (n:Int))(hm:∀ e,e∈hs'->e=v\/e∈hs):HI n hs':=fun e he=>by
 rcases hm e he with rfl | h1
 .exact⟨hl,hv⟩
 .exact h e h1
def ML(fs:List Zal)(a:Int)(l:List Int):Prop:=∀ f,fs[a.toNat]?=some f->l.length=f.Mods.length
theorem ml_i{fs:List Zal}{a:Int}{l:List Int}{f:Zal}(h:fs[a.toNat]?=some f)(hl:l.length=f.Mods.length):ML fs a l:=fun g hg=>by
 have:=Option.some.inj (hg.symm.trans h);subst this;exact hl
def INR(n:Nat)(l:List Int):Prop:=∀ k,k∈l->0<=k/\k < (n:Int)
theorem Zf0{n:Nat}:INR n []:=fun _ h=>by cases h
theorem Zhu{n:Nat}{a b:List Int}{k:Int}(hb:b=a++[k])(h:INR n a)(h0:0<=k)(h1:k < (n:Int)):INR n b:=fun x hx=>by
 subst hb
 rcases List.mem_append.1 hx with h2 | h2
 .exact h x h2
 .rw [List.mem_singleton] at h2;subst h2;exact⟨h0,h1⟩
theorem Zanz{n:Nat}{a:List Int}{i:Nat}{k:Int}(h:INR n a)(m:a[i]?=some k):0<=k/\k < (n:Int):=h k (List.mem_of_getElem? m)
theorem Z1o{n:Nat}{a b:List Int}(h:INR n a)(hs:∀ x,x∈b->x∈a):INR n b:=fun k hk=>h k (hs k hk)
def SUB(b a:List Int):Prop:=∀ x,x∈b->x∈a
theorem Zw5{a:List Int}:SUB [] a:=fun _ h=>by cases h
theorem Zafo{a b c:List Int}{x:Int}{i:Nat}(hc:c=b++[x])(h:SUB b a)(m:a[i]?=some x):SUB c a:=fun y hy=>by
 subst hc
 rcases List.mem_append.1 hy with h2 | h2
 .exact h y h2
 .rw [List.mem_singleton] at h2;subst h2;exact List.mem_of_getElem? m
theorem sub_app'{a b c d:List Int}{x:Int}{i:Nat}(hc:c=b++[x])(h:SUB b a)(hd:SUB d a)(m:d[i]?=some x):SUB c a:=fun y hy=>by
 subst hc
 rcases List.mem_append.1 hy with h2 | h2
 .exact h y h2
 .rw [List.mem_singleton] at h2;subst h2;exact hd _ (List.mem_of_getElem? m)
theorem Z81{a d:List Int}{x:Int}{i:Nat}(hd:SUB d a)(m:d[i]?=some x):x < 0\/x∈a := .inr (hd _ (List.mem_of_getElem? m))
def RWS(n:Nat)(m:List (List Bool)):Prop:=∀ r,r∈m->r.length=n
theorem Zgl{n:Nat}{m m':List (List Bool)}{i j:Int}{y:List Bool}{v:Bool}(h:RWS n m)(hy:m[i.toNat]?=some y)(e:m'=m.set i.toNat (y.set j.toNat v)):RWS n m':=fun r hr=>by
 subst e
 rcases List.mem_or_eq_of_mem_set hr with h1 | h1
 .exact h r h1
 .rw [h1,List.length_set];exact h y (List.mem_of_getElem? hy)
theorem Zy4{n:Nat}{m:List (List Bool)}{i:Nat}{y:List Bool}(h:RWS n m)(hy:m[i]?=some y):y.length=n:=h y (List.mem_of_getElem? hy)
def RWV(n:Nat)(m:List (List Bool))(v:Int):Prop:=∀ (k:Nat) r,(k:Int) < v->m[k]?=some r->r.length=n
theorem Zafp{n:Nat}{m:List (List Bool)}:RWV n m 0:=fun k r hk=>by omega
theorem Za8q{n:Nat}{m m':List (List Bool)}{v w:Int}{y:List Bool}(h:RWV n m v)(h0:0<=v)(hw:w=v+1)(hy:y.length=n)(e:m'=m.set v.toNat y):RWV n m' w:=fun k r hk hr=>by
 subst e;subst hw
 by_cases hkv:k=v.toNat
 .subst hkv
  rw [List.getElem?_set_self'] at hr
  cases h1:m[v.toNat]? with
  | none=>rw [h1] at hr;simp at hr
  | some z=>rw [h1] at hr;simp at hr;subst hr;exact hy
 .rw [List.getElem?_set_ne (fun e=>hkv e.symm)] at hr
  exact h k r (by omega) hr
theorem Zgm{n:Nat}{m:List (List Bool)}{v:Int}(h:RWV n m v)(hv:(m.length:Int)<=v):RWS n m:=fun r hr=>by
 obtain⟨k,hk⟩:=List.mem_iff_getElem?.1 hr
 have:=(List.getElem?_eq_some_iff.1 hk).1
 exact h k r (by omega) hk
def neI(i x:Int):Bool := !(x==i)
theorem Za9z{l:List Int}{i:Int}(h:i∈l):(l.filter (neI i)).length < l.length:=by
 induction l with
 | nil=>cases h
 | cons a l ih=>
  rw [List.filter_cons]
  by_cases ha:a=i
  .subst ha
   have:neI a a=false:=by simp [neI]
   rw [this]
   have:=List.length_filter_le (neI a) l
   simp only [Bool.false_eq_true,if_false,List.length_cons];omega
  .rcases List.mem_cons.1 h with h1 | h1
   .exact absurd h1.symm ha
   .have:=ih h1
    split<;>simp only [List.length_cons]<;>omega
theorem Za8r{l:List Int}{p:Int->Bool}:SUB (l.filter p) l:=fun x hx=>(List.mem_filter.1 hx).1
theorem Zaal{n:Nat}{m m':List (List Bool)}{w i j:Int}{y:List Bool}{v:Bool}(h:RWV n m w)(hy:m[i.toNat]?=some y)(hw:i < w)(h0:0<=i)(e:m'=m.set i.toNat (y.set j.toNat v)):RWV n m' w:=fun k r hk hr=>by
 subst e
 by_cases hkv:k=i.toNat
 .subst hkv
  rw [List.getElem?_set_self',hy] at hr
  simp at hr
  rw [<- hr,List.length_set]
  exact h i.toNat y (by omega) hy
 .rw [List.getElem?_set_ne (fun e=>hkv e.symm)] at hr
  exact h k r hk hr
theorem Zaem{n:Nat}{m:List (List Bool)}{w:Int}{i:Nat}{y:List Bool}(h:RWV n m w)(hi:(i:Int) < w)(hy:m[i]?=some y):y.length=n:=h i y hi hy
def POS(l:List Int):Prop:=∀ k,k∈l->0<=k
theorem Za90{a d:List Int}{i:Nat}{k:Int}(h:POS a)(hs:SUB d a)(m:d[i]?=some k):0<=k:=h k (hs k (List.mem_of_getElem? m))
theorem Za8s{n:Nat}{a:List Int}(h:INR n a):POS a:=fun k hk=>(h k hk).1
theorem Z82{n:Nat}{m m':List (List Bool)}{v w:Int}{y:List Bool}(e:m'.length=m.length/\(∀ e:List Bool,e∈m'->e=y\/e∈m)/\m'=m.set v.toNat y)(h:RWV n m v)(h0:0<=v)(hw:w=v+1)(hy:y.length=n):RWV n m' w:=Za8q h h0 hw hy e.2.2
theorem Zaxb{n k:Nat}{m:List (List Bool)}(h:RWS n m)(e:k=n):RWS k m:=by rw [e];exact h
theorem Za91{n k:Nat}{m:List Int}(h:INR n m)(e:k=n):INR k m:=by rw [e];exact h
theorem asz{p:Prop}(h:p:=by with_reducible assumption):p:=h
theorem Za92{n:Nat}{a:List Int}{k:Int}(h:INR n a)(hk:k < 0\/k∈a):k < 0\/(0<=k/\k < (n:Int)):=hk.imp id (h k)
theorem flt_lt'{r l:List Int}{i:Int}(e:r=l.filter (neI i))(h:i < 0\/i∈l)(h0:¬ i < 0):r.length < l.length:=by rw [e];exact Za9z (h.resolve_left h0)
theorem flt_sub'{r l:List Int}{p:Int->Bool}(e:r=l.filter p):SUB r l:=by rw [e];exact Za8r
theorem Z83{n i:Nat}{hs:List (List Int)}{x:List Int}(h:HI n hs)(m:hs[i]?=some x):x.length<=n/\INR n x:=h x (List.mem_of_getElem? m)
theorem Tot.lk{α:Type}{x:α}:Tot (Option.some x) fun r=>r=x:=⟨x,rfl,rfl⟩
abbrev SZV(v:Zbb):Prop:=(SzL 8 (fun _=>True)) v.hits/\(SzL 8 (fun _=>True)) v.numbers
def MSZ(m:List (Int×Zbb)):Prop:=∀ p,p∈m->SZV p.2
theorem Zqp:MSZ []:=fun _ h=>by cases h
theorem Zqq{m z:List (Int×Zbb)}{n:Int}{x:Zbb}(e:z=Zkr m n x)(h:MSZ m)(hx:SZV x):MSZ z:=fun p hp=>by
 subst e
 rcases Zat5 hp with h1 | h1
 .exact h p h1
 .rw [h1];exact hx
theorem Za8t{m:List (Int×Zbb)}{n:Int}{z:Zbb}{x:Zbb×Bool}(e:x=mlk m n z)(h:MSZ m)(hz:SZV z):SZV x.1:=by
 subst e
 unfold mlk
 split
 .rename_i y hy
  have key:∀ {m:List (Int×Zbb)},Zwf m n=some y->∃ p,p∈m/\p.2=y:=by
   intro m
   induction m with
   | nil=>intro h;cases h
   | cons q m ih=>
    intro h
    obtain⟨k,w⟩:=q
    unfold Zwf at h
    cases hk:k==n with
    | true=>rw [hk,cond_true] at h;exact⟨(k,w),by simp,Option.some.inj h⟩
    | false=>
     rw [hk,cond_false] at h
     obtain⟨p,h1,h2⟩:=ih h
     exact⟨p,List.mem_cons_of_mem _ h1,h2⟩
  obtain⟨p,h1,h2⟩:=key hy
  rw [<- h2];exact h p h1
 .exact hz
theorem szx{p:Prop}(h:p:=by first | with_reducible assumption | (dsimp only;with_reducible assumption) | exact⟨by omega,fun _ _=>trivial⟩ | exact⟨by omega,fun r hr=>⟨by rw [(by assumption:RWS _ _) r hr];omega,fun _ _=>trivial⟩⟩ | exact Za8t ‹_› ‹_› ⟨SzL.nil,SzL.nil⟩ | exact (by with_reducible assumption:Zv _).2.1 | exact (by with_reducible assumption:Zv _).2.2):p:=h
theorem sfA{l m:List Zd}(h:Z5 l l=true)(k:Z5 m m=true):Z5 (l++m) (l++m)=true:=by rw [Zxh _ _ _ _ rfl,h,k];rfl
theorem sfI(k:IntKind)(n:Int):Z5 (cI k n) (cI k n)=true:=by simp [cI,Z5,Znt]
theorem sfB(b:Bool):Z5 (cB b) (cB b)=true:=by simp [cB,Z5,Znt]
theorem sfS(b:List UInt8):Z5 (cS b) (cS b)=true:=by simp [cS,Z5,Znt]
theorem sf3(x:A3 Int):Z5 ((cA3 (cI .i64)) x) ((cA3 (cI .i64)) x)=true:=by simp [cA3,cI,Z5,Znt,A3.list]
theorem sf5(x:A5 Int):Z5 ((cA5 (cI .i64)) x) ((cA5 (cI .i64)) x)=true:=by simp [cA5,cI,Z5,Znt,A5.list]
theorem sf6(x:A6 Int):Z5 ((cA6 (cI .i64)) x) ((cA6 (cI .i64)) x)=true:=by simp [cA6,cI,Z5,Znt,A6.list]
theorem Za68(x:Za):Z5 (Zce x) (Zce x)=true:=by
 unfold Zce;repeat' first | exact sfI _ _ | exact sfB _ | exact sfS _ | exact sf3 _ | exact sf5 _ | exact sf6 _ | refine sfA ?_ ?_
theorem Za4w(x:Zhb):Z5 (Zdu x) (Zdu x)=true:=by
 unfold Zdu;repeat' first | exact sfI _ _ | exact sfB _ | exact sfS _ | exact sf3 _ | exact sf5 _ | exact sf6 _ | refine sfA ?_ ?_
theorem Ztm(x:Zc):Z5 (Zo x) (Zo x)=true:=by
 unfold Zo;repeat' first | exact sfI _ _ | exact sfB _ | exact sfS _ | exact sf3 _ | exact sf5 _ | exact sf6 _ | exact Za68 _ | refine sfA ?_ ?_
theorem Za4x(x:Zbs):Z5 (Zaq x) (Zaq x)=true:=by
 unfold Zaq;repeat' first | exact sfI _ _ | exact sfB _ | exact sfS _ | exact sf3 _ | exact sf5 _ | exact sf6 _ | exact Ztm _ | exact Za4w _ | refine sfA ?_ ?_
theorem Za0m(x:Zt):Z5 (Zai x) (Zai x)=true:=by
 unfold Zai;repeat' first | exact sfI _ _ | exact sfB _ | exact sfS _ | exact sf3 _ | exact sf5 _ | exact sf6 _ | refine sfA ?_ ?_
theorem Za69(x:Zic):Z5 (Zdz x) (Zdz x)=true:=by
 unfold Zdz;repeat' first | exact sfI _ _ | exact sfB _ | exact sfS _ | exact sf3 _ | exact sf5 _ | exact sf6 _ | exact Za0m _ | refine sfA ?_ ?_
theorem Za93(x:Zi):Z5 (Zm x) (Zm x)=true:=by
 unfold Zm;repeat' first | exact sfI _ _ | exact sfB _ | exact sfS _ | exact sf3 _ | exact sf5 _ | exact sf6 _ | exact Ztm _ | refine sfA ?_ ?_
theorem Za8u(x:Zba):Z5 (Zab x) (Zab x)=true:=by
 unfold Zab;repeat' first | exact sfI _ _ | exact sfB _ | exact sfS _ | exact sf3 _ | exact sf5 _ | exact sf6 _ | exact Ztm _ | refine sfA ?_ ?_
theorem Za2a(x:Zc3):Z5 (Zch x) (Zch x)=true:=by
 unfold Zch;repeat' first | exact sfI _ _ | exact sfB _ | exact sfS _ | exact sf3 _ | exact sf5 _ | exact sf6 _ | exact Ztm _ | refine sfA ?_ ?_
theorem Za2b(x:Za7):Z5 (Zbk x) (Zbk x)=true:=by
 unfold Zbk;repeat' first | exact sfI _ _ | exact sfB _ | exact sfS _ | exact sf3 _ | exact sf5 _ | exact sf6 _ | exact Ztm _ | refine sfA ?_ ?_
theorem sm{p:Prop}(h:p:=by intro h;subst h;first | rfl | (exfalso;omega) | grind [Za4w,Ztm,Za4x,Za0m,Za69,Za93,Za8u,Za2a,Za2b,sf6]):p:=h
def Zq9(l:List Ze):Prop:=∀ (i j:Nat) x y,i < j->l[i]?=some x->l[j]?=some y->x.Id < y.Id
theorem Ztn{l:List Ze}{v:Int}(h:Cons l v)(hv:(l.length:Int)<=v):Zq9 l:=by
 have h':Cons l l.length:=⟨fun k x hk=>h.1 k x (by omega),fun k x y hk=>h.2 k x y (by omega)⟩
 intro i j x y hij hx hy
 exact Zapr h' (j - i - 1) i x y hx (by rw [show i+(j - i - 1)+1=j by omega];exact hy)
def BSI(l:List Ze)(id i j:Int):Prop:=Zq9 l->(∀ (k:Nat) x,(k:Int) < i->l[k]?=some x->x.Id < id)/\∀ (k:Nat) x,j<=(k:Int)->l[k]?=some x->id<=x.Id
theorem Za2c{l:List Ze}{id n:Int}(hn:n=l.length):BSI l id 0 n:=fun _=>⟨fun k x hk=>by omega,fun k x hk hx=>by have:=(List.getElem?_eq_some_iff.1 hx).1;omega⟩
theorem Zaxc{l:List Ze}{id i j k i':Int}{x:Ze}(h:BSI l id i j)(m:l[k.toNat]?=some x)(hx:x.Id < id)(h0:0<=k)(e:i'=k+1):BSI l id i' j:=fun hs=>⟨fun q y hq hy=>by
 by_cases hqk:q=k.toNat
 .subst hqk
  have:=Option.some.inj (hy.symm.trans m)
  subst this;exact hx
 .have:=hs q k.toNat y x (by omega) hy m;omega,(h hs).2⟩
theorem Zaxd{l:List Ze}{id i j k j':Int}{x:Ze}(h:BSI l id i j)(m:l[k.toNat]?=some x)(hx:id<=x.Id)(h0:0<=k)(e:j'=k):BSI l id i j':=fun hs=>⟨(h hs).1,fun q y hq hy=>by
 by_cases hqk:q=k.toNat
 .subst hqk
  have:=Option.some.inj (hy.symm.trans m)
  subst this;exact hx
 .have:=hs k.toNat q x y (by omega) m hy;omega⟩
def BSP(l:List Ze)(id:Int)(r:Int×Bool):Prop:=Zq9 l->(r.2=true->r.1=ixO l id)/\(r.2=false -> -1=ixO l id)
theorem Za4y{l:List Ze}{id i j c:Int}{x:Ze}(h:BSI l id i j)(hij:j<=i)(m:l[i.toNat]?=some x)(h0:0<=i)(hc:(c = -1/\x.Id < id)\/(c=1/\id < x.Id)\/(c=0/\x.Id=id)):BSP l id (i,c==0):=fun hs=>by
 obtain⟨h1,h2⟩:=h hs
 refine⟨fun hr=>?_,fun hr=>?_⟩
 .have hr:c=0:=by simpa using hr
  exact Zafl m (fun k y hk hy=>by have:=h1 k y hk hy;omega) h0 (by omega)
 .have hr:c≠0:=by simpa using hr
  refine Z3r (v:=l.length) (fun k y hk hy=>?_) (Int.le_refl _)
  by_cases hki:(k:Int) < i
  .have:=h1 k y hki hy;omega
  .by_cases hke:k=i.toNat
   .subst hke
    have:=Option.some.inj (hy.symm.trans m)
    subst this
    have:=h2 i.toNat y (by omega) hy;omega
   .have:=hs i.toNat k x y (by omega) m hy
    have:=h2 i.toNat x (by omega) m;omega
theorem Za7l{l:List Ze}{id i j:Int}(h:BSI l id i j)(hn:(l.length:Int)<=i):BSP l id (i,false):=fun hs=>by
 obtain⟨h1,_⟩:=h hs
 exact⟨fun hr=>absurd hr Bool.false_ne_true,fun _=>Z3r (v:=l.length) (fun k y hk hy=>by have:=h1 k y (by omega) hy;omega) (Int.le_refl _)⟩
theorem li_n{l:List Ze}{id:Int}{r:Int×Bool}(h:BSP l id r)(hb:r.2=false):Zq9 l -> -1=ixO l id:=fun hs=>(h hs).2 hb
theorem li_y{l:List Ze}{id:Int}{r:Int×Bool}(h:BSP l id r)(hb:r.2=true):Zq9 l->r.1=ixO l id:=fun hs=>(h hs).1 hb
abbrev trZ:Zb:=⟨([]:List UInt8),(⟨0,0,(⟨0,0,0,0,0⟩:A5 Int)⟩:Zt),0,(⟨0,0,([]:List (List UInt8))⟩:Zah),0,0,0,([]:List Zg),0⟩
noncomputable def allV(c:List Zn)(s:Zl):List Zb:=(Ztk c s).getD []
def ofP(l:List Zb)(i:Int)(r:Zb×Bool):Prop:=(0<=i->r.2=true/\l[i.toNat]?=some r.1)/\(i < 0->r=(trZ,false))
theorem of_y{c:List Zn}{s:Zl}{os:List Ze}{id i:Int}{l:List Zb}{x:Zb}(hi:Zq9 os->i=ixO os id)(hl:l=allV c s)(m:l[i.toNat]?=some x)(h0:0<=i):Zq9 os->ofP (allV c s) (ixO os id) (x,true):=fun hs=>by
 rw [<- hi hs,<- hl]
 exact⟨fun _=>⟨rfl,m⟩,fun h=>by omega⟩
theorem of_n{os:List Ze}{id i:Int}{l:List Zb}(hi:Zq9 os->i=ixO os id)(h0:i < 0):Zq9 os->ofP l (ixO os id) (trZ,false):=fun hs=>by
 rw [<- hi hs]
 exact⟨fun h=>by omega,fun _=>rfl⟩
theorem lf_0{os:List Ze}{l l':List Zb}{i:Int}{r:Zb×Bool}(h:Zq9 os->ofP l i r)(hs:Zq9 os)(e:l'=l):ofP l' i (r.1,r.2):=by rw [e];exact h hs
theorem Zmz{L:List Zb}{os:List Ze}{id i:Int}{t:Zb}{b:Bool}{x:Ze}(h:ofP L (ixO os id) (t,b))(hx:os[i.toNat]?=some x)(hn:NoId os id i)(h0:0<=i)(he:x.Id=id):b=true/\L[i.toNat]?=some t:=by
 have e:=Zafl hx hn h0 he
 rw [<- e] at h
 exact h.1 h0
theorem Zm0{L:List Zb}{os:List Ze}{id i:Int}{t:Zb}{b:Bool}(h:ofP L (ixO os id) (t,b))(hn:NoId os id i)(hv:(os.length:Int)<=i):b=false/\t=trZ:=by
 have e:=Z3r hn hv
 rw [<- e] at h
 have:=h.2 (by omega)
 cases this
 exact⟨rfl,rfl⟩
theorem Z7e{L:List Zb}{t y:Zb}{b r:Bool}{i:Nat}(hs:t=y->r=true)(k:b=true/\L[i]?=some t)(m:L[i]?=some y):r=true:=hs (Option.some.inj (k.2.symm.trans m))
theorem Z7f{t:Zb}{b r:Bool}(hs:t=trZ->r=true)(k:b=false/\t=trZ):r=true:=hs k.2
end Go.PW
