import Derived.Test.YtchddhcajpagjaaGreatQSd
import Derived.Test.YtchddhcajpagjaaGreatPwX
set_option linter.all false
namespace Go.PW
theorem Zbdu{i j n:Int}(h0:0<=i)(h1:i<=j)(h2:j<=n)(h3:n<=140737488351232):IntKind.wrap .i64 (shrI .u64 (IntKind.wrap .u64 (IntKind.wrap .i64 (i+j))) 1)=(i+j) / 2:=by
 have a:IntKind.wrap .i64 (i+j)=i+j:=Zgj (by omega) (by omega)
 have b:IntKind.wrap .u64 (i+j)=i+j:=by
  have:IntKind.u64.wrap (i+j)=(i+j) % 18446744073709551616:=by simp [IntKind.wrap,IntKind.bits,IntKind.signed]
  rw [this];omega
 have c:shrI .u64 (i+j) 1=(i+j) / 2:=by
  unfold shrI
  rw [Int.fdiv_eq_ediv_of_nonneg _ (by decide)]
  rfl
 rw [a,b,c]
 exact Zgj (by omega) (by omega)
def HI(n:Nat)(hs:List (List Int)):Prop:=∀ h,h∈hs->h.length<=n/\∀ k,k∈h->0<=k/\k < (n:Int)
theorem Za6c{n:Nat}:HI n []:=fun _ h=>by cases h
theorem Zbab{n:Nat}{hs:List (List Int)}(h:∀ e,e∈hs->e=[]):HI n hs:=fun e he=>by rw [h e he];exact⟨Nat.zero_le _,fun _ h=>by cases h⟩
theorem Zbdv{n:Nat}{hs hs':List (List Int)}{v:List Int}(h:HI n hs)(hl:v.length<=n)(hv:∀ k,k∈v->0<=k/\k < (n:Int))(hm:∀ e,e∈hs'->e=v\/e∈hs):HI n hs':=fun e he=>by
 rcases hm e he with rfl | h1
 .exact⟨hl,hv⟩
 .exact h e h1
def ML(fs:List Zaj)(a:Int)(l:List Int):Prop:=∀ f,fs[a.toNat]?=some f->l.length=f.Mods.length
theorem ml_i{fs:List Zaj}{a:Int}{l:List Int}{f:Zaj}(h:fs[a.toNat]?=some f)(hl:l.length=f.Mods.length):ML fs a l:=fun g hg=>by
 have:=Option.some.inj (hg.symm.trans h);subst this;exact hl
def INR(n:Nat)(l:List Int):Prop:=∀ k,k∈l->0<=k/\k < (n:Int)
theorem Zao2{n:Nat}:INR n []:=fun _ h=>by cases h
theorem Za07{n:Nat}{a b:List Int}{k:Int}(hb:b=a++[k])(h:INR n a)(h0:0<=k)(h1:k < (n:Int)):INR n b:=fun x hx=>by
 subst hb
 rcases List.mem_append.1 hx with h2 | h2
 .exact h x h2
 .rw [List.mem_singleton] at h2;subst h2;exact⟨h0,h1⟩
theorem Zam0{n:Nat}{a:List Int}{i:Nat}{k:Int}(h:INR n a)(m:a[i]?=some k):0<=k/\k < (n:Int):=h k (List.mem_of_getElem? m)
theorem Zbb8{n:Nat}{a b:List Int}(h:INR n a)(hs:∀ x,x∈b->x∈a):INR n b:=fun k hk=>h k (hs k hk)
def SUB(b a:List Int):Prop:=∀ x,x∈b->x∈a
theorem Za08{a:List Int}:SUB [] a:=fun _ h=>by cases h
theorem Zbb9{a b c:List Int}{x:Int}{i:Nat}(hc:c=b++[x])(h:SUB b a)(m:a[i]?=some x):SUB c a:=fun y hy=>by
 subst hc
 rcases List.mem_append.1 hy with h2 | h2
 .exact h y h2
 .rw [List.mem_singleton] at h2;subst h2;exact List.mem_of_getElem? m
theorem sub_app'{a b c d:List Int}{x:Int}{i:Nat}(hc:c=b++[x])(h:SUB b a)(hd:SUB d a)(m:d[i]?=some x):SUB c a:=fun y hy=>by
 subst hc
 rcases List.mem_append.1 hy with h2 | h2
 .exact h y h2
 .rw [List.mem_singleton] at h2;subst h2;exact hd _ (List.mem_of_getElem? m)
theorem Zbdw{a d:List Int}{x:Int}{i:Nat}(hd:SUB d a)(m:d[i]?=some x):x < 0\/x∈a := .inr (hd _ (List.mem_of_getElem? m))
def RWS(n:Nat)(m:List (List Bool)):Prop:=∀ r,r∈m->r.length=n
theorem Zbca{n:Nat}{m m':List (List Bool)}{i j:Int}{y:List Bool}{v:Bool}(h:RWS n m)(hy:m[i.toNat]?=some y)(e:m'=m.set i.toNat (y.set j.toNat v)):RWS n m':=fun r hr=>by
 subst e
 rcases List.mem_or_eq_of_mem_set hr with h1 | h1
 .exact h r h1
 .rw [h1,List.length_set];exact h y (List.mem_of_getElem? hy)
theorem Z7b{n:Nat}{m:List (List Bool)}{i:Nat}{y:List Bool}(h:RWS n m)(hy:m[i]?=some y):y.length=n:=h y (List.mem_of_getElem? hy)
def RWV(n:Nat)(m:List (List Bool))(v:Int):Prop:=∀ (k:Nat) r,(k:Int) < v->m[k]?=some r->r.length=n
theorem Zbac{n:Nat}{m:List (List Bool)}:RWV n m 0:=fun k r hk=>by omega
theorem Zbcb{n:Nat}{m m':List (List Bool)}{v w:Int}{y:List Bool}(h:RWV n m v)(h0:0<=v)(hw:w=v+1)(hy:y.length=n)(e:m'=m.set v.toNat y):RWV n m' w:=fun k r hk hr=>by
 subst e;subst hw
 by_cases hkv:k=v.toNat
 .subst hkv
  rw [List.getElem?_set_self'] at hr
  cases h1:m[v.toNat]? with
  | none=>rw [h1] at hr;simp at hr
  | some z=>rw [h1] at hr;simp at hr;subst hr;exact hy
 .rw [List.getElem?_set_ne (fun e=>hkv e.symm)] at hr
  exact h k r (by omega) hr
theorem Zbcc{n:Nat}{m:List (List Bool)}{v:Int}(h:RWV n m v)(hv:(m.length:Int)<=v):RWS n m:=fun r hr=>by
 obtain⟨k,hk⟩:=List.mem_iff_getElem?.1 hr
 have:=(List.getElem?_eq_some_iff.1 hk).1
 exact h k r (by omega) hk
def neI(i x:Int):Bool := !(x==i)
theorem Zbdx{l:List Int}{i:Int}(h:i∈l):(l.filter (neI i)).length < l.length:=by
 induction l with
 | nil=>cases h
 | cons a l ih=>
  rw [List.filter_cons]
  by_cases ha:a=i
  .subst ha
   have:neI a a=false:=by simp [neI]
   rw [this]
   have:=List.length_filter_le (neI a) l
   simp only [Bool.false_eq_true,if_false,List.length_cons];omega
  .rcases List.mem_cons.1 h with h1 | h1
   .exact absurd h1.symm ha
   .have:=ih h1
    split<;>simp only [List.length_cons]<;>omega
theorem Zbcd{l:List Int}{p:Int->Bool}:SUB (l.filter p) l:=fun x hx=>(List.mem_filter.1 hx).1
theorem Za8w{n:Nat}{m m':List (List Bool)}{w i j:Int}{y:List Bool}{v:Bool}(h:RWV n m w)(hy:m[i.toNat]?=some y)(hw:i < w)(h0:0<=i)(e:m'=m.set i.toNat (y.set j.toNat v)):RWV n m' w:=fun k r hk hr=>by
 subst e
 by_cases hkv:k=i.toNat
 .subst hkv
  rw [List.getElem?_set_self',hy] at hr
  simp at hr
  rw [<- hr,List.length_set]
  exact h i.toNat y (by omega) hy
 .rw [List.getElem?_set_ne (fun e=>hkv e.symm)] at hr
  exact h k r hk hr
theorem Zam1{n:Nat}{m:List (List Bool)}{w:Int}{i:Nat}{y:List Bool}(h:RWV n m w)(hi:(i:Int) < w)(hy:m[i]?=some y):y.length=n:=h i y hi hy
def POS(l:List Int):Prop:=∀ k,k∈l->0<=k
theorem Zbdy{a d:List Int}{i:Nat}{k:Int}(h:POS a)(hs:SUB d a)(m:d[i]?=some k):0<=k:=h k (hs k (List.mem_of_getElem? m))
theorem Zbce{n:Nat}{a:List Int}(h:INR n a):POS a:=fun k hk=>(h k hk).1
theorem Za6d{n:Nat}{m m':List (List Bool)}{v w:Int}{y:List Bool}(e:m'.length=m.length/\(∀ e:List Bool,e∈m'->e=y\/e∈m)/\m'=m.set v.toNat y)(h:RWV n m v)(h0:0<=v)(hw:w=v+1)(hy:y.length=n):RWV n m' w:=Zbcb h h0 hw hy e.2.2
theorem Zbdz{n k:Nat}{m:List (List Bool)}(h:RWS n m)(e:k=n):RWS k m:=by rw [e];exact h
theorem Zbd0{n k:Nat}{m:List Int}(h:INR n m)(e:k=n):INR k m:=by rw [e];exact h
theorem asz{p:Prop}(h:p:=by with_reducible assumption):p:=h
theorem Zbd1{n:Nat}{a:List Int}{k:Int}(h:INR n a)(hk:k < 0\/k∈a):k < 0\/(0<=k/\k < (n:Int)):=hk.imp id (h k)
theorem flt_lt'{r l:List Int}{i:Int}(e:r=l.filter (neI i))(h:i < 0\/i∈l)(h0:¬ i < 0):r.length < l.length:=by rw [e];exact Zbdx (h.resolve_left h0)
theorem flt_sub'{r l:List Int}{p:Int->Bool}(e:r=l.filter p):SUB r l:=by rw [e];exact Zbcd
theorem Za6e{n i:Nat}{hs:List (List Int)}{x:List Int}(h:HI n hs)(m:hs[i]?=some x):x.length<=n/\INR n x:=h x (List.mem_of_getElem? m)
theorem Tot.lk{α:Type}{x:α}:Tot (Option.some x) fun r=>r=x:=⟨x,rfl,rfl⟩
abbrev SZV(v:Za7):Prop:=(SzL 8 (fun _=>True)) v.hits/\(SzL 8 (fun _=>True)) v.numbers
def MSZ(m:List (Int×Za7)):Prop:=∀ p,p∈m->SZV p.2
theorem Zbcf:MSZ []:=fun _ h=>by cases h
theorem Zbcg{m z:List (Int×Za7)}{n:Int}{x:Za7}(e:z=Zjr m n x)(h:MSZ m)(hx:SZV x):MSZ z:=fun p hp=>by
 subst e
 rcases Zaua hp with h1 | h1
 .exact h p h1
 .rw [h1];exact hx
theorem Zbch{m:List (Int×Za7)}{n:Int}{z:Za7}{x:Za7×Bool}(e:x=mlk m n z)(h:MSZ m)(hz:SZV z):SZV x.1:=by
 subst e
 unfold mlk
 split
 .rename_i y hy
  have key:∀ {m:List (Int×Za7)},Zux m n=some y->∃ p,p∈m/\p.2=y:=by
   intro m
   induction m with
   | nil=>intro h;cases h
   | cons q m ih=>
    intro h
    obtain⟨k,w⟩:=q
    unfold Zux at h
    cases hk:k==n with
    | true=>rw [hk,cond_true] at h;exact⟨(k,w),by simp,Option.some.inj h⟩
    | false=>
     rw [hk,cond_false] at h
     obtain⟨p,h1,h2⟩:=ih h
     exact⟨p,List.mem_cons_of_mem _ h1,h2⟩
  obtain⟨p,h1,h2⟩:=key hy
  rw [<- h2];exact h p h1
 .exact hz
theorem szx{p:Prop}(h:p:=by first | with_reducible assumption | (dsimp only;with_reducible assumption) | exact⟨by omega,fun _ _=>trivial⟩ | exact⟨by omega,fun r hr=>⟨by rw [(by assumption:RWS _ _) r hr];omega,fun _ _=>trivial⟩⟩ | exact Zbch ‹_› ‹_› ⟨SzL.nil,SzL.nil⟩ | exact (by with_reducible assumption:Zu _).2.1 | exact (by with_reducible assumption:Zu _).2.2):p:=h
theorem sfA{l m:List Zf}(h:Z5 l l=true)(k:Z5 m m=true):Z5 (l++m) (l++m)=true:=by rw [Zvz _ _ _ _ rfl,h,k];rfl
theorem sfI(k:IntKind)(n:Int):Z5 (cI k n) (cI k n)=true:=by simp [cI,Z5,Zmz]
theorem sfB(b:Bool):Z5 (cB b) (cB b)=true:=by simp [cB,Z5,Zmz]
theorem sfS(b:List UInt8):Z5 (cS b) (cS b)=true:=by simp [cS,Z5,Zmz]
theorem sf3(x:A3 Int):Z5 ((cA3 (cI .i64)) x) ((cA3 (cI .i64)) x)=true:=by simp [cA3,cI,Z5,Zmz,A3.list]
theorem sf5(x:A5 Int):Z5 ((cA5 (cI .i64)) x) ((cA5 (cI .i64)) x)=true:=by simp [cA5,cI,Z5,Zmz,A5.list]
theorem sf6(x:A6 Int):Z5 ((cA6 (cI .i64)) x) ((cA6 (cI .i64)) x)=true:=by simp [cA6,cI,Z5,Zmz,A6.list]
theorem Za8x(x:Zb):Z5 (Zb4 x) (Zb4 x)=true:=by
 unfold Zb4;repeat' first | exact sfI _ _ | exact sfB _ | exact sfS _ | exact sf3 _ | exact sf5 _ | exact sf6 _ | refine sfA ?_ ?_
theorem Za6f(x:Zgt):Z5 (Zdd x) (Zdd x)=true:=by
 unfold Zdd;repeat' first | exact sfI _ _ | exact sfB _ | exact sfS _ | exact sf3 _ | exact sf5 _ | exact sf6 _ | refine sfA ?_ ?_
theorem Zsp(x:Zd):Z5 (Zo x) (Zo x)=true:=by
 unfold Zo;repeat' first | exact sfI _ _ | exact sfB _ | exact sfS _ | exact sf3 _ | exact sf5 _ | exact sf6 _ | exact Za8x _ | refine sfA ?_ ?_
theorem Za6g(x:Zbi):Z5 (Zan x) (Zan x)=true:=by
 unfold Zan;repeat' first | exact sfI _ _ | exact sfB _ | exact sfS _ | exact sf3 _ | exact sf5 _ | exact sf6 _ | exact Zsp _ | exact Za6f _ | refine sfA ?_ ?_
theorem Za09(x:Zs):Z5 (Zae x) (Zae x)=true:=by
 unfold Zae;repeat' first | exact sfI _ _ | exact sfB _ | exact sfS _ | exact sf3 _ | exact sf5 _ | exact sf6 _ | refine sfA ?_ ?_
theorem Za8y(x:Zgx):Z5 (Zdj x) (Zdj x)=true:=by
 unfold Zdj;repeat' first | exact sfI _ _ | exact sfB _ | exact sfS _ | exact sf3 _ | exact sf5 _ | exact sf6 _ | exact Za09 _ | refine sfA ?_ ?_
theorem Zbd2(x:Zi):Z5 (Zm x) (Zm x)=true:=by
 unfold Zm;repeat' first | exact sfI _ _ | exact sfB _ | exact sfS _ | exact sf3 _ | exact sf5 _ | exact sf6 _ | exact Zsp _ | refine sfA ?_ ?_
theorem Zbci(x:Zaw):Z5 (Z8 x) (Z8 x)=true:=by
 unfold Z8;repeat' first | exact sfI _ _ | exact sfB _ | exact sfS _ | exact sf3 _ | exact sf5 _ | exact sf6 _ | exact Zsp _ | refine sfA ?_ ?_
theorem Za2s(x:Zch):Z5 (Zb7 x) (Zb7 x)=true:=by
 unfold Zb7;repeat' first | exact sfI _ _ | exact sfB _ | exact sfS _ | exact sf3 _ | exact sf5 _ | exact sf6 _ | exact Zsp _ | refine sfA ?_ ?_
theorem Za2t(x:Zay):Z5 (Zbe x) (Zbe x)=true:=by
 unfold Zbe;repeat' first | exact sfI _ _ | exact sfB _ | exact sfS _ | exact sf3 _ | exact sf5 _ | exact sf6 _ | exact Zsp _ | refine sfA ?_ ?_
theorem sm{p:Prop}(h:p:=by intro h;subst h;first | rfl | (exfalso;omega) | grind [Za6f,Zsp,Za6g,Za09,Za8y,Zbd2,Zbci,Za2s,Za2t,sf6]):p:=h
def Z8s(l:List Zc):Prop:=∀ (i j:Nat) x y,i < j->l[i]?=some x->l[j]?=some y->x.Id < y.Id
theorem Zbcj{l:List Zc}{v:Int}(h:Z8r l v)(hv:(l.length:Int)<=v):Z8s l:=by
 have h':Z8r l l.length:=⟨fun k x hk=>h.1 k x (by omega),fun k x y hk=>h.2 k x y (by omega)⟩
 intro i j x y hij hx hy
 exact Zao0 h' (j - i - 1) i x y hx (by rw [show i+(j - i - 1)+1=j by omega];exact hy)
def BSI(l:List Zc)(id i j:Int):Prop:=Z8s l->(∀ (k:Nat) x,(k:Int) < i->l[k]?=some x->x.Id < id)/\∀ (k:Nat) x,j<=(k:Int)->l[k]?=some x->id<=x.Id
theorem Zbg0{l:List Zc}{id n:Int}(hn:n=l.length):BSI l id 0 n:=fun _=>⟨fun k x hk=>by omega,fun k x hk hx=>by have:=(List.getElem?_eq_some_iff.1 hx).1;omega⟩
theorem Zbd3{l:List Zc}{id i j k i':Int}{x:Zc}(h:BSI l id i j)(m:l[k.toNat]?=some x)(hx:x.Id < id)(h0:0<=k)(e:i'=k+1):BSI l id i' j:=fun hs=>⟨fun q y hq hy=>by
 by_cases hqk:q=k.toNat
 .subst hqk
  have:=Option.some.inj (hy.symm.trans m)
  subst this;exact hx
 .have:=hs q k.toNat y x (by omega) hy m;omega,(h hs).2⟩
theorem Zbd4{l:List Zc}{id i j k j':Int}{x:Zc}(h:BSI l id i j)(m:l[k.toNat]?=some x)(hx:id<=x.Id)(h0:0<=k)(e:j'=k):BSI l id i j':=fun hs=>⟨(h hs).1,fun q y hq hy=>by
 by_cases hqk:q=k.toNat
 .subst hqk
  have:=Option.some.inj (hy.symm.trans m)
  subst this;exact hx
 .have:=hs k.toNat q x y (by omega) m hy;omega⟩
def BSP(l:List Zc)(id:Int)(r:Int×Bool):Prop:=Z8s l->(r.2=true->r.1=ixO l id)/\(r.2=false -> -1=ixO l id)
theorem Zbd5{l:List Zc}{id i j c:Int}{x:Zc}(h:BSI l id i j)(hij:j<=i)(m:l[i.toNat]?=some x)(h0:0<=i)(hc:(c = -1/\x.Id < id)\/(c=1/\id < x.Id)\/(c=0/\x.Id=id)):BSP l id (i,c==0):=fun hs=>by
 obtain⟨h1,h2⟩:=h hs
 refine⟨fun hr=>?_,fun hr=>?_⟩
 .have hr:c=0:=by simpa using hr
  exact Za01 m (fun k y hk hy=>by have:=h1 k y hk hy;omega) h0 (by omega)
 .have hr:c≠0:=by simpa using hr
  refine Zaiy (v:=l.length) (fun k y hk hy=>?_) (Int.le_refl _)
  by_cases hki:(k:Int) < i
  .have:=h1 k y hki hy;omega
  .by_cases hke:k=i.toNat
   .subst hke
    have:=Option.some.inj (hy.symm.trans m)
    subst this
    have:=h2 i.toNat y (by omega) hy;omega
   .have:=hs i.toNat k x y (by omega) m hy
    have:=h2 i.toNat x (by omega) m;omega
theorem Zbg1{l:List Zc}{id i j:Int}(h:BSI l id i j)(hn:(l.length:Int)<=i):BSP l id (i,false):=fun hs=>by
 obtain⟨h1,_⟩:=h hs
 exact⟨fun hr=>absurd hr Bool.false_ne_true,fun _=>Zaiy (v:=l.length) (fun k y hk hy=>by have:=h1 k y (by omega) hy;omega) (Int.le_refl _)⟩
theorem li_n{l:List Zc}{id:Int}{r:Int×Bool}(h:BSP l id r)(hb:r.2=false):Z8s l -> -1=ixO l id:=fun hs=>(h hs).2 hb
theorem li_y{l:List Zc}{id:Int}{r:Int×Bool}(h:BSP l id r)(hb:r.2=true):Z8s l->r.1=ixO l id:=fun hs=>(h hs).1 hb
noncomputable def allV(c:List Zk)(s:Zn):List Za:=(Zxg c s).getD []
def INZ(os:List Zc)(l:List Int):Prop:=∀ k,k∈l->0<=k/\∃ o,os[k.toNat]?=some o/\o.Zone=0
def ZB(os:List Zc)(k:Int):Prop:=∃ o,os[k.toNat]?=some o/\o.Zone=0
theorem Zao3{os:List Zc}:INZ os []:=fun _ h=>by cases h
theorem Zbck{os l:List Zc}{a b:List Int}{k:Int}{o:Zc}(hb:b=a++[k])(h:INZ os a)(h0:0<=k)(el:l=os)(m:l[k.toNat]?=some o)(hz:o.Zone=0):INZ os b:=fun x hx=>by
 subst hb;subst el
 rcases List.mem_append.1 hx with h2 | h2
 .exact h x h2
 .rw [List.mem_singleton] at h2;subst h2;exact⟨h0,o,m,hz⟩
theorem Zbd7{os:List Zc}{a:List Int}{i:Nat}{k:Int}(h:INZ os a)(m:a[i]?=some k):ZB os k:=(h k (List.mem_of_getElem? m)).2
def HZ(os:List Zc)(hs:List (List Int)):Prop:=∀ h,h∈hs->INZ os h
theorem Za6h{os:List Zc}:HZ os []:=fun _ h=>by cases h
theorem Zbad{os:List Zc}{hs:List (List Int)}(h:∀ e,e∈hs->e=[]):HZ os hs:=fun e he=>by rw [h e he];exact Zao3
theorem Zbd8{os:List Zc}{hs hs':List (List Int)}{v:List Int}{n m:Nat}{q:Prop}(hm:n=m/\(∀ e:List Int,e∈hs'->e=v\/e∈hs)/\q)(h:HZ os hs)(hv:INZ os v):HZ os hs':=fun e he=>by
 rcases hm.2.1 e he with rfl | h1
 .exact hv
 .exact h e h1
theorem Zbd9{os:List Zc}{i:Nat}{hs:List (List Int)}{x:List Int}(h:HZ os hs)(m:hs[i]?=some x):INZ os x:=h x (List.mem_of_getElem? m)
theorem Zbae{os os':List Zc}{hs:List (List Int)}(h:HZ os hs)(e:os'=os):HZ os' hs:=by rw [e];exact h
def KPT(os:List Zc)(t0 t:List Za):Prop:=∀ (k:Nat) o,os[k]?=some o->o.Zone≠0->t[k]?=t0[k]?
theorem Z8t{os:List Zc}{t:List Za}:KPT os t t:=fun _ _ _ _=>rfl
theorem Zao4{os l:List Zc}{t0 t1 t2:List Za}{v:Int}{o:Zc}{y:Za}(h:KPT os t0 t1)(el:l=os)(m:l[v.toNat]?=some o)(hz:o.Zone=0)(e:t2.length=t1.length/\(∀ e:Za,e∈t2->e=y\/e∈t1)/\t2=t1.set v.toNat y):KPT os t0 t2:=fun k q hq hne=>by
 subst el
 have hk:v.toNat≠k:=fun e=>by
  subst e
  have:=Option.some.inj (hq.symm.trans m);subst this
  exact hne hz
 rw [e.2.2,List.getElem?_set_ne hk]
 exact h k q hq hne
theorem Zbea{os:List Zc}{t0 t1 t2:List Za}{v:Int}{y:Za}(h:KPT os t0 t1)(z:ZB os v)(e:t2.length=t1.length/\(∀ e:Za,e∈t2->e=y\/e∈t1)/\t2=t1.set v.toNat y):KPT os t0 t2:=by
 obtain⟨o,m,hz⟩:=z
 exact Zao4 h rfl m hz e
theorem Za8z{os l:List Zc}{t0 t t1 t2:List Za}{v:Int}{o:Zc}{y z:Za}(h:KPT os t0 t)(el:l=os)(m:l[v.toNat]?=some o)(hz:o.Zone=0)(e:t1.length=t.length/\(∀ e:Za,e∈t1->e=y\/e∈t)/\t1=t.set v.toNat y)(e2:t2.length=t1.length/\(∀ e:Za,e∈t2->e=z\/e∈t1)/\t2=t1.set v.toNat z):KPT os t0 t2:=Zao4 (Zao4 h el m hz e) el m hz e2
theorem Za6i{s s':Zn}{t0 t1 t2:List Za}(h:KPT s.Objects t0 t1)(g:KPT s'.Objects t1 t2)(e:s'=s):KPT s.Objects t0 t2:=fun k o ho hz=>by
 subst e
 exact (g k o ho hz).trans (h k o ho hz)
theorem Zbeb{s s':Zn}{t0 t1:List Za}(h:KPT s'.Objects t0 t1)(e:s'=s):KPT s.Objects t0 t1:=by subst e;exact h
theorem Zbec{os:List Zc}{t0 t:List Za}(e:t=t0):KPT os t0 t:=by rw [e];exact Z8t
theorem Za80{α β:Type}{f:α->β}{l:List α}{t z:List β}{v w:Int}{x:β}{o:α}(e:z=t++[x])(h:t=(l.take v.toNat).map f)(m:l[v.toNat]?=some o)(hx:x=f o)(h0:0<=v)(hw:w=v+1):z=(l.take w.toNat).map f:=by
 subst hw
 rw [show (v+1).toNat=v.toNat+1 by omega,List.take_add_one,m,e,h,hx]
 simp
theorem Zbcl{α β:Type}{f:α->β}{l l':List α}{t:List β}{v:Int}(h:t=(l.take v.toNat).map f)(hv:(l.length:Int)<=v)(e:l=l'):t=l'.map f:=by
 subst e
 rw [h,List.take_of_length_le (by omega)]
theorem el_1{f:Zc->Za}{os:List Zc}{l:List Za}{i:Nat}{o:Zc}{t:Za}(h:KPT os (os.map f) l)(m:os[i]?=some o)(hz:o.Zone≠0)(k:l[i]?=some t):t=f o:=by
 have:=h i o m hz
 rw [k,List.getElem?_map,m] at this
 exact Option.some.inj this
theorem el_f{t y:Za}{r:Bool}{p:Prop}(hs:t=y->r=true)(k:t=y)(hr:r=false):p:=by rw [hs k] at hr;cases hr
end Go.PW
