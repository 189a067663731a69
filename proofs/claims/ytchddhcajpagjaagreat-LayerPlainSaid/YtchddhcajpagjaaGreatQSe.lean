import Derived.Test.YtchddhcajpagjaaGreatQSc
import Derived.Test.YtchddhcajpagjaaGreatPwX
set_option linter.all false
set_option maxRecDepth 100000
namespace Go.PW
def abF{α:Type}(f:Int->Zd->α)(l:List Zd)(v:Int):List α:=((l.take v.toNat).zipIdx.filter fun p=>p.1.Kind==1).map fun p=>f p.2 p.1
theorem Zays{α:Type}{f:Int->Zd->α}{l:List Zd}{v w:Int}{x:Zd}(hx:l[v.toNat]?=some x)(h0:0<=v)(hw:w=v+1) :
 abF f l w=abF f l v++if x.Kind==1 then [f v x] else []:=by
 subst hw
 have hv:(v+1).toNat=v.toNat+1:=by omega
 have hlt:=(List.getElem?_eq_some_iff.1 hx).1
 unfold abF
 rw [hv,List.take_add_one,hx,Option.toList_some,List.zipIdx_append,List.filter_append,List.map_append]
 congr 1
 rw [List.length_take,Nat.min_eq_left (by omega),Nat.zero_add]
 simp only [List.zipIdx_cons,List.zipIdx_nil,List.filter_cons,List.filter_nil]
 split
 .simp only [List.map_cons,List.map_nil];rw [Int.toNat_of_nonneg h0]
 .rfl
theorem Za2h{α:Type}{f:Int->Zd->α}{l:List Zd}{c z a:List α}{v w:Int}{x:Zd}{y:α}(hz:z=a++[y])(ha:a=c++abF f l v)(hx:l[v.toNat]?=some x)(h0:0<=v)(hw:w=v+1)(hk:x.Kind=1)(hy:y=f v x):z=c++abF f l w:=by
 rw [Zays hx h0 hw,if_pos (by simpa using hk),hz,ha,hy,List.append_assoc]
theorem Zbbk{α:Type}{f:Int->Zd->α}{l:List Zd}{c a:List α}{v w:Int}{x:Zd}(ha:a=c++abF f l v)(hx:l[v.toNat]?=some x)(h0:0<=v)(hw:w=v+1)(hk:¬ x.Kind=1):a=c++abF f l w:=by
 rw [Zays hx h0 hw,if_neg (by simpa using hk),ha,List.append_nil]
theorem Zbla{α:Type}{f:Int->Zd->α}{l:List Zd}{c a:List α}(h:a=c):a=c++abF f l 0:=by
 rw [h];simp [abF]
def obF1{α:Type}(f:Zf->Int->Zd->α)(cards:List Zl)(o:Zf):List α:=if o.Zone=0 then abF (f o) (baV cards o).Abilities (baV cards o).Abilities.length else []
def obF{α:Type}(f:Zf->Int->Zd->α)(cards:List Zl)(l:List Zf)(v:Int):List α:=(l.take v.toNat).flatMap (obF1 f cards)
theorem Zblb{α:Type}{f:Zf->Int->Zd->α}{cards:List Zl}{l:List Zf}:([]:List α)=obF f cards l 0:=by simp [obF]
theorem Zayt{α:Type}{f:Zf->Int->Zd->α}{cards:List Zl}{l:List Zf}{v w:Int}{x:Zf}(hx:l[v.toNat]?=some x)(h0:0<=v)(hw:w=v+1):obF f cards l w=obF f cards l v++obF1 f cards x:=by
 subst hw
 have hv:(v+1).toNat=v.toNat+1:=by omega
 unfold obF
 rw [hv,List.take_add_one,hx,Option.toList_some,List.flatMap_append]
 simp
theorem Zbbl{α:Type}{f:Zf->Int->Zd->α}{cards:List Zl}{l:List Zf}{a:List α}{v w:Int}{x:Zf}(ha:a=obF f cards l v)(hx:l[v.toNat]?=some x)(h0:0<=v)(hw:w=v+1)(hz:x.Zone≠0):a=obF f cards l w:=by
 rw [Zayt hx h0 hw,obF1,if_neg hz,List.append_nil,ha]
theorem Zbfn{α:Type}{f:Zf->Int->Zd->α}{cards:List Zl}{l:List Zf}{a:List α}{v w u:Int}{x:Zf}{t:List Zd}(ha:a=obF f cards l v++abF (f x) t u)(ht:t=(baV cards x).Abilities)(hx:l[v.toNat]?=some x)(h0:0<=v)(hw:w=v+1)(hz:x.Zone=0)(hu:u=t.length):a=obF f cards l w:=by
 rw [Zayt hx h0 hw,obF1,if_pos hz,ha,hu,ht]
theorem Za2i{α:Type}{f:Int->Zd->α}{l:List Zd}{v:Int}:(abF f l v).length<=l.length:=by
 unfold abF
 rw [List.length_map]
 refine Nat.le_trans (List.length_filter_le _ _) ?_
 rw [List.length_zipIdx,List.length_take];omega
theorem Zaev{α:Type}{f:Zf->Int->Zd->α}{cards:List Zl}{l:List Zf}{v:Int}(h:∀ c,c∈cards->c.Abilities.length<=8):(obF f cards l v).length<=8*l.length:=by
 unfold obF
 have key:∀ m:List Zf,(m.flatMap (obF1 f cards)).length<=8*m.length:=by
  intro m
  induction m with
  | nil=>simp
  | cons o r ih=>
   rw [List.flatMap_cons,List.length_append,List.length_cons]
   have:(obF1 f cards o).length<=8:=by
    unfold obF1
    split
    .exact Nat.le_trans Za2i (Za2f h o)
    .simp
   omega
 refine Nat.le_trans (key _) ?_
 rw [List.length_take]
 omega
def coF{α:Type}(g:Zc7->α)(l:List Zc7)(v:Int):List α:=(l.take v.toNat).map g
theorem Zayu{α:Type}{g:Zc7->α}{l:List Zc7}{c a z:List α}{v w:Int}{x:Zc7}{y:α}(hz:z=a++[y])(ha:a=c++coF g l v)(hx:l[v.toNat]?=some x)(h0:0<=v)(hw:w=v+1)(hy:y=g x):z=c++coF g l w:=by
 subst hw
 have hv:(v+1).toNat=v.toNat+1:=by omega
 unfold coF
 rw [hv,List.take_add_one,hx,Option.toList_some,List.map_append,hz,ha,hy,List.append_assoc]
 rfl
theorem Zblc{α:Type}{g:Zc7->α}{l:List Zc7}{c a:List α}(h:a=c):a=c++coF g l 0:=by rw [h];simp [coF]
def FS{α:Type}(f:Zf->Int->Zd->α)(g:Zc7->α)(cards:List Zl)(s:Zm):List α:=obF f cards s.Objects s.Objects.length++coF g s.Conts s.Conts.length
theorem Zbhc{α:Type}{f:Zf->Int->Zd->α}{g:Zc7->α}{cards:List Zl}{s:Zm}{a:List α}{v:Int}{l:List Zc7}(h:a=obF f cards s.Objects s.Objects.length++coF g l v)(hl:l=s.Conts)(hv:v=l.length):a=FS f g cards s:=by
 rw [h,hv,hl];rfl
theorem Zbhd{α:Type}{f:Zf->Int->Zd->α}{g:Zc7->α}{cards:List Zl}{s:Zm}(h:∀ c,c∈cards->c.Abilities.length<=8):(FS f g cards s).length<=8*s.Objects.length+s.Conts.length:=by
 unfold FS coF
 have:=Zaev (f:=f) (l:=s.Objects) (v:=s.Objects.length) h
 rw [List.length_append,List.length_map,List.length_take]
 omega
abbrev Za2j:Zg:=⟨0,0,0,0,0,0,0,[],0,0,⟨0,0⟩,⟨0,0⟩,⟨0,0⟩⟩
def fL(o:Zf)(k:Int)(a:Zd):Z0:=⟨o.Id,k,o.Control,o.Stamp,false,[],a.Filter,a.Mods⟩
def gL(c:Zc7):Z0:=⟨c.Source,-1,c.Control,c.Stamp,true,c.Objects,Za2j,c.Mods⟩
end Go.PW
namespace Go.PW
theorem Zbhe{i j n:Int}(h0:0<=i)(h1:i<=j)(h2:j<=n)(h3:n<=140737488351232):IntKind.wrap .i64 (shrI .u64 (IntKind.wrap .u64 (IntKind.wrap .i64 (i+j))) 1)=(i+j) / 2:=by
 have a:IntKind.wrap .i64 (i+j)=i+j:=Zge (by omega) (by omega)
 have b:IntKind.wrap .u64 (i+j)=i+j:=by
  have:IntKind.u64.wrap (i+j)=(i+j) % 18446744073709551616:=by simp [IntKind.wrap,IntKind.bits,IntKind.signed]
  rw [this];omega
 have c:shrI .u64 (i+j) 1=(i+j) / 2:=by
  unfold shrI
  rw [Int.fdiv_eq_ediv_of_nonneg _ (by decide)]
  rfl
 rw [a,b,c]
 exact Zge (by omega) (by omega)
def HI(n:Nat)(hs:List (List Int)):Prop:=∀ h,h∈hs->h.length<=n/\∀ k,k∈h->0<=k/\k < (n:Int)
theorem Za8s{n:Nat}:HI n []:=fun _ h=>by cases h
theorem Zbc4{n:Nat}{hs:List (List Int)}(h:∀ e,e∈hs->e=[]):HI n hs:=fun e he=>by rw [h e he];exact⟨Nat.zero_le _,fun _ h=>by cases h⟩
theorem Zbhf{n:Nat}{hs hs':List (List Int)}{v:List Int}(h:HI n hs)(hl:v.length<=n)(hv:∀ k,k∈v->0<=k/\k < (n:Int))(hm:∀ e,e∈hs'->e=v\/e∈hs):HI n hs':=fun e he=>by
 rcases hm e he with rfl | h1
 .exact⟨hl,hv⟩
 .exact h e h1
def ML(fs:List Z0)(a:Int)(l:List Int):Prop:=∀ f,fs[a.toNat]?=some f->l.length=f.Mods.length
theorem ml_i{fs:List Z0}{a:Int}{l:List Int}{f:Z0}(h:fs[a.toNat]?=some f)(hl:l.length=f.Mods.length):ML fs a l:=fun g hg=>by
 have:=Option.some.inj (hg.symm.trans h);subst this;exact hl
def INR(n:Nat)(l:List Int):Prop:=∀ k,k∈l->0<=k/\k < (n:Int)
theorem Zapr{n:Nat}:INR n []:=fun _ h=>by cases h
theorem Za2k{n:Nat}{a b:List Int}{k:Int}(hb:b=a++[k])(h:INR n a)(h0:0<=k)(h1:k < (n:Int)):INR n b:=fun x hx=>by
 subst hb
 rcases List.mem_append.1 hx with h2 | h2
 .exact h x h2
 .rw [List.mem_singleton] at h2;subst h2;exact⟨h0,h1⟩
theorem Zani{n:Nat}{a:List Int}{i:Nat}{k:Int}(h:INR n a)(m:a[i]?=some k):0<=k/\k < (n:Int):=h k (List.mem_of_getElem? m)
theorem Zbfo{n:Nat}{a b:List Int}(h:INR n a)(hs:∀ x,x∈b->x∈a):INR n b:=fun k hk=>h k (hs k hk)
def SUB(b a:List Int):Prop:=∀ x,x∈b->x∈a
theorem Za2l{a:List Int}:SUB [] a:=fun _ h=>by cases h
theorem Zbfp{a b c:List Int}{x:Int}{i:Nat}(hc:c=b++[x])(h:SUB b a)(m:a[i]?=some x):SUB c a:=fun y hy=>by
 subst hc
 rcases List.mem_append.1 hy with h2 | h2
 .exact h y h2
 .rw [List.mem_singleton] at h2;subst h2;exact List.mem_of_getElem? m
theorem sub_app'{a b c d:List Int}{x:Int}{i:Nat}(hc:c=b++[x])(h:SUB b a)(hd:SUB d a)(m:d[i]?=some x):SUB c a:=fun y hy=>by
 subst hc
 rcases List.mem_append.1 hy with h2 | h2
 .exact h y h2
 .rw [List.mem_singleton] at h2;subst h2;exact hd _ (List.mem_of_getElem? m)
theorem Zbhg{a d:List Int}{x:Int}{i:Nat}(hd:SUB d a)(m:d[i]?=some x):x < 0\/x∈a := .inr (hd _ (List.mem_of_getElem? m))
def RWS(n:Nat)(m:List (List Bool)):Prop:=∀ r,r∈m->r.length=n
theorem Zbfq{n:Nat}{m m':List (List Bool)}{i j:Int}{y:List Bool}{v:Bool}(h:RWS n m)(hy:m[i.toNat]?=some y)(e:m'=m.set i.toNat (y.set j.toNat v)):RWS n m':=fun r hr=>by
 subst e
 rcases List.mem_or_eq_of_mem_set hr with h1 | h1
 .exact h r h1
 .rw [h1,List.length_set];exact h y (List.mem_of_getElem? hy)
theorem Z1r{n:Nat}{m:List (List Bool)}{i:Nat}{y:List Bool}(h:RWS n m)(hy:m[i]?=some y):y.length=n:=h y (List.mem_of_getElem? hy)
def RWV(n:Nat)(m:List (List Bool))(v:Int):Prop:=∀ (k:Nat) r,(k:Int) < v->m[k]?=some r->r.length=n
theorem Zbc5{n:Nat}{m:List (List Bool)}:RWV n m 0:=fun k r hk=>by omega
theorem Zbfr{n:Nat}{m m':List (List Bool)}{v w:Int}{y:List Bool}(h:RWV n m v)(h0:0<=v)(hw:w=v+1)(hy:y.length=n)(e:m'=m.set v.toNat y):RWV n m' w:=fun k r hk hr=>by
 subst e;subst hw
 by_cases hkv:k=v.toNat
 .subst hkv
  rw [List.getElem?_set_self'] at hr
  cases h1:m[v.toNat]? with
  | none=>rw [h1] at hr;simp at hr
  | some z=>rw [h1] at hr;simp at hr;subst hr;exact hy
 .rw [List.getElem?_set_ne (fun e=>hkv e.symm)] at hr
  exact h k r (by omega) hr
theorem Zbfs{n:Nat}{m:List (List Bool)}{v:Int}(h:RWV n m v)(hv:(m.length:Int)<=v):RWS n m:=fun r hr=>by
 obtain⟨k,hk⟩:=List.mem_iff_getElem?.1 hr
 have:=(List.getElem?_eq_some_iff.1 hk).1
 exact h k r (by omega) hk
def neI(i x:Int):Bool := !(x==i)
theorem Zbhh{l:List Int}{i:Int}(h:i∈l):(l.filter (neI i)).length < l.length:=by
 induction l with
 | nil=>cases h
 | cons a l ih=>
  rw [List.filter_cons]
  by_cases ha:a=i
  .subst ha
   have:neI a a=false:=by simp [neI]
   rw [this]
   have:=List.length_filter_le (neI a) l
   simp only [Bool.false_eq_true,if_false,List.length_cons];omega
  .rcases List.mem_cons.1 h with h1 | h1
   .exact absurd h1.symm ha
   .have:=ih h1
    split<;>simp only [List.length_cons]<;>omega
theorem Zbft{l:List Int}{p:Int->Bool}:SUB (l.filter p) l:=fun x hx=>(List.mem_filter.1 hx).1
theorem Zbbm{n:Nat}{m m':List (List Bool)}{w i j:Int}{y:List Bool}{v:Bool}(h:RWV n m w)(hy:m[i.toNat]?=some y)(hw:i < w)(h0:0<=i)(e:m'=m.set i.toNat (y.set j.toNat v)):RWV n m' w:=fun k r hk hr=>by
 subst e
 by_cases hkv:k=i.toNat
 .subst hkv
  rw [List.getElem?_set_self',hy] at hr
  simp at hr
  rw [<- hr,List.length_set]
  exact h i.toNat y (by omega) hy
 .rw [List.getElem?_set_ne (fun e=>hkv e.symm)] at hr
  exact h k r hk hr
theorem Zads{n:Nat}{m:List (List Bool)}{w:Int}{i:Nat}{y:List Bool}(h:RWV n m w)(hi:(i:Int) < w)(hy:m[i]?=some y):y.length=n:=h i y hi hy
def POS(l:List Int):Prop:=∀ k,k∈l->0<=k
theorem Zbhi{a d:List Int}{i:Nat}{k:Int}(h:POS a)(hs:SUB d a)(m:d[i]?=some k):0<=k:=h k (hs k (List.mem_of_getElem? m))
theorem Za2m{n:Nat}{a:List Int}(h:INR n a):POS a:=fun k hk=>(h k hk).1
theorem Za8t{n:Nat}{m m':List (List Bool)}{v w:Int}{y:List Bool}(e:m'.length=m.length/\(∀ e:List Bool,e∈m'->e=y\/e∈m)/\m'=m.set v.toNat y)(h:RWV n m v)(h0:0<=v)(hw:w=v+1)(hy:y.length=n):RWV n m' w:=Zbfr h h0 hw hy e.2.2
theorem Zbhj{n k:Nat}{m:List (List Bool)}(h:RWS n m)(e:k=n):RWS k m:=by rw [e];exact h
theorem Zbhk{n k:Nat}{m:List Int}(h:INR n m)(e:k=n):INR k m:=by rw [e];exact h
theorem asz{p:Prop}(h:p:=by with_reducible assumption):p:=h
theorem Zbhl{n:Nat}{a:List Int}{k:Int}(h:INR n a)(hk:k < 0\/k∈a):k < 0\/(0<=k/\k < (n:Int)):=hk.imp id (h k)
theorem flt_lt'{r l:List Int}{i:Int}(e:r=l.filter (neI i))(h:i < 0\/i∈l)(h0:¬ i < 0):r.length < l.length:=by rw [e];exact Zbhh (h.resolve_left h0)
theorem flt_sub'{r l:List Int}{p:Int->Bool}(e:r=l.filter p):SUB r l:=by rw [e];exact Zbft
theorem Za8u{n i:Nat}{hs:List (List Int)}{x:List Int}(h:HI n hs)(m:hs[i]?=some x):x.length<=n/\INR n x:=h x (List.mem_of_getElem? m)
theorem Tot.lk{α:Type}{x:α}:Tot (Option.some x) fun r=>r=x:=⟨x,rfl,rfl⟩
abbrev SZV(v:Zac):Prop:=(SzL 8 (fun _=>True)) v.hits/\(SzL 8 (fun _=>True)) v.numbers
def MSZ(m:List (Int×Zac)):Prop:=∀ p,p∈m->SZV p.2
theorem Zbfu:MSZ []:=fun _ h=>by cases h
theorem Zbfv{m z:List (Int×Zac)}{n:Int}{x:Zac}(e:z=Zho m n x)(h:MSZ m)(hx:SZV x):MSZ z:=fun p hp=>by
 subst e
 rcases Zavg hp with h1 | h1
 .exact h p h1
 .rw [h1];exact hx
theorem Zbfw{m:List (Int×Zac)}{n:Int}{z:Zac}{x:Zac×Bool}(e:x=mlk m n z)(h:MSZ m)(hz:SZV z):SZV x.1:=by
 subst e
 unfold mlk
 split
 .rename_i y hy
  have key:∀ {m:List (Int×Zac)},Zjc m n=some y->∃ p,p∈m/\p.2=y:=by
   intro m
   induction m with
   | nil=>intro h;cases h
   | cons q m ih=>
    intro h
    obtain⟨k,w⟩:=q
    unfold Zjc at h
    cases hk:k==n with
    | true=>rw [hk,cond_true] at h;exact⟨(k,w),by simp,Option.some.inj h⟩
    | false=>
     rw [hk,cond_false] at h
     obtain⟨p,h1,h2⟩:=ih h
     exact⟨p,List.mem_cons_of_mem _ h1,h2⟩
  obtain⟨p,h1,h2⟩:=key hy
  rw [<- h2];exact h p h1
 .exact hz
theorem szx{p:Prop}(h:p:=by first | with_reducible assumption | (dsimp only;with_reducible assumption) | exact⟨by omega,fun _ _=>trivial⟩ | exact⟨by omega,fun r hr=>⟨by rw [(by assumption:RWS _ _) r hr];omega,fun _ _=>trivial⟩⟩ | exact Zbfw ‹_› ‹_› ⟨SzL.nil,SzL.nil⟩ | exact (by with_reducible assumption:Zu _).2.1 | exact (by with_reducible assumption:Zu _).2.2):p:=h
theorem sfA{l m:List Zh}(h:Z1 l l=true)(k:Z1 m m=true):Z1 (l++m) (l++m)=true:=by rw [Zv4 _ _ _ _ rfl,h,k];rfl
theorem sfI(k:IntKind)(n:Int):Z1 (cI k n) (cI k n)=true:=by simp [cI,Z1,Zm5]
theorem sfB(b:Bool):Z1 (cB b) (cB b)=true:=by simp [cB,Z1,Zm5]
theorem sfS(b:List UInt8):Z1 (cS b) (cS b)=true:=by simp [cS,Z1,Zm5]
theorem sf3(x:A3 Int):Z1 ((cA3 (cI .i64)) x) ((cA3 (cI .i64)) x)=true:=by simp [cA3,cI,Z1,Zm5,A3.list]
theorem sf5(x:A5 Int):Z1 ((cA5 (cI .i64)) x) ((cA5 (cI .i64)) x)=true:=by simp [cA5,cI,Z1,Zm5,A5.list]
theorem sf6(x:A6 Int):Z1 ((cA6 (cI .i64)) x) ((cA6 (cI .i64)) x)=true:=by simp [cA6,cI,Z1,Zm5,A6.list]
theorem Zbbn(x:Zb):Z1 (Zb3 x) (Zb3 x)=true:=by
 unfold Zb3;repeat' first | exact sfI _ _ | exact sfB _ | exact sfS _ | exact sf3 _ | exact sf5 _ | exact sf6 _ | refine sfA ?_ ?_
theorem Za8v(x:Zgn):Z1 (Zdf x) (Zdf x)=true:=by
 unfold Zdf;repeat' first | exact sfI _ _ | exact sfB _ | exact sfS _ | exact sf3 _ | exact sf5 _ | exact sf6 _ | refine sfA ?_ ?_
theorem Zsu(x:Zg):Z1 (Zo x) (Zo x)=true:=by
 unfold Zo;repeat' first | exact sfI _ _ | exact sfB _ | exact sfS _ | exact sf3 _ | exact sf5 _ | exact sf6 _ | exact Zbbn _ | refine sfA ?_ ?_
theorem Za8w(x:Zbi):Z1 (Zap x) (Zap x)=true:=by
 unfold Zap;repeat' first | exact sfI _ _ | exact sfB _ | exact sfS _ | exact sf3 _ | exact sf5 _ | exact sf6 _ | exact Zsu _ | exact Za8v _ | refine sfA ?_ ?_
theorem Za2n(x:Zt):Z1 (Zaf x) (Zaf x)=true:=by
 unfold Zaf;repeat' first | exact sfI _ _ | exact sfB _ | exact sfS _ | exact sf3 _ | exact sf5 _ | exact sf6 _ | refine sfA ?_ ?_
theorem Zbbo(x:Zgs):Z1 (Zdk x) (Zdk x)=true:=by
 unfold Zdk;repeat' first | exact sfI _ _ | exact sfB _ | exact sfS _ | exact sf3 _ | exact sf5 _ | exact sf6 _ | exact Za2n _ | refine sfA ?_ ?_
theorem Zbhm(x:Zc):Z1 (Zk x) (Zk x)=true:=by
 unfold Zk;repeat' first | exact sfI _ _ | exact sfB _ | exact sfS _ | exact sf3 _ | exact sf5 _ | exact sf6 _ | exact Zsu _ | refine sfA ?_ ?_
theorem Zbfx(x:Zaz):Z1 (Z9 x) (Z9 x)=true:=by
 unfold Z9;repeat' first | exact sfI _ _ | exact sfB _ | exact sfS _ | exact sf3 _ | exact sf5 _ | exact sf6 _ | exact Zsu _ | refine sfA ?_ ?_
theorem Za4f(x:Zcg):Z1 (Zb6 x) (Zb6 x)=true:=by
 unfold Zb6;repeat' first | exact sfI _ _ | exact sfB _ | exact sfS _ | exact sf3 _ | exact sf5 _ | exact sf6 _ | exact Zsu _ | refine sfA ?_ ?_
theorem Za4g(x:Za1):Z1 (Zbf x) (Zbf x)=true:=by
 unfold Zbf;repeat' first | exact sfI _ _ | exact sfB _ | exact sfS _ | exact sf3 _ | exact sf5 _ | exact sf6 _ | exact Zsu _ | refine sfA ?_ ?_
theorem sm{p:Prop}(h:p:=by intro h;subst h;first | rfl | (exfalso;omega) | grind [Za8v,Zsu,Za8w,Za2n,Zbbo,Zbhm,Zbfx,Za4f,Za4g,sf6]):p:=h
def Zd4(l:List Zf):Prop:=∀ (i j:Nat) x y,i < j->l[i]?=some x->l[j]?=some y->x.Id < y.Id
theorem Zbfy{l:List Zf}{v:Int}(h:Z8t l v)(hv:(l.length:Int)<=v):Zd4 l:=by
 have h':Z8t l l.length:=⟨fun k x hk=>h.1 k x (by omega),fun k x y hk=>h.2 k x y (by omega)⟩
 intro i j x y hij hx hy
 exact Zapp h' (j - i - 1) i x y hx (by rw [show i+(j - i - 1)+1=j by omega];exact hy)
def BSI(l:List Zf)(id i j:Int):Prop:=Zd4 l->(∀ (k:Nat) x,(k:Int) < i->l[k]?=some x->x.Id < id)/\∀ (k:Nat) x,j<=(k:Int)->l[k]?=some x->id<=x.Id
theorem Zbld{l:List Zf}{id n:Int}(hn:n=l.length):BSI l id 0 n:=fun _=>⟨fun k x hk=>by omega,fun k x hk hx=>by have:=(List.getElem?_eq_some_iff.1 hx).1;omega⟩
theorem Zbhn{l:List Zf}{id i j k i':Int}{x:Zf}(h:BSI l id i j)(m:l[k.toNat]?=some x)(hx:x.Id < id)(h0:0<=k)(e:i'=k+1):BSI l id i' j:=fun hs=>⟨fun q y hq hy=>by
 by_cases hqk:q=k.toNat
 .subst hqk
  have:=Option.some.inj (hy.symm.trans m)
  subst this;exact hx
 .have:=hs q k.toNat y x (by omega) hy m;omega,(h hs).2⟩
theorem Zbho{l:List Zf}{id i j k j':Int}{x:Zf}(h:BSI l id i j)(m:l[k.toNat]?=some x)(hx:id<=x.Id)(h0:0<=k)(e:j'=k):BSI l id i j':=fun hs=>⟨(h hs).1,fun q y hq hy=>by
 by_cases hqk:q=k.toNat
 .subst hqk
  have:=Option.some.inj (hy.symm.trans m)
  subst this;exact hx
 .have:=hs k.toNat q x y (by omega) m hy;omega⟩
def BSP(l:List Zf)(id:Int)(r:Int×Bool):Prop:=Zd4 l->(r.2=true->r.1=ixO l id)/\(r.2=false -> -1=ixO l id)
theorem Zbhp{l:List Zf}{id i j c:Int}{x:Zf}(h:BSI l id i j)(hij:j<=i)(m:l[i.toNat]?=some x)(h0:0<=i)(hc:(c = -1/\x.Id < id)\/(c=1/\id < x.Id)\/(c=0/\x.Id=id)):BSP l id (i,c==0):=fun hs=>by
 obtain⟨h1,h2⟩:=h hs
 refine⟨fun hr=>?_,fun hr=>?_⟩
 .have hr:c=0:=by simpa using hr
  exact Za2e m (fun k y hk hy=>by have:=h1 k y hk hy;omega) h0 (by omega)
 .have hr:c≠0:=by simpa using hr
  refine Zajd (v:=l.length) (fun k y hk hy=>?_) (Int.le_refl _)
  by_cases hki:(k:Int) < i
  .have:=h1 k y hki hy;omega
  .by_cases hke:k=i.toNat
   .subst hke
    have:=Option.some.inj (hy.symm.trans m)
    subst this
    have:=h2 i.toNat y (by omega) hy;omega
   .have:=hs i.toNat k x y (by omega) m hy
    have:=h2 i.toNat x (by omega) m;omega
theorem Zble{l:List Zf}{id i j:Int}(h:BSI l id i j)(hn:(l.length:Int)<=i):BSP l id (i,false):=fun hs=>by
 obtain⟨h1,_⟩:=h hs
 exact⟨fun hr=>absurd hr Bool.false_ne_true,fun _=>Zajd (v:=l.length) (fun k y hk hy=>by have:=h1 k y (by omega) hy;omega) (Int.le_refl _)⟩
theorem li_n{l:List Zf}{id:Int}{r:Int×Bool}(h:BSP l id r)(hb:r.2=false):Zd4 l -> -1=ixO l id:=fun hs=>(h hs).2 hb
theorem li_y{l:List Zf}{id:Int}{r:Int×Bool}(h:BSP l id r)(hb:r.2=true):Zd4 l->r.1=ixO l id:=fun hs=>(h hs).1 hb
noncomputable def allV(c:List Zl)(s:Zm):List Za:=(Zxl c s).getD []
theorem Zayv{α β:Type}{f:α->β}{l:List α}{t z:List β}{v w:Int}{x:β}{o:α}(e:z=t++[x])(h:t=(l.take v.toNat).map f)(m:l[v.toNat]?=some o)(hx:x=f o)(h0:0<=v)(hw:w=v+1):z=(l.take w.toNat).map f:=by
 subst hw
 rw [show (v+1).toNat=v.toNat+1 by omega,List.take_add_one,m,e,h,hx]
 simp
theorem Za2o{α β:Type}{f:α->β}{l l':List α}{t:List β}{v:Int}(h:t=(l.take v.toNat).map f)(hv:(l.length:Int)<=v)(e:l=l'):t=l'.map f:=by
 subst e
 rw [h,List.take_of_length_le (by omega)]
end Go.PW
