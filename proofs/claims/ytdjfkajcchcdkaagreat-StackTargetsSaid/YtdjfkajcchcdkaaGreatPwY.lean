import Derived.Test.YtdjfkajcchcdkaaGreatPwLr
import Derived.Lib.IndexMore
import Derived.ProofKit
import GoSem.ClaimJoined
import Derived.KernelRfl
set_option linter.all false
namespace Go.PW
open Go.RowKit
inductive TK where
 |bool
 |int (k:IntKind)
 |str
 |slice (e:Nat)
 |struct (fs:List (Nat×Nat))
 |arr (n e:Nat)
 |map (k e:Nat)
 |ptr
 |other
structure fD where
 agg:Bool
 size:Nat
 bytes:Nat
 zero:Option (List PV)
 k:TK
 flat:Option (Nat×List LK)
abbrev TS:=List (Nat×fD)
def TKOK(P:Program)(t:Nat):TK->Prop
 |.bool=>P.underlying t=some .bool
 |.int k=>P.underlying t=some (.int k)
 |.str=>P.underlying t=some .string
 |.slice e=>P.underlying t=some (.slice e)
 |.struct fs=>∃fs',P.underlying t=some (.struct fs')/\fs'.toList.map (λf=>(f.offset,f.type))=fs
 |.arr n e=>P.underlying t=some (.array n e)
 |.map k e=>P.underlying t=some (.map k e)
 |.ptr=>P.underlying t=some (.pointer (P.pointee t))
 |.other=>True
structure oy (P:Program) (t:Nat) (i:fD):Prop where
 ty:TyF P t i.agg i.size
 by_:(P.info? t).map (λi=>(i.size,i.bytes))=some (i.size,i.bytes)
 z:∀z,i.zero=some z->fk P t=some z
 k:TKOK P t i.k
 fl:∀d ks,i.flat=some (d,ks)->d<=10000/\eS P d t=some ks/\i.agg=true/\P.eqGuardType P.depth t=false
def TOK(P:Program)(T:TS):Prop:=∀t i,get T t=some i->oy P t i
def TAll(P:Program):TS->Prop
 |[]=>True
 |(t,i)::T=>oy P t i/\TAll P T
def TOK.of_all{P:Program}:∀{T:TS},TAll P T->TOK P T
 |[],_,t,i,h=>di
 |(u,j)::T,hall,t,i,h=>by
  simp only[get]at h;cases hb:Nat.beq u t with
  |true=>have:u=t:=(aU _ _).1 hb;subst this;simp only[hb,av,aq]at h;subst h;exact hall.1
  |false=>simp only[hb,au]at h;exact TOK.of_all hall.2 t i h
inductive Orc where
 |br (b:Bool)
 |cs (c:List U)
 |es (e:List (List U))
 |num (n:Int)
 |lab (l:Nat)
 |call (r:PV)
 |nat (n:Nat)
 |byte (b:UInt8)
 |lit
 |frz (l:Nat)
 |pick (ks ls:List Nat)
 |own (t l k:Nat)
 |ahead (d:Nat)
 |relen (l:Nat)
 |cell (d:Nat) (c:List U)
 |stop
 |callO (S:Bool) (ls:List Nat) (d:Nat) (fr:List (Nat×Blk)) (r:PV)
 |callU (S:Bool) (ls:List Nat) (d:Nat) (s1:List (Nat×Blk)) (r:PV)
 |relab (l m:Nat)
 |ownc (t j l k:Nat)
 |ownb (b j l k:Nat)
 |nilt (t:Nat)
 |niltc (t j:Nat)
 |niltb (b j:Nat)
 |stopAt (k:Nat)
 |sp (cs:List PV)
 |mp (es:List (Int×List U))
 |tomat (l:Nat)
 |tomr (l k:Nat)
 |frzm (l:Nat)
 |callC (l b:Nat)
 |opn (l i:Nat) (e:List U)
 |cls (l:Nat) (es:List (List U))
abbrev Ev:=Option (List Prop×List Orc×Stp)
def ev0(xs:List Orc)(p:PV):Ev:=some ([],xs,⟨[],p,[]⟩)
def ev1(ps:List Prop)(xs:List Orc)(p:PV):Ev:=some (ps,xs,⟨[],p,[]⟩)
def mM(a b:IntKind):Bool:=decide (a=b)
def xo(op:BinOp)(k k':IntKind)(a b:Int)(xs:List Orc):Ev:=
 match op with
 |.shl=>ev1 [¬b<0] xs (.t (.int k (k.wrap (a*2 ^ (min b.toNat k.bits)))))
 |.shr=>ev1 [¬b<0] xs (.t (.int k (a.fdiv (2 ^ (min b.toNat k.bits)))))
 |.quo=>bif mM k k' then ev1 [b≠0] xs (.t (.int k (k.wrap (a.tdiv b))))else none
 |.rem=>bif mM k k' then ev1 [b≠0] xs (.t (.int k (a.tmod b)))else none
 |_=>bif mM k k' then
  match oz op k a b with
  |some r=>ev0 xs (.t r)
  |none=>none
  else none
def xr(T:TS)(op:BinOp)(xT:Nat)(px py:PV)(xs:List Orc):Ev:=
 match px,py with
 |.t (.int k a),.t (.int k' b)=>xo op k k' a b xs
 |.t (.str a),.t (.str b)=>
  match op with
  |.add=>ev1 [a.length+b.length<=9223372036854775807] xs (.t (.str (a++b)))
  |_=>
   match xt op a b with
   |some r=>ev0 xs (.t r)
   |none=>none
 |.t (.bool a),.t (.bool b)=>
  match(get T xT).map (·.k),op with
  |some TK.bool,.eql=>ev0 xs (.t (.bool (a==b)))
  |some TK.bool,.neq=>ev0 xs (.t (.bool (!(a==b))))
  |_,_=>none
 |.agg Zks,.agg bs=>
  match iP Zks,iP bs,(get T xT).bind (·.flat)with
  |some Zks,some bs,some (_,ks)=>
   bif fits ks Zks&&fits ks bs then
    match eqOp op (az Zks bs)with
    |some r=>ev0 xs (.t (.bool r))
    |none=>none
   else none
  |_,_,_=>none
 |_,_=>none
section
variable {P:Program} {T:TS} {o:Oper} {tm:List (Nat×PV)} {Z:List (Nat×Blk)} {xs xs':List Orc} {ps:List Prop} {s:Stp}
def dk{p:PV}(h:ev0 xs p=some (ps,xs',s)):ps=[]/\xs'=xs/\s=⟨[],p,[]⟩:=by simp only[ev0,aq,bG]at h;exact⟨h.1.symm,h.2.1.symm,h.2.2.symm⟩
def et{qs:List Prop}{p:PV}(h:ev1 qs xs p=some (ps,xs',s)):ps=qs/\xs'=xs/\s=⟨[],p,[]⟩:=by simp only[ev1,aq,bG]at h;exact⟨h.1.symm,h.2.1.symm,h.2.2.symm⟩
def Wi{op:BinOp}{xT yT:TypeId}{x y:Operand}{k k':IntKind}{a b:Int}(ho:o.op = .binOp op xT x y yT)(hx:af tm x=some (.t (.int k a)))(hy:af tm y=some (.t (.int k' b)))
 (h:xo op k k' a b xs=some (ps,xs',s)) (hc:aG ps):aQ P o tm Z s.need s.p s.news:=by
 unfold xo at h;split at h
 .obtain⟨rfl,rfl,rfl⟩:=et h;exact DG ho hx hy (by simp[sS,hc.1])
 .obtain⟨rfl,rfl,rfl⟩:=et h;exact DG ho hx hy (by simp[sS,hc.1])
 .cases hk:mM k k' with
  |false=>simp[hk]at h
  |true=>
   simp only[hk,av]at h;have:k=k':=gE hk;subst this;obtain⟨rfl,rfl,rfl⟩:=et h;exact xu ho hx hy (by have:=hc.1;simp[oz,this])
 .cases hk:mM k k' with
  |false=>simp[hk]at h
  |true=>
   simp only[hk,av]at h;have:k=k':=gE hk;subst this;obtain⟨rfl,rfl,rfl⟩:=et h;exact xu ho hx hy (by have:=hc.1;simp[oz,this])
 cases hk:mM k k' with
 |false=>simp[hk]at h
 |true=>
  simp only[hk,av]at h;have:k=k':=gE hk;subst this;split at h
  .rename_i r hr;obtain⟨rfl,rfl,rfl⟩:=dk h;exact xu ho hx hy hr
  cases h
def Wj(hT:TOK P T){op:BinOp}{xT yT:TypeId}{x y:Operand}{px py:PV}(ho:o.op = .binOp op xT x y yT)(hx:af tm x=some px)(hy:af tm y=some py)
 (h:xr T op xT px py xs=some (ps,xs',s)) (hc:aG ps):aQ P o tm Z s.need s.p s.news:=by
 unfold xr at h;split at h
 .exact Wi ho hx hy h hc
 .split at h
  .obtain⟨rfl,rfl,rfl⟩:=et h;exact Wl ho hx hy hc.1
  split at h
  .rename_i r hr;obtain⟨rfl,rfl,rfl⟩:=dk h;exact Wm ho hx hy hr
  cases h
 .split at h
  .rename_i hk;obtain⟨rfl,rfl,rfl⟩:=dk h;simp only[cA]at hk;obtain⟨i,hi,hik⟩:=hk;have:=(hT _ _ hi).k;rw[hik]at this;exact DH ho this hx hy (.inl ⟨rfl,rfl⟩)
  .rename_i hk;obtain⟨rfl,rfl,rfl⟩:=dk h;simp only[cA]at hk;obtain⟨i,hi,hik⟩:=hk;have:=(hT _ _ hi).k;rw[hik]at this;exact DH ho this hx hy (.inr ⟨rfl,rfl⟩)
  cases h
 .split at h
  .rename_i Zks bs d ks ha hb hf;cases hfit:(fits ks Zks&&fits ks bs)with
   |false=>simp[hfit]at h
   |true=>
    simp only[hfit,av]at h;simp only[aL]at hfit;split at h
    .rename_i r hr;obtain⟨rfl,rfl,rfl⟩:=dk h;simp only[dC]at hf;obtain⟨i,hi,hf⟩:=hf;have hok:=hT _ _ hi;obtain⟨hd,hfl,hag,hgt⟩:=hok.fl _ _ hf;have e1:=mO ha;have e2:=mO hb;subst e1;subst e2;obtain⟨dd,hu,hdr⟩:=hok.ty.und;exact Wn d ks ho hd hfl ⟨dd,hu,by rw[hdr];exact hag⟩ hgt hx hy hfit.1 hfit.2 hr
    cases h
  cases h
 cases h
def TOK.size{t:Nat}{i:fD}(hT:TOK P T)(h:get T t=some i):∃inf,P.info? t=some inf/\inf.size=i.size:=(hT t i h).ty.info
def TOK.fieldInfo{t f q:Nat}{i j:fD}{fs:List (Nat×Nat)}{fT:Nat}(hT:TOK P T)(h:get T t=some i)(hk:i.k = .struct fs)(hf:fs[f]?=some (q,fT))(hj:get T fT=some j):PW.fieldInfo P t f=some (q,j.size):=by
 have:=(hT t i h).k;rw[hk]at this;obtain⟨fs',hu,hfs⟩:=this;subst hfs;simp only[fX,cA]at hf;obtain⟨fl,hfl,he⟩:=hf;cases he;obtain⟨inf,hi,hs⟩:=hT.size hj;simp only[PW.fieldInfo,hu];have:fs'[f]?=some fl:=by simpa using hfl
 simp[this,hi,hs]
def TOK.arrInfo{t n e:Nat}{i j:fD}(hT:TOK P T)(h:get T t=some i)(hk:i.k = .arr n e)(hj:get T e=some j):PW.arrInfo P t=some (n,j.size):=by have:=(hT t i h).k;rw[hk]at this;obtain⟨inf,hi,hs⟩:=hT.size hj;have hu:P.underlying t=some (.array n e):=this;simp[PW.arrInfo,hu,hi,hs]
def TOK.slInfo{t e:Nat}{i j:fD}(hT:TOK P T)(h:get T t=some i)(hk:i.k = .slice e)(hj:get T e=some j):PW.slInfo P t=some j.size:=by have:=(hT t i h).k;rw[hk]at this;obtain⟨inf,hi,hs⟩:=hT.size hj;have hu:P.underlying t=some (.slice e):=this;simp[PW.slInfo,hu,hi,hs]
def dM(T:TS)(t:Nat):Option (Nat×fD):=
 match get T t with
 |some ⟨_,_,_,_,.slice e,_⟩=>(get T e).map λj=>(e,j)
 |_=>none
def eT{t e:Nat}{j:fD}(h:dM T t=some (e,j)):∃i,get T t=some i/\i.k = .slice e/\get T e=some j:=by
 unfold dM at h;split at h
 .rename_i hi;simp only[cA]at h;obtain⟨j',hj,he⟩:=h;cases he;exact⟨_,hi,rfl,hj⟩
 cases h
def mP(T:TS)(t:Nat):Option (Nat×Nat×fD):=
 match get T t with
 |some ⟨_,_,_,_,.arr n e,_⟩=>(get T e).map λj=>(n,e,j)
 |_=>none
def Z9t{t n e:Nat}{j:fD}(h:mP T t=some (n,e,j)):∃i,get T t=some i/\i.k = .arr n e/\get T e=some j:=by
 unfold mP at h;split at h
 .rename_i hi;simp only[cA]at h;obtain⟨j',hj,he⟩:=h;cases he;exact⟨_,hi,rfl,hj⟩
 cases h
def oC(T:TS)(t f:Nat):Option (Nat×fD):=
 match get T t with
 |some ⟨_,_,_,_,.struct fs,_⟩=>(fs[f]?).bind λx=>(get T x.2).map λj=>(x.1,j)
 |_=>none
def xv{t f q:Nat}{j:fD}(h:oC T t f=some (q,j)):∃i fs fT,get T t=some i/\i.k = .struct fs/\fs[f]?=some (q,fT)/\get T fT=some j:=by
 unfold oC at h;split at h
 .rename_i hi;simp only[dC,cA]at h;obtain⟨⟨x1,x2⟩,hx,j',hj,he⟩:=h;cases he;exact⟨_,_,_,hi,rfl,hx,hj⟩
 cases h
def Z6h{t e:Nat}{j:fD}{z:List PV}(hT:TOK P T)(h:dM T t=some (e,j))(hz:j.zero=some z)(hpos:Nat.blt 0 j.size=true)(hl:Nat.beq z.length j.size=true):ElF P t e j.size j.bytes z:=by obtain⟨i,hi,hk,hj⟩:=eT h;have h1:=(hT t i hi).k;rw[hk]at h1;exact { und:=h1,info:=(hT e j hj).by_,z:=(hT e j hj).z z hz,pos:=(by rw[gF]at hpos;exact hpos),len:=(aU _ _).1 hl }
end
end Go.PW
namespace Go.PW
open Go.RowKit
def ev2(ps:List Prop)(xs:List Orc)(need:List Nat)(p:PV):Ev:=some (ps,xs,⟨need,p,[]⟩)
def ev3(ps:List Prop)(xs:List Orc)(p:PV)(l:Nat)(b:Blk):Ev:=some (ps,xs,⟨[],p,[(l,b)]⟩)
def fu(tm:List (Nat×PV)):List Operand->Option (List PV)
 |[]=>some []
 |x::l=>
  match af tm x,fu tm l with
  |some p,some ps=>some (p::ps)
  |_,_=>none
def wt{tm:List (Nat×PV)}:∀{l:List Operand} {ps:List PV},fu tm l=some ps->l.mapM (af tm)=some ps
 |[],ps,h=>by simp only[fu,aq]at h;subst h;rfl
 |x::l,ps,h=>by
  simp only[fu]at h;split at h
  .rename_i p qs hp hq;cases h;rw[kx,hp,wt hq];rfl
  cases h
mutual
def cQ(Z:List (Nat×Blk)):PV->Option (List Prop×PV)
 |.t x=>some ([],.t x)
 |.nils=>some ([],.t (.sl []))
 |.osl l n=>
  match get Z l with
  |some (.row _ es)=>some ([es.length=n],.t (.sl es))
  |_=>none
 |.bptr l o=>
  match get Z l with
  |some (.box cs)=>match iP cs with|some ts=>some ([],.vptr (ts.drop o))|none=>none
  |_=>none
 |.rptr _ _ _ _=>none
 |.vptr cs=>some ([],.vptr cs)
 |.agg cs=>match fh Z cs with|some (ps,ds)=>some (ps,.agg ds)|none=>none
 |.tup cs=>match fh Z cs with|some (ps,ds)=>some (ps,.tup ds)|none=>none
 |.fn f cs=>match fh Z cs with|some (ps,ds)=>some (ps,.fn f ds)|none=>none
 |.own l d=>
  match d,get Z l with
  |.msl n,some (.mat _ _ es)=>some ([es.length=n],.t (.sl es))
  |_,_=>none
def fh(Z:List (Nat×Blk)):List PV->Option (List Prop×List PV)
 |[]=>some ([],[])
 |c::cs=>
  match cQ Z c,fh Z cs with
  |some (ps,d),some (qs,ds)=>some (ps++qs,d::ds)
  |_,_=>none
end
mutual
def zE{Z Z':List (Nat×Blk)}(h0:∀l,get Z' l=none):∀{p q:PV} {ps:List Prop},cQ Z p=some (ps,q)->aG ps->Frz Z Z' p q
 |.t x,q,ps,h,_=>Su
 |.nils,q,ps,h,_=>by simp only[cQ,aq,bG]at h;simp only[Frz];exact .inl h.2.symm
 |.osl l n,q,ps,h,hc=>by
  simp only[cQ]at h;split at h
  .rename_i k es hg;cases h;simp only[Frz];exact .inr ⟨k,es,hg,hc.1,h0 l,rfl⟩
  cases h
 |.bptr l o,q,ps,h,_=>by
  simp only[cQ]at h;split at h
  .rename_i cs hg;split at h
   .rename_i ts hts;cases h;have e:=mO hts;subst e;simp only[Frz];exact .inr ⟨ts,hg,h0 l,rfl⟩
   cases h
  cases h
 |.rptr _ _ _ _,q,ps,h,_=>by simp[cQ]at h
 |.vptr cs,q,ps,h,_=>Su
 |.agg cs,q,ps,h,hc=>by
  simp only[cQ]at h;split at h
  .rename_i ps' ds hds;cases h;simp only[Frz];exact⟨ds,rfl,mD h0 hds hc⟩
  cases h
 |.tup cs,q,ps,h,hc=>by
  simp only[cQ]at h;split at h
  .rename_i ps' ds hds;cases h;simp only[Frz];exact⟨ds,rfl,mD h0 hds hc⟩
  cases h
 |.fn f cs,q,ps,h,hc=>by
  simp only[cQ]at h;split at h
  .rename_i ps' ds hds;cases h;simp only[Frz];exact⟨ds,rfl,mD h0 hds hc⟩
  cases h
 |.own l d,q,ps,h,hc=>by
  simp only[cQ]at h;split at h
  .rename_i n k q0 es hg;cases h;simp only[Frz];exact .inr ⟨n,k,q0,es,rfl,hg,hc.1,h0 l,rfl⟩
  cases h
def mD{Z Z':List (Nat×Blk)}(h0:∀l,get Z' l=none):∀{cs ds:List PV} {ps:List Prop},fh Z cs=some (ps,ds)->aG ps->aX Z Z' cs ds
 |[],ds,ps,h,_=>by simp only[fh,aq,bG]at h;simp only[aX];exact h.2.symm
 |c::cs,ds,ps,h,hc=>by
  simp only[fh]at h;split at h
  .rename_i ps1 d qs ds' h1 h2;cases h;obtain⟨hc1,hc2⟩:=bM.1 hc;simp only[aX];exact⟨d,ds',rfl,zE h0 h1 hc1,mD h0 h2 hc2⟩
  cases h
end
mutual
def Z19:PV->List Nat
 |.osl l _=>[l]
 |.bptr l _=>[l]
 |.rptr l _ _ _=>[l]
 |.agg cs=>ik cs
 |.tup cs=>ik cs
 |.fn _ cs=>ik cs
 |.own l _=>[l]
 |_=>[]
def ik:List PV->List Nat
 |[]=>[]
 |p::ps=>Z19 p++ik ps
end
mutual
def Vo{m:Nat}:∀(p:PV),p.has m=true->m∈Z19 p
 |.t _,h=>Cm
 |.nils,h=>Cm
 |.vptr _,h=>Cm
 |.osl l n,h=>wi
 |.bptr l n,h=>wi
 |.rptr l _ _ _,h=>wi
 |.agg cs,h=>Cg
 |.tup cs,h=>Cg
 |.fn _ cs,h=>Cg
 |.own l n,h=>wi
def kM{m:Nat}:∀(ps:List PV),PV.hasAny m ps=true->m∈ik ps
 |[],h=>by simp[PV.hasAny]at h
 |p::ps,h=>by
  simp only[PV.hasAny,gX]at h;simp only[ik,cD];rcases h with h|h
  .exact .inl (Vo p h)
  exact .inr (kM ps h)
end
def jY(agg:Bool)(c:List U):PV:=bif agg then .agg (c.map .t)else(match c with|[x] =>.t x|_ =>.agg (c.map .t))
def Z63(T:TS):List (Nat×Nat)->Option (List (Nat×Nat))
 |[]=>some []
 |(q,t)::l=>
  match get T t,Z63 T l with
  |some i,some ps=>some ((q,i.size)::ps)
  |_,_=>none
def C9(T:TS)(t:Nat)(ps:List (Nat×PV))(xs:List Orc):Ev:=
 match get T t with
 |some ⟨_,_,_,some z,.struct fs,_⟩=>
  match Z63 T fs with
  |some pl=>
   match gu pl z ps with
   |some out=>ev0 xs (.agg out)
   |none=>none
  |none=>none
 |some ⟨_,_,_,some z,.arr n e,_⟩=>
  match get T e with
  |some j=>
   match gu ((List.range n).map λi=>(i*j.size,j.size)) z ps with
   |some out=>ev0 xs (.agg out)
   |none=>none
  |none=>none
 |_=>none
def Da(T:TS)(t len:Nat)(ps:List (Nat×PV))(xs:List Orc):Ev:=
 match dM T t with
 |some (_,⟨_,k,_,some z,_,_⟩)=>
  bif Nat.blt 0 k&&Nat.beq z.length k&&Nat.ble (len*k) 16777216 then
   match gu (kC k len) (rep len z) ps with
   |some out=>
    match cH out,xs with
    |some ts,.lit::xs=>ev0 xs (.t (.sl (chunk k len ts)))
    |some ts,.lab l::xs=>bif Nat.ble 1000 l&&Nat.beq ts.length (len*k)then ev3 [] xs (.osl l len) l (.row k (chunk k len ts))else none
    |_,_=>none
   |none=>none
  else none
 |_=>none
def Db(T:TS)(t:Nat)(px py:PV)(xs:List Orc):Ev:=
 match dM T t,px,py,xs with
 |some (_,⟨_,k,bytes,some z,_,_⟩),.t (.int _ m),.t (.int _ c),.lab l :: .nat n :: .es es::xs=>
  bif Nat.blt 0 k&&Nat.beq z.length k&&Nat.ble 1000 l then
   match cH z with
   |some zs=>ev3 [0<=m,m<=c,(bytes:Int)*c<=281474976710656,c<=9223372036854775807,m.toNat=n,List.replicate n zs=es] xs (.osl l n) l (.row k es)
   |none=>none
  else none
 |_,_,_,_=>none
def Dc(T:TS)(Z:List (Nat×Blk))(s i:Nat)(px:PV)(xs:List Orc):Ev:=
 match oC T s i with
 |some (q,j)=>
  bif Nat.beq j.size 0 then none else
  match px with
  |.bptr l p=>
   match get Z l with
   |some (.box _)=>ev2 [] xs [l] (.bptr l (p+q))
   |_=>none
  |.rptr l m jj p=>
   match get Z l with
   |some (.row _ es)=>ev2 [es.length=m] xs [l] (.rptr l m jj (p+q))
   |_=>none
  |.vptr cs=>ev0 xs (.vptr (cs.drop q))
  |_=>none
 |none=>none
def Dd(T:TS)(Z:List (Nat×Blk))(t:Nat)(px py:PV)(xs:List Orc):Ev:=
 match py with
 |.t (.int _ i)=>
  match px with
  |.t (.sl es)=>
   match dM T t,xs with
   |some (_,j),.cs e::xs=>ev1 [∀el,el∈es->el.length=j.size,0<=i,es[i.toNat]?=some e] xs (.vptr e)
   |_,_=>none
  |.osl l m=>
   match dM T t,get Z l,xs with
   |some (_,j),some (.row k es),.nat n::xs=>bif Nat.beq j.size k then ev2 [es.length=m,0<=i,i<m,i.toNat=n] xs [l] (.rptr l m n 0)else none
   |_,_,_=>none
  |.bptr l q=>
   match mP T t,get Z l,xs with
   |some (len,_,j),some (.box _),.nat n::xs=>ev2 [0<=i,i<len,i.toNat=n] xs [l] (.bptr l (q+n*j.size))
   |_,_,_=>none
  |.rptr l m jj q=>
   match mP T t,get Z l,xs with
   |some (len,_,j),some (.row _ els),.nat n::xs=>ev2 [els.length=m,0<=i,i<len,i.toNat=n] xs [l] (.rptr l m jj (q+n*j.size))
   |_,_,_=>none
  |.vptr cs=>
   match mP T t,xs with
   |some (len,_,j),.nat n::xs=>ev1 [0<=i,i<len,i.toNat=n] xs (.vptr (cs.drop (n*j.size)))
   |_,_=>none
  |_=>none
 |_=>none
def De(T:TS)(t:Nat)(px py:PV)(xs:List Orc):Ev:=
 match py with
 |.t (.int _ i)=>
  match px with
  |.t (.str s)=>
   match(get T t).map (·.k),xs with
   |some TK.str,.byte b::xs=>ev1 [0<=i,s[i.toNat]?=some b] xs (.t (.int .u8 b.toNat))
   |_,_=>none
  |.agg cs=>
   match mP T t,xs with
   |some (len,_,j),.cs c::xs=>ev1 [0<=i,i<len,c6 j.agg j.size (i.toNat*j.size) cs=some (jY j.agg c)] xs (jY j.agg c)
   |_,_=>none
  |_=>none
 |_=>none
def xa(T:TS)(Z:List (Nat×Blk))(t:Nat)(px:PV)(xs:List Orc):Ev:=
 match get T t with
 |some i=>
  match px with
  |.bptr l q=>
   match get Z l with
   |some (.box cs)=>
    match c6 i.agg i.size q cs with
    |some p=>ev2 [] xs [l] p
    |none=>none
   |_=>none
  |.rptr l m j q=>
   match get Z l,xs with
   |some (.row _ es),.cs e::xs=>
    match c6 i.agg i.size q (e.map .t)with
    |some p=>ev2 [es.length=m,es[j]?=some e] xs [l] p
    |none=>none
   |_,_=>none
  |.vptr cs=>
   match c6 i.agg i.size 0 (cs.map .t)with
   |some p=>ev0 xs p
   |none=>none
  |_=>none
 |none=>none
def Df(T:TS)(Z:List (Nat×Blk))(t:Nat)(px:PV)(c:List U)(xs:List Orc):Ev:=
 match get T t,px with
 |some i,.bptr l q=>
  match get Z l with
  |some (.box cs)=>ev2 [c6 i.agg i.size q cs=some (jY i.agg c)] xs [l] (jY i.agg c)
  |_=>none
 |some i,.vptr cs=>ev1 [c6 i.agg i.size 0 (cs.map .t)=some (jY i.agg c)] xs (jY i.agg c)
 |_,_=>none
def sN(Z:List (Nat×Blk)):PV->Option (List Prop×List (List U)×List Nat)
 |.t (.sl es)=>some ([],es,[])
 |.nils=>some ([],[],[])
 |.t (.con (.slice _ 0 _))=>some ([],[],[])
 |.osl l m=>
  match get Z l with
  |some (.row _ es)=>some ([es.length=m],es,[l])
  |_=>none
 |_=>none
def xb:List Nat->Bool
 |[]=>true
 |l::r => !Z6w r l&&xb r
def ZjL:Blk->List Nat
 |.box cs=>ik cs
 |.row _ _=>[]
 |.mat _ _ _=>[]
 |.map _ _=>[]
 |.prow _ _ _ cs=>ik cs
def xc:List (Nat×Blk)->List Nat
 |[]=>[]
 |(_,b)::r=>ZjL b++xc r
def hasK(Z:List (Nat×Blk))(l:Nat):Bool:=match get Z l with|some _=>true|none=>false
def Vn(σa:List (Nat×Blk))(l:Nat)(b:Blk):Bool:=
 match b,get σa l with
 |.box _,some (.box _)=>true
 |.row k _,some (.row k' _)=>Nat.beq k k'
 |_,_=>false
def xd(ls:List Nat)(d:Nat)(σa σ1:List (Nat×Blk))(res:PV):Bool:=xb ls&&Nat.ble ls.length 1000&&(σ1.all λx=>match ls[x.1]? with|some _=>Vn σa x.1 x.2|none=>Nat.ble 1000 (x.1+d))&&(Z19 res++xc σ1).all (hasK σ1)
def scB:List (Nat×Blk)->List Prop
 |[]=>[]
 |(_,.box cs)::r=>(PV.scs cs=true)::scB r
 |(_,.row _ es)::r=>(∀el,el∈es->∀x,x∈el->U.scal x=true)::scB r
 |(_,.mat k q _)::r=>(k=1/\q=0)::scB r
 |(_,.map _ _)::r=>False::scB r
 |(_,.prow _ _ _ _)::r=>False::scB r
mutual
def wj(Z:List (Nat×Blk)):PV->List Nat
 |.bptr L _=>match get Z L with|some (.box cs)=>ik cs|_=>[]
 |.agg cs=>Z2k Z cs
 |.tup cs=>Z2k Z cs
 |.fn _ cs=>Z2k Z cs
 |_=>[]
def Z2k(Z:List (Nat×Blk)):List PV->List Nat
 |[]=>[]
 |p::ps=>wj Z p++Z2k Z ps
end
mutual
def ZjM{Z:List (Nat×Blk)}{m:Nat}:∀(p:PV),p.deep Z m=true->m∈wj Z p
 |.t _,h=>oe
 |.nils,h=>oe
 |.osl _ _,h=>oe
 |.bptr L o,h=>by
  simp only[PV.deep]at h;simp only[wj];cases hg:get Z L with
  |none=>simp[hg]at h
  |some b=>
   cases b with
   |box cs=>simp only[hg]at h;exact kM _ h
   |row k es=>simp[hg]at h
   |mat k q es=>simp[hg]at h
   |map ag es=>simp[hg]at h
   |prow k i es cs=>simp[hg]at h
 |.rptr _ _ _ _,h=>oe
 |.vptr _,h=>oe
 |.agg cs,h=>Cf
 |.tup cs,h=>Cf
 |.fn _ cs,h=>Cf
 |.own _ _,h=>oe
def wk{Z:List (Nat×Blk)}{m:Nat}:∀(ps:List PV),PV.deeps Z m ps=true->m∈Z2k Z ps
 |[],h=>by simp[PV.deeps]at h
 |p::ps,h=>by
  simp only[PV.deeps,gX]at h;simp only[Z2k,cD];rcases h with h|h
  .exact .inl (ZjM p h)
  exact .inr (wk ps h)
end
def scC(S:Bool)(σ1:List (Nat×Blk))(res:PV):List Prop:=bif S then(res.sc=true)::scB σ1 else[]
def Dh(T:TS)(P:Program)(tm:List (Nat×PV))(Z:List (Nat×Blk))(c:Callee)(ps:List PV)(ats:List Nat)(xs:List Orc):Ev:=
 match c with
 |.value fo=>
  match af tm fo,xs with
  |some (.fn f caps),.call res::xs=>
   match fh [] (ps++caps)with
   |some (_,qs)=>bif res.free then ev1 [Fn P f qs res] xs res else none
   |none=>
    match fh Z (ps++caps)with
    |some (cs,qs)=>bif res.scal then ev2 (cs++[Fn P f qs res]) xs (ik (ps++caps)) res else none
    |none=>none
  |some (.fn f caps),.callO S ls d fr res::xs=>
   match dJ S ls Z (ps++caps),iO ls Z 0 ls with
   |some (cs,qs),some σa=>bif xd ls d σa (fr++σa) res then some (cs++(scC S (fr++σa) res++[FnG P f σa qs (fr++σa) res]),xs,⟨ls++(ik (ps++caps)++Z2k Z (ps++caps)),res.ren (b7 ls d),bY (b7 ls d) fr⟩)else none
   |_,_=>none
  |_,_=>none
 |.builtin .len=>
  match ps,ats,xs with
  |[p],[t],.num n::xs=>
   match(get T t).map (·.k),p with
   |some (TK.slice _),.t (.sl es)=>ev1 [(es.length:Int)=n] xs (.t (.int .i64 n))
   |some (TK.slice _),.nils=>ev1 [0=n] xs (.t (.int .i64 n))
   |some (TK.slice _),.osl l m=>
    match get Z l with
    |some (.row _ es)=>ev2 [es.length=m,(m:Int)=n] xs [l] (.t (.int .i64 n))
    |_=>none
   |some (TK.slice _),.own l (.msl m)=>
    match get Z l with
    |some (.mat _ _ es)=>ev2 [es.length=m,(m:Int)=n] xs [l] (.t (.int .i64 n))
    |_=>none
   |some TK.str,.t (.str s)=>ev1 [(s.length:Int)=n] xs (.t (.int .i64 n))
   |_,_=>none
  |_,_,_=>none
 |.builtin .max=>
  match ps with
  |[.t (.int k a),.t (.int _ b)]=>ev0 xs (.t (.int k (maxI a b)))
  |_=>none
 |.builtin .min=>
  match ps with
  |[.t (.int k a),.t (.int _ b)]=>ev0 xs (.t (.int k (minI a b)))
  |_=>none
 |.builtin .append=>
  match ps,ats,xs with
  |[.nils,y],[t,tx],.lab l :: .es es::xs=>
   match dM T t,dM T tx,sN Z y with
   |some (_,⟨_,k,bytes,some z,_,_⟩),some _,some (cs,ys,ls)=>
    bif Nat.blt 0 k&&Nat.beq z.length k&&Nat.ble 1000 l then
     some (cs++[ys=es,∀el,el∈es->el.length=k,es.length<=9223372036854775807,es.length*bytes<=140737488355328],xs,⟨ls,.osl l es.length,[(l,.row k es)]⟩)
    else none
   |_,_,_=>none
  |_,_,_=>none
 |_=>none
def xe:Operand->Bool
 |.const (.slice none 0 0)=>true
 |_=>false
def Di(T:TS)(op:BinOp)(t:Nat)(px:PV)(xs:List Orc):Ev:=
 match dM T t,op,px with
 |some _,.eql,.t (.sl es)=>ev1 [es≠[]] xs (.t (.bool false))
 |some _,.neq,.t (.sl es)=>ev1 [es≠[]] xs (.t (.bool true))
 |some _,.eql,.t (.con (.slice a _ _))=>ev0 xs (.t (.bool a.isNone))
 |some _,.neq,.t (.con (.slice a _ _))=>ev0 xs (.t (.bool (!a.isNone)))
 |_,_,_=>none
def xf:Operand->Bool
 |.const (.pointer none)=>true
 |_=>false
def Dj(Z:List (Nat×Blk))(op:BinOp)(px:PV)(xs:List Orc):Ev:=
 match op,px with
 |.eql,.t (.con (.pointer none))=>ev0 xs (.t (.bool true))
 |.neq,.t (.con (.pointer none))=>ev0 xs (.t (.bool false))
 |.eql,.bptr l _=>match get Z l with|some (.box _)=>ev2 [] xs [l] (.t (.bool false))|_=>none
 |.neq,.bptr l _=>match get Z l with|some (.box _)=>ev2 [] xs [l] (.t (.bool true))|_=>none
 |_,_=>none
def Dk(T:TS)(tm:List (Nat×PV))(t:Nat)(px:PV)(lo hi:Option Operand)(xs:List Orc):Ev:=
 match dM T t,px,xs with
 |none,.t (.str s),.cs [.str z]::xs=>
  match(get T t).map (·.k),fU tm 0 lo,fU tm s.length hi with
  |some TK.str,some l,some h=>ev1 [0<=l,l<=h,h<=s.length,(s.take h.toNat).drop l.toNat=z] xs (.t (.str z))
  |_,_,_=>none
 |some (_,j),.t (.sl es),.es es'::xs=>
  match fU tm 0 lo,fU tm es.length hi with
  |some l,some h=>ev1 [∀el,el∈es->el.length=j.size,0<=l,l<=h,h<=es.length,(es.take h.toNat).drop l.toNat=es'] xs (.t (.sl es'))
  |_,_=>none
 |_,_,_=>none
def evOp(P:Program)(T:TS)(o:Oper)(tm:List (Nat×PV))(Z:List (Nat×Blk))(xs:List Orc):Ev:=
 match o.op with
 |.move x=>match af tm x with|some p=>ev0 xs p|none=>none
 |.assign x=>match af tm x with|some p=>ev0 xs p|none=>none
 |.pick c x y=>
  match af tm c,xs with
  |some (.t (.bool e)),.br b::xs=>match af tm (bif b then x else y)with|some p=>ev1 [e=b] xs p|none=>none
  |_,_=>none
 |.binOp op xT x y _=>
  bif xe y then(match af tm x with|some px=>Di T op xT px xs|none=>none)
  else bif xf y then(match af tm x,(get T xT).map (·.k)with|some px,some TK.ptr=>Dj Z op px xs|_,_=>none)
  else match af tm x,af tm y with|some px,some py=>xr T op xT px py xs|_,_=>none
 |.unOp op _ x=>
  match op,af tm x with
  |.not,some (.t (.bool b))=>ev0 xs (.t (.bool (!b)))
  |.neg,some (.t (.int k a))=>ev0 xs (.t (.int k (k.wrap (0-a))))
  |.xor,some (.t (.int k a))=>ev0 xs (.t (.int k (bJ .xor k (if k.signed then-1 else k.max) a)))
  |_,_=>none
 |.convert s d x=>
  match(get T s).map (·.k),(get T d).map (·.k),af tm x with
  |some (TK.int _),some (TK.int k'),some (.t (.int _ a))=>ev0 xs (.t (.int k' (k'.wrap a)))
  |some TK.str,some TK.str,some (.t (.str a))=>ev0 xs (.t (.str a))
  |some TK.str,some (TK.slice e),some (.t (.str a))=>
   match(get T e).map (·.k),xs with
   |some (TK.int .u8),.es es::xs=>ev1 [eF a=es,a.length<=9223372036854775807] xs (.t (.sl es))
   |_,_=>none
  |some (TK.slice e),some TK.str,some (.t (.sl es))=>
   match(get T e).map (·.k),xs with
   |some (TK.int .u8),.cs [.str s]::xs=>ev1 [eF s=es,s≠[]] xs (.t (.str s))
   |_,_=>none
  |_,_,_=>none
 |.field xT x i=>
  match oC T xT i,af tm x with
  |some (q,j),some (.agg cs)=>match c6 j.agg j.size q cs with|some p=>ev0 xs p|none=>none
  |_,_=>none
 |.extract x i=>match af tm x with|some (.tup cs)=>(match cs[i]? with|some p=>ev0 xs p|none=>none)|_=>none
 |.nilCheck x=>
  match af tm x with
  |some (.vptr cs)=>ev0 xs (.vptr cs)
  |some (.bptr l q)=>match get Z l with|some (.box _)=>ev2 [] xs [l] (.bptr l q)|_=>none
  |some (.rptr l m i q)=>match get Z l with|some (.row _ es)=>ev2 [es.length=m] xs [l] (.rptr l m i q)|_=>none
  |_=>none
 |.makeFunc (.func f) first caps=>bif Nat.beq first.size 0 then(match fu tm caps.toList with|some ps=>ev0 xs (.fn f ps)|none=>none)else none
 |.build t parts=>match gi tm parts.toList with|some ps=>C9 T t ps xs|none=>none
 |.buildSlice t len parts=>match gi tm parts.toList with|some ps=>Da T t len ps xs|none=>none
 |.box _ x=>
  match af tm x,xs with
  |some p,.lab l::xs=>bif (Z7 p).all PV.one&&Nat.ble 1000 l then ev3 [] xs (.bptr l 0) l (.box (Z7 p))else none
  |_,_=>none
 |.alloc t=>
  match(get T t).bind (·.zero),xs with
  |some z,.lab l::xs=>bif Nat.ble 1000 l then ev3 [] xs (.bptr l 0) l (.box z)else none
  |_,_=>none
 |.makeSlice t x y=>match af tm x,af tm y with|some px,some py=>Db T t px py xs|_,_=>none
 |.fieldAddr s x i=>match af tm x with|some px=>Dc T Z s i px xs|none=>none
 |.indexAddr t x y=>match af tm x,af tm y with|some px,some py=>Dd T Z t px py xs|_,_=>none
 |.index t x y=>match af tm x,af tm y with|some px,some py=>De T t px py xs|_,_=>none
 |.load t x=>
  match af tm x with
  |some px=>
   match xs,o.dst with
   |.cell d c::xs',some d'=>bif Nat.beq d d' then Df T Z t px c xs' else xa T Z t px xs
   |_,_=>xa T Z t px xs
  |none=>none
 |.slice t x none (some y) (some z)=>
  match dM T t,af tm x,af tm y,af tm z with
  |some _,some px,some (.t (.int _ 0)),some (.t (.int _ 0))=>bif xg px then ev0 xs .nils else none
  |_,_,_,_=>none
 |.slice t x lo hi none=>match af tm x with|some px=>Dk T tm t px lo hi xs|none=>none
 |.call c=>match fu tm c.args.toList with|some ps=>Dh T P tm Z c.callee ps c.argTypes.toList xs|none=>none
 |_=>none
abbrev Em:=Option (List Prop×List Orc×Stm)
def ninB(ls:List Nat)(d:Nat)(σ1:List (Nat×Blk)):Bool:=σ1.all λx=>match ls[x.1]? with|some _=>true|none => !Z6w ls (x.1+d)
def Dl(P:Program)(tm:List (Nat×PV))(Z:List (Nat×Blk))(fo:Operand)(Zks:List Operand)(xs:List Orc):Em:=
 match af tm fo,fu tm Zks,xs with
 |some (.fn f caps),some ps,.callU S ls d σ1 res::xs=>
  match dJ S ls Z (ps++caps),iN ls Z 0 ls with
  |some (cs,qs),some σa=>
   bif xd ls d σa σ1 res&&ninB ls d σ1 then
    some (cs++(scC S σ1 res++[FnG P f σa qs σ1 res]),xs,⟨⟨ls++(ik (ps++caps)++Z2k Z (ps++caps)),res.ren (b7 ls d),bY (b7 ls d) σ1⟩,ls⟩)
   else none
  |_,_=>none
 |_,_,_=>none
def Dm(P:Program)(tm:List (Nat×PV))(Z:List (Nat×Blk))(fo:Operand)(Zks:List Operand)(xs:List Orc):Em:=
 match af tm fo,Zks,xs with
 |some (.fn f []),[x],.callC L b::xs=>
  match af tm x with
  |some (.osl l m)=>
   match get Z l with
   |some (.row k es)=>bif Nat.ble 1000 L && !Nat.beq L l then some ([es.length=m,jg P f k b,m*b<=140737488355328],xs,⟨⟨[l],.osl L m,[(L,.row k es)]⟩,[]⟩)else none
   |_=>none
  |_=>none
 |_,_,_=>none
def Dn(P:Program)(T:TS)(o:Oper)(tm:List (Nat×PV))(Z:List (Nat×Blk))(xs:List Orc):Em:=
 match o.op with
 |.call c=>
  match c.callee,fu tm c.args.toList,c.argTypes.toList,xs with
  |.value fo,_,_,xs=>match Dl P tm Z fo c.args.toList xs with|some r=>some r|none=>Dm P tm Z fo c.args.toList xs
  |.builtin .append,some [.osl l m,y],[t,tx],.es es::xs=>
   match dM T t,dM T tx,sN Z y,get Z l with
   |some (_,⟨_,k,bytes,some z,_,_⟩),some _,some (cs,ys,ls),some (.row k' es0)=>
    bif Nat.blt 0 k&&Nat.beq z.length k&&Nat.beq k k' then
     some (cs++[es0.length=m,es0++ys=es,∀el,el∈ys->el.length=k,es.length<=9223372036854775807,es.length*bytes<=140737488355328],xs,⟨⟨l::ls,.osl l es.length,[(l,.row k es)]⟩,[l]⟩)
    else none
   |_,_,_,_=>none
  |.builtin .copy,some [.osl l m,y],[t,tx],.num q :: .es es::xs=>
   match dM T t,dM T tx,sN Z y,get Z l with
   |some (_,⟨_,k,_,some z,_,_⟩),some _,some (cs,ys,ls),some (.row k' es0)=>
    bif Nat.blt 0 k&&Nat.beq z.length k&&Nat.beq k k' then
     some (cs++[es0.length=m,(ys.length:Int)=q,ys.length<=m,∀el,el∈ys->el.length=k,ys++es0.drop ys.length=es],xs,⟨⟨l::ls,.t (.int .i64 q),[(l,.row k es)]⟩,[l]⟩)
    else none
   |_,_,_,_=>none
  |_,_,_,_=>none
 |.store t x y=>
  match o.dst,get T t,af tm x,af tm y with
  |none,some i,some (.bptr l q),some p=>
   match get Z l,xs with
   |some (.box cs),.sp cs'::xs=>bif Nat.beq (Z7 p).length i.size&&(Z7 p).all PV.one then some ([q+i.size<=cs.length,splice cs q (Z7 p)=cs'],xs,⟨⟨[l],.tup [],[(l,.box cs')]⟩,[l]⟩)else none
   |some (.box cs),xs=>bif Nat.beq (Z7 p).length i.size&&(Z7 p).all PV.one&&Nat.ble (q+i.size) cs.length then some ([],xs,⟨⟨[l],.tup [],[(l,.box (splice cs q (Z7 p)))]⟩,[l]⟩)else none
   |_,_=>none
  |none,some i,some (.rptr l m j q),some p=>
   match get Z l,xs,cH (Z7 p)with
   |some (.row k es),.cs e :: .es es'::xs,some ts=>bif Nat.beq ts.length i.size&&Nat.ble (q+i.size) k then some ([es.length=m,es[j]?=some e,es.set j (splice e q ts)=es'],xs,⟨⟨[l],.tup [],[(l,.row k es')]⟩,[l]⟩)else none
   |_,_,_=>none
  |_,_,_,_=>none
 |_=>none
def Dp(T:TS)(o:Oper)(tm:List (Nat×PV))(Z:List (Nat×Blk))(xs:List Orc):Em:=
 match o.op with
 |.slice t x (some y) none none=>
  match dM T t,af tm x,af tm y,xs with
  |some (_,j),some (.osl l m),some (.t (.int _ i)),.nat n::xs=>
   match get Z l with
   |some (.row k es)=>bif Nat.beq j.size k then some ([es.length=m,0<=i,i<=m,i.toNat=n],xs,⟨⟨[l],.own l (.tail m n),[]⟩,[]⟩)else none
   |_=>none
  |_,_,_,_=>none
 |.indexAddr t x y=>
  match dM T t,af tm x,af tm y,xs with
  |some (_,j),some (.own l (.msl m)),some (.t (.int _ i)),.nat n::xs=>
   match get Z l with
   |some (.mat 1 0 es)=>bif Nat.beq j.size 1 then some ([es.length=m,0<=i,i<m,i.toNat=n],xs,⟨⟨[l],.own l (.mpt m n 0),[]⟩,[]⟩)else none
   |_=>none
  |some (_,j),some (.own l (.mrow m jj)),some (.t (.int _ i)),.es inner :: .nat n::xs=>
   match get Z l with
   |some (.mat 1 0 es)=>bif Nat.beq j.size 1 then some ([es.length=m,es[jj]?=some [.sl inner],0<=i,i<inner.length,i.toNat=n],xs,⟨⟨[l],.own l (.mel m jj n),[]⟩,[]⟩)else none
   |_=>none
  |_,_,_,_=>none
 |.load t x=>
  match get T t,af tm x with
  |some i,some (.own l (.mpt m j 0))=>
   match get Z l with
   |some (.mat 1 0 es)=>bif !i.agg&&Nat.beq i.size 1 then some ([es.length=m,j<m],xs,⟨⟨[l],.own l (.mrow m j),[]⟩,[]⟩)else none
   |_=>none
  |some i,some (.own l (.mel m j q))=>
   match get Z l,xs with
   |some (.mat 1 0 es),.es inner :: .cs [z]::xs=>bif (!i.agg&&Nat.beq i.size 1)&&z.scal then some ([es.length=m,es[j]?=some [.sl inner],inner[q]?=some [z]],xs,⟨⟨[l],.t z,[]⟩,[]⟩)else none
   |_,_=>none
  |_,_=>none
 |.buildSlice t 1 parts=>
  match dM T t,gi tm parts.toList,xs with
  |some (_,⟨_,1,_,some z,_,_⟩),some [(0,.osl l2 n2)],.lab L::xs=>
   match get Z l2,gu (kC 1 1) (rep 1 z) [(0,.osl l2 n2)]with
   |some (.row 1 es2),some out=>bif Nat.beq z.length 1&&Nat.ble 1000 L && !Nat.beq L l2 then some ([out=[.osl l2 n2],es2.length=n2,SC1 es2],xs,⟨⟨[l2],.own L (.msl 1),[(L,.mat 1 0 [[.sl es2]])]⟩,[l2]⟩)else none
   |_,_=>none
  |_,_,_=>none
 |.buildSlice t 0 parts=>
  match dM T t,gi tm parts.toList,xs with
  |some (_,⟨_,1,_,some z,_,_⟩),some [],.num 0 :: .lab L::xs=>bif Nat.beq z.length 1 then some ([],xs,⟨⟨[],.own L (.msl 0),[(L,.mat 1 0 [])]⟩,[]⟩)else none
  |_,_,_=>none
 |.call c=>
  match c.callee,fu tm c.args.toList,c.argTypes.toList,xs with
  |.builtin .append,some [.own l (.msl m),.own l3 (.msl m3)],[t,tx],.es es::xs=>
   match dM T t,dM T tx,get Z l,get Z l3 with
   |some (_,⟨_,1,bytes,some z,_,_⟩),some _,some (.mat 1 0 es0),some (.mat 1 0 es3)=>
    bif Nat.beq z.length 1&&Nat.blt 0 m3 && !Nat.beq l l3 then
     some ([es0.length=m,es3.length=m3,es0++es3=es,m+m3<=9223372036854775807,(m+m3)*bytes<=140737488355328],xs,⟨⟨[l,l3],.own l (.msl es.length),[(l,.mat 1 0 es)]⟩,[l,l3]⟩)
    else none
   |_,_,_,_=>none
  |_,_,_,_=>none
 |_=>none
def Dq(P:Program)(T:TS)(o:Oper)(tm:List (Nat×PV))(Z:List (Nat×Blk))(xs:List Orc):Em:=
 match o.op with
 |.makeMap t none=>
  match(get T t).map (·.k),xs with
  |some (TK.map _ e),.lab L::xs=>match get T e with|some j=>some ([],xs,⟨⟨[],.own L .map,[(L,.map (.v j.agg) [])]⟩,[]⟩)|none=>none
  |_,_=>none
 |.lookup t x y ok=>
  match(get T t).map (·.k),af tm x,af tm y,xs with
  |some (TK.map k e),some (.own l .map),some (.t (.int .i64 n)),.cs ts::xs=>
   match get Z l,(get T k).map (·.k)with
   |some (.map (.v ag) es),some (TK.int .i64)=>
    match Z18 P ag e,ok,xs with
    |some zs,true,.br b::xs=>some ([mlk es n zs=(ts,b)],xs,⟨⟨[l],.tup [mvP ag ts,.t (.bool b)],[]⟩,[]⟩)
    |some zs,false,xs=>some ([(mlk es n zs).1=ts],xs,⟨⟨[l],mvP ag ts,[]⟩,[]⟩)
    |_,_,_=>none
   |_,_=>none
  |some (TK.map k e),some (.own l .map),some (.t (.int .i64 n)),.lab L :: .es rows::xs=>
   match get Z l,(get T k).map (·.k),ok,fk P e with
   |some (.map (.rows c none) es),some (TK.int .i64),false,some [.nils]=>bif (Z18 P false e).isSome&&(!Nat.beq L l&&Nat.ble 1000 L)then some ([rlk es n=rows],xs,⟨⟨[l],.osl L rows.length,[(l,.map (.rows c (some n)) es),(L,.row c rows)]⟩,[l]⟩)else none
   |_,_,_,_=>none
  |_,_,_,_=>none
 |.mapUpdate t x y z=>
  match o.dst,(get T t).map (·.k),af tm x,af tm y,af tm z,xs with
  |none,some (TK.map k _),some (.own l .map),some (.t (.int .i64 i)),some (.osl L m),.mp es'::xs=>
   match get Z l,get Z L,(get T k).map (·.k)with
   |some (.map (.rows c (some n)) es),some (.row c2 rows),some (TK.int .i64)=>bif Nat.beq c c2 && !Nat.beq L l then some ([n=i,rows.length=m,bZ es i [.sl rows]=es'],xs,⟨⟨[l,L],.tup [],[(l,.map (.rows c none) es')]⟩,[l,L]⟩)else none
   |_,_,_=>none
  |_,_,_,_,_,_=>none
 |.call c=>
  match c.callee,fu tm c.args.toList,c.argTypes.toList,xs with
  |.builtin .len,some [.own l .map],[t],.num n::xs=>
   match(get T t).map (·.k),get Z l with
   |some (TK.map _ _),some (.map (.v _) es)=>some ([(es.length:Int)=n],xs,⟨⟨[l],.t (.int .i64 n),[]⟩,[]⟩)
   |_,_=>none
  |_,_,_,_=>none
 |_=>none
def evPr(T:TS)(o:Oper)(tm:List (Nat×PV))(Z:List (Nat×Blk))(xs:List Orc):Em:=
 match o.op with
 |.nilCheck x=>
  match af tm x with
  |some (.own l (.pp m q))=>match get Z l with|some (.prow _ _ es _)=>some ([es.length=m],xs,⟨⟨[l],.own l (.pp m q),[]⟩,[]⟩)|_=>none
  |_=>none
 |.fieldAddr s x f=>
  match oC T s f,af tm x with
  |some (q0,j),some (.own l (.pp m q))=>match get Z l with|some (.prow _ _ es _)=>bif Nat.blt 0 j.size then some ([es.length=m],xs,⟨⟨[l],.own l (.pp m (q+q0)),[]⟩,[]⟩)else none|_=>none
  |_,_=>none
 |.load t x=>
  match get T t,af tm x with
  |some i,some (.own l (.pp m q))=>
   match get Z l with
   |some (.prow _ _ es cs)=>match c6 i.agg i.size q cs with|some p=>some ([es.length=m],xs,⟨⟨[l],p,[]⟩,[]⟩)|none=>none
   |_=>none
  |_,_=>none
 |.store t x y=>
  match o.dst,get T t,af tm x,af tm y with
  |none,some i,some (.own l (.pp m q)),some p=>
   match get Z l with
   |some (.prow k i0 es cs)=>bif Nat.beq (Z7 p).length i.size&&(Z7 p).all PV.one&&Nat.ble (q+i.size) cs.length then some ([es.length=m],xs,⟨⟨[l],.tup [],[(l,.prow k i0 es (splice cs q (Z7 p)))]⟩,[l]⟩)else none
   |_=>none
  |_,_,_,_=>none
 |_=>none
def uQ(P:Program)(T:TS)(o:Oper)(tm:List (Nat×PV))(Z:List (Nat×Blk))(xs:List Orc):Em:=
 match evOp P T o tm Z xs with
 |some (ps,xs,s)=>some (ps,xs,⟨s,[]⟩)
 |none=>
  match Dn P T o tm Z xs with
  |some r=>some r
  |none=>
   match Dp T o tm Z xs with
   |some r=>some r
   |none=>
    match Dq P T o tm Z xs with
    |some r=>some r
    |none=>evPr T o tm Z xs
end Go.PW
namespace Go.PW
open Go.RowKit
section
variable {P:Program} {T:TS} {o:Oper} {tm:List (Nat×PV)} {Z:List (Nat×Blk)} {xs xs':List Orc} {ps:List Prop} {s:Stp}
def gm{qs:List Prop}{need:List Nat}{p:PV}(h:ev2 qs xs need p=some (ps,xs',s)):ps=qs/\xs'=xs/\s=⟨need,p,[]⟩:=by simp only[ev2,aq,bG]at h;exact⟨h.1.symm,h.2.1.symm,h.2.2.symm⟩
def w9{qs:List Prop}{p:PV}{l:Nat}{b:Blk}(h:ev3 qs xs p l b=some (ps,xs',s)):ps=qs/\xs'=xs/\s=⟨[],p,[(l,b)]⟩:=by simp only[ev3,aq,bG]at h;exact⟨h.1.symm,h.2.1.symm,h.2.2.symm⟩
def en(a b:Nat):Nat.ble a b=true↔a<=b:=by rw[Nat.ble_eq]
def bR{α:Type}{b:Bool}{x:Option α}{y:α}(h:(bif b then x else none)=some y):b=true/\x=some y:=by cases b<;>simp_all
def condNone'{α:Type}{b:Bool}{x:Option α}{y:α}(h:(bif b then none else x)=some y):b=false/\x=some y:=by cases b<;>simp_all
def Zjb(hT:TOK P T){t:Nat}{i:fD}{fs:List (Nat×Nat)}(h:get T t=some i)(hk:i.k = .struct fs){pl:List (Nat×Nat)}(hp:Z63 T fs=some pl):oY P t=some pl:=by
 have:=(hT t i h).k;rw[hk]at this;obtain⟨fs',hu,rfl⟩:=this;simp only[oY,hu];generalize fs'.toList=l at hp;clear hu hk h i;induction l generalizing pl with
 |nil=>simp only[fI,Z63,aq]at hp;subst hp;rfl
 |cons f l ih=>
  simp only[cw,Z63]at hp;split at hp
  .rename_i i ps hi hps;cases hp;obtain⟨inf,hinf,hs⟩:=hT.size hi;rw[kx,ih hps,hinf];simp[hs]
  cases hp
def Zjc(hT:TOK P T){t:Nat}{parts:Array (Nat×Operand)}{qs:List (Nat×PV)}(ho:o.op = .build t parts)(hp:gi tm parts.toList=some qs)(h:C9 T t qs xs=some (ps,xs',s)):aQ P o tm Z s.need s.p s.news:=by
 unfold C9 at h;split at h
 .rename_i z fs _ hi;split at h
  .rename_i pl hpl;split at h
   .rename_i out hf;obtain⟨rfl,rfl,rfl⟩:=dk h;exact K5 ho ⟨.inl (Zjb hT hi rfl hpl),(hT t _ hi).z z rfl⟩ hp hf
   cases h
  cases h
 .rename_i z n e _ hi;split at h
  .rename_i j hj;split at h
   .rename_i out hf;obtain⟨rfl,rfl,rfl⟩:=dk h;refine K5 ho ⟨.inr ?_,(hT t _ hi).z z rfl⟩ hp hf;have hu:P.underlying t=some (.array n e):=(hT t _ hi).k;obtain⟨inf,hinf,hs⟩:=hT.size hj;simp[An,hu,hinf,hs]
   cases h
  cases h
 cases h
def Zjd(hT:TOK P T){t len:Nat}{parts:Array (Nat×Operand)}{qs:List (Nat×PV)}(ho:o.op = .buildSlice t len parts)(hp:gi tm parts.toList=some qs)(h:Da T t len qs xs=some (ps,xs',s)):aQ P o tm Z s.need s.p s.news:=by
 unfold Da at h;split at h
 .rename_i e agg k by_ z kk fl he;have hbh:=bR h;clear h;obtain⟨hb,h⟩:=hbh;simp only[aL]at hb;have hE:=Z6h (z:=z) hT he rfl hb.1.1 hb.1.2;have hsm:=(en _ _).1 hb.2;split at h
  .rename_i out hf;split at h
   .rename_i ts xs2 hts;obtain⟨rfl,rfl,rfl⟩:=dk h;exact Zdy ho hE hp hsm hf hts
   .rename_i ts l xs2 hts;have hbh:=bR h;clear h;obtain⟨hb2,h⟩:=hbh;simp only[aL]at hb2;obtain⟨rfl,rfl,rfl⟩:=w9 h;exact Zdz l ((en _ _).1 hb2.1) ho hE hp hsm hf hts ((aU _ _).1 hb2.2)
   cases h
  cases h
 cases h
def Zje(hT:TOK P T){t:Nat}{x y:Operand}{px py:PV}(ho:o.op = .makeSlice t x y)(hx:af tm x=some px)(hy:af tm y=some py)(h:Db T t px py xs=some (ps,xs',s))(hc:aG ps):aQ P o tm Z s.need s.p s.news:=by
 unfold Db at h;split at h
 .rename_i e agg k bytes z kk fl _ m _ c l n es xs2 he;have hbh:=bR h;clear h;obtain⟨hb,h⟩:=hbh;simp only[aL]at hb;have hE:=Z6h (z:=z) hT he rfl hb.1.1 hb.1.2;split at h
  .rename_i zs hzs;obtain⟨rfl,rfl,rfl⟩:=w9 h;obtain⟨h1,h2,h3,h4,h5,h6,_⟩:=hc;subst h5;subst h6;exact ZdA l ((en _ _).1 hb.2) ho hE hzs hx hy h1 h2 h3 h4
  cases h
 cases h
def Zjf(hT:TOK P T){t i:Nat}{x:Operand}{px:PV}(ho:o.op = .fieldAddr t x i)(hx:af tm x=some px)(h:Dc T Z t i px xs=some (ps,xs',s))(hc:aG ps):aQ P o tm Z s.need s.p s.news:=by
 unfold Dc at h;split at h
 .rename_i q j hf;have hbh:=condNone' h;clear h;obtain⟨hb,h⟩:=hbh;have hs:j.size≠0:=λe=>by rw[e]at hb;cases hb
  obtain⟨i0,fs,fT,hi0,hk0,hfs,hj⟩:=xv hf;have hfi:=hT.fieldInfo hi0 hk0 hfs hj;split at h
  .split at h
   .rename_i hg;obtain⟨rfl,rfl,rfl⟩:=gm h;exact ZdB ho hfi hs hx hg
   cases h
  .split at h
   .rename_i hg;obtain⟨rfl,rfl,rfl⟩:=gm h;exact ZdC ho hfi hs hx hg hc.1
   cases h
  .obtain⟨rfl,rfl,rfl⟩:=dk h;exact ZdD ho hfi hs hx
  cases h
 cases h
def Zjg(hT:TOK P T){t:Nat}{x y:Operand}{px py:PV}(ho:o.op = .indexAddr t x y)(hx:af tm x=some px)(hy:af tm y=some py)(h:Dd T Z t px py xs=some (ps,xs',s))(hc:aG ps):aQ P o tm Z s.need s.p s.news:=by
 unfold Dd at h;split at h
 .split at h
  .split at h
   .rename_i e j c xs2 he;obtain⟨rfl,rfl,rfl⟩:=et h;obtain⟨i0,hi0,hk0,hj⟩:=eT he;exact ZdH ho (hT.slInfo hi0 hk0 hj) hx hy hc.1 hc.2.1 hc.2.2.1
   cases h
  .split at h
   .rename_i e j k es n xs2 he hg;have hbh:=bR h;clear h;obtain⟨hb,h⟩:=hbh;have hb:=(aU _ _).1 hb;obtain⟨rfl,rfl,rfl⟩:=gm h;obtain⟨i0,hi0,hk0,hj⟩:=eT he;obtain⟨h1,h2,h3,h4,_⟩:=hc;subst h4;exact ZdI ho (hT.slInfo hi0 hk0 hj) hx hy (by rw[hb];exact hg) h1 h2 h3
   cases h
  .split at h
   .rename_i len e j cs n xs2 he hg;obtain⟨rfl,rfl,rfl⟩:=gm h;obtain⟨i0,hi0,hk0,hj⟩:=Z9t he;obtain⟨h2,h3,h4,_⟩:=hc;subst h4;exact ZdE ho (hT.arrInfo hi0 hk0 hj) hx hy hg h2 h3
   cases h
  .split at h
   .rename_i len e j k els n xs2 he hg;obtain⟨rfl,rfl,rfl⟩:=gm h;obtain⟨i0,hi0,hk0,hj⟩:=Z9t he;obtain⟨h1,h2,h3,h4,_⟩:=hc;subst h4;exact ZdF ho (hT.arrInfo hi0 hk0 hj) hx hy hg h1 h2 h3
   cases h
  .split at h
   .rename_i len e j n xs2 he;obtain⟨rfl,rfl,rfl⟩:=et h;obtain⟨i0,hi0,hk0,hj⟩:=Z9t he;obtain⟨h2,h3,h4,_⟩:=hc;subst h4;exact ZdG ho (hT.arrInfo hi0 hk0 hj) hx hy h2 h3
   cases h
  cases h
 cases h
def Zjh(hT:TOK P T){t:Nat}{x y:Operand}{px py:PV}(ho:o.op = .index t x y)(hx:af tm x=some px)(hy:af tm y=some py)(h:De T t px py xs=some (ps,xs',s))(hc:aG ps):aQ P o tm Z s.need s.p s.news:=by
 unfold De at h;split at h
 .split at h
  .split at h
   .rename_i hk;obtain⟨rfl,rfl,rfl⟩:=et h;simp only[cA]at hk;obtain⟨i0,hi0,hk⟩:=hk;have hu:=(hT _ _ hi0).k;rw[hk]at hu;exact ZdK ho hu hx hy hc.1 hc.2.1
   cases h
  .split at h
   .rename_i len e j c xs2 he;obtain⟨rfl,rfl,rfl⟩:=et h;obtain⟨i0,hi0,hk0,hj⟩:=Z9t he;have hu:=(hT _ _ hi0).k;rw[hk0]at hu;exact ZdJ ho hu (hT _ _ hj).ty hx hy hc.1 hc.2.1 hc.2.2.1
   cases h
  cases h
 cases h
def Vj(hT:TOK P T){t:Nat}{x:Operand}{px:PV}(ho:o.op = .load t x)(hx:af tm x=some px)(h:xa T Z t px xs=some (ps,xs',s))(hc:aG ps):aQ P o tm Z s.need s.p s.news:=by
 unfold xa at h;split at h
 .rename_i i hi;have hty:=(hT t i hi).ty;split at h
  .split at h
   .rename_i hg;split at h
    .rename_i p hp;obtain⟨rfl,rfl,rfl⟩:=gm h;exact M1 ho hty hx hg hp
    cases h
   cases h
  .split at h
   .rename_i hg;split at h
    .rename_i p hp;obtain⟨rfl,rfl,rfl⟩:=gm h;exact ZdL ho hty hx hg hc.1 hc.2.1 hp
    cases h
   cases h
  .split at h
   .rename_i p hp;obtain⟨rfl,rfl,rfl⟩:=dk h;exact M3 ho hty hx hp
   cases h
  cases h
 cases h
def Zji(hT:TOK P T){t:Nat}{x:Operand}{px:PV}{c:List U}(ho:o.op = .load t x)(hx:af tm x=some px)(h:Df T Z t px c xs=some (ps,xs',s))(hc:aG ps):aQ P o tm Z s.need s.p s.news:=by
 unfold Df at h;split at h
 .rename_i i l q hi;split at h
  .rename_i cs hg;obtain⟨rfl,rfl,rfl⟩:=gm h;exact M1 ho (hT t i hi).ty hx hg hc.1
  cases h
 .rename_i i cs hi;obtain⟨rfl,rfl,rfl⟩:=et h;exact M3 ho (hT t i hi).ty hx hc.1
 cases h
def gW{c:Call}{ce:Callee}{Zks:List Operand}{ts:List Nat}(hc:c.callee=ce)(ha:c.args.toList=Zks)(ht:c.argTypes.toList=ts):c={ callee:=ce,args:=Zks.toArray,argTypes:=ts.toArray }:=by cases c;subst hc ha ht;simp
def Z9u{tm:List (Nat×PV)}{l:List Operand}{p:PV}(h:fu tm l=some [p]):∃x,l=[x]/\af tm x=some p:=by
 match l,h with
 |[x],h=>
  simp only[fu]at h;split at h
  .rename_i q qs hq hqs;cases h;cases hqs;exact⟨x,rfl,hq⟩
  cases h
 |x::y::l,h=>
  simp only[fu]at h;split at h
  .rename_i q qs hq hqs;cases h;split at hqs
   .cases hqs
   cases hqs
  cases h
def ow{tm:List (Nat×PV)}{l:List Operand}{p q:PV}(h:fu tm l=some [p,q]):∃x y,l=[x,y]/\af tm x=some p/\af tm y=some q:=by
 match l,h with
 |x::l,h=>
  simp only[fu]at h;split at h
  .rename_i r rs hr hrs;cases h;obtain⟨y,rfl,hy⟩:=Z9u hrs;exact⟨x,y,rfl,hr,hy⟩
  cases h
def Dg{p:PV}{cs:List Prop}{es:List (List U)}{ls:List Nat}(h:sN Z p=some (cs,es,ls))(hc:aG cs):gA Z p es/\∀m,p.has m=true->m∈ls:=by
 unfold sN at h;split at h
 .cases h;exact⟨.tree _,λm hm=>by simp[PV.has]at hm⟩
 .cases h;exact⟨.nils,λm hm=>by simp[PV.has]at hm⟩
 .cases h;exact⟨.con _ _,λm hm=>by simp[PV.has]at hm⟩
 .split at h
  .rename_i hg;cases h;exact⟨.own _ _ _ _ hg hc.1,λm hm=>by simp only[PV.has,aU]at hm;subst hm;simp⟩
  cases h
 cases h
def Vk:∀{ls:List Nat},xb ls=true->∀(i j L:Nat),ls[i]?=some L->ls[j]?=some L->i=j
 |[],_,i,j,L,h,_=>jb
 |l::r,h,i,j,L,h1,h2=>by
  simp only[xb,aL,dv]at h;have hmem:∀{r:List Nat} {L:Nat},L∈r->Z6w r L=true:=by
   intro r L;induction r with
   |nil=>intro h;cases h
   |cons x r ih=>
    intro h;simp only[Z6w];cases hb:Nat.beq x L with
    |true=>rfl
    |false=>
     rcases cn.1 h with e|e
     .subst e;simp at hb
     exact ih e
  cases i with
  |zero=>
   cases j with
   |zero=>rfl
   |succ j=>
    simp only[js,aq]at h1;subst h1;have:=hmem (cj (by simpa using h2:r[j]?=some l));rw[h.1]at this;cases this
  |succ i=>
   cases j with
   |zero=>
    simp only[js,aq]at h2;subst h2;have:=hmem (cj (by simpa using h1:r[i]?=some l));rw[h.1]at this;cases this
   |succ j=>rw[Vk h.2 i j L AK AL]
def Vl{m l:Nat}{o:Blk}:∀{Z:List (Nat×Blk)},get Z m=some o->o.has l=true->l∈xc Z
 |[],h,_=>di
 |(j,b)::r,h,hl=>by
  simp only[xc,cD];simp only[PW.get]at h;cases hb:Nat.beq j m with
  |true=>
   simp only[hb,av,aq]at h;subst h;cases b with
   |box cs=>exact .inl (kM cs hl)
   |row k es=>simp[Blk.has]at hl
   |mat k q es=>simp[Blk.has]at hl
   |map ag es=>simp[Blk.has]at hl
   |prow k i es cs=>exact .inl (kM cs hl)
  |false=>simp only[hb,au]at h;exact .inr (Vl h hl)
def Vm{ls:List Nat}{d:Nat}{σa σ1:List (Nat×Blk)}{res:PV}(h:xd ls d σa σ1 res=true):w7 ls d σa σ1 res:=by
 simp only[xd,aL,bU]at h;obtain⟨⟨⟨h1,h2⟩,h3⟩,h4⟩:=h;refine { nd:=Vk h1,len:=(en _ _).1 h2,box:=λl o hg L hL=>?_,ge:=λl o hg hn=>?_,cl:=λl hl=>?_ }
 .have:=h3 _ (ew hg);simp only[hL]at this;unfold Vn at this;split at this
  .rename_i cs cs0 hc0;exact .inl ⟨_,cs0,rfl,hc0⟩
  .rename_i k es k' es0 hc0;obtain rfl:=(aU _ _).1 this;exact .inr ⟨_,_,es0,rfl,hc0⟩
  cases this
 .have:=h3 _ (ew hg);simp only[hn]at this;exact(en _ _).1 this
 have hk:hasK σ1 l=true:=by
  rcases hl with hl|⟨m,o,hg,hl⟩
  .exact h4 l (cD.2 (.inl (Vo res hl)))
  exact h4 l (cD.2 (.inr (Vl hg hl)))
 unfold hasK at hk;split at hk
 .exact⟨_,by assumption⟩
 cases hk
def Vp:∀{σ1:List (Nat×Blk)},aG (scB σ1)->∀l o,get σ1 l=some o->o.SC
 |[],_,l,o,h=>di
 |(j,b)::r,hc,l,o,h=>by
  simp only[PW.get]at h;cases hb:Nat.beq j l with
  |true=>
   simp only[hb,av,aq]at h;subst h;cases b<;>exact hc.1
  |false=>
   simp only[hb,au]at h;cases b<;>exact Vp hc.2 l o h
def Vq{S:Bool}{σ1:List (Nat×Blk)}{res:PV}(hc:aG (scC S σ1 res)):S=true->res.sc=true/\∀l o,get σ1 l=some o->o.SC:=by rintro rfl;exact⟨hc.1,Vp hc.2⟩
def Zjj(hT:TOK P T){c:Call}{qs:List PV}(ho:o.op = .call c)(hq:fu tm c.args.toList=some qs)(h:Dh T P tm Z c.callee qs c.argTypes.toList xs=some (ps,xs',s))(hc:aG ps):aQ P o tm Z s.need s.p s.news:=by
 unfold Dh at h;split at h
 .rename_i fo hce;have hceq:=gW hce rfl rfl;rw[hceq]at ho;split at h
  .rename_i f caps res xs2 hfo;split at h
   .rename_i cs fs hfz;have hbh:=bR h;clear h;obtain⟨hb,h⟩:=hbh;obtain⟨rfl,rfl,rfl⟩:=et h;refine Zjk hc.1 ho hfo Ck (mD (λ_=>rfl) hfz ?_) hb;have:∀{qs fs:List PV} {cs:List Prop},fh [] qs=some (cs,fs)->aG cs:=by
     have hv:(∀p:PV,∀{q:PV} {cs:List Prop},cQ [] p=some (cs,q)->cs=[])/\(∀qs:List PV,∀{fs:List PV} {cs:List Prop},fh [] qs=some (cs,fs)->cs=[]):=by
      constructor
      .intro p;refine PV.rec (motive_1:=λp=>∀{q:PV} {cs:List Prop},cQ [] p=some (cs,q)->cs=[]) (motive_2:=λqs=>∀{fs:List PV} {cs:List Prop},fh [] qs=some (cs,fs)->cs=[]) ?_ ?_ ?_ ?_ ?_ ?_ ?_ ?_ ?_ ?_ ?_ ?_ p
       .intro x q cs h;simp only[cQ,aq,bG]at h;exact h.1.symm
       .intro q cs h;simp only[cQ,aq,bG]at h;exact h.1.symm
       .intro l n q cs h;simp[cQ,PW.get]at h
       .intro l n q cs h;simp[cQ,PW.get]at h
       .intro l n i j q cs h;simp[cQ]at h
       .intro ts q cs h;simp only[cQ,aq,bG]at h;exact h.1.symm
       .intro cs ih q ps h;simp only[cQ]at h;split at h
        .rename_i h2;cases h;exact ih h2
        cases h
       .intro cs ih q ps h;simp only[cQ]at h;split at h
        .rename_i h2;cases h;exact ih h2
        cases h
       .intro f cs ih q ps h;simp only[cQ]at h;split at h
        .rename_i h2;cases h;exact ih h2
        cases h
       .intro l d q cs h;simp[cQ,PW.get]at h
       .intro fs cs h;simp only[fh,aq,bG]at h;exact h.1.symm
       intro p ps ih1 ih2 fs cs h;simp only[fh]at h;split at h
       .rename_i h1 h2;cases h;rw[ih1 h1,ih2 h2];rfl
       cases h
      intro qs;refine PV.rec_1 (motive_1:=λp=>∀{q:PV} {cs:List Prop},cQ [] p=some (cs,q)->cs=[]) (motive_2:=λqs=>∀{fs:List PV} {cs:List Prop},fh [] qs=some (cs,fs)->cs=[]) ?_ ?_ ?_ ?_ ?_ ?_ ?_ ?_ ?_ ?_ ?_ ?_ qs
      .intro x q cs h;simp only[cQ,aq,bG]at h;exact h.1.symm
      .intro q cs h;simp only[cQ,aq,bG]at h;exact h.1.symm
      .intro l n q cs h;simp[cQ,PW.get]at h
      .intro l n q cs h;simp[cQ,PW.get]at h
      .intro l n i j q cs h;simp[cQ]at h
      .intro ts q cs h;simp only[cQ,aq,bG]at h;exact h.1.symm
      .intro cs ih q ps h;simp only[cQ]at h;split at h
       .rename_i h2;cases h;exact ih h2
       cases h
      .intro cs ih q ps h;simp only[cQ]at h;split at h
       .rename_i h2;cases h;exact ih h2
       cases h
      .intro f cs ih q ps h;simp only[cQ]at h;split at h
       .rename_i h2;cases h;exact ih h2
       cases h
      .intro l d q cs h;simp[cQ,PW.get]at h
      .intro fs cs h;simp only[fh,aq,bG]at h;exact h.1.symm
      intro p ps ih1 ih2 fs cs h;simp only[fh]at h;split at h
      .rename_i h1 h2;cases h;rw[ih1 h1,ih2 h2];rfl
      cases h
     intro qs fs cs h;rw[hv.2 qs h];trivial
    exact this hfz
   split at h
   .rename_i cs fs hfz;have hbh:=bR h;clear h;obtain⟨hb,h⟩:=hbh;obtain⟨rfl,rfl,rfl⟩:=gm h;obtain⟨hc1,hc2⟩:=bM.1 hc;exact Zjl hc2.1 ho hfo Ck (mD (λ_=>rfl) hfz hc1) (λm hm=>kM _ hm) hb
   cases h
  .rename_i f caps S ls d fr res xs2 hfo;split at h
   .rename_i cs qs' σa hav hpa;have hbh:=bR h;clear h;obtain⟨hb,h⟩:=hbh;cases h;obtain⟨c1,c2⟩:=bM.1 hc;obtain⟨c2,c3⟩:=bM.1 c2;exact ZiX c3.1 ho hfo Ck hav c1 hpa (Vm hb) (Vq c2) (λm hm=>by
     rcases hm with hm|hm|hm
     .exact cD.2 (.inl hm)
     .exact cD.2 (.inr (cD.2 (.inl (kM _ hm))))
     exact cD.2 (.inr (cD.2 (.inr (wk _ hm)))))
   cases h
  cases h
 .rename_i hce;split at h
  .rename_i p t n xs2 hat;obtain⟨x,hax,hx⟩:=Z9u hq;have hceq:=gW hce hax hat;rw[hceq]at ho;split at h
   .rename_i e es hk;obtain⟨rfl,rfl,rfl⟩:=et h;simp only[cA]at hk;obtain⟨i0,hi0,hk⟩:=hk;have hu:=(hT _ _ hi0).k;rw[hk]at hu;have:=Zbu (Z:=Z) ho hu hx;rw[hc.1]at this;exact this
   .rename_i e hk;obtain⟨rfl,rfl,rfl⟩:=et h;simp only[cA]at hk;obtain⟨i0,hi0,hk⟩:=hk;have hu:=(hT _ _ hi0).k;rw[hk]at hu;have:=Zbv (Z:=Z) ho hu hx;rw[hc.1]at this;exact this
   .rename_i e l m hk;split at h
    .rename_i k es hg;obtain⟨rfl,rfl,rfl⟩:=gm h;simp only[cA]at hk;obtain⟨i0,hi0,hk⟩:=hk;have hu:=(hT _ _ hi0).k;rw[hk]at hu;have:=Zbw ho hu hx hg hc.1;rw[hc.2.1]at this;exact this
    cases h
   .rename_i e l m hk;split at h
    .rename_i k q es hg;obtain⟨rfl,rfl,rfl⟩:=gm h;simp only[cA]at hk;obtain⟨i0,hi0,hk⟩:=hk;have hu:=(hT _ _ hi0).k;rw[hk]at hu;have:=Zds ho hu hx hg hc.1;rw[hc.2.1]at this;exact this
    cases h
   .rename_i st hk;obtain⟨rfl,rfl,rfl⟩:=et h;simp only[cA]at hk;obtain⟨i0,hi0,hk⟩:=hk;have hu:=(hT _ _ hi0).k;rw[hk]at hu;have:=Zbx (Z:=Z) ho hu hx;rw[hc.1]at this;exact this
   cases h
  cases h
 .rename_i hce;split at h
  .rename_i k a k' b;obtain⟨x,y',hax,hx,hy⟩:=ow hq;have hceq:=gW hce hax rfl;rw[hceq]at ho;obtain⟨rfl,rfl,rfl⟩:=dk h;exact Zjm ho hx hy
  cases h
 .rename_i hce;split at h
  .rename_i k a k' b;obtain⟨x,y',hax,hx,hy⟩:=ow hq;have hceq:=gW hce hax rfl;rw[hceq]at ho;obtain⟨rfl,rfl,rfl⟩:=dk h;exact Zjn ho hx hy
  cases h
 .rename_i hce;split at h
  .rename_i y t tx l es xs2 hat;obtain⟨x,y',hax,hx,hy⟩:=ow hq;have hceq:=gW hce hax hat;rw[hceq]at ho;split at h
   .rename_i e k bytes z kk fl ex cs ys ls he hex hsrc;have hbh:=bR h;clear h;obtain⟨hb,h⟩:=hbh;simp only[aL]at hb;have hE:=Z6h (z:=z) hT he rfl hb.1.1 hb.1.2;simp only[aq,bG]at h;obtain⟨rfl,rfl,rfl⟩:=h;obtain⟨hc1,hc2⟩:=bM.1 hc;obtain⟨h1,h2,h3,h4,_⟩:=hc2;subst h1;obtain⟨hs,hn⟩:=Dg hsrc hc1;obtain⟨i1,hi1,hk1,_⟩:=eT hex;have hu1:=(hT _ _ hi1).k;rw[hk1]at hu1;exact Zjo l ((en _ _).1 hb.2) ho hE ⟨_,hu1⟩ hx hy hs hn h2 h3 h4
   cases h
  cases h
 cases h
def Zjp{y:Operand}(h:xe y=true):y = .const (.slice none 0 0):=by
 unfold xe at h;split at h
 .rfl
 cases h
def Zjq(hT:TOK P T){op:BinOp}{t:Nat}{x:Operand}{px:PV}{yT:TypeId}(ho:o.op = .binOp op t x (.const (.slice none 0 0)) yT)(hx:af tm x=some px)(h:Di T op t px xs=some (ps,xs',s))(hc:aG ps):aQ P o tm Z s.need s.p s.news:=by
 unfold Di at h;split at h
 .rename_i e he;obtain⟨rfl,rfl,rfl⟩:=et h;obtain⟨i,hi,hk,hj⟩:=eT he;have hu:=(hT _ _ hi).k;rw[hk]at hu;exact Vr hu ho (.inl rfl) hx hc.1
 .rename_i e he;obtain⟨rfl,rfl,rfl⟩:=et h;obtain⟨i,hi,hk,hj⟩:=eT he;have hu:=(hT _ _ hi).k;rw[hk]at hu;exact Vr hu ho (.inr rfl) hx hc.1
 .rename_i e he;obtain⟨rfl,rfl,rfl⟩:=dk h;obtain⟨i,hi,hk,hj⟩:=eT he;have hu:=(hT _ _ hi).k;rw[hk]at hu;exact Vs hu ho (.inl rfl) hx
 .rename_i e he;obtain⟨rfl,rfl,rfl⟩:=dk h;obtain⟨i,hi,hk,hj⟩:=eT he;have hu:=(hT _ _ hi).k;rw[hk]at hu;exact Vs hu ho (.inr rfl) hx
 cases h
def Zjr{y:Operand}(h:xf y=true):y = .const (.pointer none):=by
 unfold xf at h;split at h
 .rfl
 cases h
def Zjs{op:BinOp}{t:Nat}{x:Operand}{px:PV}{yT:TypeId}(hu:P.underlying t=some (.pointer (P.pointee t)))(ho:o.op = .binOp op t x (.const (.pointer none)) yT)(hx:af tm x=some px)(h:Dj Z op px xs=some (ps,xs',s)):aQ P o tm Z s.need s.p s.news:=by
 unfold Dj at h;split at h
 .obtain⟨rfl,rfl,rfl⟩:=dk h;exact Vt hu ho (.inl rfl) hx
 .obtain⟨rfl,rfl,rfl⟩:=dk h;exact Vt hu ho (.inr rfl) hx
 .split at h
  .rename_i hg;obtain⟨rfl,rfl,rfl⟩:=gm h;exact Vu hu ho (.inl rfl) hx hg
  cases h
 .split at h
  .rename_i hg;obtain⟨rfl,rfl,rfl⟩:=gm h;exact Vu hu ho (.inr rfl) hx hg
  cases h
 cases h
def Zjt(hT:TOK P T){t:Nat}{x:Operand}{lo hi:Option Operand}{px:PV}(ho:o.op = .slice t x lo hi none)(hx:af tm x=some px)(h:Dk T tm t px lo hi xs=some (ps,xs',s))(hc:aG ps):aQ P o tm Z s.need s.p s.news:=by
 unfold Dk at h;split at h
 .rename_i sv z xs2 he;split at h
  .rename_i l hh h3 h1 h2;obtain⟨rfl,rfl,rfl⟩:=et h;simp only[cA]at h3;obtain⟨i3,hi3,hk3⟩:=h3;have hu3:=(hT _ _ hi3).k;rw[hk3]at hu3;obtain⟨c1,c2,c3,c4,_⟩:=hc;subst c4;exact Zju ho hu3 hx h1 h2 c1 c2 c3
  cases h
 .rename_i e j es es' xs2 he;split at h
  .rename_i l hh h1 h2;obtain⟨rfl,rfl,rfl⟩:=et h;obtain⟨i,hi,hk,hj⟩:=eT he;obtain⟨c1,c2,c3,c4,c5,_⟩:=hc;subst c5;exact Zjv ho (hT.slInfo hi hk hj) hx h1 h2 c1 c2 c3 c4
  cases h
 cases h
def Zjw(hT:TOK P T)(h:evOp P T o tm Z xs=some (ps,xs',s))(hc:aG ps):aQ P o tm Z s.need s.p s.news:=by
 unfold evOp at h;split at h
 .rename_i x ho;split at h
  .rename_i p hp;obtain⟨rfl,rfl,rfl⟩:=dk h;exact Zbm ho hp
  cases h
 .rename_i x ho;split at h
  .rename_i p hp;obtain⟨rfl,rfl,rfl⟩:=dk h;exact Zbn ho hp
  cases h
 .rename_i c x y ho;split at h
  .rename_i e b xs2 he;split at h
   .rename_i p hp;obtain⟨rfl,rfl,rfl⟩:=et h;have:=hc.1;subst this;exact Zbo ho he hp
   cases h
  cases h
 .rename_i op xT x y yT ho;cases hn:xe y with
  |true=>
   rw[Zjp hn]at ho;simp only[hn,av]at h;split at h
   .rename_i px hx;exact Zjq hT ho hx h hc
   cases h
  |false=>
   simp only[hn,au]at h;cases hn2:xf y with
   |true=>
    rw[Zjr hn2]at ho;simp only[hn2,av]at h;split at h
    .rename_i px hx hk;simp only[cA]at hk;obtain⟨i0,hi0,hk⟩:=hk;have hu:=(hT _ _ hi0).k;rw[hk]at hu;exact Zjs hu ho hx h
    cases h
   |false=>
    simp only[hn2,au]at h;split at h
    .rename_i px py hx hy;exact Wj hT ho hx hy h hc
    cases h
 .rename_i op t x ho;split at h
  .rename_i b hb;obtain⟨rfl,rfl,rfl⟩:=dk h;exact Zbp ho hb
  .rename_i k a hb;obtain⟨rfl,rfl,rfl⟩:=dk h;exact Zbq ho hb
  .rename_i k a hb;obtain⟨rfl,rfl,rfl⟩:=dk h;exact Zbr ho hb
  cases h
 .rename_i sT dT x ho;split at h
  .rename_i k k' k2 a h1 h2 hx;obtain⟨rfl,rfl,rfl⟩:=dk h;simp only[cA]at h1 h2;obtain⟨i1,hi1,hk1⟩:=h1;obtain⟨i2,hi2,hk2⟩:=h2;have hu1:=(hT _ _ hi1).k;have hu2:=(hT _ _ hi2).k;rw[hk1]at hu1;rw[hk2]at hu2;exact Zbs ho ⟨_,hu1⟩ hu2 hx
  .rename_i a h1 h2 hx;obtain⟨rfl,rfl,rfl⟩:=dk h;simp only[cA]at h1 h2;obtain⟨i1,hi1,hk1⟩:=h1;obtain⟨i2,hi2,hk2⟩:=h2;have hu1:=(hT _ _ hi1).k;have hu2:=(hT _ _ hi2).k;rw[hk1]at hu1;rw[hk2]at hu2;exact Zbt ho hu1 hu2 hx
  .rename_i e a h1 h2 hx;split at h
   .rename_i es xs2 h3;obtain⟨rfl,rfl,rfl⟩:=et h;simp only[cA]at h1 h2 h3;obtain⟨i1,hi1,hk1⟩:=h1;obtain⟨i2,hi2,hk2⟩:=h2;obtain⟨i3,hi3,hk3⟩:=h3;have hu1:=(hT _ _ hi1).k;have hu2:=(hT _ _ hi2).k;have hu3:=(hT _ _ hi3).k;rw[hk1]at hu1;rw[hk2]at hu2;rw[hk3]at hu3;obtain⟨rfl,hl,_⟩:=hc;exact Zjx ho hu1 hu2 hu3 hx hl
   cases h
  .rename_i e es h1 h2 hx;split at h
   .rename_i s xs2 h3;obtain⟨rfl,rfl,rfl⟩:=et h;simp only[cA]at h1 h2 h3;obtain⟨i1,hi1,hk1⟩:=h1;obtain⟨i2,hi2,hk2⟩:=h2;obtain⟨i3,hi3,hk3⟩:=h3;have hu1:=(hT _ _ hi1).k;have hu2:=(hT _ _ hi2).k;have hu3:=(hT _ _ hi3).k;rw[hk1]at hu1;rw[hk2]at hu2;rw[hk3]at hu3;obtain⟨rfl,hl,_⟩:=hc;exact Zjy ho hu1 hu2 hu3 hx hl
   cases h
  cases h
 .rename_i xT x i ho;split at h
  .rename_i q j cs hf hx;split at h
   .rename_i p hp;obtain⟨rfl,rfl,rfl⟩:=dk h;obtain⟨i0,fs,fT,hi0,hk0,hfs,hj⟩:=xv hf;have hu:=(hT _ _ hi0).k;rw[hk0]at hu;obtain⟨fs',hu,rfl⟩:=hu;simp only[fX,cA]at hfs;obtain⟨fl,hfl,he⟩:=hfs;cases he;exact Zby fs' fl ho hu (by simpa using hfl) rfl rfl (hT _ _ hj).ty hx hp
   cases h
  cases h
 .rename_i x i ho;split at h
  .rename_i cs hx;split at h
   .rename_i p hp;obtain⟨rfl,rfl,rfl⟩:=dk h;exact Zbz ho hx hp
   cases h
  cases h
 .rename_i x ho;split at h
  .rename_i cs hx;obtain⟨rfl,rfl,rfl⟩:=dk h;exact ZbA ho hx trivial
  .rename_i l q hx;split at h
   .rename_i hg;obtain⟨rfl,rfl,rfl⟩:=gm h;exact Zjz ho hx hg
   cases h
  .rename_i l m i q hx;split at h
   .rename_i hg;obtain⟨rfl,rfl,rfl⟩:=gm h;exact ZjA ho hx hg hc.1
   cases h
  cases h
 .rename_i f first caps ho
  have hbh:=bR h;clear h;obtain⟨hb,h⟩:=hbh;have hb:=(aU _ _).1 hb;have:first = #[]:=Array.size_eq_zero_iff.1 hb
  subst this;split at h
  .rename_i qs hq;obtain⟨rfl,rfl,rfl⟩:=dk h;exact ZbB (t:=0) ho (wt hq)
  cases h
 .rename_i t parts ho;split at h
  .rename_i qs hq;exact Zjc hT ho hq h
  cases h
 .rename_i t len parts ho;split at h
  .rename_i qs hq;exact Zjd hT ho hq h
  cases h
 .rename_i t x ho;split at h
  .rename_i p l xs2 hx;have hbh:=bR h;clear h;obtain⟨hb,h⟩:=hbh;simp only[aL]at hb;obtain⟨rfl,rfl,rfl⟩:=w9 h;exact ZbE l ((en _ _).1 hb.2) ho hx hb.1
  cases h
 .rename_i t ho;split at h
  .rename_i z l xs2 hz;have hbh:=bR h;clear h;obtain⟨hb,h⟩:=hbh;obtain⟨rfl,rfl,rfl⟩:=w9 h;simp only[dC]at hz;obtain⟨i0,hi0,hz⟩:=hz;exact ZbF l ((en _ _).1 hb) ho ((hT _ _ hi0).z z hz)
  cases h
 .rename_i t x y ho;split at h
  .rename_i px py hx hy;exact Zje hT ho hx hy h hc
  cases h
 .rename_i t x i ho;split at h
  .rename_i px hx;exact Zjf hT ho hx h hc
  cases h
 .rename_i t x y ho;split at h
  .rename_i px py hx hy;exact Zjg hT ho hx hy h hc
  cases h
 .rename_i t x y ho;split at h
  .rename_i px py hx hy;exact Zjh hT ho hx hy h hc
  cases h
 .rename_i t x ho;split at h
  .rename_i px hx;split at h
   .rename_i d c xs2 d' hd;cases hb:Nat.beq d d' with
    |true=>simp only[hb,av]at h;exact Zji hT ho hx h hc
    |false=>simp only[hb,au]at h;exact Vj hT ho hx h hc
   exact Vj hT ho hx h hc
  cases h
 .rename_i t x y z ho;split at h
  .rename_i ej px k1 k2 he hx hy hz;obtain⟨hp,h⟩:=bR h;obtain⟨rfl,rfl,rfl⟩:=dk h;obtain⟨i,hi,hk,hj⟩:=eT he;exact ZjB ho (hT.slInfo hi hk hj) hx hp hy hz
  cases h
 .rename_i t x lo hi ho;split at h
  .rename_i px hx;exact Zjt hT ho hx h hc
  cases h
 .rename_i c ho;split at h
  .rename_i qs hq;exact Zjj hT ho hq h hc
  cases h
 cases h
def ZjC{x:Stm}{c:Call}{fo:Operand}(hce:c.callee = .value fo)(ho:o.op = .call c)(h:Dl P tm Z fo c.args.toList xs=some (ps,xs',x))(hc:aG ps):OpF P o tm Z x.s.need x.rm x.s.p x.s.news:=by
 have hceq:=gW hce rfl rfl;rw[hceq]at ho;unfold Dl at h;split at h
 .rename_i f caps qs0 S ls d σ1 res xs2 hfo hps;split at h
  .rename_i cs qs σa hav hpa;have hbh:=bR h;clear h;obtain⟨hb,h⟩:=hbh;simp only[aL]at hb;cases h;obtain⟨c1,c2⟩:=bM.1 hc;obtain⟨c2,c3⟩:=bM.1 c2;refine ZiW c3.1 ho hfo (by rw[wt hps];rfl) hav c1 hpa (Vm hb.1) (Vq c2) (λm hm=>?_) (λl o hg hn hmem=>?_)
   .rcases hm with hm|hm|hm
    .exact cD.2 (.inl hm)
    .exact cD.2 (.inr (cD.2 (.inl (kM _ hm))))
    exact cD.2 (.inr (cD.2 (.inr (wk _ hm))))
   have:=bU.1 hb.2 _ (ew hg);simp only[hn,dv]at this;rw[uP.2 hmem]at this;cases this
  cases h
 cases h
def ZjD{x:Stm}{c:Call}{fo:Operand}(hce:c.callee = .value fo)(ho:o.op = .call c)(h:Dm P tm Z fo c.args.toList xs=some (ps,xs',x))(hc:aG ps):OpF P o tm Z x.s.need x.rm x.s.p x.s.news:=by
 unfold Dm at h;split at h
 .rename_i f y L b xs2 hfo hax;have hceq:=gW hce hax rfl;rw[hceq]at ho;split at h
  .rename_i l m hy;split at h
   .rename_i k es hg;have hbh:=bR h;clear h;obtain⟨hb,h⟩:=hbh;simp only[aL,en]at hb;cases h;obtain⟨h1,h2,h3,_⟩:=hc;exact Zdu h2 ho hfo hy hg h1 h3 (uN hb.2) hb.1
   cases h
  cases h
 cases h
def ZjE(hT:TOK P T){x:Stm}(h:Dn P T o tm Z xs=some (ps,xs',x))(hc:aG ps):OpF P o tm Z x.s.need x.rm x.s.p x.s.news:=by
 unfold Dn at h;split at h
 .rename_i c ho;split at h
  .rename_i fo xs2 hce;split at h
   .rename_i h0;cases h;exact ZjC hce ho h0 hc
   exact ZjD hce ho h hc
  .rename_i l m y t tx es xs2 hce hps hat;obtain⟨x,y',hax,hx,hy⟩:=ow hps;have hceq:=gW hce hax hat;rw[hceq]at ho;split at h
   .rename_i e agg k bytes z kk fl ex cs ys ls k' es0 he hex hsrc hg;have hbh:=bR h;clear h;obtain⟨hb,h⟩:=hbh;simp only[aL,aU]at hb;obtain⟨⟨hb1,hb2⟩,hb3⟩:=hb;subst hb3;have hE:=Z6h (z:=z) hT he rfl hb1 ((aU _ _).2 hb2);cases h;obtain⟨hc1,hc2⟩:=bM.1 hc;obtain⟨h1,h2,h3,h4,h5,_⟩:=hc2;obtain⟨hs,hn⟩:=Dg hsrc hc1;obtain⟨i1,hi1,hk1,_⟩:=eT hex;have hu1:=(hT _ _ hi1).k;rw[hk1]at hu1;subst h2;have hl:(es0++ys).length=m+ys.length:=by rw[bF,h1]
    rw[hl]at h4 h5;show OpF P o tm Z (l::ls) [l] (.osl l (es0++ys).length) [(l,.row k (es0++ys))];rw[hl];refine ZjF ho hE ⟨_,hu1⟩ hx hg h1 hy hs (λq hq=>?_) h3 h4 h5;rcases hq with rfl|hq
    .exact vx ..
    exact cK _ (hn q hq)
   cases h
  .rename_i l m y t tx q es xs2 hce hps hat;obtain⟨x,y',hax,hx,hy⟩:=ow hps;have hceq:=gW hce hax hat;rw[hceq]at ho;split at h
   .rename_i e agg k bytes z kk fl ex cs ys ls k' es0 he hex hsrc hg;have hbh:=bR h;clear h;obtain⟨hb,h⟩:=hbh;simp only[aL,aU]at hb;obtain⟨⟨hb1,hb2⟩,hb3⟩:=hb;subst hb3;have hE:=Z6h (z:=z) hT he rfl hb1 ((aU _ _).2 hb2);cases h;obtain⟨hc1,hc2⟩:=bM.1 hc;obtain⟨h1,h2,h3,h4,h5,_⟩:=hc2;obtain⟨hs,hn⟩:=Dg hsrc hc1;obtain⟨i1,hi1,hk1,_⟩:=eT hex;have hu1:=(hT _ _ hi1).k;rw[hk1]at hu1;subst h5;rw[<- h2];refine ZjG ho hE ⟨_,hu1⟩ hx hg h1 hy hs (λq hq=>?_) h4 h3;rcases hq with rfl|hq
    .exact vx ..
    exact cK _ (hn q hq)
   cases h
  cases h
 .rename_i t x y ho;split at h
  .rename_i i l q p hd hi hx hy;split at h
   .rename_i cs cs' xs2 hg;have hbh:=bR h;clear h;obtain⟨hb,h⟩:=hbh;simp only[aL,aU]at hb;cases h;obtain⟨h1,h2,_⟩:=hc;subst h2;exact M5 ho hd (hT _ _ hi).ty hx hy hg hb.1 hb.2 h1
   .rename_i cs hg _;have hbh:=bR h;clear h;obtain⟨hb,h⟩:=hbh;simp only[aL,aU,en]at hb;cases h;exact M5 ho hd (hT _ _ hi).ty hx hy hg hb.1.1 hb.1.2 hb.2
   cases h
  .rename_i i l m j q p hd hi hx hy;split at h
   .rename_i k es e es' xs2 ts hg hts;have hbh:=bR h;clear h;obtain⟨hb,h⟩:=hbh;simp only[aL,aU,en]at hb;cases h;obtain⟨h1,h2,h3,_⟩:=hc;subst h3;exact ZdN ho hd (hT _ _ hi).ty hx hy hg h1 h2 hts hb.1 hb.2
   cases h
  cases h
 cases h
def ZjH(hT:TOK P T){x:Stm}(h:Dp T o tm Z xs=some (ps,xs',x))(hc:aG ps):OpF P o tm Z x.s.need x.rm x.s.p x.s.news:=by
 unfold Dp at h;split at h
 .rename_i t x y ho;split at h
  .rename_i e j l m ki i n xs2 he hx hy;split at h
   .rename_i k es hg;have hbh:=bR h;clear h;obtain⟨hb,h⟩:=hbh;rw[aU]at hb;cases h;obtain⟨h1,h2,h3,h4,_⟩:=hc;subst h4;obtain⟨i0,hi0,hk0,hj⟩:=eT he;exact(ZjI ho (hb▸hT.slInfo hi0 hk0 hj) hx hy hg h1 h2 h3).toF
   cases h
  cases h
 .rename_i t x y ho;split at h
  .rename_i e j l m ki i n xs2 he hx hy;split at h
   .rename_i es hg;have hbh:=bR h;clear h;obtain⟨hb,h⟩:=hbh;rw[aU]at hb;cases h;obtain⟨h1,h2,h3,h4,_⟩:=hc;subst h4;obtain⟨i0,hi0,hk0,hj⟩:=eT he;exact(Zi4 ho (hb▸hT.slInfo hi0 hk0 hj) hx hy hg h1 h2 h3).toF
   cases h
  .rename_i e j l m jj ki i inner n xs2 he hx hy;split at h
   .rename_i es hg;have hbh:=bR h;clear h;obtain⟨hb,h⟩:=hbh;rw[aU]at hb;cases h;obtain⟨h1,h2,h3,h4,h5,_⟩:=hc;subst h5;obtain⟨i0,hi0,hk0,hj⟩:=eT he;exact(Zi6 ho (hb▸hT.slInfo hi0 hk0 hj) hx hy hg h1 h2 h3 h4).toF
   cases h
  cases h
 .rename_i t x ho;split at h
  .rename_i i l m j hi hx;split at h
   .rename_i es hg;have hbh:=bR h;clear h;obtain⟨hb,h⟩:=hbh;simp only[aL,dv,aU]at hb;cases h;have hty:=(hT t i hi).ty;rw[hb.1,hb.2]at hty;exact(Zi5 ho hty hx hg hc.1 hc.2.1).toF
   cases h
  .rename_i i l m j q hi hx;split at h
   .rename_i es inner z xs2 hg;have hbh:=bR h;clear h;obtain⟨hb,h⟩:=hbh;simp only[aL,dv,aU]at hb;cases h;have hty:=(hT t i hi).ty;rw[hb.1.1,hb.1.2]at hty;exact(Zdt ho hty hx hg hc.1 hc.2.1 hc.2.2.1 hb.2).toF
   cases h
  cases h
 .rename_i t parts ho;split at h
  .rename_i e agg by_ z kk fl l2 n2 L xs2 he hp;split at h
   .rename_i es2 out hg hf;have hbh:=bR h;clear h;obtain⟨hb,h⟩:=hbh;simp only[aL,dv,en]at hb;cases h;obtain⟨h1,h2,h3,_⟩:=hc;subst h1;exact Zi2 L hb.1.2 ho (Z6h (z:=z) hT he rfl rfl hb.1.1) hp hf hg h2 h3 (λe=>by subst e;simp at hb)
   cases h
  cases h
 .rename_i t parts ho;split at h
  .rename_i e agg by_ z kk fl L xs2 he hp;have hbh:=bR h;clear h;obtain⟨hb,h⟩:=hbh;cases h;exact Zi7 L ho (Z6h (z:=z) hT he rfl rfl hb) hp
  cases h
 .rename_i c ho;split at h
  .rename_i l m l3 m3 t tx es xs2 hce hps hat;obtain⟨x,y',hax,hx,hy⟩:=ow hps;have hceq:=gW hce hax hat;rw[hceq]at ho;split at h
   .rename_i e agg bytes z kk fl ex es0 es3 he hex hg hg3;have hbh:=bR h;clear h;obtain⟨hb,h⟩:=hbh;simp only[aL,dv,gF]at hb;cases h;obtain⟨h1,h2,h3,h4,h5,_⟩:=hc;subst h3;obtain⟨i1,hi1,hk1,_⟩:=eT hex;have hu1:=(hT _ _ hi1).k;rw[hk1]at hu1;show OpF P o tm Z [l,l3] [l,l3] (.own l (.msl (es0++es3).length)) [(l,.mat 1 0 (es0++es3))];rw[bF,h1,h2];exact Zi3 ho (Z6h (z:=z) hT he rfl rfl hb.1.1) ⟨_,hu1⟩ hx hg h1 hy hg3 h2 hb.1.2 (λe=>by subst e;simp at hb) h4 h5
   cases h
  cases h
 cases h
def mapK{hT:TOK P T}{t k e:Nat}(h:(get T t).map (·.k)=some (.map k e)):P.underlying t=some (.map k e):=Sr
def intK{hT:TOK P T}{t:Nat}{q:IntKind}(h:(get T t).map (·.k)=some (.int q)):P.underlying t=some (.int q):=Sr
def ZjJ(hT:TOK P T){x:Stm}(h:Dq P T o tm Z xs=some (ps,xs',x))(hc:aG ps):OpF P o tm Z x.s.need x.rm x.s.p x.s.news:=by
 unfold Dq at h;split at h
 .rename_i t ho;split at h
  .split at h
   .cases h;exact Zdl _ _ ho
   cases h
  cases h
 .rename_i t y z ok ho;split at h
  .rename_i k e l n ts xs2 hk hx hy;split at h
   .rename_i ag es hg hi;split at h
    .rename_i zs b xs3 hz;cases h;have:=Zdm ho (mapK (hT:=hT) hk) (intK (hT:=hT) hi) hz hx hy hg;rw[hc.1]at this;exact this
    .rename_i zs xs3 hz;cases h;have:=Zdn ho (mapK (hT:=hT) hk) (intK (hT:=hT) hi) hz hx hy hg;rw[hc.1]at this;exact this
    cases h
   cases h
  .rename_i k e l n L rows xs2 hk hx hy;split at h
   .rename_i c es hg hi hz;have hbh:=bR h;clear h;obtain⟨hb,h⟩:=hbh;simp only[aL,dv,en]at hb;cases h;have hLl:L≠l:=λe=>by subst e;simp at hb
    have:=Zc3 ho (mapK (hT:=hT) hk) (intK (hT:=hT) hi) hz hb.1 hx hy hLl hb.2.2 hg;rw[hc.1]at this;exact this
   cases h
  cases h
 .rename_i t y z v ho;split at h
  .rename_i k e l i L m es' xs2 hd hk hx hy hz;split at h
   .rename_i c n es c2 rows hg hg2 hi;have hbh:=bR h;clear h;obtain⟨hb,h⟩:=hbh;simp only[aL,dv,aU]at hb;cases h;obtain⟨h1,h2,h3,_⟩:=hc;obtain⟨rfl,hb2⟩:=hb;subst h1;have hLl:L≠l:=λe=>by subst e;simp at hb2
    have:=Zc4 ho hd (mapK (hT:=hT) hk) (intK (hT:=hT) hi) hx hy hz hLl hg hg2 h2;rw[h3]at this;exact this
   cases h
  cases h
 .rename_i c ho;split at h
  .rename_i l t n xs2 hce hps hat;obtain⟨x,hax,hx⟩:=Z9u hps;have hceq:=gW hce hax hat;rw[hceq]at ho;split at h
   .rename_i k e ag es hk hg;cases h;have:=Zdo ho (mapK (hT:=hT) hk) hx hg;rw[hc.1]at this;exact this
   cases h
  cases h
 cases h
def ZjK(hT:TOK P T){x:Stm}(h:evPr T o tm Z xs=some (ps,xs',x))(hc:aG ps):OpF P o tm Z x.s.need x.rm x.s.p x.s.news:=by
 unfold evPr at h;split at h
 .rename_i y ho;split at h
  .rename_i l m q hx;split at h
   .rename_i hg;cases h;exact(Zfw ho hx hg hc.1).toF
   cases h
  cases h
 .rename_i s y f ho;split at h
  .rename_i q0 j l m q hf hx;split at h
   .rename_i hg;have hbh:=bR h;clear h;obtain⟨hb,h⟩:=hbh;cases h;have hs:j.size≠0:=λe=>by rw[e]at hb;cases hb
    obtain⟨i0,fs,fT,hi0,hk0,hfs,hj⟩:=xv hf;exact(Zfv ho (hT.fieldInfo hi0 hk0 hfs hj) hs hx hg hc.1).toF
   cases h
  cases h
 .rename_i t y ho;split at h
  .rename_i i l m q hi hx;split at h
   .rename_i hg;split at h
    .rename_i p hp;cases h;exact(Zfx ho (hT _ _ hi).ty hx hg hc.1 hp).toF
    cases h
   cases h
  cases h
 .rename_i t y z ho;split at h
  .rename_i i l m q p hd hi hx hy;split at h
   .rename_i hg;have hbh:=bR h;clear h;obtain⟨hb,h⟩:=hbh;simp only[aL,aU,en]at hb;cases h;exact Zfy ho hd (hT _ _ hi).ty hx hy hg hc.1 hb.1.1 hb.1.2 hb.2
   cases h
  cases h
 cases h
def zN(hT:TOK P T){x:Stm}(h:uQ P T o tm Z xs=some (ps,xs',x))(hc:aG ps):OpF P o tm Z x.s.need x.rm x.s.p x.s.news:=by
 unfold uQ at h;split at h
 .rename_i he;cases h;exact(Zjw hT he hc).toF
 split at h
 .rename_i hm;cases h;exact ZjE hT hm hc
 split at h
 .rename_i hm;cases h;exact ZjH hT hm hc
 split at h
 .rename_i hm;cases h;exact ZjJ hT hm hc
 exact ZjK hT h hc
end
end Go.PW
namespace Go.PW
open Go.RowKit
abbrev Es:=Option (List Prop×List Orc×St)
def I8(m:Nat):Nat.beq m m=true:=(aU _ _).2 rfl
mutual
def iz(mt:Bool)(l:Nat)(es:List (List U)):PV->List Prop×PV
 |.t x=>([],.t x)
 |.nils=>([],.nils)
 |.osl m n=>bif !mt&&Nat.beq m l then([es.length=n],.t (.sl es))else([],.osl m n)
 |.bptr m o=>([],.bptr m o)
 |.rptr m n i o=>([],.rptr m n i o)
 |.vptr cs=>([],.vptr cs)
 |.agg cs=>((fN mt l es cs).1,.agg (fN mt l es cs).2)
 |.tup cs=>((fN mt l es cs).1,.tup (fN mt l es cs).2)
 |.fn f cs=>((fN mt l es cs).1,.fn f (fN mt l es cs).2)
 |.own m (.msl n)=>bif mt&&Nat.beq m l then([es.length=n],.t (.sl es))else([],.own m (.msl n))
 |.own m d=>([],.own m d)
def fN(mt:Bool)(l:Nat)(es:List (List U)):List PV->List Prop×List PV
 |[]=>([],[])
 |c::cs=>((iz mt l es c).1++(fN mt l es cs).1,(iz mt l es c).2::(fN mt l es cs).2)
end
def jJ(mt:Bool)(l:Nat)(es:List (List U)):List (Nat×PV)->List Prop×List (Nat×PV)
 |[]=>([],[])
 |(i,p)::r=>((iz mt l es p).1++(jJ mt l es r).1,(i,(iz mt l es p).2)::(jJ mt l es r).2)
def eG(mt:Bool)(l:Nat)(es:List (List U)):List (Nat×Blk)->List Prop×List (Nat×Blk)
 |[]=>([],[])
 |(m,b)::r=>
  bif Nat.beq m l then eG mt l es r else
  match b with
  |.row k es'=>((eG mt l es r).1,(m,.row k es')::(eG mt l es r).2)
  |.mat k q es'=>((eG mt l es r).1,(m,.mat k q es')::(eG mt l es r).2)
  |.map ag es'=>((eG mt l es r).1,(m,.map ag es')::(eG mt l es r).2)
  |.prow k i es' cs=>((fN mt l es cs).1++(eG mt l es r).1,(m,.prow k i es' (fN mt l es cs).2)::(eG mt l es r).2)
  |.box cs=>((fN mt l es cs).1++(eG mt l es r).1,(m,.box (fN mt l es cs).2)::(eG mt l es r).2)
mutual
def I9{Z Z':List (Nat×Blk)}{mt:Bool}{l k q0:Nat}{es:List (List U)}(hg:get Z l=some (bif mt then .mat k q0 es else .row k es))(h0:get Z' l=none):∀(p:PV),aG (iz mt l es p).1->Frz Z Z' p (iz mt l es p).2
 |.t _,_=>qj
 |.nils,_=>qj
 |.osl m n,h=>by
  simp only[iz]at h⊢;cases hb : !mt&&Nat.beq m l with
  |true=>
   simp only[aL,dv,aU]at hb;obtain⟨rfl,rfl⟩:=hb;simp only[I8,fF,fE,av]at h⊢;simp only[Frz];exact .inr ⟨k,es,hg,h.1,h0,rfl⟩
  |false=>simp only[au,Frz];exact .inl trivial
 |.bptr _ _,_=>qj
 |.rptr _ _ _ _,_=>qj
 |.vptr _,_=>qj
 |.agg cs,h=>zF
 |.tup cs,h=>zF
 |.fn _ cs,h=>zF
 |.own m (.msl n),h=>by
  simp only[iz]at h⊢;cases hb:mt&&Nat.beq m l with
  |true=>
   simp only[aL,aU]at hb;obtain⟨rfl,rfl⟩:=hb;simp only[I8,fE,av]at h⊢;simp only[Frz];exact .inr ⟨n,k,q0,es,rfl,hg,h.1,h0,rfl⟩
  |false=>simp only[au,Frz];exact .inl trivial
 |.own m (.tail _ _),_=>lF
 |.own m (.mpt _ _ _),_=>lF
 |.own m (.mrow _ _),_=>lF
 |.own m (.mel _ _ _),_=>lF
 |.own m .map,_=>lF
 |.own m (.pw _),_=>lF
 |.own m (.pp _ _),_=>lF
def Z0w{Z Z':List (Nat×Blk)}{mt:Bool}{l k q0:Nat}{es:List (List U)}(hg:get Z l=some (bif mt then .mat k q0 es else .row k es))(h0:get Z' l=none):∀(cs:List PV),aG (fN mt l es cs).1->aX Z Z' cs (fN mt l es cs).2
 |[],_=>by simp[fN,aX]
 |c::cs,h=>by simp only[fN,aX]at h⊢;obtain⟨h1,h2⟩:=bM.1 h;exact⟨_,_,rfl,I9 hg h0 c h1,Z0w hg h0 cs h2⟩
end
def zG{Z Z':List (Nat×Blk)}{mt:Bool}{l k q0:Nat}{es:List (List U)}(hg:get Z l=some (bif mt then .mat k q0 es else .row k es))(h0:get Z' l=none):∀(tm:List (Nat×PV)),aG (jJ mt l es tm).1->∀i q,get (jJ mt l es tm).2 i=some q->∃p,get tm i=some p/\Frz Z Z' p q
 |[],_,i,q,hq=>by cases hq
 |(j,p)::r,h,i,q,hq=>by
  simp only[jJ]at h hq;obtain⟨h1,h2⟩:=bM.1 h;simp only[PW.get]at hq⊢;cases hb:Nat.beq j i with
  |true=>simp only[hb,av,aq]at hq⊢;subst hq;exact⟨p,rfl,I9 hg h0 p h1⟩
  |false=>simp only[hb,au]at hq⊢;exact zG hg h0 r h2 i q hq
def qk{mt:Bool}{l:Nat}{es:List (List U)}:∀(Z:List (Nat×Blk)),get (eG mt l es Z).2 l=none
 |[]=>rfl
 |(m,b)::r=>by
  simp only[eG];cases hb:Nat.beq m l with
  |true=>simp only[av];exact qk r
  |false=>
   simp only[au];cases b<;>simp only[PW.get,hb,au]<;>exact qk r
def ku{σ0 σ0':List (Nat×Blk)}{mt:Bool}{l k q0:Nat}{es:List (List U)}(hg:get σ0 l=some (bif mt then .mat k q0 es else .row k es))(h0:get σ0' l=none):∀(Z:List (Nat×Blk)),aG (eG mt l es Z).1->∀m o',get (eG mt l es Z).2 m=some o'->∃o,get Z m=some o/\cb σ0 σ0' o o'
 |[],_,m,o',ho=>by cases ho
 |(j,b)::r,h,m,o',ho=>by
  simp only[eG]at h ho;cases hb:Nat.beq j l with
  |true=>
   simp only[hb,av]at h ho;have:j=l:=(aU _ _).1 hb;subst this;have hjm:j≠m:=λe=>by subst e;rw[qk]at ho;cases ho
   simp only[PW.get,ed hjm,au];exact ku hg h0 r h m o' ho
  |false=>
   simp only[hb,au]at h ho;cases b with
   |row k' es'=>
    simp only[PW.get]at ho⊢;cases hm:Nat.beq j m with
    |true=>simp only[hm,av,aq]at ho⊢;subst ho;exact⟨_,rfl,rfl⟩
    |false=>simp only[hm,au]at ho⊢;exact ku hg h0 r h m o' ho
   |mat k' q' es'=>
    simp only[PW.get]at ho⊢;cases hm:Nat.beq j m with
    |true=>simp only[hm,av,aq]at ho⊢;subst ho;exact⟨_,rfl,rfl⟩
    |false=>simp only[hm,au]at ho⊢;exact ku hg h0 r h m o' ho
   |map k' es'=>
    simp only[PW.get]at ho⊢;cases hm:Nat.beq j m with
    |true=>simp only[hm,av,aq]at ho⊢;subst ho;exact⟨_,rfl,rfl⟩
    |false=>simp only[hm,au]at ho⊢;exact ku hg h0 r h m o' ho
   |prow k' i' es' cs=>
    obtain⟨h1,h2⟩:=bM.1 h;simp only[PW.get]at ho⊢;cases hm:Nat.beq j m with
    |true=>simp only[hm,av,aq]at ho⊢;subst ho;exact⟨_,rfl,_,rfl,Z0w hg h0 cs h1⟩
    |false=>simp only[hm,au]at ho⊢;exact ku hg h0 r h2 m o' ho
   |box cs=>
    obtain⟨h1,h2⟩:=bM.1 h;simp only[PW.get]at ho⊢;cases hm:Nat.beq j m with
    |true=>simp only[hm,av,aq]at ho⊢;subst ho;exact⟨_,rfl,_,rfl,Z0w hg h0 cs h1⟩
    |false=>simp only[hm,au]at ho⊢;exact ku hg h0 r h2 m o' ho
mutual
def vbx(l:Nat)(ts:List U):PV->PV
 |.bptr m o=>bif Nat.beq m l then .vptr (ts.drop o)else .bptr m o
 |.agg cs =>.agg (vbxs l ts cs)
 |.tup cs =>.tup (vbxs l ts cs)
 |.fn f cs =>.fn f (vbxs l ts cs)
 |.t x =>.t x
 |.nils =>.nils
 |.osl m n =>.osl m n
 |.rptr m n i o =>.rptr m n i o
 |.vptr cs =>.vptr cs
 |.own m d =>.own m d
def vbxs(l:Nat)(ts:List U):List PV->List PV
 |[]=>[]
 |c::cs=>vbx l ts c::vbxs l ts cs
end
def uJ(l:Nat)(ts:List U):List (Nat×PV)->List (Nat×PV)
 |[]=>[]
 |(i,p)::r=>(i,vbx l ts p)::uJ l ts r
def vbxσ(l:Nat)(ts:List U):List (Nat×Blk)->List (Nat×Blk)
 |[]=>[]
 |(m,b)::r=>
  bif Nat.beq m l then vbxσ l ts r else
  match b with
  |.box cs=>(m,.box (vbxs l ts cs))::vbxσ l ts r
  |.prow k i es cs=>(m,.prow k i es (vbxs l ts cs))::vbxσ l ts r
  |b=>(m,b)::vbxσ l ts r
mutual
def Ja{Z Z':List (Nat×Blk)}{l:Nat}{ts:List U}(hg:get Z l=some (.box (ts.map .t)))(h0:get Z' l=none):∀(p:PV),Frz Z Z' p (vbx l ts p)
 |.t _=>ql
 |.nils=>ql
 |.osl _ _=>ql
 |.bptr m o=>by
  simp only[vbx];cases hb:Nat.beq m l with
  |true=>have:m=l:=(aU _ _).1 hb;subst this;simp only[av,Frz];exact .inr ⟨ts,hg,h0,rfl⟩
  |false=>simp only[au,Frz];exact .inl trivial
 |.rptr _ _ _ _=>ql
 |.vptr _=>ql
 |.agg cs=>zH
 |.tup cs=>zH
 |.fn _ cs=>zH
 |.own _ _=>by simp only[vbx,Frz];exact .inl trivial
def Z6v{Z Z':List (Nat×Blk)}{l:Nat}{ts:List U}(hg:get Z l=some (.box (ts.map .t)))(h0:get Z' l=none):∀(cs:List PV),aX Z Z' cs (vbxs l ts cs)
 |[]=>by simp[vbxs,aX]
 |c::cs=>by simp only[vbxs,aX];exact⟨_,_,rfl,Ja hg h0 c,Z6v hg h0 cs⟩
end
def Jb{Z Z':List (Nat×Blk)}{l:Nat}{ts:List U}(hg:get Z l=some (.box (ts.map .t)))(h0:get Z' l=none):∀(tm:List (Nat×PV)) (i:Nat) (q:PV),get (uJ l ts tm) i=some q->∃p,get tm i=some p/\Frz Z Z' p q
 |[],i,q,hq=>by cases hq
 |(j,p)::r,i,q,hq=>by
  simp only[uJ,PW.get]at hq⊢;cases hb:Nat.beq j i with
  |true=>simp only[hb,av,aq]at hq⊢;subst hq;exact⟨p,rfl,Ja hg h0 p⟩
  |false=>simp only[hb,au]at hq⊢;exact Jb hg h0 r i q hq
def Z9v{l:Nat}{ts:List U}:∀(Z:List (Nat×Blk)),get (vbxσ l ts Z) l=none
 |[]=>rfl
 |(m,b)::r=>by
  simp only[vbxσ];cases hb:Nat.beq m l with
  |true=>simp only[av];exact Z9v r
  |false=>
   simp only[au];cases b<;>simp only[PW.get,hb,au]<;>exact Z9v r
def zI{σ0 σ0':List (Nat×Blk)}{l:Nat}{ts:List U}(hg:get σ0 l=some (.box (ts.map .t)))(h0:get σ0' l=none):∀(Z:List (Nat×Blk)) (m:Nat) (o':Blk),get (vbxσ l ts Z) m=some o'->∃o,get Z m=some o/\cb σ0 σ0' o o'
 |[],m,o',ho=>by cases ho
 |(j,b)::r,m,o',ho=>by
  simp only[vbxσ]at ho;cases hb:Nat.beq j l with
  |true=>
   simp only[hb,av]at ho;have:j=l:=(aU _ _).1 hb;subst this;have hjm:j≠m:=λe=>by subst e;rw[Z9v]at ho;cases ho
   simp only[PW.get,ed hjm,au];exact zI hg h0 r m o' ho
  |false=>
   simp only[hb,au]at ho;simp only[PW.get];cases hm:Nat.beq j m with
   |true=>
    cases b with
    |box cs=>simp only[PW.get,hm,av,aq]at ho⊢;subst ho;exact⟨_,rfl,_,rfl,Z6v hg h0 cs⟩
    |row k es=>simp only[PW.get,hm,av,aq]at ho⊢;subst ho;exact⟨_,rfl,rfl⟩
    |mat k q es=>simp only[PW.get,hm,av,aq]at ho⊢;subst ho;exact⟨_,rfl,rfl⟩
    |map ag es=>simp only[PW.get,hm,av,aq]at ho⊢;subst ho;exact⟨_,rfl,rfl⟩
    |prow k i es cs=>simp only[PW.get,hm,av,aq]at ho⊢;subst ho;exact⟨_,rfl,_,rfl,Z6v hg h0 cs⟩
   |false=>
    simp only[au];refine zI hg h0 r m o' ?_;cases b<;>simpa only[PW.get,hm,au]using ho
def gb{α:Type}(l:List (Nat×α)):List Nat->Option (List (Nat×α))
 |[]=>some []
 |k::ks=>
  match get l k,gb l ks with
  |some x,some r=>some ((k,x)::r)
  |_,_=>none
def iZ{α:Type}{l:List (Nat×α)}:∀{ks:List Nat} {r:List (Nat×α)},gb l ks=some r->∀i x,get r i=some x->get l i=some x
 |[],r,h,i,x,hx=>by simp only[gb,aq]at h;subst h;cases hx
 |k::ks,r,h,i,x,hx=>by
  simp only[gb]at h;split at h
  .rename_i y r' hy hr;cases h;simp only[PW.get]at hx;cases hb:Nat.beq k i with
   |true=>have:k=i:=(aU _ _).1 hb;subst this;simp only[hb,av,aq]at hx;subst hx;exact hy
   |false=>simp only[hb,au]at hx;exact iZ hr i x hx
  cases h
def iA(l:Nat)(tm:List (Nat×PV))(Z:List (Nat×Blk)):Bool:=(tm.all λq => !q.2.has l)&&Z.all λq => !Nat.beq q.1 l && !q.2.has l
def Z2l{l:Nat}{tm:List (Nat×PV)}{Z:List (Nat×Blk)}(h:iA l tm Z=true):(∀i q,get tm i=some q->q.has l=false)/\(∀m y,get Z m=some y->m≠l/\y.has l=false):=by
 simp only[iA,aL,bU]at h;refine⟨λi q hq=>?_,λm y hy=>?_⟩
 .have:=h.1 _ (ew hq);simpa using this
 have:=h.2 _ (ew hy);simp only[dv]at this;exact⟨λe=>by subst e;have:=this.1;simp at this,this.2⟩
def dN(l n:Nat):List (Nat×PV)->List Prop×List (Nat×PV)
 |[]=>([],[])
 |(i,p)::r=>
  match p with
  |.osl m k=>bif Nat.beq m l then((k=n)::(dN l n r).1,(i,.osl m n)::(dN l n r).2)else((dN l n r).1,(i,.osl m k)::(dN l n r).2)
  |.rptr m k j o=>bif Nat.beq m l then((k=n)::(dN l n r).1,(i,.rptr m n j o)::(dN l n r).2)else((dN l n r).1,(i,.rptr m k j o)::(dN l n r).2)
  |.own m (.msl k)=>bif Nat.beq m l then((k=n)::(dN l n r).1,(i,.own m (.msl n))::(dN l n r).2)else((dN l n r).1,(i,.own m (.msl k))::(dN l n r).2)
  |p=>((dN l n r).1,(i,p)::(dN l n r).2)
def ja{l n:Nat}:∀(tm:List (Nat×PV)),aG (dN l n tm).1->(dN l n tm).2=tm
 |[],_=>rfl
 |(i,p)::r,h=>by
  cases p
  case osl m k=>
   simp only[dN]at h⊢;cases hb:Nat.beq m l with
   |true=>
    simp only[hb,av]at h⊢;obtain⟨h1,h2⟩:=h;subst h1;rw[ja r h2]
   |false=>
    simp only[hb,au]at h⊢;rw[ja r h]
  case rptr m k j o=>
   simp only[dN]at h⊢;cases hb:Nat.beq m l with
   |true=>
    simp only[hb,av]at h⊢;obtain⟨h1,h2⟩:=h;subst h1;rw[ja r h2]
   |false=>
    simp only[hb,au]at h⊢;rw[ja r h]
  case own m d=>
   cases d
   case msl k=>
    simp only[dN]at h⊢;cases hb:Nat.beq m l with
    |true=>
     simp only[hb,av]at h⊢;obtain⟨h1,h2⟩:=h;subst h1;rw[ja r h2]
    |false=>
     simp only[hb,au]at h⊢;rw[ja r h]
   all_goals
    simp only[dN]at h⊢;rw[ja r h]
  all_goals
   simp only[dN]at h⊢;rw[ja r h]
def eH(l n:Nat):List PV->List Prop×List PV
 |[]=>([],[])
 |.osl m k::r=>bif Nat.beq m l then((k=n)::(eH l n r).1,.osl m n::(eH l n r).2)else((eH l n r).1,.osl m k::(eH l n r).2)
 |.own m (.msl k)::r=>bif Nat.beq m l then((k=n)::(eH l n r).1,.own m (.msl n)::(eH l n r).2)else((eH l n r).1,.own m (.msl k)::(eH l n r).2)
 |p::r=>((eH l n r).1,p::(eH l n r).2)
def kv{l n:Nat}:∀(cs:List PV),aG (eH l n cs).1->(eH l n cs).2=cs
 |[],_=>rfl
 |p::r,h=>by
  cases p
  case osl m k=>
   simp only[eH]at h⊢;cases hb:Nat.beq m l with
   |true=>
    simp only[hb,av]at h⊢;obtain⟨h1,h2⟩:=h;subst h1;rw[kv r h2]
   |false=>
    simp only[hb,au]at h⊢;rw[kv r h]
  case own m d=>
   cases d
   case msl k=>
    simp only[eH]at h⊢;cases hb:Nat.beq m l with
    |true=>
     simp only[hb,av]at h⊢;obtain⟨h1,h2⟩:=h;subst h1;rw[kv r h2]
    |false=>
     simp only[hb,au]at h⊢;rw[kv r h]
   all_goals (simp only[eH]at h⊢;rw[kv r h])
  all_goals
   simp only[eH]at h⊢;rw[kv r h]
def eA(l n:Nat):List (Nat×Blk)->List Prop×List (Nat×Blk)
 |[]=>([],[])
 |(m,.box cs)::r=>((eH l n cs).1++(eA l n r).1,(m,.box (eH l n cs).2)::(eA l n r).2)
 |(m,.row k es)::r=>((eA l n r).1,(m,.row k es)::(eA l n r).2)
 |(m,.mat k q es)::r=>((eA l n r).1,(m,.mat k q es)::(eA l n r).2)
 |(m,.map ag es)::r=>((eA l n r).1,(m,.map ag es)::(eA l n r).2)
 |(m,.prow k i es cs)::r=>((eH l n cs).1++(eA l n r).1,(m,.prow k i es (eH l n cs).2)::(eA l n r).2)
def lG{l n:Nat}:∀(Z:List (Nat×Blk)),aG (eA l n Z).1->(eA l n Z).2=Z
 |[],_=>rfl
 |(m,b)::r,h=>by
  cases b with
  |box cs=>
   simp only[eA]at h⊢;obtain⟨h1,h2⟩:=bM.1 h;rw[kv cs h1,lG r h2]
  |row k es=>
   simp only[eA]at h⊢;rw[lG r h]
  |mat k q es=>
   simp only[eA]at h⊢;rw[lG r h]
  |map ag es=>
   simp only[eA]at h⊢;rw[lG r h]
  |prow k i es cs=>
   simp only[eA]at h⊢;obtain⟨h1,h2⟩:=bM.1 h;rw[kv cs h1,lG r h2]
def uK{G:Frm}{β:Nat->Option Nat}{n:Nat}{tm tm':List (Nat×PV)}{Z Z':List (Nat×Blk)}{a:Act}{w:World}(h:aE G β ⟨n,tm,Z⟩ a w)
 (hσ:∀l o',get Z' l=some o'->∃o,get Z l=some o/\(o'=o\/∃cs cs',o = .box cs/\o' = .box cs'/\cs'.length=cs.length/\cs'.all PV.one=true/\∀vs,VRs (ctx G β w Z) cs vs->VRs (ctx G β w Z) cs' vs))
 (ht:∀i q,get tm' i=some q->∃p,get tm i=some p/\∀v,VR (ctx G β w Z) p v->VR (ctx G β w Z) q v):aE G β ⟨n,tm',Z'⟩ a w:=by
 have hO:∀l o' o,(o'=o\/∃cs cs',o = .box cs/\o' = .box cs'/\cs'.length=cs.length/\cs'.all PV.one=true/\∀vs,VRs (ctx G β w Z) cs vs->VRs (ctx G β w Z) cs' vs)->∀b,aA β w l o' b->aA β w l o b:=λl o' o hr b ho=>by
  rcases hr with rfl|⟨cs,cs',rfl,rfl,_⟩
  .exact ho
  exact .inl (aA.flat (o :=.box cs') trivial ho)
 have hI:∀b,(ctx G β w Z).I b->(ctx G β w Z').I b/\(ctx G β w Z').w.heap[b]?=(ctx G β w Z).w.heap[b]?:=λb hb=>⟨⟨hb.1,hb.2.1,λl o hl ho=>by obtain⟨o2,ho2,hr2⟩:=hσ l o hl;exact hb.2.2 l o2 ho2 (hO l o o2 hr2 b ho)⟩,rfl⟩;have hL:∀l,aV (ctx G β w Z) (ctx G β w Z') l:=λl=>by
  refine⟨λk es' hg=>?_,λcs' hg=>?_,λk q es' hg=>?_,λk es' hg=>?_,λk i es' cs' hg=>?_⟩
  .obtain⟨o,ho,h1⟩:=hσ l _ hg;rcases h1 with rfl|⟨cs,cs',_,h2,_⟩
   .exact⟨es',ho,aW _,λ_=>⟨rfl,λ_ _ _ h=>h⟩⟩
   cases h2
  .obtain⟨o,ho,h1⟩:=hσ l _ hg;rcases h1 with rfl|⟨cs,cs',rfl,h2,_⟩
   .exact⟨cs',ho,rfl⟩
   exact⟨cs,ho,rfl⟩
  .obtain⟨o,ho,h1⟩:=hσ l _ hg;rcases h1 with rfl|⟨cs,cs',_,h2,_⟩
   .exact⟨es',ho,aW _,λ_=>⟨rfl,λ_ _=>⟨λ_ h=>h,λ_ _=>rfl⟩⟩⟩
   cases h2
  .obtain⟨o,ho,h1⟩:=hσ l _ hg;rcases h1 with rfl|⟨cs,cs',_,h2,_⟩
   .exact⟨_,es',ho,rfl⟩
   cases h2
  obtain⟨o,ho,h1⟩:=hσ l _ hg;rcases h1 with rfl|⟨cs,cs'',_,h2,_⟩
  .exact⟨es',cs',ho,rfl,rfl,λ_ _ _ h=>h⟩
  cases h2
 exact { defers:=h.defers,sz:=h.sz,base:=h.base,os:=h.os,tape:=h.tape,output:=h.output,old:=h.old,A:=h.A,gl:=h.gl,
         inj:=λl l' o o' b hl hl' hb hb'=>by obtain⟨o1,h1,r1⟩:=hσ l o hl;obtain⟨o2,h2,r2⟩:=hσ l' o' hl';exact h.inj l l' o1 o2 b h1 h2 (hO l o o1 r1 b hb) (hO l' o' o2 r2 b hb'),
         sep:=λl o b hl hb=>by obtain⟨o1,h1,r1⟩:=hσ l o hl;exact h.sep l o1 b h1 (hO l o o1 r1 b hb),
         fix:=λl cs h1 hl=>by
          obtain⟨o,ho,h2⟩:=hσ l _ hl;rcases h2 with rfl|⟨cs0,cs',rfl,_⟩
          .exact h.fix l cs h1 ho
          exact h.fix l cs0 h1 ho,
         row0:=h.row0.step (λm _=>hL m),
         blk:=λl o' hl=>by
          obtain⟨o,ho,h2⟩:=hσ l o' hl;have hb:=h.blk l o ho;rcases h2 with rfl|⟨cs,cs',rfl,rfl,h3,h4,h5⟩
          .exact BR.step hI rfl (λ_ _=>rfl) (λm _=>hL m) hb
          obtain⟨b,vs,f1,f2,f3,f4,f5⟩:=hb;exact⟨b,vs,f1,by rw[h3];exact f2,f3,VRs.step hI _ _ (λm _=>hL m) (h5 vs f4),h4⟩,
         tm:=λi q hq=>by obtain⟨p,hp,hf⟩:=ht i q hq;exact⟨(h.tm i p hp).1,VR.step hI q _ (λm _=>hL m) (hf _ (h.tm i p hp).2)⟩ }
def VRs.set{c:Ctx}{p q:PV}:∀{cs:List PV} {vs:List Value} {j:Nat},cs[j]?=some p->(∀v,VR c p v->VR c q v)->VRs c cs vs->VRs c (cs.set j q) vs
 |[],vs,j,h,_,_=>jb
 |x::cs,vs,0,h,hq,hv=>by simp only[js,aq]at h;subst h;simp only[List.set_cons_zero,VRs]at hv⊢;obtain⟨v,rest,rfl,hv,hr⟩:=hv;exact⟨v,rest,rfl,hq v hv,hr⟩
 |x::cs,vs,j+1,h,hq,hv=>by simp only[uL,VRs]at hv⊢;obtain⟨v,rest,rfl,hv,hr⟩:=hv;exact⟨v,rest,rfl,hv,VRs.set iS hq hr⟩
def Jc{q:PV}(hq:q.one=true):∀{cs:List PV} {j:Nat},cs.all PV.one=true->(cs.set j q).all PV.one=true
 |[],_,h=>h
 |x::cs,0,h=>by simp only[List.set_cons_zero,jr,aL]at h⊢;exact⟨hq,h.2⟩
 |x::cs,j+1,h=>by simp only[uL,jr,aL]at h⊢;exact⟨h.1,Jc hq h.2⟩
def VR.nilt{c:Ctx}(v:Value)(h:VR c .nils v):VR c (.t (.sl [])) v:=by simp only[VR]at h⊢;obtain⟨a,rfl⟩:=h;simp only[Z9];exact⟨a,0,rfl,by simp,by simp[maxLen],.inl trivial⟩
def VR.nilOwn{c:Ctx}{l k:Nat}(hg:get c.Z l=some (.row k []))(hb:c.β l=none)(v:Value)(h:VR c .nils v):VR c (.osl l 0) v:=by simp only[VR]at h⊢;obtain⟨a,rfl⟩:=h;refine⟨λk' es' hg'=>?_,a,0,0,rfl⟩;rw[hg]at hg';cases hg';exact⟨aW _,λ_=>⟨a,0,rfl,aW _,by simp[maxLen],.inl ⟨rfl,hb⟩⟩⟩
def Jd{G:Frm}{β:Nat->Option Nat}{w:World}{tm:List (Nat×PV)}{Z:List (Nat×Blk)}{t:Nat}{p q:PV}(hg:get tm t=some p)(hq:∀v,VR (ctx G β w Z) p v->VR (ctx G β w Z) q v) :
 ∀i r,get (put tm t q) i=some r->∃p,get tm i=some p/\∀v,VR (ctx G β w Z) p v->VR (ctx G β w Z) r v:=λi r hr=>by
 by_cases hi:t=i
 .subst hi;rw[fO]at hr;cases hr;exact⟨p,hg,hq⟩
 rw[gd _ _ hi]at hr;exact⟨r,hr,λ_ h=>h⟩
def Je{G:Frm}{β:Nat->Option Nat}{w:World}{Z:List (Nat×Blk)}{b j:Nat}{cs:List PV}{p q:PV}(hg:get Z b=some (.box cs))(hj:cs[j]?=some p)(h1:cs.all PV.one=true)(h2:q.one=true)(hq:∀v,VR (ctx G β w Z) p v->VR (ctx G β w Z) q v) :
 ∀l o',get (put Z b (.box (cs.set j q))) l=some o'->∃o,get Z l=some o/\(o'=o\/∃cs cs',o = .box cs/\o' = .box cs'/\cs'.length=cs.length/\cs'.all PV.one=true/\∀vs,VRs (ctx G β w Z) cs vs->VRs (ctx G β w Z) cs' vs):=λl o' ho=>by
 by_cases hi:b=l
 .subst hi;rw[fO]at ho;cases ho;exact⟨_,hg,.inr ⟨cs,_,rfl,rfl,by simp,Jc h2 h1,λvs hv=>VRs.set hj hq hv⟩⟩
 rw[gd _ _ hi]at ho;exact⟨o',ho,.inl rfl⟩
def f1(l m:Nat)(j:Nat):Nat:=bif Nat.beq j l then m else j
def qm(f:Nat->Nat):List (Nat×PV)->List (Nat×PV)
 |[]=>[]
 |(i,p)::r=>(i,p.ren f)::qm f r
def Jf(f:Nat->Nat):∀tm:List (Nat×PV),qm f tm=tm.map λx=>(x.1,x.2.ren f)
 |[]=>rfl
 |(i,p)::r=>by simp only[qm,cw,Jf f r]
def Wk.relab{st:St}{l m:Nat}(hm:1000<=m)(hf:iA m st.tm st.Z=true):Wk st ⟨st.n,qm (f1 l m) st.tm,bY (f1 l m) st.Z⟩:=by rintro G a w ⟨β,h⟩;obtain⟨g1,g2⟩:=Z2l hf;rw[Jf];exact ZP (n:=st.n) (tm:=st.tm) (Z:=st.Z) h l m hm g1 g2
def Wk.slot{st:St}{t:Nat}{p q:PV}(hg:get st.tm t=some p)(hq:∀c v,VR c p v->VR c q v):Wk st ⟨st.n,put st.tm t q,st.Z⟩:=λ_ _ _ ⟨β,h⟩=>⟨β,uK (n:=st.n) (tm:=st.tm) (Z:=st.Z) h (λ_ o ho=>⟨o,ho,.inl rfl⟩) (Jd hg (hq _))⟩
def Jg{G:Frm}{st:St}{β:Nat->Option Nat}{a:Act}{w:World}(h:aE G β st a w){b:Nat}{cs:List PV}(hg:get st.Z b=some (.box cs)):cs.all PV.one=true:=by obtain⟨_,_,_,_,_,_,h⟩:=h.blk b _ hg;exact h
def Wk.cell{st:St}{b j:Nat}{cs:List PV}{p q:PV}(hg:get st.Z b=some (.box cs))(hj:cs[j]?=some p)(h2:q.one=true)(hq:∀c v,VR c p v->VR c q v):Wk st ⟨st.n,st.tm,put st.Z b (.box (cs.set j q))⟩:=λ_ _ _ ⟨β,h⟩=>⟨β,uK (n:=st.n) (tm:=st.tm) (Z:=st.Z) h (Je hg hj (Jg h hg) h2 (hq _)) (λ_ q hq=>⟨q,hq,λ_ h=>h⟩)⟩
def Wk.ownc{st:St}{t j l k:Nat}{cs:List PV}(hg:get st.tm t=some (.agg cs))(hj:cs[j]?=some .nils)(hk:0<k)(hl:1000<=l)(hf:iA l st.tm st.Z=true):Wk st ⟨st.n,put st.tm t (.agg (cs.set j (.osl l 0))),(l,.row k [])::st.Z⟩:=by rintro G a w ⟨β,h⟩;obtain⟨g1,g2⟩:=Z2l hf;have h':=uM (n:=st.n) (tm:=st.tm) (Z:=st.Z) h l k hk hl g1 g2;refine⟨ft β l,uK h' (λ_ o ho=>⟨o,ho,.inl rfl⟩) (Jd hg λv hv=>?_)⟩;simp only[VR]at hv⊢;obtain⟨vs,hv,hs⟩:=hv;exact⟨vs,hv,VRs.set hj (VR.nilOwn (l:=l) (k:=k) gO (by simp[ctx,ft])) hs⟩
def Wk.ownb{st:St}{b j l k:Nat}{cs:List PV}(hg:get st.Z b=some (.box cs))(hj:cs[j]?=some .nils)(hk:0<k)(hl:1000<=l)(hf:iA l st.tm st.Z=true):Wk st ⟨st.n,st.tm,put ((l,.row k [])::st.Z) b (.box (cs.set j (.osl l 0)))⟩:=by rintro G a w ⟨β,h⟩;obtain⟨g1,g2⟩:=Z2l hf;have h':=uM (n:=st.n) (tm:=st.tm) (Z:=st.Z) h l k hk hl g1 g2;have hbl:b≠l:=(g2 b _ hg).1;exact⟨ft β l,uK h' (Je (by simp only[PW.get,ed (de hbl),au];exact hg) hj (Jg h hg) rfl (VR.nilOwn (l:=l) (k:=k) gO (by simp[ctx,ft]))) (λ_ q hq=>⟨q,hq,λ_ h=>h⟩)⟩
def cz:List Orc->St->Es
 |.frz l::xs,st=>
  match get st.Z l with
  |some (.row _ es)=>
   match cz xs ⟨st.n,(jJ false l es st.tm).2,(eG false l es st.Z).2⟩ with
   |some (ps,xs',st')=>some ((jJ false l es st.tm).1++((eG false l es st.Z).1++ps),xs',st')
   |none=>none
  |some (.mat _ _ es)=>
   match cz xs ⟨st.n,(jJ true l es st.tm).2,(eG true l es st.Z).2⟩ with
   |some (ps,xs',st')=>some ((jJ true l es st.tm).1++((eG true l es st.Z).1++ps),xs',st')
   |none=>none
  |some (.box cs)=>match iP cs with|some ts=>cz xs ⟨st.n,uJ l ts st.tm,vbxσ l ts st.Z⟩|none=>none
  |_=>none
 |.relen l::xs,st=>
  match get st.Z l with
  |some (.row _ es)=>
   match cz xs ⟨st.n,(dN l es.length st.tm).2,(eA l es.length st.Z).2⟩ with
   |some (ps,xs',st')=>some ((dN l es.length st.tm).1++((eA l es.length st.Z).1++ps),xs',st')
   |none=>none
  |some (.mat _ _ es)=>
   match cz xs ⟨st.n,(dN l es.length st.tm).2,(eA l es.length st.Z).2⟩ with
   |some (ps,xs',st')=>some ((dN l es.length st.tm).1++((eA l es.length st.Z).1++ps),xs',st')
   |none=>none
  |_=>none
 |.opn l i e::xs,st=>
  match get st.Z l with
  |some (.row k es)=>
   bif Nat.ble 1000 l then
    match Z6g (opnV l i) st.tm,mapσ l (.prow k i es (e.map .t)) (opnV l i) st.Z with
    |some (q1,tm),some (q2,Z)=>
     match cz xs ⟨st.n,tm,Z⟩ with
     |some (ps,xs',st')=>some ((es[i]?=some e)::(q1++(q2++ps)),xs',st')
     |none=>none
    |_,_=>none
   else none
  |_=>none
 |.cls l es'::xs,st=>
  match get st.Z l with
  |some (.prow k i es cs)=>
   match iP cs with
   |some ts=>
    bif Nat.ble 1000 l then
     match Z6g (clsV l i es.length) st.tm,mapσ l (.row k es') (clsV l i es.length) st.Z with
     |some (q1,tm),some (q2,Z)=>
      match cz xs ⟨st.n,tm,Z⟩ with
      |some (ps,xs',st')=>some ((es.set i ts=es')::(q1++(q2++ps)),xs',st')
      |none=>none
     |_,_=>none
    else none
   |none=>none
  |_=>none
 |.tomr l k::xs,st=>
  match get st.Z l with
  |some (.map (.v _) [])=>bif Nat.blt 0 k then cz xs ⟨st.n,st.tm,(l,.map (.rows k none) [])::bb [l] st.Z⟩ else none
  |_=>none
 |.frzm l::xs,st=>
  match get st.Z l with
  |some (.map (.rows _ none) es)=>cz xs ⟨st.n,st.tm,(l,.map (.v false) es)::bb [l] st.Z⟩
  |_=>none
 |.tomat l::xs,st=>
  match get st.Z l with
  |some (.row 1 es)=>
   bif (st.Z.all λq => !q.2.has l)&&Z6f st.tm then
    match cz xs ⟨st.n,toM l st.tm,put st.Z l (.mat 1 0 es)⟩ with
    |some (ps,xs',st')=>some ((∀e,e∈es->e=[U.sl []])::ps,xs',st')
    |none=>none
   else none
  |_=>none
 |.pick ks ls::xs,st=>
  match gb st.tm ks,gb st.Z ls with
  |some tm,some Z=>cz xs ⟨st.n,tm,Z⟩
  |_,_=>none
 |.own t l k::xs,st=>
  match get st.tm t with
  |some .nils=>bif Nat.blt 0 k&&Nat.ble 1000 l&&iA l st.tm st.Z&&Nat.blt t st.n then cz xs ⟨st.n,put st.tm t (.osl l 0),(l,.row k [])::st.Z⟩ else none
  |_=>none
 |.relab l m::xs,st=>bif Nat.ble 1000 m&&iA m st.tm st.Z then cz xs ⟨st.n,qm (f1 l m) st.tm,bY (f1 l m) st.Z⟩ else none
 |.nilt t::xs,st=>match get st.tm t with|some .nils=>cz xs ⟨st.n,put st.tm t (.t (.sl [])),st.Z⟩|_=>none
 |.niltc t j::xs,st=>
  match get st.tm t with
  |some (.agg cs)=>match cs[j]? with|some .nils=>cz xs ⟨st.n,put st.tm t (.agg (cs.set j (.t (.sl [])))),st.Z⟩|_=>none
  |_=>none
 |.niltb b j::xs,st=>
  match get st.Z b with
  |some (.box cs)=>match cs[j]? with|some .nils=>cz xs ⟨st.n,st.tm,put st.Z b (.box (cs.set j (.t (.sl []))))⟩|_=>none
  |_=>none
 |.ownc t j l k::xs,st=>
  match get st.tm t with
  |some (.agg cs)=>match cs[j]? with|some .nils=>bif Nat.blt 0 k&&Nat.ble 1000 l&&iA l st.tm st.Z then cz xs ⟨st.n,put st.tm t (.agg (cs.set j (.osl l 0))),(l,.row k [])::st.Z⟩ else none|_=>none
  |_=>none
 |.ownb b j l k::xs,st=>
  match get st.Z b with
  |some (.box cs)=>match cs[j]? with|some .nils=>bif Nat.blt 0 k&&Nat.ble 1000 l&&iA l st.tm st.Z then cz xs ⟨st.n,st.tm,put ((l,.row k [])::st.Z) b (.box (cs.set j (.osl l 0)))⟩ else none|_=>none
  |_=>none
 |xs,st=>some ([],xs,st)
def Wk.pick{st:St}{tm:List (Nat×PV)}{Z:List (Nat×Blk)}{ks ls:List Nat}(h1:gb st.tm ks=some tm)(h2:gb st.Z ls=some Z):Wk st ⟨st.n,tm,Z⟩:=λ_ _ _ ⟨β,h⟩=>⟨β,h.sub (aW _) (λi p hp=>⟨iZ h1 i p hp,(h.tm i p (iZ h1 i p hp)).1⟩) (λl o ho=>iZ h2 l o ho)⟩
def Wk.own{st:St}{t l k:Nat}(hg:get st.tm t=some .nils)(hk:0<k)(hl:1000<=l)(hf:iA l st.tm st.Z=true):Wk st ⟨st.n,put st.tm t (.osl l 0),(l,.row k [])::st.Z⟩:=by
 rintro G a w ⟨β,h⟩;obtain⟨f1,f2⟩:=Z2l hf;have h':=uM (n:=st.n) (tm:=st.tm) (Z:=st.Z) h l k hk hl f1 f2;refine⟨ft β l,?_⟩;have hv:=(h.tm t _ hg);simp only[VR]at hv;obtain⟨hlt,a0,hv⟩:=hv
 exact { defers:=h'.defers,sz:=h'.sz,base:=h'.base,os:=h'.os,tape:=h'.tape,output:=h'.output,old:=h'.old,A:=h'.A,gl:=h'.gl,inj:=h'.inj,sep:=h'.sep,fix:=h'.fix,row0:=h'.row0,blk:=h'.blk,
         tm:=λi p hp=>by
          by_cases hi:t=i
          .subst hi;rw[fO]at hp;cases hp;refine⟨hlt,?_⟩;simp only[VR];refine⟨λk' es' hes'=>?_,a0,0,0,hv⟩;have hgs:get ((l,Blk.row k [])::st.Z) l=some (.row k []):=by simp[PW.get]
           have:some (Blk.row k' es')=some (.row k []):=bP (bQ hes') hgs;cases this;exact⟨aW _,λ_=>⟨a0,0,hv,aW _,by simp[maxLen],.inl ⟨rfl,by simp[ctx,ft]⟩⟩⟩
          rw[gd _ _ hi]at hp;exact h'.tm i p hp }
def eB:∀(xs:List Orc) (st:St) {ps:List Prop} {xs':List Orc} {st':St},cz xs st=some (ps,xs',st')->aG ps->Wk st st'
 |[],st,ps,xs',st',h,_=>by simp only[cz,aq,bG]at h;rw[h.2.2];exact Wk.refl _
 |x::xs,st,ps,xs',st',h,hc=>by
  cases x
  case frz l=>
   simp only[cz]at h;split at h
   .rename_i k es hg;split at h
    .rename_i ps' xs2 st2 h2;cases h;obtain⟨h3,h4⟩:=bM.1 hc;obtain⟨h4,h5⟩:=bM.1 h4;have h0:=qk (mt:=false) (l:=l) (es:=es) st.Z;exact(Wk.frz (ku (mt:=false) (q0:=0) hg h0 st.Z h4) (zG (mt:=false) (q0:=0) hg h0 st.tm h3)).trans (eB xs _ h2 h5)
    cases h
   .rename_i k q0 es hg;split at h
    .rename_i ps' xs2 st2 h2;cases h;obtain⟨h3,h4⟩:=bM.1 hc;obtain⟨h4,h5⟩:=bM.1 h4;have h0:=qk (mt:=true) (l:=l) (es:=es) st.Z;exact(Wk.frz (ku (mt:=true) (k:=k) hg h0 st.Z h4) (zG (mt:=true) (k:=k) hg h0 st.tm h3)).trans (eB xs _ h2 h5)
    cases h
   .rename_i cs hg;split at h
    .rename_i ts hts;have e:=mO hts;subst e;have h0:=Z9v (l:=l) (ts:=ts) st.Z;exact(Wk.frz (zI hg h0 st.Z) (Jb hg h0 st.tm)).trans (eB xs _ h hc)
    cases h
   cases h
  case relen l=>
   simp only[cz]at h;split at h
   .rename_i k es hg;split at h
    .rename_i ps' xs2 st2 h2;cases h;obtain⟨h3,h4⟩:=bM.1 hc;obtain⟨h4,h5⟩:=bM.1 h4;have:=eB xs _ h2 h5;rw[ja _ h3,lG _ h4]at this;exact this
    cases h
   .rename_i k q0 es hg;split at h
    .rename_i ps' xs2 st2 h2;cases h;obtain⟨h3,h4⟩:=bM.1 hc;obtain⟨h4,h5⟩:=bM.1 h4;have:=eB xs _ h2 h5;rw[ja _ h3,lG _ h4]at this;exact this
    cases h
   cases h
  case opn l i e=>
   simp only[cz]at h;split at h
   .rename_i k es hg;have hbh:=bR h;clear h;obtain⟨hb,h⟩:=hbh;split at h
    .rename_i q1 tm q2 Z h1 h2;split at h
     .rename_i ps' xs2 st2 h3;cases h;obtain⟨c1,c2⟩:=hc;obtain⟨c2,c3⟩:=bM.1 c2;obtain⟨c3,c4⟩:=bM.1 c3;exact(Wk.opn (Nat.le_of_ble_eq_true hb) hg c1 h1 h2 c2 c3).trans (eB xs _ h3 c4)
     cases h
    cases h
   cases h
  case cls l es'=>
   simp only[cz]at h;split at h
   .rename_i k i es cs hg;split at h
    .rename_i ts ht;have hbh:=bR h;clear h;obtain⟨hb,h⟩:=hbh;split at h
     .rename_i q1 tm q2 Z h1 h2;split at h
      .rename_i ps' xs2 st2 h3;cases h;obtain⟨c1,c2⟩:=hc;obtain⟨c2,c3⟩:=bM.1 c2;obtain⟨c3,c4⟩:=bM.1 c3;exact(Wk.cls (Nat.le_of_ble_eq_true hb) hg ht c1 h1 h2 c2 c3).trans (eB xs _ h3 c4)
      cases h
     cases h
    cases h
   cases h
  case tomr l k=>
   simp only[cz]at h;split at h
   .rename_i hg;obtain⟨hb,h⟩:=bR h;rw[gF]at hb;exact(Wk.tomr hb ⟨_,rfl⟩ hg).trans (eB xs _ h hc)
   cases h
  case frzm l=>
   simp only[cz]at h;split at h
   .rename_i hg;exact(Wk.frzm hg).trans (eB xs _ h hc)
   cases h
  case tomat l=>
   simp only[cz]at h;split at h
   .rename_i es hg;have hbh:=bR h;clear h;obtain⟨hb,h⟩:=hbh;simp only[aL]at hb;split at h
    .rename_i ps' xs2 st2 h2;cases h;exact(Wk.tomat hg hc.1 hb.1 hb.2).trans (eB xs _ h2 hc.2)
    cases h
   cases h
  case pick ks ls=>
   simp only[cz]at h;split at h
   .rename_i tm Z h1 h2;exact(Wk.pick h1 h2).trans (eB xs _ h hc)
   cases h
  case own t l k=>
   simp only[cz]at h;split at h
   .rename_i hg;obtain⟨hb,h⟩:=bR h;simp only[aL,gF,en]at hb;exact(Wk.own hg hb.1.1.1 hb.1.1.2 hb.1.2).trans (eB xs _ h hc)
   cases h
  case relab l m=>
   simp only[cz]at h;obtain⟨hb,h⟩:=bR h;simp only[aL,en]at hb;exact(Wk.relab hb.1 hb.2).trans (eB xs _ h hc)
  case nilt t=>
   simp only[cz]at h;split at h
   .rename_i hg;exact(Wk.slot hg λ_ v hv=>VR.nilt v hv).trans (eB xs _ h hc)
   cases h
  case niltc t j=>
   simp only[cz]at h;split at h
   .rename_i cs hg;split at h
    .rename_i hj;refine(Wk.slot hg λc v hv=>?_).trans (eB xs _ h hc);simp only[VR]at hv⊢;obtain⟨vs,hv,hs⟩:=hv;exact⟨vs,hv,VRs.set hj VR.nilt hs⟩
    cases h
   cases h
  case niltb b j=>
   simp only[cz]at h;split at h
   .rename_i cs hg;split at h
    .rename_i hj;exact(Wk.cell hg hj rfl λ_ v hv=>VR.nilt v hv).trans (eB xs _ h hc)
    cases h
   cases h
  case ownc t j l k=>
   simp only[cz]at h;split at h
   .rename_i cs hg;split at h
    .rename_i hj;obtain⟨hb,h⟩:=bR h;simp only[aL,gF,en]at hb;exact(Wk.ownc hg hj hb.1.1 hb.1.2 hb.2).trans (eB xs _ h hc)
    cases h
   cases h
  case ownb b j l k=>
   simp only[cz]at h;split at h
   .rename_i cs hg;split at h
    .rename_i hj;obtain⟨hb,h⟩:=bR h;simp only[aL,gF,en]at hb;exact(Wk.ownb hg hj hb.1.1 hb.1.2 hb.2).trans (eB xs _ h hc)
    cases h
   cases h
  all_goals
   simp only[cz,aq,bG]at h;rw[h.2.2];exact Wk.refl _
def zJ:Es->Es
 |some (ps,.stop::xs,st)=>some (ps,xs,st)
 |r=>r
def ZQ{r:Es}{ps:List Prop}{xs:List Orc}{st:St}(h:zJ r=some (ps,xs,st)):∃xs',r=some (ps,xs',st):=by
 unfold zJ at h;split at h
 .cases h;exact⟨_,rfl⟩
 exact⟨_,h⟩
def evAt(d:Option Nat)(xs:List Orc)(st:St):Es:=
 match xs,d with
 |.ahead i::xs',some j=>bif Nat.beq i j then zJ (cz xs' st)else some ([],xs,st)
 |_,_=>some ([],xs,st)
def Jh{d:Option Nat}{xs:List Orc}{st:St}{ps:List Prop}{xs':List Orc}{st':St}(h:evAt d xs st=some (ps,xs',st'))(hc:aG ps):Wk st st':=by
 have triv:∀ys:List Orc,(some ([],ys,st):Es)=some (ps,xs',st')->Wk st st':=λys h=>by cases h;exact Wk.refl _
 unfold evAt at h;split at h
 .rename_i i xs2 j;cases hb:Nat.beq i j with
  |true=>
   simp only[hb,av]at h;obtain⟨ys,h⟩:=ZQ h;exact eB _ _ h hc
  |false=>simp only[hb,au]at h;exact triv _ h
 exact triv _ h
def zK(T:TS)(o:Oper)(st:St)(xs:List Orc):Es:=
 match o.op with
 |.store t x y=>
  match o.dst,get T t,af st.tm x,af st.tm y with
  |none,some i,some (.bptr l q),some p=>
   match get st.Z l,xs with
   |some (.box cs),.sp cs'::xs=>bif Nat.beq (Z7 p).length i.size&&(Z7 p).all PV.one then some ([q+i.size<=cs.length,splice cs q (Z7 p)=cs'],xs,⟨st.n,st.tm,put st.Z l (.box cs')⟩)else none
   |some (.box cs),xs=>bif Nat.beq (Z7 p).length i.size&&(Z7 p).all PV.one&&Nat.ble (q+i.size) cs.length then some ([],xs,⟨st.n,st.tm,put st.Z l (.box (splice cs q (Z7 p)))⟩)else none
   |_,_=>none
  |none,some i,some (.rptr l m j q),some p=>
   match get st.Z l,xs,cH (Z7 p)with
   |some (.row k es),.cs e :: .es es'::xs,some ts=>bif Nat.beq ts.length i.size&&Nat.ble (q+i.size) k then some ([es.length=m,es[j]?=some e,es.set j (splice e q ts)=es'],xs,⟨st.n,st.tm,put st.Z l (.row k es')⟩)else none
   |_,_,_=>none
  |_,_,_,_=>none
 |.convert s t x=>
  match dM T t,af st.tm x,o.dst with
  |some (_,⟨_,_,_,_,.int .u8,_⟩),some (.osl l m),some d=>
   match get st.Z l with
   |some (.row _ es)=>bif Nat.beq s t&&Nat.blt d st.n then some ([False],xs,⟨st.n,put st.tm d (.osl l m),st.Z⟩)else none
   |_=>none
  |_,_,_=>none
 |_=>none
def zL(T:TS)(o:Oper)(st:St)(xs:List Orc):Es:=
 match o.op with
 |.call c=>
  match c.callee,fu st.tm c.args.toList,c.argTypes.toList,o.dst,xs with
  |.builtin .clear,some [.own l (.tail m i)],[t],none,.es es'::xs=>
   match dM T t,get st.Z l with
   |some (_,⟨_,k,bytes,some z,_,_⟩),some (.row k' es)=>
    match cH z with
    |some zs=>bif Nat.blt 0 k&&Nat.beq z.length k&&Nat.beq k k' then some ([es.length=m,i<=m,es.take i++List.replicate (m-i) zs=es'],xs,⟨st.n,st.tm,put st.Z l (.row k es')⟩)else none
    |none=>none
   |_,_=>none
  |_,_,_,_,_=>none
 |.slice t x none (some y) none=>
  match dM T t,af st.tm x,af st.tm y,o.dst,xs with
  |some (_,j),some (.osl l m),some (.t (.int _ i)),some d,.nat q :: .es es'::xs=>
   match get st.Z l with
   |some (.row k es)=>bif Nat.beq j.size k&&Nat.blt d st.n&&(st.Z.all λq => !q.2.has l)&&Z6f st.tm&&Nat.ble 1000 l then some ([es.length=m,0<=i,i<=m,i.toNat=q,es.take i.toNat=es'],xs,⟨st.n,put (lH l st.tm) d (.osl l q),put st.Z l (.row k es')⟩)else none
   |_=>none
  |_,_,_,_,_=>none
 |.store t x y=>
  match o.dst,get T t,af st.tm x,af st.tm y,xs with
  |none,some i,some (.own l (.mel m j q)),some (.t z),.es inner :: .es es'::xs=>
   match get st.Z l with
   |some (.mat 1 0 es)=>bif !i.agg&&Nat.beq i.size 1&&z.scal then some ([es.length=m,es[j]?=some [.sl inner],q<inner.length,es.set j [.sl (inner.set q [z])]=es'],xs,⟨st.n,st.tm,put st.Z l (.mat 1 0 es')⟩)else none
   |_=>none
  |none,some i,some (.own l (.mpt m j 0)),some (.osl l2 n2),.es es'::xs=>
   match get st.Z l,get st.Z l2 with
   |some (.mat 1 0 es),some (.row 1 es2)=>bif (!i.agg&&Nat.beq i.size 1)&&(!Nat.beq l l2&&((st.Z.all λq=>q.2.mo l)&&Z6f st.tm))then some ([es.length=m,j<m,es2.length=n2,SC1 es2,es.set j [.sl es2]=es'],xs,⟨st.n,Z9q l st.tm,(l,.mat 1 0 es')::bb [l,l2] st.Z⟩)else none
   |_,_=>none
  |_,_,_,_,_=>none
 |.mapUpdate t x y z=>
  match o.dst,(get T t).map (·.k),af st.tm x,af st.tm y,af st.tm z,xs with
  |none,some (TK.map k _),some (.own l .map),some (.t (.int .i64 i)),some p,.cs ts :: .mp es'::xs=>
   match get st.Z l,(get T k).map (·.k)with
   |some (.map (.v ag) es),some (TK.int .i64)=>some ([p=mvP ag ts,bZ es i ts=es'],xs,⟨st.n,st.tm,put st.Z l (.map (.v ag) es')⟩)
   |_,_=>none
  |_,_,_,_,_,_=>none
 |_=>none
def evUp(T:TS)(o:Oper)(st:St)(xs:List Orc):Es:=
 match zK T o st xs with
 |some r=>some r
 |none=>zL T o st xs
section
variable {P:Program} {T:TS} {o:Oper} {xs xs':List Orc} {ps:List Prop}
def ZR(hT:TOK P T){st st':St}(h:zK T o st xs=some (ps,xs',st'))(hc:aG ps):Z38 P o st st':=by
 obtain⟨n,tm,Z⟩:=st;unfold zK at h;split at h
 .rename_i t x y ho;split at h
  .rename_i i l q p hd hi hx hy;split at h
   .rename_i cs cs' xs2 hg;have hbh:=bR h;clear h;obtain⟨hb,h⟩:=hbh;simp only[aL,aU]at hb;cases h;obtain⟨h1,h2,_⟩:=hc;subst h2;exact Ji ho hd (hT _ _ hi).ty hx hy hg hb.1 hb.2 h1
   .rename_i cs hg _;have hbh:=bR h;clear h;obtain⟨hb,h⟩:=hbh;simp only[aL,aU,en]at hb;cases h;exact Ji ho hd (hT _ _ hi).ty hx hy hg hb.1.1 hb.1.2 hb.2
   cases h
  .rename_i i l m j q p hd hi hx hy;split at h
   .rename_i k es e es' xs2 ts hg hts;have hbh:=bR h;clear h;obtain⟨hb,h⟩:=hbh;simp only[aL,aU,en]at hb;cases h;obtain⟨h1,h2,h3,_⟩:=hc;subst h3;exact ZS ho hd (hT _ _ hi).ty hx hy hg h1 h2 hts hb.1 hb.2
   cases h
  cases h
 .rename_i s t x ho;split at h
  .rename_i e agg sz by_ z fl l m d he hx hd;split at h
   .rename_i k es hg;have hbh:=bR h;clear h;obtain⟨hb,h⟩:=hbh;simp only[aL,aU,gF]at hb;obtain⟨rfl,hb2⟩:=hb;cases h;obtain⟨i,hi,hk,hj⟩:=eT he;have hu:=(hT _ _ hi).k;rw[hk]at hu;have hu2:P.underlying e=some (.int .u8):=(hT _ _ hj).k;exact hc.1.elim
   cases h
  cases h
 cases h
def ZT(hT:TOK P T){st st':St}(h:zL T o st xs=some (ps,xs',st'))(hc:aG ps):Z38 P o st st':=by
 obtain⟨n,tm,Z⟩:=st;unfold zL at h;split at h
 .rename_i c ho;split at h
  .rename_i l m i t es' xs2 hce hps hat hd;obtain⟨x,hax,hx⟩:=Z9u hps;have hceq:=gW hce hax hat;rw[hceq]at ho;split at h
   .rename_i e agg k bytes z kk fl k' es he hg;split at h
    .rename_i zs hzs;have hbh:=bR h;clear h;obtain⟨hb,h⟩:=hbh;simp only[aL,aU]at hb;obtain⟨⟨hb1,hb2⟩,hb3⟩:=hb;subst hb3;cases h;obtain⟨h1,h2,h3,_⟩:=hc;subst h3;exact ZU ho hd (Z6h (z:=z) hT he rfl hb1 ((aU _ _).2 hb2)) hzs hx hg h1 h2
    cases h
   cases h
  cases h
 .rename_i t x y ho;split at h
  .rename_i e j l m ki i d q es' xs2 he hx hy hd;split at h
   .rename_i k es hg;have hbh:=bR h;clear h;obtain⟨hb,h⟩:=hbh;simp only[aL,aU,gF]at hb;obtain⟨⟨⟨⟨hb1,hb2⟩,hb3⟩,hb4⟩,hb5⟩:=hb;cases h;obtain⟨h1,h2,h3,h4,h5,_⟩:=hc;subst h4;subst h5;obtain⟨i0,hi0,hk0,hj⟩:=eT he;exact ZV ho hd hb2 (hb1▸hT.slInfo hi0 hk0 hj) hx hy hg h1 h2 h3 (Nat.le_of_ble_eq_true hb5) hb3 hb4
   cases h
  cases h
 .rename_i t x y ho;split at h
  .rename_i i l m j q z inner es' xs2 hd hi hx hy;split at h
   .rename_i es hg;have hbh:=bR h;clear h;obtain⟨hb,h⟩:=hbh;simp only[aL,dv,aU]at hb;cases h;obtain⟨h1,h2,h3,h4,_⟩:=hc;subst h4;have hty:=(hT t i hi).ty;rw[hb.1.1,hb.1.2]at hty;exact ZW ho hd hty hx hy rfl hb.2 hg h1 h2 h3
   cases h
  .rename_i i l m j l2 n2 es' xs2 hd hi hx hy;split at h
   .rename_i es es2 hg hg2;have hbh:=bR h;clear h;obtain⟨hb,h⟩:=hbh;simp only[aL,dv,aU]at hb;cases h;obtain⟨h1,h2,h3,h4,h5,_⟩:=hc;subst h5;have hty:=(hT t i hi).ty;rw[hb.1.1,hb.1.2]at hty;exact ZX ho hd hty hx hy hg h1 h2 hg2 h3 h4 (uN (by rw[hb.2.1];rfl)) hb.2.2.1 hb.2.2.2
   cases h
  cases h
 .rename_i t x y z ho;split at h
  .rename_i k e l i p ts es' xs2 hd hk hx hy hz;split at h
   .rename_i ag es hg hi;cases h;obtain⟨h1,h2,_⟩:=hc;subst h2;exact ZY ho hd (mapK (hT:=hT) hk) (intK (hT:=hT) hi) hx hy hz h1 hg
   cases h
  cases h
 cases h
def ZZ(hT:TOK P T){st st':St}(h:evUp T o st xs=some (ps,xs',st'))(hc:aG ps):Z38 P o st st':=by
 unfold evUp at h;split at h
 .rename_i h0;cases h;exact ZR hT h0 hc
 exact ZT hT h hc
def uO(ops:Array Oper)(tm:List (Nat×PV))(o:Oper)(xs:List Orc):Option (List Prop×List Orc×Bool):=
 match o.guard with
 |none=>some ([],xs,true)
 |some (g,want)=>
  match(ops[g]?).bind (·.dst)with
  |none=>none
  |some d=>
   match get tm d,xs with
   |some (.t (.bool e)),.br b::xs=>some ([e=b],xs,b==want)
   |some (.tup []),xs=>some ([],xs,false)
   |_,_=>none
def lI{ops:Array Oper}{tm:List (Nat×PV)}{r:Bool}(h:uO ops tm o xs=some (ps,xs',r))(hc:aG ps):iB ops tm o=some r:=by
 unfold uO at h;unfold iB;split at h
 .rename_i hg;cases h;rw[hg]
 rename_i g want hg;rw[hg];simp only;split at h
 .cases h
 rename_i d hd;simp only[hd];split at h
 .rename_i e b xs2 he;cases h;have:=hc.1;subst this;simp[he]
 .rename_i he;cases h;simp[he]
 cases h
def Z2m(rm:List Nat)(tm:List (Nat×PV))(Z:List (Nat×Blk)):List (Nat×Blk)->Bool
 |[]=>true
 |(l,_)::r=>(Z6w rm l||iA l tm Z)&&Z2m rm tm Z r
def Z64{rm:List Nat}{tm:List (Nat×PV)}{Z:List (Nat×Blk)}:∀{news:List (Nat×Blk)},Z2m rm tm Z news=true->∀l x,(l,x)∈news->l∉rm->(∀i q,get tm i=some q->q.has l=false)/\(∀m y,get Z m=some y->m≠l/\y.has l=false)
 |[],_,l,x,hm,_=>by cases hm
 |(m,y)::r,h,l,x,hm,hr=>by
  simp only[Z2m,aL,gX]at h;rcases cn.1 hm with hm|hm
  .cases hm;rcases h.1 with h1|h1
   .exact absurd (uP.1 h1) hr
   exact Z2l h1
  exact Z64 h.2 l x hm hr
def dstN(o:Oper):Nat:=match o.dst with|some d=>d|none=>1000000
def zM(P:Program)(T:TS)(ops:Array Oper)(o:Oper)(xs:List Orc)(st:St):Es:=
 match evAt (some (dstN o)) xs st with
 |some (ps0,xs0,st0)=>
  match uO ops st0.tm o xs0 with
  |some (ps1,xs1,true)=>
   match uQ P T o st0.tm st0.Z xs1 with
   |some (ps2,xs2,x)=>
    match o.dst with
    |some d=>bif Nat.blt d st0.n&&Z2m x.rm st0.tm st0.Z x.s.news then some (ps0++(ps1++ps2),xs2,⟨st0.n,put st0.tm d x.s.p,x.s.news++bb x.rm st0.Z⟩)else none
    |none=>bif Z2m x.rm st0.tm st0.Z x.s.news then some (ps0++(ps1++ps2),xs2,⟨st0.n,st0.tm,x.s.news++bb x.rm st0.Z⟩)else none
   |none=>
    match evUp T o st0 xs1 with
    |some (ps2,xs2,st2)=>some (ps0++(ps1++ps2),xs2,st2)
    |none=>none
  |some (ps1,xs1,false)=>
   match o.dst with
   |some d=>bif Nat.blt d st0.n then some (ps0++ps1,xs1,⟨st0.n,put st0.tm d (.tup []),st0.Z⟩)else none
   |none=>some (ps0++ps1,xs1,st0)
  |none=>none
 |none=>none
def Zaa(hT:TOK P T){ops:Array Oper}{R:St->Prop}{l:List Oper}{st st':St}(h:zM P T ops o xs st=some (ps,xs',st'))(hc:aG ps)(hk:cO P ops R l st'):cO P ops R (o::l) st:=by
 unfold zM at h;split at h
 .rename_i ps0 xs0 st0 h0;suffices hs:aG ps0/\cO P ops R (o::l) st0 from cO.weaken (Jh h0 hs.1) hs.2
  split at h
  .rename_i ps1 xs1 h1;split at h
   .rename_i ps2 xs2 s h2;split at h
    .rename_i d hd;have hbh:=bR h;clear h;obtain⟨hb,h⟩:=hbh;simp only[aL,gF]at hb;cases h;obtain⟨c0,c1⟩:=bM.1 hc;obtain⟨c1,c2⟩:=bM.1 c1;refine⟨c0,cO.step (lI h1 c1) ?_ hk⟩;intro G a w K Q hr hK;refine zN hT h2 c2 G st0.n st0.tm st0.Z a w K Q (λ_ _ _ h=>h) (λ_ _=>rfl) (Z64 hb.2) hr ?_;rintro v w' ⟨β,hβ,hv⟩;exact hK _ _ ⟨β,by rw[hd];exact hβ.put hb.1 hv⟩
    rename_i hd;have hbh:=bR h;clear h;obtain⟨hb,h⟩:=hbh;cases h;obtain⟨c0,c1⟩:=bM.1 hc;obtain⟨c1,c2⟩:=bM.1 c1;refine⟨c0,cO.step (lI h1 c1) ?_ hk⟩;intro G a w K Q hr hK;refine zN hT h2 c2 G st0.n st0.tm st0.Z a w K Q (λ_ _ _ h=>h) (λ_ _=>rfl) (Z64 hb) hr ?_;rintro v w' ⟨β,hβ,hv⟩;exact hK _ _ ⟨β,by rw[hd];exact hβ⟩
   split at h
   .rename_i ps2 xs2 st2 h2;cases h;obtain⟨c0,c1⟩:=bM.1 hc;obtain⟨c1,c2⟩:=bM.1 c1;exact⟨c0,cO.step (lI h1 c1) (ZZ hT h2 c2) hk⟩
   cases h
  .rename_i ps1 xs1 h1;split at h
   .rename_i d hd;have hbh:=bR h;clear h;obtain⟨hb,h⟩:=hbh;simp only[gF]at hb;cases h;obtain⟨c0,c1⟩:=bM.1 hc;exact⟨c0,cO.skip hd hb (lI h1 c1) hk⟩
   rename_i hd;cases h;obtain⟨c0,c1⟩:=bM.1 hc;exact⟨c0,cO.skipNone hd (lI h1 c1) hk⟩
  cases h
 cases h
def im(P:Program)(T:TS)(ops:Array Oper):List Oper->List Orc->St->Es
 |[],xs,st=>some ([],xs,st)
 |o::l,xs,st=>
  match zM P T ops o xs st with
  |some (ps,xs1,st1)=>
   match im P T ops l xs1 st1 with
   |some (qs,xs2,st2)=>some (ps++qs,xs2,st2)
   |none=>none
  |none=>none
def te(hT:TOK P T){ops:Array Oper}{R:St->Prop}:∀(l:List Oper) {xs xs':List Orc} {st st':St} {ps:List Prop},im P T ops l xs st=some (ps,xs',st')->aG ps->R st'->cO P ops R l st
 |[],xs,xs',st,st',ps,h,_,hr=>by simp only[im,aq,bG]at h;rw[<- h.2.2]at hr;exact cO.nil hr
 |o::l,xs,xs',st,st',ps,h,hc,hr=>by
  simp only[im]at h;split at h
  .rename_i ps1 xs1 st1 h1;split at h
   .rename_i qs xs2 st2 h2;cases h;obtain⟨c1,c2⟩:=bM.1 hc;exact Zaa hT h1 c1 (te hT l h2 c2 hr)
   cases h
  cases h
structure zO where
 ps:List Prop
 xs:List Orc
 plan:List (Option Stm)
 rest:List Oper
 tm:List (Nat×PV)
 Z:List (Nat×Blk)
def uR(n:Nat):Option Nat->Bool
 |some d=>Nat.blt d n
 |none=>true
def Zab{n:Nat}{d:Option Nat}(h:uR n d=true):∀e,d=some e->e<n:=by rintro e rfl;simpa only[uR,gF]using h
def iC(P:Program)(T:TS)(ops:Array Oper)(n:Nat):List Oper->List Orc->List (Nat×PV)->List (Nat×Blk)->zO
 |[],xs,tm,Z=>⟨[],xs,[],[],tm,Z⟩
 |o::l,xs,tm,Z=>
  bif uR n o.dst then
   match uO ops tm o xs with
   |some (ps1,xs1,true)=>
    match uQ P T o tm Z xs1 with
    |some (ps2,xs2,x)=>
     match iC P T ops n l xs2 (Z39 tm o.dst x.s.p) (x.s.news++bb x.rm Z)with
     |⟨ps,xs,plan,rest,tm,Z⟩=>⟨ps1++(ps2++ps),xs,some x::plan,rest,tm,Z⟩
    |none=>⟨[],xs,[],o::l,tm,Z⟩
   |some (ps1,xs1,false)=>
    match iC P T ops n l xs1 (Z39 tm o.dst (.tup [])) Z with
    |⟨ps,xs,plan,rest,tm,Z⟩=>⟨ps1++ps,xs,none::plan,rest,tm,Z⟩
   |none=>⟨[],xs,[],o::l,tm,Z⟩
  else⟨[],xs,[],o::l,tm,Z⟩
def zP(hT:TOK P T){ops:Array Oper}{n:Nat}:∀(l:List Oper) (xs:List Orc) (tm:List (Nat×PV)) (Z:List (Nat×Blk)),aG (iC P T ops n l xs tm Z).ps ->
 ∃pre,l=pre++(iC P T ops n l xs tm Z).rest/\eo P ops n pre (iC P T ops n l xs tm Z).plan tm Z /\
  eZ pre (iC P T ops n l xs tm Z).plan tm=(iC P T ops n l xs tm Z).tm/\gg (iC P T ops n l xs tm Z).plan Z=(iC P T ops n l xs tm Z).Z
 |[],xs,tm,Z,_=>⟨[],rfl,aa,rfl,rfl⟩
 |o::l,xs,tm,Z,hc=>by
  have triv:∀r:zO,r=⟨[],xs,[],o::l,tm,Z⟩->∃pre,o::l=pre++r.rest/\eo P ops n pre r.plan tm Z/\eZ pre r.plan tm=r.tm/\gg r.plan Z=r.Z:=by rintro r rfl;exact⟨[],rfl,aa,rfl,rfl⟩
  rw[iC]at hc⊢;cases hd:uR n o.dst with
  |false=>exact triv _ rfl
  |true=>
   have hdn:=Zab hd;simp only[hd,av]at hc⊢;split at hc
   .rename_i ps1 xs1 hg;split at hc
    .rename_i ps2 xs2 s h2;obtain⟨c1,c2⟩:=bM.1 hc;obtain⟨c2,c3⟩:=bM.1 c2;obtain⟨pre,h1,h3,h4,h5⟩:=zP hT l xs2 (Z39 tm o.dst s.s.p) (s.s.news++bb s.rm Z) c3;refine⟨o::pre,by rw[eR,<- h1],?_,?_,?_⟩
     .simp only[eo];exact⟨hdn,lI hg c1,λs' hs'=>by cases hs';exact zN hT h2 c2,h3⟩
     .simp only[eZ];exact h4
     simp only[gg];exact h5
    exact triv _ rfl
   .rename_i ps1 xs1 hg;obtain⟨c1,c3⟩:=bM.1 hc;obtain⟨pre,h1,h3,h4,h5⟩:=zP hT l xs1 (Z39 tm o.dst (.tup [])) Z c3;refine⟨o::pre,by rw[eR,<- h1],?_,?_,?_⟩
    .simp only[eo];exact⟨hdn,lI hg c1,(λs' hs'=>by cases hs'),h3⟩
    .simp only[eZ];exact h4
    simp only[gg];exact h5
   exact triv _ rfl
def Jj(P:Program)(T:TS)(ops:Array Oper)(st:St)(r:zO):Es:=
 bif Z2f ops r.plan st.tm st.Z then
  match im P T ops r.rest r.xs ⟨st.n,r.tm,r.Z⟩ with
  |some (qs,xs2,st2)=>some (r.ps++qs,xs2,st2)
  |none=>none
 else none
def zQ(P:Program)(T:TS)(id:Nat)(ops:Array Oper)(draw:Bool)(xs:List Orc)(st:St):Es:=
 bif draw then
  match evAt (some id) xs st with
  |some (ps0,xs0,st0)=>
   match Jj P T ops st0 (iC P T ops st0.n ops.toList xs0 st0.tm st0.Z)with
   |some (ps,xs,st)=>some (ps0++ps,xs,st)
   |none=>none
  |none=>none
 else im P T ops ops.toList xs st
def Zac(hm:P.follows .mixedOrders=true)(hT:TOK P T){ops:Array Oper}{draw:Bool}{id:Nat}{Q:Exit->St->Prop}{st st':St}(h:zQ P T id ops draw xs st=some (ps,xs',st'))(hc:aG ps)(hq:Q .normal st') :
 PW P (.region id ops draw) Q st:=by
 unfold zQ at h;cases draw with
 |false=>
  simp only[au]at h;exact PW.region (te hT _ h hc hq)
 |true=>
  simp only[av]at h;split at h
  .rename_i ps0 xs0 st0 h0;split at h
   .rename_i ps1 xs1 st1 h1;cases h;obtain⟨c0,c1⟩:=bM.1 hc;refine PW.weaken (Jh h0 c0) ?_;unfold Jj at h1;have hbh:=bR h1;clear h1;obtain⟨hb,h1⟩:=hbh;split at h1
    .rename_i qs xs2 st2 h2;cases h1;obtain⟨c1,c2⟩:=bM.1 c1;obtain⟨pre,e1,e2,e3,e4⟩:=zP hT ops.toList xs0 st0.tm st0.Z c1;exact PW.region_draw hm _ pre _ e1 e2 hb (by rw[e3,e4];exact te hT _ h2 c2 hq)
    cases h1
   cases h
  cases h
end
end Go.PW
namespace Go.PW
open Go.RowKit
inductive Kf where
 |seq (c:Code)
 |blk (id:Nat)
 |loop (c:Code)
 |scp
inductive Cfg where
 |code (c:Code) (K:List Kf)
 |head (c:Code) (K:List Kf)
 |done (e:Exit)
def PWL(P:Program)(c:Code)(Q:Exit->St->Prop)(st:St):Prop:=∀G a w,Rel G st a w->∀b k cs,∃e a' w',(∃st',Q e st'/\Rel G st' a' w')/\Arrives P (lone (b.at a (.code c :: .inLoop c::k)) cs w) b k cs e a' w'
def PW.loopHead{P:Program}{c:Code}{Q:Exit->St->Prop}{st:St}(h:PWL P c Q st):PW P (.loop c) Q st:=by intro G a w hr b k cs;obtain⟨e,a',w',hq,harr⟩:=h G a w hr b k cs;exact⟨e,a',w',hq,.of_steps (.one step_loop) harr⟩
def PWL.round{P:Program}{c:Code}{Q:Exit->St->Prop}{st:St}(h:PW P c (Z6x (PWL P c Q) Q) st):PWL P c Q st:=by
 intro G a w hr b k cs;obtain⟨e,a₁,w₁,⟨st',hq,hr'⟩,harr⟩:=h G a w hr b (.inLoop c::k) cs;cases e with
 |normal=>
  obtain⟨e₂,a₂,w₂,hq₂,harr₂⟩:=hq G a₁ w₁ hr' b k cs;exact⟨e₂,a₂,w₂,hq₂,.of_steps (Steps.trans harr (.one step_inLoop)) harr₂⟩
 |exit id=>exact⟨_,a₁,w₁,⟨st',hq,hr'⟩,.pass (x :=.inLoop c) rfl (λ_ _ =>.inl al) harr⟩
 |goto l=>exact⟨_,a₁,w₁,⟨st',hq,hr'⟩,.pass (x :=.inLoop c) rfl (λ_ _ =>.inl al) harr⟩
 |ret=>exact⟨_,a₁,w₁,⟨st',hq,hr'⟩,.pass (x :=.inLoop c) rfl (λ_ _ =>.inl al) harr⟩
 |panic ch=>exact⟨_,a₁,w₁,⟨st',hq,hr'⟩,.pass (x :=.inLoop c) rfl (λ_ _ =>.inl al) harr⟩
 |outgrown=>exact⟨_,a₁,w₁,⟨st',hq,hr'⟩,.pass (x :=.inLoop c) rfl (λ_ _ =>.inl al) harr⟩
def post(P:Program):List Kf->(Exit->St->Prop)->Exit->St->Prop
 |[],R=>R
 |.seq c::K,R=>Z6x (PW P c (post P K R)) (post P K R)
 |.blk id::K,R=>Z6t id (post P K R)
 |.loop c::K,R=>Z6x (PWL P c (post P K R)) (post P K R)
 |.scp::K,R=>NoGo (post P K R)
def Cfg.holds(P:Program)(R:Exit->St->Prop):Cfg->St->Prop
 |.code c K,st=>PW P c (post P K R) st
 |.head c K,st=>PWL P c (post P K R) st
 |.done e,st=>R e st
def Z2n(id:Nat):List Kf->Option (List Kf)
 |[]=>none
 |.blk i::K=>bif Nat.beq i id then some K else Z2n id K
 |_::K=>Z2n id K
def Z2o{P:Program}{R:Exit->St->Prop}{id:Nat}{st:St}:∀{K K':List Kf},Z2n id K=some K'->post P K' R .normal st->post P K R (.exit id) st
 |[],K',h,_=>di
 |.blk i::K,K',h,hp=>by
  simp only[Z2n]at h;simp only[post,Z6t];cases hb:Nat.beq i id with
  |true=>have:i=id:=(aU _ _).1 hb;subst this;simp only[hb,av,aq]at h;subst h;simpa using hp
  |false=>
   simp only[hb,au]at h;have hne:¬id=i:=λe=>AW
   simp only[hne,fy];exact Z2o h hp
 |.seq c::K,K',h,hp=>Sw
 |.loop c::K,K',h,hp=>Sw
 |.scp::K,K',h,hp=>by simp only[Z2n]at h;simp only[post,NoGo];exact Z2o h hp
def wu{P:Program}{R:Exit->St->Prop}{st:St}:∀{K:List Kf},R .ret st->post P K R .ret st
 |[],h=>h
 |.blk i::K,h=>by simp only[post,Z6t];exact wu h
 |.seq c::K,h=>Tp
 |.loop c::K,h=>Tp
 |.scp::K,h=>by simp only[post,NoGo];exact wu h
abbrev Er:=Option (List Prop×Cfg×St)
def ahead(ps:List Prop):Er->Er
 |some (qs,g,st)=>some (ps++qs,g,st)
 |none=>none
section
variable {P:Program} {T:TS} {R:Exit->St->Prop}
def ZfW{c:Code}{Q:Exit->St->Prop}{st st':St}(hw:Wk st st')(h:PWL P c Q st'):PWL P c Q st:=λG a w hr=>h G a w (hw G a w hr)
def eg(R:Exit->St->Prop):Exit->St->Prop:=λe st=>∃st',Wk st st'/\R e st'
def PW.upto{c:Code}{st:St}(h:PW P c (eg R) st):PW P c R st:=by intro G a w hr;refine wp_mono (h G a w hr) ?_;rintro e a' w' ⟨st',⟨st2,hw,hq⟩,hr'⟩;exact⟨st2,hq,hw _ _ _ hr'⟩
def nav:List Nat->Code->List Kf->Option Cfg
 |[],.loop c,K=>some (.head c K)
 |[],c,K=>some (.code c K)
 |d::ds,c,K=>
  match c with
  |.seq a b=>bif Nat.beq d 0 then nav ds a (.seq b::K)else nav ds b K
  |.cond _ a b=>bif Nat.beq d 2 then nav ds a K else nav ds b K
  |.block id body=>nav ds body (.blk id::K)
  |.loop body=>nav ds body (.loop body::K)
  |.scope body=>nav ds body (.scp::K)
  |_=>none
def Cv(rs:List RV)(st:St):Option (List Prop×PV):=
 match Z9p st rs with
 |some [p]=>cQ st.Z p
 |some ps=>match fh st.Z ps with|some (cs,ds)=>some (cs,.tup ds)|none=>none
 |none=>none
def yg{rs:List RV}{st:St}{ps:List Prop}{res:PV}(h:Cv rs st=some (ps,res))(hc:aG ps):Z6e rs [] res st:=by
 unfold Cv at h;split at h
 .rename_i p hp;exact⟨[p],hp,Z4a.nil _,zE (λ_=>rfl) h hc⟩
 .rename_i qs hn hq;split at h
  .rename_i cs ds hd;cases h;refine⟨qs,hq,Z4a.nil _,?_⟩;unfold oX;split
   .rename_i p;exact(hn p rfl).elim
   exact⟨ds,rfl,mD (λ_=>rfl) hd hc⟩
  cases h
 cases h
mutual
def Frz.refl{Z Z':List (Nat×Blk)}:∀p:PV,Frz Z Z' p p
 |.t _=>mC
 |.nils=>mC
 |.osl _ _=>mC
 |.bptr _ _=>mC
 |.rptr _ _ _ _=>mC
 |.vptr _=>mC
 |.agg cs=>Ch
 |.tup cs=>Ch
 |.fn _ cs=>Ch
 |.own _ _=>mC
def aX.refl{Z Z':List (Nat×Blk)}:∀ps:List PV,aX Z Z' ps ps
 |[]=>by simp[aX]
 |p::ps=>by simp only[aX];exact⟨p,ps,rfl,Frz.refl p,aX.refl ps⟩
end
def Cw(rs:List RV)(ls:List Nat)(st:St):Option (List (Nat×Blk)×PV):=
 match gb st.Z ls,Z9p st rs with
 |some Z',some [p]=>some (Z',p)
 |some Z',some ps=>some (Z',.tup ps)
 |_,_=>none
def ZfX{rs:List RV}{ls:List Nat}{st:St}{Z':List (Nat×Blk)}{res:PV}(h:Cw rs ls st=some (Z',res)):Z6e rs Z' res st:=by
 have hsub:∀{Z':List (Nat×Blk)},gb st.Z ls=some Z'->Z4a st.Z Z':=λhp l o ho=>⟨o,iZ hp l o ho,by cases o with
  |row k es=>rfl
  |mat k q es=>rfl
  |map ag es=>rfl
  |prow k i es cs=>exact⟨cs,rfl,aX.refl cs⟩
  |box cs=>exact⟨cs,rfl,aX.refl cs⟩⟩
 unfold Cw at h;split at h
 .rename_i s2 p hσ hp;simp only[aq,bG]at h;obtain⟨rfl,rfl⟩:=h;exact⟨[p],hp,hsub hσ,Frz.refl p⟩
 .rename_i s2 qs hn hσ hq;simp only[aq,bG]at h;obtain⟨rfl,rfl⟩:=h;refine⟨qs,hq,hsub hσ,?_⟩;unfold oX;split
  .rename_i p;exact(hn p rfl).elim
  exact⟨qs,rfl,aX.refl qs⟩
 cases h
end
end Go.PW
namespace Go.PW
open Go.RowKit
def gN{S R:Type}(step:S->Option (S⊕R)):Nat->S->Option R
 |0,_=>none
 |n+1,s=>
  match step s with
  |none=>none
  |some (.inl s')=>gN step n s'
  |some (.inr r)=>some r
def zx{S R:Type}{step:S->Option (S⊕R)}:∀{n m:Nat} {s:S} {r:R},n<=m->gN step n s=some r->gN step m s=some r
 |0,m,s,r,_,h=>di
 |n+1,0,s,r,hl,h=>bg
 |n+1,m+1,s,r,hl,h=>by
  simp only[gN]at h⊢;split at h
  .cases h
  .exact zx O h
  exact h
open Classical in
noncomputable def runC{S R:Type}(step:S->Option (S⊕R))(s:S):Option R:=if h:∃r,∃n,gN step n s=some r then some (Classical.choose h)else none
def uG{S R:Type}{step:S->Option (S⊕R)}{s:S}{r:R}:runC step s=some r↔∃n,gN step n s=some r:=by
 unfold runC;constructor
 .intro h;split at h
  .rename_i hx;cases h;exact Classical.choose_spec hx
  cases h
 rintro⟨n,hn⟩;have hx:∃r,∃n,gN step n s=some r:=⟨r,n,hn⟩;rw[eY hx];obtain⟨m,hm⟩:=Classical.choose_spec hx;have h1:=zx (Nat.le_max_left n m) hn;have h2:=zx (Nat.le_max_right n m) hm;rw[<- h2,h1]
def IT{S R:Type}(step:S->Option (S⊕R))(s:S):runC step s=match step s with
 |none=>none
 |some (.inl s')=>runC step s'
 |some (.inr r)=>some r:=by
 apply Option.ext;intro r;rw[uG];constructor
 .rintro ⟨n,hn⟩;cases n with
  |zero=>cases hn
  |succ n=>
   simp only[gN]at hn;split at hn
   .cases hn
   .exact uG.2 ⟨n,hn⟩
   exact hn
 intro h;split at h
 .cases h
 .rename_i s' hs;obtain⟨n,hn⟩:=uG.1 h;exact⟨n+1,by simp only[gN,hs];exact hn⟩
 rename_i r' hs;exact⟨1,by simp only[gN,hs];exact h⟩
noncomputable def goO{S R:Type}(step:S->Option (S⊕R))(n:Nat):S->Option R⊕S:=Nat.rec (motive:=λ_=>S->Option R⊕S) (λs =>.inr s) (λ_ ih s=>match step s with|none =>.inl none|some (.inl s')=>ih s'|some (.inr r) =>.inl (some r)) n
def IU{S R:Type}{step:S->Option (S⊕R)}:∀(n:Nat) (s:S),(match goO step n s with|.inl o=>o|.inr s'=>runC step s')=runC step s
 |0,s=>rfl
 |n+1,s=>by
  rw[IT];show(match(match step s with|none=>Sum.inl none|some (.inl s')=>goO step n s'|some (.inr r) =>.inl (some r))with|.inl o=>o|.inr s'=>runC step s')=_;cases step s with
  |none=>rfl
  |some y=>
   cases y with
   |inl s'=>exact IU n s'
   |inr r=>rfl
noncomputable def cd{S R:Type}(step:S->Option (S⊕R))(s:S):Option R:=
 match goO step 1000000000000 s with
 |.inl o=>o
 |.inr s'=>runC step s'
def zy{S R:Type}(step:S->Option (S⊕R))(s:S):cd step s=runC step s:=IU _ s
def Zv{S R:Type}{step:S->Option (S⊕R)}{s:S}{r:R}:cd step s=some r↔∃n,gN step n s=some r:=by rw[zy];exact uG
def zz{S R:Type}(step:S->Option (S⊕R))(s:S):cd step s=match step s with
 |none=>none
 |some (.inl s')=>cd step s'
 |some (.inr r)=>some r:=by
 rw[zy,IT];cases step s with
 |none=>rfl
 |some y=>cases y with
  |inl s'=>exact(zy step s').symm
  |inr r=>rfl
def iQ{S R:Type}{step:S->Option (S⊕R)}{s s':S}(h:step s=some (.inl s')):cd step s=cd step s':=by rw[zz,h]
def eU{S R:Type}{step:S->Option (S⊕R)}{s:S}{r:R}(h:step s=some (.inr r)):cd step s=some r:=by rw[zz,h]
noncomputable def dD{S R:Type}(step:S->Option (S⊕R)):S⊕R->Option R
 |.inl s=>cd step s
 |.inr r=>some r
def idx? {α:Type} (xs:List α) (i:Int):Option α:=if 0<=i then xs[i.toNat]? else none
def app? {α:Type} (bytes:Nat) (xs ys:List α):Option (List α):=if(xs.length+ys.length)*bytes<=140737488355328/\xs.length+ys.length<=9223372036854775807 then some (xs++ys)else none
def ok? (b:Bool):Option Unit:=if b then some ()else none
def IV{α β:Type}(f:α->β)(xs:List α):(((xs.map f).length:Nat):Int)=(xs.length:Int):=by rw[da]
def all_map{α:Type}(f:α->List U)(k:Nat)(h:∀x,(f x).length=k)(xs:List α):∀el,el∈xs.map f->el.length=k:=by intro el hel;obtain⟨x,_,rfl⟩:=gJ.1 hel;exact h x
def iy{α:Type}{xs:List α}{i:Int}{x:α}(h:idx? xs i=some x):0<=i:=by
 unfold idx? at h;split at h
 .assumption
 cases h
def Z0x{α β:Type}{xs:List α}{i:Int}{x:α}(f:α->β)(h:idx? xs i=some x):(xs.map f)[i.toNat]?=some (f x):=by
 unfold idx? at h;split at h
 .simp [h]
 cases h
def Z2p{α β:Type}{xs:List α}{i:Int}{x:α}(f:α->β)(h:idx? xs i=some x):i<((xs.map f).length:Nat):=by
 unfold idx? at h;split at h
 .have:=(aJ.1 h).1;rw[da];omega
 cases h
def IW{α β:Type}{b:Nat}{xs ys zs:List α}(f:α->β)(h:app? b xs ys=some zs):xs.map f++ys.map f=zs.map f:=by
 unfold app? at h;split at h
 .cases h;simp
 cases h
def IX{α β:Type}{b:Nat}{ys zs:List α}(f:α->β)(h:app? b [] ys=some zs):ys.map f=zs.map f:=by simpa using IW f h
def IY{α β:Type}{b:Nat}{xs ys zs:List α}(f:α->β)(h:app? b xs ys=some zs):(zs.map f).length<=9223372036854775807:=by
 unfold app? at h;split at h
 .cases h;simp;omega
 cases h
def zA{α β:Type}{b:Nat}{xs ys zs:List α}(f:α->β)(h:app? b xs ys=some zs):(zs.map f).length*b<=140737488355328:=by
 unfold app? at h;split at h
 .cases h;simp;omega
 cases h
def Zw{b:Bool}{u:Unit}(h:ok? b=some u):b=true:=by
 unfold ok? at h;split at h
 .assumption
 cases h
def Zx{p:Prop} [Decidable p] {u:Unit} (h:ok? (decide p)=some u):p:=gE (Zw h)
def slice? {α:Type} (xs:List α) (l h:Int):Option (List α):=if 0<=l/\l<=h/\h<=xs.length then some ((xs.take h.toNat).drop l.toNat)else none
def copy? {α:Type} (dst src:List α):Option (List α):=if src.length<=dst.length then some (src++dst.drop src.length)else none
def make? {α:Type} (bytes:Nat) (z:α) (m c:Int):Option (List α):=if 0<=m/\m<=c/\(bytes:Int)*c<=281474976710656/\c<=9223372036854775807 then some (List.replicate m.toNat z)else none
def Zy{α:Type}{xs zs:List α}{l h:Int}(e:slice? xs l h=some zs):0<=l:=by
 unfold slice? at e;split at e
 .rename_i c;exact c.1
 cases e
def IZ{α:Type}{xs zs:List α}{l h:Int}(e:slice? xs l h=some zs):l<=h:=by
 unfold slice? at e;split at e
 .rename_i c;exact c.2.1
 cases e
def I0{α β:Type}{xs zs:List α}{l h:Int}(f:α->β)(e:slice? xs l h=some zs):h<=((xs.map f).length:Nat):=by
 unfold slice? at e;split at e
 .rename_i c;rw[da];exact c.2.2
 cases e
def I1{α β:Type}{xs zs:List α}{l h:Int}(f:α->β)(e:slice? xs l h=some zs):((xs.map f).take h.toNat).drop l.toNat=zs.map f:=by
 unfold slice? at e;split at e
 .cases e;simp[qg,ny]
 cases e
def kr{α:Type}{b:Nat}{z:α}{m c:Int}{zs:List α}(e:make? b z m c=some zs):0<=m/\m<=c/\(b:Int)*c<=281474976710656/\c<=9223372036854775807:=by
 unfold make? at e;split at e
 .assumption
 cases e
def I2{α β:Type}{b:Nat}{z:α}{m c:Int}{zs:List α}(f:α->β)(e:make? b z m c=some zs):m.toNat=(zs.map f).length:=by
 unfold make? at e;split at e
 .cases e;simp
 cases e
def zB{α β:Type}{b:Nat}{z:α}{m c:Int}{zs:List α}(f:α->β)(e:make? b z m c=some zs):List.replicate (zs.map f).length (f z)=zs.map f:=by
 unfold make? at e;split at e
 .cases e;simp
 cases e
def Zz{α β:Type}(f:α->β){xs:List α}(h:xs≠[]):xs.map f≠[]:=iS
def FnG.split0{P:Program}{f:FuncId}{es:List (List U)}{rest:List PV}{res:PV}{Z Z':List (Nat×Blk)}(h1:es≠[]->FnG P f Z (.t (.sl es)::rest) Z' res)(h2:es=[]->∀a c,FnG P f Z (.t (.con (.slice a 0 c))::rest) Z' res):FnG P f Z (.t (.sl es)::rest) Z' res:=by
 by_cases he:es=[]
 .refine⟨(h2 he none 0).1,λA β w vals hl hr=>?_⟩;have hv:=(hr.tm 0 (.t (.sl es)) (by simp[idx,PW.get])).2;subst he;simp only[VR,Z9]at hv;obtain⟨a,cap,hv,_⟩:=hv;refine(h2 rfl a cap).2 A β w vals hl ?_
  exact { defers:=hr.defers,sz:=hr.sz,base:=hr.base,os:=hr.os,tape:=hr.tape,output:=hr.output,old:=hr.old,A:=hr.A,gl:=hr.gl,inj:=hr.inj,sep:=hr.sep,fix:=hr.fix,row0:=hr.row0,blk:=hr.blk,
          tm:=λi p hp=>by
           by_cases hi:i=0
           .subst hi;simp only[idx,PW.get,Nat.beq_eq,av,aq]at hp;have hp:PV.t (.con (.slice a 0 cap))=p:=by simpa using hp
            subst hp;exact⟨by simp,by simp only[VR,Z9];exact⟨hv,rfl⟩⟩
           refine hr.tm i p ?_;simp only[idx,PW.get,ed (de hi),au]at hp⊢;exact hp }
 exact h1 he
def set? {α:Type} (xs:List α) (i:Int) (x:α):Option (List α):=if 0<=i/\i.toNat<xs.length then some (xs.set i.toNat x)else none
def set2? {α:Type} (z0 xs:List α) (i:Int) (x:α):Option (List α):=if xs.length=z0.length then set? xs i x else none
def lD{α:Type}{z0 z z2:List α}{i:Int}{x:α}(h:set2? z0 z i x=some z2):z.length=z0.length/\set? z i x=some z2:=by
 unfold set2? at h;split at h
 .rename_i e;exact⟨e,h⟩
 cases h
def I3{α β:Type}{z z2:List α}{i:Int}{x':α}(f:α->β)(h:set? z i x'=some z2):(List.map f z2)[i.toNat]?=some (f x'):=by
 unfold set? at h;split at h
 .rename_i c;cases h;simp[c.2]
 cases h
def zC{α:Type}{z z2:List α}{i:Int}{x x':α}{q:Nat}{ts:List U}(f:α->List U)(h:set? z i x'=some z2)(hs:splice (f x) q ts=f x'):(List.map f z).set i.toNat (splice (f x) q ts)=List.map f z2:=by
 unfold set? at h;split at h
 .cases h;rw[hs,qh]
 cases h
def I4{α β:Type}{z z2:List α}{i:Int}{x':α}(f:α->β)(h:set? z i x'=some z2):(List.map f z).set i.toNat (f x')=List.map f z2:=by
 unfold set? at h;split at h
 .cases h;rw[qh]
 cases h
def Z0y{α β:Type}{z z2:List α}{i:Int}{x':α}(f:α->β)(h:set? z i x'=some z2):(List.map f z).length=(List.map f z2).length:=by
 unfold set? at h;split at h
 .cases h;simp
 cases h
def kt{α:Type}(f:α->List U)(h:∀x,(f x).all U.scal=true)(z:List α):∀el,el∈List.map f z->∀x,x∈el->U.scal x=true:=by intro el hel x hx;obtain⟨y,_,rfl⟩:=gJ.1 hel;exact bU.1 (h y) x hx
def VRs.of_getD{c:Ctx}:∀{args:List PV} {vals:List Value},vals.length=args.length->(∀i p,args[i]?=some p->VR c p (vals.getD i undef))->VRs c args vals
 |[],[],_,_=>by simp[VRs]
 |p::args,v::vals,hl,h=>by simp only[VRs];exact⟨v,vals,rfl,by simpa using h 0 p rfl,VRs.of_getD nz (λi q hq=>by simpa using h (i+1) q uH)⟩
 |[],_::_,hl,_=>lE
 |_::_,[],hl,_=>lE
def FnG.ofW{P:Program}{f:FuncId}{args:List PV}{res:PV}(hok:FnOk P f)
 (h:∀(w:World) (vals:List Value),qi w->(∃c:Ctx,VRs c args vals)->Calls P f vals.toArray w λe w'=>∃v,e = .returned v/\w'=w/\∀c,VR c res v):Fn P f args res:=by
 refine⟨hok,λA β w vals hlen hr=>?_⟩;have hv:VRs (ctx (b9 β [] A w) β w []) args vals:=VRs.of_getD hlen (λi p hp=>by have:=(hr.tm i p (by rw[Z6u];simpa using hp)).2;simpa[List.getD_eq_getElem?_getD,Array.getD_eq_getD_getElem?]using this);refine(h w vals hr.glw ⟨_,hv⟩).mono ?_;rintro e w' ⟨v,rfl,rfl,hres⟩;refine⟨v,β,rfl,{ defers:=rfl,sz:=by simp,base:=hr.base,os:=hr.os,tape:=hr.tape,output:=hr.output,old:=hr.old,A:=hr.A,gl:=hr.gl,inj:=hr.inj,sep:=hr.sep,fix:=hr.fix,row0:=hr.row0,blk:=hr.blk,tm:=λi p hp=>?_ }⟩;simp only[PW.get]at hp;cases hb:Nat.beq 0 i with
 |true=>have:0=i:=(aU _ _).1 hb;subst this;simp only[hb,av,aq]at hp;subst hp;exact⟨by simp,by simpa using hres _⟩
 |false=>simp[hb]at hp
def strings_Contains(s sub:List UInt8):Option Bool:=if s.length<4294967281 then some (Lib.contains s sub)else none
def cB(b:Bool):List U:=[.bool b]
def cI(k:IntKind)(n:Int):List U:=[.int k n]
def cS(s:List UInt8):List U:=[.str s]
def cL{α:Type}(f:α->List U)(xs:List α):List U:=[.sl (xs.map f)]
structure A2 (α:Type) where
 (a0 a1:α)
 deriving DecidableEq,Inhabited
structure A3 (α:Type) where
 (a0 a1 a2:α)
 deriving DecidableEq,Inhabited
structure A5 (α:Type) where
 (a0 a1 a2 a3 a4:α)
 deriving DecidableEq,Inhabited
structure A6 (α:Type) where
 (a0 a1 a2 a3 a4 a5:α)
 deriving DecidableEq,Inhabited
def A2.list{α:Type}(x:A2 α):List α:=[x.a0,x.a1]
def cA3{α:Type}(f:α->List U)(x:A3 α):List U:=f x.a0++(f x.a1++f x.a2)
def A3.list{α:Type}(x:A3 α):List α:=[x.a0,x.a1,x.a2]
def cA5{α:Type}(f:α->List U)(x:A5 α):List U:=f x.a0++(f x.a1++(f x.a2++(f x.a3++f x.a4)))
def A5.list{α:Type}(x:A5 α):List α:=[x.a0,x.a1,x.a2,x.a3,x.a4]
def cA6{α:Type}(f:α->List U)(x:A6 α):List U:=f x.a0++(f x.a1++(f x.a2++(f x.a3++(f x.a4++f x.a5))))
def A6.list{α:Type}(x:A6 α):List α:=[x.a0,x.a1,x.a2,x.a3,x.a4,x.a5]
def ZA{k:Nat}{mid:List PV}{p:PV}(pre post:List PV)(h:c6 false 1 k mid=some p):c6 false 1 (pre.length+k) (pre++(mid++post))=some p:=by simp only[c6,au]at h⊢;rw[dU O,Nat.add_sub_cancel_left,dy (aJ.1 h).1];exact h
def ZC{α:Type}{xs:List α}{i:Int}{x:α}(h:idx? xs i=some x):xs[i.toNat]?=some x:=by have:=Z0x id h;simpa using this
def bytes? (s:List UInt8):Option (List Int):=if s.length<=9223372036854775807 then some (s.map λb=>(b.toNat:Int))else none
def ZD{s:List UInt8}{z:List Int}(h:bytes? s=some z):eF s=List.map (cI .u8) z:=by
 unfold bytes? at h;split at h
 .cases h;simp[eF,cI]
 cases h
def ZE{s:List UInt8}{z:List Int}(h:bytes? s=some z):s.length<=9223372036854775807:=by
 unfold bytes? at h;split at h
 .rename_i hl;exact hl
 cases h
def Z65(k:IntKind)(a b:Int):Int:=k.wrap (a*2 ^ (min b.toNat k.bits))
def shrI(k:IntKind)(a b:Int):Int:=a.fdiv (2 ^ (min b.toNat k.bits))
def fM(k:IntKind)(a b:Int):Int:=k.wrap (a.tdiv b)
def Ok{S R:Type}(P:Program)(rs:List RV)(sr:R->List (Nat×Blk))(res:R->PV)(cfg:S->Cfg)(stf:S->PW.St)(r:R):S⊕R->Prop
 |.inl s=>(cfg s).holds P (eg (Z6z rs (sr r) (res r))) (stf s)
 |.inr r'=>r'=r
def ZF{S R:Type}{P:Program}{rs:List RV}{sr:R->List (Nat×Blk)}{res:R->PV}{cfg:S->Cfg}{stf:S->PW.St}{r:R}{step:S->Option (S⊕R)}(hstep:∀s y,step s=some y->Ok P rs sr res cfg stf r y->(cfg s).holds P (eg (Z6z rs (sr r) (res r))) (stf s)){y:S⊕R}
 (h:dD step y=some r):Ok P rs sr res cfg stf r y:=by
 have key:∀(n:Nat) (s:S),gN step n s=some r->(cfg s).holds P (eg (Z6z rs (sr r) (res r))) (stf s):=by
  intro n;induction n with
  |zero=>intro s h;cases h
  |succ n ih=>
   intro s h;simp only[gN]at h;split at h
   .cases h
   .rename_i s' hs;exact hstep s _ hs (ih s' h)
   rename_i r' hs;cases h;exact hstep s _ hs (show Ok P rs sr res cfg stf r (.inr r)from rfl)
 cases y with
 |inl s=>obtain⟨n,hn⟩:=Zv.1 h;exact key n s hn
 |inr r'=>have:some r'=some r:=h;cases this;exact(show Ok P rs sr res cfg stf r (.inr r)from rfl)
section
variable {P:Program} {T:TS} {S R:Type} {rs:List RV} {sr:R->List (Nat×Blk)} {res:R->PV} {cfg:S->Cfg} {stf:S->PW.St} {r:R} {y:S⊕R} {g:Cfg} {st:PW.St} {C:Prop}
end
def rvOK(T:TS):List RV->Bool
 |[]=>true
 |.t _::r=>rvOK T r
 |.c _ t ag sz::r=>(match get T t with|some i=>(i.agg==ag)&&Nat.beq i.size sz|none=>false)&&rvOK T r
def zD{P:Program}{T:TS}(hT:TOK P T):∀(rs:List RV),rvOK T rs=true->∀x t ag sz,RV.c x t ag sz∈rs->TyF P t ag sz
 |[],_,x,t,ag,sz,h=>di
 |.t i::r,hb,x,t,ag,sz,h=>by
  simp only[rvOK]at hb;rcases cn.1 h with h|h
  .cases h
  exact zD hT r hb x t ag sz h
 |.c x0 t0 ag0 sz0::r,hb,x,t,ag,sz,h=>by
  simp only[rvOK,aL]at hb;rcases cn.1 h with h|h
  .cases h;have h1:=hb.1;split at h1
   .rename_i i hi;simp only[aL,aU,nA]at h1;have:=(hT _ i hi).ty;rw[h1.1,h1.2]at this;exact this
   cases h1
  exact zD hT r hb.2 x t ag sz h
def FnG.of_cfg {P:Program} {T:TS} (hT:TOK P T) {f:FuncId} {args:List PV} {Z Z':List (Nat×Blk)} {res:PV} {fn:Func} {c:Code} (hf:P.funcs[f]? = some fn) (hb:fn.body=some c) (hname:(fn.name == "runtime.NumGoroutine")=false)
 (n:Nat) (hn:fn.ntmps=n) (hna:args.length<=n) (rs:List RV) (hres:fn.results=(rs.map RV.to).toArray) (hrv:rvOK T rs=true) (h:(Cfg.code c []).holds P (eg (Z6z rs Z' res)) ⟨n,idx 0 args,Z⟩):FnG P f Z args Z' res:=
 FnG.of_pw hf hb hname n hn hna rs hres (zD hT rs hrv) (PW.upto h)
def FnG.frozen{P:Program}{f:FuncId}{args:List PV}{σ1:List (Nat×Blk)}{res q:PV}{C:Prop}(h:FnG P f [] args σ1 res)(c:C)(hq:(cQ σ1 res).map (λx=>(aG x.1,x.2))=some (C,q)):Fn P f args q:=by simp only[cA,bG]at hq;obtain⟨⟨cs,p⟩,h1,h2,h3⟩:=hq;simp only at h2 h3;subst h3;exact h.toFn (zE (λ_=>rfl) h1 (by rw[h2];exact c))
def ZG{α:Type}(pre l post:List α)(k:Nat)(hk:k<l.length)(p:α):splice (pre++(l++post)) (pre.length+k) [p]=pre++(l.set k p++post):=by unfold splice;rw[List.take_length_add_append,bT,cg,show pre.length+k+(0+1)=pre.length+(k+1) by omega,List.drop_length_add_append,uI O,List.drop_append_of_le_length O,List.set_eq_take_append_cons_drop,aP hk];simp
def A5.set? {α:Type} (x:A5 α) (i:Int) (v:α):Option (A5 α):=if 0<=i/\i<5 then(match x.list.set i.toNat v with|[a0,a1,a2,a3,a4]=>some ⟨a0,a1,a2,a3,a4⟩|_=>none)else none
def ZH{α:Type}(f:α->U){x y:A5 α}{i:Int}{v:α}(pre post:List PV)(h:x.set? i v=some y):(pre.length+i.toNat*1+1<=(pre++((cA5 (λa=>[f a]) x).map PV.t++post)).length)/\splice (pre++((cA5 (λa=>[f a]) x).map PV.t++post)) (pre.length+i.toNat*1) [.t (f v)]=pre++((cA5 (λa=>[f a]) y).map PV.t++post):=by
 unfold A5.set? at h;split at h
 .rename_i hi;have hl:i.toNat<(x.list.map λa=>PV.t (f a)).length:=by simp[A5.list];omega
  have e1:(cA5 (λa=>[f a]) x).map PV.t=x.list.map λa=>PV.t (f a):=rfl;have e2:(cA5 (λa=>[f a]) y).map PV.t=y.list.map λa=>PV.t (f a):=rfl;have hy:y.list=x.list.set i.toNat v:=by
   split at h
   .rename_i heq;cases h;rw[heq];rfl
   cases h
  rw[e1,e2,df,ZG _ _ _ _ hl,hy,qh];refine⟨?_,rfl⟩;rw[bF,bF];omega
 cases h
def ZI{α:Type}{x:A5 α}{i:Int}{v:α}(h0:0<=i)(h1:i<5):∃y,x.set? i v=some y/\y.list=x.list.set i.toNat v:=by
 have hl:(x.list.set i.toNat v).length=5:=by simp[A5.list]
 unfold A5.set?;rw[aP ⟨h0,h1⟩];generalize x.list.set i.toNat v=l at hl
 match l,hl with
 |[a0,a1,a2,a3,a4],_=>exact⟨⟨a0,a1,a2,a3,a4⟩,rfl,rfl⟩
def str? (xs:List Int):Option (List UInt8):=if xs≠[]/\∀n,n∈xs->0<=n/\n<256 then some (xs.map λn=>UInt8.ofNat n.toNat)else none
def I5{xs:List Int}{s:List UInt8}(h:str? xs=some s):eF s=List.map (cI .u8) xs/\s≠[]:=by
 unfold str? at h;split at h
 .rename_i hc;cases h;refine⟨?_,by simpa using hc.1⟩;simp only[eF,List.map_map];refine List.map_congr_left λn hn=>?_;obtain⟨h0,h1⟩:=hc.2 n hn;simp only[Function.comp,cI];have:(UInt8.ofNat n.toNat).toNat=n.toNat:=by simp;omega
  rw[this];congr 1;congr 1;omega
 cases h
def Z9w{xs zs:List UInt8}{l h:Int}(e:slice? xs l h=some zs):0<=l/\l<=h/\h<=(xs.length:Int)/\(xs.take h.toNat).drop l.toNat=zs:=by
 unfold slice? at e;split at e
 .rename_i c;exact⟨c.1,c.2.1,c.2.2,c9 e⟩
 cases e
def clr? {α:Type} (xs:List α) (i:Int) (z:α):Option (List α):=if 0<=i/\i<=xs.length then some (xs.take i.toNat++List.replicate (xs.length-i.toNat) z)else none
def I6{α:Type}{xs zs:List α}{i:Int}{z:α}(e:clr? xs i z=some zs):0<=i:=by
 unfold clr? at e;split at e
 .rename_i c;exact c.1
 cases e
def I7{α β:Type}{xs zs:List α}{i:Int}{z:α}(f:α->β)(e:clr? xs i z=some zs):i<=((xs.map f).length:Nat):=by
 unfold clr? at e;split at e
 .rename_i c;rw[da];exact c.2
 cases e
def ZJ{α β:Type}{xs zs:List α}{i:Int}{z:α}(f:α->β)(e:clr? xs i z=some zs):(xs.map f).take i.toNat++List.replicate ((xs.map f).length-i.toNat) (f z)=zs.map f:=by
 unfold clr? at e;split at e
 .cases e;simp[ny]
 cases e
def ZK{α β:Type}{xs zs:List α}{i:Int}{z:α}(f:α->β)(e:clr? xs i z=some zs):(xs.map f).length=(zs.map f).length:=by
 unfold clr? at e;split at e
 .rename_i c;cases e;simp;omega
 cases e
def ZL{α β:Type}{xs zs:List α}{i:Int}(f:α->β)(e:slice? xs 0 i=some zs):i.toNat=(zs.map f).length:=by
 unfold slice? at e;split at e
 .rename_i c;cases e;simp;omega
 cases e
def ZM{α β:Type}{xs zs:List α}{i:Int}(f:α->β)(e:slice? xs 0 i=some zs):(xs.map f).take i.toNat=zs.map f:=I1 f e
def setM? {α:Type} (xs:List (List α)) (i:Int) (y:List α) (j:Int) (v:α):Option (List (List α)):=some (xs.set i.toNat (y.set j.toNat v))
def ZN{α:Type}{xs zs:List (List α)}{i j:Int}{y:List α}{v:α}(f:α->List U)(e:setM? xs i y j v=some zs):(xs.map (cL f)).set i.toNat [.sl ((y.map f).set j.toNat (f v))]=zs.map (cL f):=by cases e;rw[qh];show _=(xs.map (cL f)).set i.toNat [.sl ((y.set j.toNat v).map f)];rw[qh]
def ZO{α:Type}{xs zs:List (List α)}{i j:Int}{y:List α}{v:α}(f:α->List U)(e:setM? xs i y j v=some zs):(xs.map (cL f)).length=(zs.map (cL f)).length:=by cases e;simp
end Go.PW
namespace Go.PW
open Go.RowKit
def Z2q(P:Program):List Field->Nat->Nat->Bool
 |[],off,vp=>Nat.beq off vp
 |f::fs,off,vp=>Nat.beq f.offset off&&Z2q P fs (off+P.cellsOf f.type) vp
def jh(P:Program):Nat->TypeId->Bool
 |0,_=>false
 |d+1,t=>
  match P.underlying t with
  |some .bool=>true
  |some (.int _)=>true
  |some .string=>true
  |some (.slice e)=>jh P d e&&Nat.blt 0 (P.cellsOf e)
  |some (.struct fs)=>(fs.toList.all λf=>jh P d f.type)&&Z2q P fs.toList 0 (P.cellsOf t)
  |some (.array n e)=>jh P d e&&Nat.beq (n*P.cellsOf e) (P.cellsOf t)
  |_=>false
def Seq(Q:TypeId->List U->Prop):List TypeId->List U->Prop
 |[],ts=>ts=[]
 |t::l,ts=>∃a b,ts=a++b/\Q t a/\Seq Q l b
def WT(P:Program):Nat->TypeId->List U->Prop
 |0,_,_=>False
 |d+1,t,ts=>
  match P.underlying t with
  |some .bool=>∃b,ts=[.bool b]
  |some (.int k)=>∃n,ts=[.int k n]/\(Lit.int k n).wf=true
  |some .string=>∃s,ts=[.str s]/\(s.length<=maxLen/\s.length<=reachBytes)
  |some (.slice e)=>∃es,ts=[.sl es]/\(es.length<=maxLen/\es.length*P.bytesOf e<=reachBytes)/\∀el∈es,WT P d e el
  |some (.struct fs)=>Seq (WT P d) (fs.toList.map (·.type)) ts
  |some (.array n e)=>Seq (WT P d) (List.replicate n e) ts
  |_=>False
def Rd(w:World):Ctx:=⟨λ_=>none,λb=>b<w.heap.size,w,[]⟩
def MG{I:Nat->Prop}{w:World}{b k:Nat}{Q:List U->Prop}:∀(n off:Nat),(∀i,i<n->∃ts,ts.length=k/\Z6 I w b ts (off+i*k)/\Q ts)->∃es,es.length=n/\ao I w b es off/\∀el∈es,Q el
 |0,off,_=>⟨[],rfl,aa,λ_ h=>by cases h⟩
 |n+1,off,h=>by
  obtain⟨t0,h0,hc,hq⟩:=h 0 O;obtain⟨es,h1,h2,h3⟩:=MG (I:=I) (w:=w) (b:=b) (k:=k) (Q:=Q) n (off+k) (λi hi=>by obtain⟨ts,g1,g2,g3⟩:=h (i+1) O;exact⟨ts,g1,by rwa[show off+(i+1)*k=off+k+i*k by rw[dQ,eP];omega]at g2,g3⟩);refine⟨t0::es,by simp[h1],?_,λel hel=>?_⟩
  .simp only[ao];exact⟨by simpa using hc,by rw[h0];exact h2⟩
  rcases cn.1 hel with h|h
  .subst h;exact hq
  exact h3 el h
def mapM_mem'{α β:Type}{f:α->Option β}:∀{l:List α} {xs:List β},l.mapM f=some xs->∀a∈l,∃x,f a=some x/\x∈xs
 |[],_,_,a,h=>di
 |b::l,xs,h,a,ha=>by
  rw[kx]at h;simp only[bind,dC,pure,aq]at h;obtain⟨y,hy,ys,hys,rfl⟩:=h;rcases cn.1 ha with e|e
  .subst e;exact⟨y,hy,by simp⟩
  obtain⟨x,h1,h2⟩:=mapM_mem' hys a e;exact⟨x,h1,by simp[h2]⟩
section
variable {P:Program} {w:World}
def MH{Q:TypeId->List U->Prop}{cs:List Value}:∀(fs:List Field) (off:Nat),Z2q P fs off cs.length=true->off<=cs.length ->
 (∀f∈fs,∃ts,VRs (Rd w) (ts.map .t) ((cs.drop f.offset).take (P.cellsOf f.type))/\Q f.type ts)->∃ts:List U,VRs (Rd w) (ts.map .t) (cs.drop off)/\Seq Q (fs.map (·.type)) ts
 |[],off,h,_,_=>by simp only[Z2q,aU]at h;exact⟨[],by simp[VRs,h],rfl⟩
 |f::fs,off,h,hle,hf=>by
  simp only[Z2q,aL,aU]at h;obtain⟨h1,h2⟩:=h;obtain⟨a,ha,hq⟩:=hf f al;rw[h1]at ha;have hle2:off+P.cellsOf f.type<=cs.length:=by
   have:∀(fs:List Field) (o:Nat),Z2q P fs o cs.length=true->o<=cs.length:=by
    intro fs;induction fs with
    |nil=>intro o h;simp only[Z2q,aU]at h;omega
    |cons g fs ih=>intro o h;simp only[Z2q,aL]at h;have:=ih _ h.2;omega
   exact this fs _ h2
  obtain⟨b,hb,hs⟩:=MH (Q:=Q) fs (off+P.cellsOf f.type) h2 hle2 (λg hg=>hf g (cK _ hg));refine⟨a++b,?_,a,b,rfl,hq,hs⟩;rw[eL];have:=ha.append hb;rwa[show(cs.drop off).take (P.cellsOf f.type)++cs.drop (off+P.cellsOf f.type)=cs.drop off by rw[<- gQ];exact j7 _ _]at this
def MI{Q:TypeId->List U->Prop}{cs:List Value}{e k:Nat}:∀(n off:Nat),off+n*k=cs.length ->
 (∀i,i<n->∃ts,VRs (Rd w) (ts.map .t) ((cs.drop (off+i*k)).take k)/\Q e ts)->∃ts:List U,VRs (Rd w) (ts.map .t) (cs.drop off)/\Seq Q (List.replicate n e) ts
 |0,off,h,_=>⟨[],by simp[VRs,show off=cs.length by omega],rfl⟩
 |n+1,off,h,hf=>by
  have e1:(n+1)*k=n*k+k:=u3
  obtain⟨a,ha,hq⟩:=hf 0 O;rw[u5,cZ]at ha;obtain⟨b,hb,hs⟩:=MI (Q:=Q) (cs:=cs) (e:=e) (k:=k) n (off+k) O (λi hi=>by obtain⟨ts,g1,g2⟩:=hf (i+1) O;exact⟨ts,by rwa[show off+(i+1)*k=off+k+i*k by rw[dQ,eP];omega]at g1,g2⟩);refine⟨a++b,?_,a,b,rfl,hq,hs⟩;rw[eL];have:=ha.append hb;rwa[show(cs.drop off).take k++cs.drop (off+k)=cs.drop off by rw[<- gQ];exact j7 _ _]at this
def Z0z{H:Type}{e:TypeId}{d:DataW H}{n:Nat}:∀{ds:List (DataW H)},d∈ds->n∈d.weights P e->n∈DataW.weightsAll P e ds
 |[],h,_=>di
 |y::ds,h,hn=>by
  simp only[DataW.weightsAll,cD];rcases cn.1 h with h|h
  .subst h;exact .inl hn
  exact .inr (Z0z h hn)
def AS{H:Type}{t:TypeId}{d:DataW H}{n:Nat}:∀{ts:List TypeId} {ds:List (DataW H)} {i:Nat},ts[i]?=some t->ds[i]?=some d->n∈d.weights P t->n∈DataW.weightsEach P ts ds
 |[],_,_,h,_,_=>jb
 |_::_,[],_,_,h,_=>jb
 |u::ts,y::ds,0,ht,hd,hn=>by simp only[js,aq]at ht hd;subst ht;subst hd;simp only[DataW.weightsEach,cD];exact .inl hn
 |u::ts,y::ds,i+1,ht,hd,hn=>by simp only[DataW.weightsEach,cD];exact .inr (AS (by simpa using ht) (by simpa using hd) hn)
def Z6i{H:Type}{enc:TypeId×Value->H}:∀(D fuel:Nat) (t:TypeId) (cs:List Value) (x:DataW H×List MemPlace),DataW.trod enc P w 0 (λ_=>true) true fuel t cs=some x->jh P D t=true->(∀n∈x.1.weights P t,n<=reachBytes) ->
 ∃ts:List U,VRs (Rd w) (ts.map .t) cs/\WT P D t ts
 |0,_,_,_,_,_,hp,_=>by simp[jh]at hp
 |D+1,fuel,t,cs,x,h,hp,hwt=>by
  unfold jh at hp;unfold WT;cases hu:P.underlying t with
  |none=>simp[hu]at hp
  |some u=>
   simp only[hu]at hp⊢;cases u<;>simp only[fb]at hp
   case bool=>
    obtain⟨b,rfl,_⟩:=DataW.trod_bool hu h;exact⟨[.bool b],by simp[VRs,VR,Z9],b,rfl⟩
   case int k=>
    obtain⟨n,rfl,_,hw⟩:=DataW.trod_int hu h;exact⟨[.int k n],by simp[VRs,VR,Z9],n,rfl,hw⟩
   case string=>
    obtain⟨s,rfl,rfl,hl⟩:=DataW.trod_string hu h;refine⟨[.str s.data.toList],by simp[VRs,VR,Z9],_,rfl,by rw[iV];exact hl,hwt _ (by simp[DataW.weights])⟩
   case slice e=>
    obtain⟨hp1,hp2⟩:=Bool.and_eq_true_iff.1 hp;rw[gF]at hp2;rcases DataW.trod_slice hu h with⟨rfl,_⟩|⟨a,len,cap,elems,rest,n,_,rfl,rfl,_,hlc,hcm,hel,hE,_⟩
    .refine⟨[.sl []],?_,[],rfl,⟨fW _,by simp⟩,λ_ h=>by cases h⟩;simp only[cw,fI,VRs,VR,Z9];exact⟨_,_,rfl,⟨none,0,rfl,aW _,fW _,.inl trivial⟩,rfl⟩
    by_cases h0:len=0
    .subst h0;refine⟨[.sl []],?_,[],rfl,⟨fW _,by simp⟩,λ_ h=>by cases h⟩;simp only[cw,fI,VRs,VR,Z9];exact⟨_,_,rfl,⟨some a,cap,rfl,hlc,hcm,.inl trivial⟩,rfl⟩
    have hwl:(elems.length+rest.length)*P.bytesOf e<=reachBytes:=hwt _ (by simp[DataW.weights,hu]);have hone:∀i,i<len->∃cs' y,w.cells? 0 (a.add (i*P.cellsOf e)) (P.cellsOf e)=some cs'/\DataW.trod enc P w 0 (λ_=>true) true n e cs'=some y/\∀m∈y.1.weights P e,m<=reachBytes:=by
     intro i hi;have:=hE i hi;have hlt:i<elems.length:=bg
     rw[bn hlt]at this;obtain⟨cs',h1,h2⟩:=dC.1 this;refine⟨cs',_,h1,h2,λm hm=>hwt m ?_⟩;simp only[DataW.weights,hu];exact cK _ (cD.2 (.inl (Z0z (gJ.2 ⟨_,kZ hlt,rfl⟩) hm)))
    have hspot:a.spot=none:=by
     obtain⟨cs',y,h1,_,_⟩:=hone 0 O;obtain⟨_,hl,hc⟩:=World.cells?_some h1;have:=hc 0 hp2;rw[bn O]at this;have e0:(a.add (0*P.cellsOf e)).add 0=a:=by simp[Addr.add]
     rw[e0]at this;unfold World.cell? at this;split at this
     .split at this
      .cases this
      rename_i hs;simpa using hs
     cases this
    obtain⟨b,off,spot⟩:=a;simp only at hspot;subst hspot;have hbl:b<w.heap.size:=by obtain⟨cs',y,h1,_,_⟩:=hone 0 O;have:=World.cells?_block h1 hp2;simpa[Addr.add]using this
    obtain⟨es,g1,g2,g3⟩:=MG (I:=(Rd w).I) (w:=w) (b:=b) (k:=P.cellsOf e) (Q:=WT P D e) len off (λi hi=>by
     obtain⟨cs',y,h1,h2,hy⟩:=hone i hi;obtain⟨ts,ht,hw⟩:=Z6i D n e cs' y h2 hp1 hy;obtain⟨_,hl,hc⟩:=World.cells?_some h1;refine⟨ts,by have:=ht.length;simp at this;omega,iH (c:=Rd w) ht (λj v hj=>?_),hw⟩;have hjl:j<P.cellsOf e:=by rw[<- hl];exact(aJ.1 hj).1
     have:=hc j hjl;rw[gS,gS]at this;exact this.trans hj)
    refine⟨[.sl es],?_,es,rfl,⟨by omega,cX (gj _ O) hwl⟩,g3⟩;simp only[cw,fI,VRs,VR,Z9];exact⟨_,_,rfl,⟨some ⟨b,off,none⟩,cap,by rw[g1],by omega,hcm,.inr ⟨b,off,rfl,hbl,g2⟩⟩,rfl⟩
   case struct fs=>
    obtain⟨hp1,hp2⟩:=Bool.and_eq_true_iff.1 hp;obtain⟨xs,n,_,rfl,hl,hlen,hf⟩:=DataW.trod_struct hu h;rw[<- hl]at hp2;have:=MH (Q:=WT P D) fs.toList 0 hp2 (fW _) (λf hfm=>by
     obtain⟨i,hi⟩:=List.mem_iff_getElem?.1 hfm;have hi':fs[i]?=some f:=AT
     have hlt:i<xs.length:=by rw[hlen];exact(pa.1 hi').1
     have h2:=hf i f hi';rw[bn hlt]at h2;refine Z6i D n f.type _ _ h2 (bU.1 hp1 f hfm) (λm hm=>hwt m ?_);simp only[DataW.weights,hu];exact AS (i:=i) (t:=f.type) (d:=xs[i].1) (by simp[hi]) (by simp[bn hlt]) hm)
    simpa using this
   case array n e=>
    obtain⟨hp1,hp2⟩:=Bool.and_eq_true_iff.1 hp;cases fuel with
    |zero=>simp[DataW.trod]at h
    |succ m=>
     unfold DataW.trod at h;simp only[hu]at h;have harr:cs.length=P.cellsOf t/\∃xs,(List.range n).mapM (λi=>DataW.trod enc P w 0 (λ_=>true) true m e ((cs.drop (i*P.cellsOf e)).take (P.cellsOf e)))=some xs/\x.1 = .agg (xs.map (·.1)):=by
      split at h
      .rename_i hl;simp only[cA]at h;obtain⟨xs,h1,h2⟩:=h;exact⟨hl,xs,h1,by rw[<- h2]⟩
      cases h
     obtain⟨hl,xs,hx,hx1⟩:=harr;have hwx:∀y∈xs,∀k∈y.1.weights P e,k<=reachBytes:=λy hy k hk=>hwt k (by rw[hx1];simp only[DataW.weights,hu];exact Z0z (gJ.2 ⟨y,hy,rfl⟩) hk);have:=MI (w:=w) (Q:=WT P D) (cs:=cs) (e:=e) (k:=P.cellsOf e) n 0 (by rw[hl];have:=(aU _ _).1 hp2;omega) (λi hi=>by obtain⟨y,hy,hym⟩:=mapM_mem' hx i AT;rw[aM];exact Z6i D m e _ _ hy hp1 (hwx y hym));simpa using this
end
end Go.PW
namespace Go.PW
open Go.RowKit Go.ChangeShapes Go.WideShapes Go.ChangeAt
def oneT:List U->PV
 |[x] =>.t x
 |_ =>.nils
def lY(P:Program)(t:TypeId)(ts:List U):PV:=
 match P.underlying t with
 |some (.struct _) =>.agg (ts.map .t)
 |some (.array _ _) =>.agg (ts.map .t)
 |_=>oneT ts
section
variable {H:Type} {enc:TypeId×Value->H} {P:Program} {w:World}
def Zdr{D base:Nat}{t:TypeId}{v:Value}{d:DataW H}{p:List MemPlace}(hval:Value.okWide P w .any base t v)(hd:DataW.Trod enc P w 0 (λ_=>true) true t v d p)(hp:jh P D t=true)(hwt:∀n∈d.weights P t,n<=reachBytes) :
 ∃ts,VR (Rd w) (lY P t ts) v/\WT P D t ts:=by
 obtain⟨fuel,hd⟩:=hd;obtain⟨ts,hr,hw⟩:=Z6i D fuel t _ _ hd hp hwt;refine⟨ts,?_,hw⟩;unfold lY;unfold Value.okWide at hval;have one:∀u,v.cells.toList=[u]->(∀cs,v ≠ .agg cs)->u=v:=by intro u hu hne;cases v<;>first|exact absurd rfl (hne _)|(simp[Value.cells]at hu;exact hu.symm)
 have key:(∀cs,v ≠ .agg cs)->(∃x,ts=[x])->VR (Rd w) (oneT ts) v:=by rintro hne ⟨x,rfl⟩;simp only[cw,fI,VRs]at hr;obtain⟨u,rest,he,hv,hrest⟩:=hr;subst hrest;have:=one u he hne;subst this;exact hv
 cases D with
 |zero=>simp[jh]at hp
 |succ D=>
  unfold WT at hw;unfold jh at hp;cases hu:P.underlying t with
  |none=>simp[hu]at hp
  |some u=>
   simp only[hu]at hp hval hw⊢;cases u<;>simp only[fb]at hp hval hw⊢
   case struct fs=>
    obtain⟨cs,rfl,_⟩:=hval;simp only[VR];exact⟨cs.toList,by simp,by simpa[Value.cells]using hr⟩
   case array n e=>
    obtain⟨cs,rfl,_⟩:=hval;simp only[VR];exact⟨cs.toList,by simp,by simpa[Value.cells]using hr⟩
   all_goals
    refine key (λcs e=>?_) ?_
    .subst e;simp[Cell.okWide,Cell.ok,hu]at hval
    first
    |(obtain⟨b,hb⟩:=hw;exact⟨_,hb⟩)
    |(obtain⟨b,hb,_⟩:=hw;exact⟨_,hb⟩)
def Jo{f:FuncId}{qs:List PV}{W:World}{args:Array Value}(hgl:qi W)(hf:Fn P f qs (.t (.bool true)))(hv:VRs (Rd W) qs args.toList) :
 Calls P f args W λe W'=>e = .returned (.bool true)/\Below W.heap.size W W':=by
 have:=Ct hf (λb=>b<W.heap.size) (λb hb=>hb) (λg k hg=>(hgl g k hg).1) (w:=W) (vals:=args.toList) hgl hv;rw[Array.toArray_toList]at this;refine this.mono ?_;rintro e W' ⟨v,rfl,hr,hs,hb,h1,h2,h3⟩;simp only[VR,Z9]at hr;subst hr;exact⟨rfl,h1,h2,h3,hs,hb⟩
end
end Go.PW
namespace Go.PW
open Go.RowKit
def eu{n:Int}(h0 : -9223372036854775808<=n)(h1:n<9223372036854775808):IntKind.wrap .i64 n=n:=by
 simp only[IntKind.wrap,IntKind.bits,IntKind.signed,fE,k9,eI];rcases Int.lt_or_le n 0 with h|h
 .have:n%(2 ^ 64:Int)=n+2 ^ 64:=by
   rw[<- Int.add_emod_right];exact ra O O
  rw[this,aP O];omega
 have:n%(2 ^ 64:Int)=n:=ra h O;rw[this,aI O]
def Z9x{i n:Nat}(h:i<n)(hn:n<=4611686018427387904):IntKind.wrap .i64 ((i:Int)+1)=((i+1:Nat):Int):=by rw[eu O O];omega
def gp{α:Type}{b:List α}{j:Nat}{x:α}(h:b[j]?=some x):idx? b (j:Int)=some x:=by unfold idx?;rw[aP O];simpa using h
def Zdp{α:Type}(b:List α){j:Nat}(h:j<b.length):idx? b (j:Int)=some b[j]:=gp (bn h)
def MF{α:Type}{k:Nat}{a b:List α}(h:(a.length+b.length)*k<=140737488355328)(hk:0<k):app? k a b=some (a++b):=by have:a.length+b.length<=(a.length+b.length)*k:=vo _ hk;unfold app?;rw[aP ⟨h,by omega⟩]
def scan{S R:Type}{step:S->Option (S⊕R)}{st:Nat->S}{bad:R}(n:Nat)(q:Nat->Bool)(h:∀i,i<n->step (st i)=some (bif q i then .inl (st (i+1))else .inr bad)) :
 cd step (st 0)=bif (List.range n).all q then cd step (st n)else some bad:=by
 have key:∀(d i:Nat),i+d=n->cd step (st i)=bif (List.range' i d).all q then cd step (st n)else some bad:=by
  intro d;induction d with
  |zero=>intro i hi;rw[show i=n by omega];rfl
  |succ d ih=>
   intro i hi;rw[zz,h i O,List.range'_succ,jr];cases hq:q i with
   |true=>simp only[av,fE];exact ih (i+1) O
   |false=>rfl
 rw[key n 0 O,List.range_eq_range']
def nD(k:IntKind)(x y:Int)(r s:List U):az (cI k x++r) (cI k y++s)=(decide (x=y)&&az r s):=by simp only[cI,eR,iT,az,hU];try rfl
def Zat(x y:List UInt8)(r s:List U):az (cS x++r) (cS y++s)=(decide (x=y)&&az r s):=by
 simp only[cS,eR,iT,az,hU];congr 1;by_cases h:x=y
 .subst h;simp
 rw[bO h];exact jN.2 h
def Zdq{α:Type} [DecidableEq α] {f:α->List U} (hf:∀x y r s,az (f x++r) (f y++s)=(decide (x=y)&&az r s)) (x y:A5 α) (r s:List U):az (cA5 f x++r) (cA5 f y++s)=(decide (x=y)&&az r s):=by obtain⟨a0,a1,a2,a3,a4⟩:=x;obtain⟨b0,b1,b2,b3,b4⟩:=y;simp only[cA5,gI,hf,A5.mk.injEq,la,lJ]
def Z9y{α:Type} [DecidableEq α] {f:α->List U} (hf:∀x y r s,az (f x++r) (f y++s)=(decide (x=y)&&az r s)) (x y:α):az (f x) (f y)=decide (x=y):=by have:=hf x y [] [];simpa[az]using this
section
variable {P:Program}
def Z8{t:TypeId}{k:IntKind}(hu:P.underlying t=some (.int k))(d:Nat)(ts:List U)(h:WT P d t ts):∃n,ts=cI k n/\(k.min<=n/\n<=k.max):=by
 cases d with
 |zero=>cases h
 |succ d=>
  simp only[WT,hu]at h;obtain⟨n,rfl,h⟩:=h;simp only[Lit.wf,aL,eI]at h;exact⟨n,rfl,h⟩
def fg{t:TypeId}(hu:P.underlying t=some .bool)(d:Nat)(ts:List U)(h:WT P d t ts):∃b,ts=cB b/\True:=by
 cases d with
 |zero=>cases h
 |succ d=>
  simp only[WT,hu]at h;obtain⟨b,rfl⟩:=h;exact⟨b,rfl,aa⟩
def qZ{t:TypeId}(hu:P.underlying t=some .string)(d:Nat)(ts:List U)(h:WT P d t ts):∃s,ts=cS s/\s.length<=reachBytes:=by
 cases d with
 |zero=>cases h
 |succ d=>
  simp only[WT,hu]at h;obtain⟨b,rfl,_,h⟩:=h;exact⟨b,rfl,h⟩
def OkL{α:Type}(k:Nat)(ok:α->Prop)(xs:List α):Prop:=xs.length*k<=reachBytes/\∀x,x∈xs->ok x
def dE{α:Type}{f:α->List U}{ok:α->Prop}{t e k:Nat}(hu:P.underlying t=some (.slice e))(hb:P.bytesOf e=k)(he:∀d ts,WT P d e ts->∃x,ts=f x/\ok x)(d:Nat)(ts:List U)(h:WT P d t ts):∃xs,ts=cL f xs/\OkL k ok xs:=by
 cases d with
 |zero=>cases h
 |succ d=>
  simp only[WT,hu]at h;obtain⟨es,rfl,⟨_,h1⟩,h2⟩:=h;have:∀es:List (List U),(∀el∈es,WT P d e el)->∃xs:List α,es=List.map f xs/\∀x∈xs,ok x:=by
   intro es;induction es with
   |nil=>intro _;exact⟨[],rfl,λ_ h=>by cases h⟩
   |cons el es ih=>
    intro h;obtain⟨x,rfl,hx⟩:=he d el (h el al);obtain⟨xs,rfl,hxs⟩:=ih (λel' hel=>h el' (cK _ hel));exact⟨x::xs,rfl,λy hy=>by
     rcases cn.1 hy with e|e
     .subst e;exact hx
     exact hxs y e⟩
  obtain⟨xs,rfl,hxs⟩:=this es h2;exact⟨xs,rfl,by rw[da,hb]at h1;exact h1,hxs⟩
def OkA3{α:Type}(ok:α->Prop)(x:A3 α):Prop:=ok x.a0/\ok x.a1/\ok x.a2
def OkA5{α:Type}(ok:α->Prop)(x:A5 α):Prop:=ok x.a0/\ok x.a1/\ok x.a2/\ok x.a3/\ok x.a4
def OkA6{α:Type}(ok:α->Prop)(x:A6 α):Prop:=ok x.a0/\ok x.a1/\ok x.a2/\ok x.a3/\ok x.a4/\ok x.a5
def MA{α:Type}{f:α->List U}{ok:α->Prop}{t e:Nat}(hu:P.underlying t=some (.array 3 e))(he:∀d ts,WT P d e ts->∃x,ts=f x/\ok x)(d:Nat)(ts:List U)(h:WT P d t ts):∃x,ts=cA3 f x/\OkA3 ok x:=by
 cases d with
 |zero=>cases h
 |succ d=>
  simp only[WT,hu,List.replicate,Seq]at h;obtain⟨_,_,rfl,h0,_,_,rfl,h1,_,_,rfl,h2,rfl⟩:=h;obtain⟨x0,rfl,o0⟩:=he d _ h0;obtain⟨x1,rfl,o1⟩:=he d _ h1;obtain⟨x2,rfl,o2⟩:=he d _ h2;exact⟨⟨x0,x1,x2⟩,by simp[cA3],o0,o1,o2⟩
def Zc5{α:Type}{f:α->List U}{ok:α->Prop}{t e:Nat}(hu:P.underlying t=some (.array 5 e))(he:∀d ts,WT P d e ts->∃x,ts=f x/\ok x)(d:Nat)(ts:List U)(h:WT P d t ts):∃x,ts=cA5 f x/\OkA5 ok x:=by
 cases d with
 |zero=>cases h
 |succ d=>
  simp only[WT,hu,List.replicate,Seq]at h;obtain⟨_,_,rfl,h0,_,_,rfl,h1,_,_,rfl,h2,_,_,rfl,h3,_,_,rfl,h4,rfl⟩:=h;obtain⟨x0,rfl,o0⟩:=he d _ h0;obtain⟨x1,rfl,o1⟩:=he d _ h1;obtain⟨x2,rfl,o2⟩:=he d _ h2;obtain⟨x3,rfl,o3⟩:=he d _ h3;obtain⟨x4,rfl,o4⟩:=he d _ h4;exact⟨⟨x0,x1,x2,x3,x4⟩,by simp[cA5],o0,o1,o2,o3,o4⟩
def Mz{α:Type}{f:α->List U}{ok:α->Prop}{t e:Nat}(hu:P.underlying t=some (.array 6 e))(he:∀d ts,WT P d e ts->∃x,ts=f x/\ok x)(d:Nat)(ts:List U)(h:WT P d t ts):∃x,ts=cA6 f x/\OkA6 ok x:=by
 cases d with
 |zero=>cases h
 |succ d=>
  simp only[WT,hu,List.replicate,Seq]at h;obtain⟨_,_,rfl,h0,_,_,rfl,h1,_,_,rfl,h2,_,_,rfl,h3,_,_,rfl,h4,_,_,rfl,h5,rfl⟩:=h;obtain⟨x0,rfl,o0⟩:=he d _ h0;obtain⟨x1,rfl,o1⟩:=he d _ h1;obtain⟨x2,rfl,o2⟩:=he d _ h2;obtain⟨x3,rfl,o3⟩:=he d _ h3;obtain⟨x4,rfl,o4⟩:=he d _ h4;obtain⟨x5,rfl,o5⟩:=he d _ h5;exact⟨⟨x0,x1,x2,x3,x4,x5⟩,by simp[cA6],o0,o1,o2,o3,o4,o5⟩
def Z00{H:Type}{enc:TypeId×Value->H}{w:World}{α:Type}{f:α->List U}{ok:α->Prop}{base D t:Nat}{v:Value}{d:DataW H}{p:List MemPlace}(he:∀d ts,WT P d t ts->∃x,ts=f x/\ok x)(hp:jh P D t=true)
 (hval:Value.okWide P w .any base t v) (hd:DataW.Trod enc P w 0 (λ_=>true) true t v d p) (hwt:∀n∈d.weights P t,n<=reachBytes):∃x,ok x/\VR (Rd w) (lY P t (f x)) v:=by
 obtain⟨ts,hv,hw⟩:=Zdr hval hd hp hwt;obtain⟨x,rfl,hx⟩:=he D ts hw;exact⟨x,hx,hv⟩
def Jn{t:Nat}{fs:Array Field}(hu:P.underlying t=some (.struct fs))(ts:List U):lY P t ts = .agg (ts.map .t):=by simp[lY,hu]
def uS{α:Type}{f:α->List U}{t e:Nat}(hu:P.underlying t=some (.slice e))(xs:List α):lY P t (cL f xs) = .t (.sl (List.map f xs)):=by simp[lY,hu,oneT,cL]
end
def nC{H:Type}{P:Program}{ts:List TypeId}{ds:List (DataW H)}(h:(DataW.weightsEach P ts ds).all (· <= reachBytes)=true){i t:Nat}{d:DataW H}(ht:ts[i]?=some t)(hd:ds[i]?=some d):∀n∈d.weights P t,n<=reachBytes:=by intro n hn;have:=bU.1 h n (AS ht hd hn);simpa using this
end Go.PW
namespace Go.PW
def fY{S R:Type}(step:S->Option (S⊕R))(r:R):dD step (.inr r)=some r:=rfl
def jt{S R:Type}(step:S->Option (S⊕R))(s:S):dD step (.inl s)=cd step s:=rfl
def DN{α:Type}(b:Bool)(x y:α):(bif !b then x else y)=bif b then y else x:=by cases b<;>rfl
def Z01(a b:Int):(a==b)=decide (a=b):=rfl
def DJ(a b:Int):(a != b)=decide (a≠b):=by show(!(decide (a=b)))=_;by_cases h:a=b<;>simp[h]
def DQ(a b:List UInt8):(a==b)=decide (a=b):=by
 by_cases h:a=b
 .subst h;simp
 rw[bO h];exact jN.2 h
def Z66{S R α:Type}{step:S->Option (S⊕R)}{st:Nat->S}{bad:R}:∀(xs:List α) (p:α->Bool) (_:∀i x,xs[i]?=some x->step (st i)=some (bif p x then .inl (st (i+1))else .inr bad)),
 cd step (st 0)=bif xs.all p then cd step (st xs.length)else some bad
 |[],_,_=>rfl
 |x::xs,p,h=>by
  have h0:=h 0 x rfl;cases hp:p x with
  |false=>
   simp only[hp,au]at h0;rw[eU h0];simp[hp]
  |true=>
   simp only[hp,av]at h0;rw[iQ h0,Z66 (st:=λi=>st (i+1)) xs p (λi y hy=>h (i+1) y wb)];simp[hp]
def Z2r{S R α:Type}{step:S->Option (S⊕R)}:∀(xs:List α) (st:Nat->S) (hit:Nat->R) (p:α->Bool) (_:∀i x,xs[i]?=some x->step (st i)=some (bif p x then .inr (hit i)else .inl (st (i+1)))),
 (xs.any p=true/\∃i,i<xs.length/\cd step (st 0)=some (hit i))\/(xs.any p=false/\cd step (st 0)=cd step (st xs.length))
 |[],_,_,_,_ =>.inr ⟨rfl,rfl⟩
 |x::xs,st,hit,p,h=>by
  have h0:=h 0 x rfl;cases hp:p x with
  |true=>
   simp only[hp,av]at h0;exact .inl ⟨by simp[hp],0,by simp,eU h0⟩
  |false=>
   simp only[hp,au]at h0;rcases Z2r xs (λi=>st (i+1)) (λi=>hit (i+1)) p (λi y hy=>h (i+1) y wb)with⟨h1,i,h2,h3⟩|⟨h1,h2⟩
   .exact .inl ⟨by simp[hp,h1],i+1,by simpa using h2,by rw[iQ h0];exact h3⟩
   exact .inr ⟨by simp[hp,h1],by rw[iQ h0];exact h2⟩
def vp{S R β:Type}{step:S->Option (S⊕R)}{st:Nat->β->S}{Q:Nat->β->Prop}{post:R->Prop}(n:Nat)
 (h:∀i b,i<n->Q i b->(∃b',step (st i b)=some (.inl (st (i+1) b'))/\Q (i+1) b')\/∃r,step (st i b)=some (.inr r)/\post r)
 (hend:∀b,Q n b->∃r,cd step (st n b)=some r/\post r):∀b,Q 0 b->∃r,cd step (st 0 b)=some r/\post r:=by
 have key:∀d i b,i+d=n->Q i b->∃r,cd step (st i b)=some r/\post r:=by
  intro d;induction d with
  |zero =>
   intro i b hi hq;obtain rfl:i=n:=bg
   exact hend b hq
  |succ d ih=>
   intro i b hi hq;rcases h i b O hq with⟨b',h1,h2⟩|⟨r,h1,h2⟩
   .rw [iQ h1];exact ih (i+1) b' O h2
   exact⟨r,eU h1,h2⟩
 exact λb hq=>key n 0 b O hq
section
variable {S:Type} {step:S->Option (S⊕Bool)} {b r:Bool} {k:Option (S⊕Bool)}
def eK(h:b=true->k.bind (dD step)=some r):(bif !b then some (.inr false)else k).bind (dD step)=some (b&&r):=by
 cases b
 .rfl
 simpa using h rfl
def gH(h:b=true->k.bind (dD step)=some r):(bif b then k else some (.inr false)).bind (dD step)=some (b&&r):=by
 cases b
 .rfl
 simpa using h rfl
def cN(h:b=false->k.bind (dD step)=some r):(bif b then some (.inr false)else k).bind (dD step)=some (!b&&r):=by
 cases b
 .simpa using h rfl
 rfl
end
def WI{a b:Nat}(ha:a<2 ^ 62)(hb:b<2 ^ 62):bJ .and .i64 (a:Int) (b:Int)=((a &&& b:Nat):Int):=by have hle:a &&& b<=a:=Nat.and_le_left;unfold bJ;show IntKind.wrap .i64 (((BitVec.ofInt 64 (a:Int) &&& BitVec.ofInt 64 (b:Int)).toNat:Nat):Int)=_;rw[BitVec.ofInt_natCast,BitVec.ofInt_natCast,BitVec.toNat_and,BitVec.toNat_ofNat,BitVec.toNat_ofNat,qP O,qP O];exact eu O O
def Z67:Nat->Nat->Nat->Bool
 |0,_,_=>true
 |n+1,a,b=>if a%2=1/\b%2=1 then false else Z67 n (a/2) (b/2)
def Ty:∀(n a b:Nat),Z67 n a b=true↔∀i,i<n->¬(a.testBit i=true/\b.testBit i=true)
 |0,a,b=>by simp[Z67]
 |n+1,a,b=>by
  unfold Z67;have h0:∀x:Nat,x.testBit 0=true↔x%2=1:=λx=>by simp[Nat.testBit_zero]
  by_cases h:a%2=1/\b%2=1
  .rw [aP h];constructor
   .intro h';cases h'
   intro h';exact absurd ⟨(h0 a).2 h.1,(h0 b).2 h.2⟩ (h' 0 O)
  rw[aI h,Ty n];constructor
  .intro h' i hi;cases i with
   |zero=>rw[h0,h0];exact h
   |succ i=>rw[wz,wz];exact h' i O
  intro h' i hi;have:=h' (i+1) O;rwa[wz,wz]at this
def WH{n a b:Nat}(ha:a<2 ^ n):Z67 n a b=decide ((a &&& b:Nat)=0):=by
 rw[kX,Ty,eI];constructor
 .intro h;refine Nat.eq_of_testBit_eq λi=>?_;rw[Nat.testBit_and,Nat.zero_testBit];by_cases hi:i<n
  .have:=h i hi;cases h1:a.testBit i<;>cases h2:b.testBit i<;>simp_all
  rw[Nat.testBit_lt_two_pow (dL ha (Nat.pow_le_pow_right aS (Nat.le_of_not_lt hi))),wc]
 intro h i _ ⟨h1,h2⟩;have:(a &&& b).testBit i=true:=by rw[Nat.testBit_and,h1,h2];rfl
 rw[h,Nat.zero_testBit]at this;cases this
def DX(a:Nat)(h:a<2 ^ 62):fM .i64 (a:Int) 2=((a/2:Nat):Int):=by unfold fM;rw[show(2:Int)=((2:Nat):Int)from rfl,<- Int.ofNat_tdiv];exact eu O O
def DW(a:Nat):(Int.tmod (a:Int) 2==1)=decide (a%2=1):=by rw[show(2:Int)=((2:Nat):Int)from rfl,<- Int.ofNat_tmod];rw[Z01,sW];omega
end Go.PW
namespace Go.PW
def Tot{α:Type}(o:Option α)(Q:α->Prop):Prop:=∃a,o=some a/\Q a
def Tot.mono{α:Type}{o:Option α}{P Q:α->Prop}(h:Tot o P)(f:∀a,P a->Q a):Tot o Q:=by obtain⟨a,h1,h2⟩:=h;exact⟨a,h1,f a h2⟩
def tB{α β:Type}{o:Option α}{k:α->Option β}{P:α->Prop}{Q:β->Prop}(h:Tot o P)(f:∀a,P a->Tot (k a) Q):Tot (o.bind k) Q:=by obtain⟨a,rfl,h2⟩:=h;exact f a h2
def tF{α:Type}{b:Bool}{x y:Option α}{Q:α->Prop}(h:b=true->Tot x Q)(g:b=false->Tot y Q):Tot (bif b then x else y) Q:=by
 cases b
 .exact g rfl
 exact h rfl
def Tot.eq{α:Type}{o:Option α}{a:α}(h:Tot o (λx=>x=a)):o=some a:=by obtain⟨x,h1,rfl⟩:=h;exact h1
def tI{α:Type}{xs:List α}{i:Int}(h0:0<=i)(h1:i<xs.length):Tot (idx? xs i) λx=>x∈xs/\xs[i.toNat]?=some x:=by have h:=bn (show i.toNat<xs.length by omega);refine⟨xs[i.toNat],?_,kZ _,h⟩;unfold idx?;rw[aP h0,h]
def tA{α:Type}{k:Nat}{a b:List α}(h:(a.length+b.length)*k<=140737488355328)(hk:0<k):Tot (app? k a b) λz=>z=a++b:=⟨_,MF h hk,rfl⟩
def Tot.some{α:Type}{o:Option α}{Q:α->Prop}(h:Tot o Q):∃a,o=some a:=by obtain⟨a,h,_⟩:=h;exact⟨a,h⟩
def Tot.stop{S R:Type}{step:S->Option (S⊕R)}{s:S}{r:R}{Q:R->Prop}(h:step s = .some (.inr r))(hq:Q r):Tot (cd step s) Q:=⟨r,eU h,hq⟩
abbrev M6:=Nat×Nat×Nat×Nat×Nat×Nat
def lt6(x y:M6):Prop:=x.1<y.1\/(x.1=y.1/\(x.2.1<y.2.1\/(x.2.1=y.2.1/\(x.2.2.1<y.2.2.1\/(x.2.2.1=y.2.2.1/\(x.2.2.2.1<y.2.2.2.1\/(x.2.2.2.1=y.2.2.2.1/\(x.2.2.2.2.1<y.2.2.2.2.1\/(x.2.2.2.2.1=y.2.2.2.2.1/\x.2.2.2.2.2<y.2.2.2.2.2)))))))))
def le6(x y:M6):Prop:=lt6 x y\/(x.1=y.1/\x.2.1=y.2.1/\x.2.2.1=y.2.2.1/\x.2.2.2.1=y.2.2.2.1/\x.2.2.2.2.1=y.2.2.2.2.1/\x.2.2.2.2.2=y.2.2.2.2.2)
def Zfb{x y z:M6}(h:lt6 x y)(g:le6 y z):lt6 x z:=by unfold le6 lt6 at g;unfold lt6 at *;omega
def Zfc:WellFounded lt6:=by
 have h:WellFounded (Prod.Lex (λa b:Nat=>a<b) (Prod.Lex (λa b:Nat=>a<b) (Prod.Lex (λa b:Nat=>a<b) (Prod.Lex (λa b:Nat=>a<b) (Prod.Lex (λa b:Nat=>a<b) (λa b:Nat=>a<b)))))):=(Prod.lex ⟨_,Nat.lt_wfRel.wf⟩ (Prod.lex ⟨_,Nat.lt_wfRel.wf⟩ (Prod.lex ⟨_,Nat.lt_wfRel.wf⟩ (Prod.lex ⟨_,Nat.lt_wfRel.wf⟩ (Prod.lex ⟨_,Nat.lt_wfRel.wf⟩ ⟨_,Nat.lt_wfRel.wf⟩))))).wf;refine Subrelation.wf ?_ h;rintro⟨a1,a2,a3,a4,a5,a6⟩ ⟨b1,b2,b3,b4,b5,b6⟩ h;unfold lt6 at h;simp only at h;rcases h with h|⟨rfl,h|⟨rfl,h|⟨rfl,h|⟨rfl,h|⟨rfl,h⟩⟩⟩⟩⟩
 .exact .left _ _ h
 .exact .right _ (.left _ _ h)
 .exact .right _ (.right _ (.left _ _ h))
 .exact .right _ (.right _ (.right _ (.left _ _ h)))
 .exact .right _ (.right _ (.right _ (.right _ (.left _ _ h))))
 exact .right _ (.right _ (.right _ (.right _ (.right _ h))))
def Nx{S R:Type}(Inv:S->Prop)(μ:S->M6)(m:M6)(post:R->Prop):S⊕R->Prop
 |.inl s=>Inv s/\lt6 (μ s) m
 |.inr r=>post r
section
variable {S R:Type} {Inv:S->Prop} {μ:S->M6} {m m':M6} {post:R->Prop}
def tL{s:S}(h:Inv s)(hm:lt6 (μ s) m):Tot (.some (.inl s)) (Nx Inv μ m post):=⟨_,rfl,h,hm⟩
def tR{r:R}(h:post r):Tot (.some (.inr r)) (Nx Inv μ m post):=⟨_,rfl,h⟩
def Tot.join{o:Option (S⊕R)}(h:Tot o (Nx Inv μ m' post))(hm:le6 m' m):Tot o (Nx Inv μ m post):=h.mono λy hy=>by
 cases y with
 |inl s=>exact⟨hy.1,Zfb hy.2 hm⟩
 |inr r=>exact hy
def Tot.fin{step:S->Option (S⊕R)}{o:Option (S⊕R)}(h0:Tot o (Nx Inv μ m post))(hs:∀s,Inv s->Tot (step s) (Nx Inv μ (μ s) post)):Tot (o.bind (dD step)) post:=by
 have key:∀x:M6,∀s,μ s=x->Inv s->Tot (cd step s) post:=λx=>Zfc.induction (C:=λx=>∀s,μ s=x->Inv s->Tot (cd step s) post) x (λx ih s hx hi=>by
  subst hx;obtain⟨y,h1,h2⟩:=hs s hi;cases y with
  |inl s'=>rw[iQ h1];exact ih _ h2.2 s' rfl h2.1
  |inr r=>exact⟨r,eU h1,h2⟩)
 obtain⟨y,rfl,h2⟩:=h0;cases y with
 |inl s=>exact key _ s rfl h2.1
 |inr r=>exact⟨r,rfl,h2⟩
end
def tD{α:Type}{p:Prop} [Decidable p] {x y:Option α} {Q:α->Prop} (h:p->Tot x Q) (g:¬p->Tot y Q):Tot (bif decide p then x else y) Q:=by
 by_cases hp:p
 .rw [bB hp];exact h hp
 rw[bO hp];exact g hp
def tE{α:Type}{a b:Int}{x y:Option α}{Q:α->Prop}(h:a=b->Tot x Q)(g:a≠b->Tot y Q):Tot (bif (a==b)then x else y) Q:=by rw[Z01];exact tD h g
def tN{α:Type}{a b:Int}{x y:Option α}{Q:α->Prop}(h:a≠b->Tot x Q)(g:a=b->Tot y Q):Tot (bif (a != b)then x else y) Q:=by rw[DJ];exact tD h (λe=>g O)
def tO{α:Type}{b:Bool}{x y:Option α}{Q:α->Prop}(h:b=false->Tot x Q)(g:b=true->Tot y Q):Tot (bif !b then x else y) Q:=by
 cases b
 .exact h rfl
 exact g rfl
def tK{p:Prop} [Decidable p] (h:p):Tot (ok? (decide p)) λ_=>p:=⟨(),by rw[bB h];rfl,h⟩
def Tot.slice{α:Type}{xs:List α}{l h:Int}(h0:0<=l)(h1:l<=h)(h2:h<=xs.length):Tot (slice? xs l h) λz=>(z.length:Int)=h-l/\(∀x,x∈z->x∈xs)/\z=(xs.take h.toNat).drop l.toNat:=by
 refine⟨(xs.take h.toNat).drop l.toNat,?_,?_,λx hx=>iw (ko hx),rfl⟩
 .unfold slice?;rw[aP ⟨h0,h1,h2⟩]
 rw[jk,fH];omega
def Tot.make{α:Type}{b:Nat}{z:α}{m c:Int}(h:0<=m/\m<=c/\(b:Int)*c<=281474976710656/\c<=9223372036854775807):Tot (make? b z m c) λx=>(x.length:Int)=m/\∀y,y∈x->y=z:=by
 refine⟨List.replicate m.toNat z,?_,?_,λy hy=>(List.mem_replicate.1 hy).2⟩
 .unfold make?;rw[aP h]
 rw[rk];omega
def Tot.copy{α:Type}{x y:List α}(h:y.length<=x.length):Tot (copy? x y) λz=>z.length=x.length/\(∀e,e∈z->e∈y\/e∈x)/\z=y++x.drop y.length:=by
 refine⟨y++x.drop y.length,?_,?_,λe he=>?_,rfl⟩
 .unfold copy?;rw[aP h]
 .rw [bF,jk];omega
 rcases cD.1 he with h|h
 .exact .inl h
 exact .inr (ko h)
def Tot.set{α:Type}{z:List α}{i:Int}{x:α}(h0:0<=i)(h1:i<z.length):Tot (set? z i x) λy=>y.length=z.length/\(∀e,e∈y->e=x\/e∈z)/\y=z.set i.toNat x:=by
 refine⟨z.set i.toNat x,?_,gq ..,λe he=>?_,rfl⟩
 .unfold set?;rw[aP ⟨h0,by omega⟩]
 rcases lV he with h|h
 .exact .inr h
 exact .inl h
def Tot.set2{α:Type}{z0 z:List α}{i:Int}{x:α}(h:z.length=z0.length)(h0:0<=i)(h1:i<z.length):Tot (set2? z0 z i x) λy=>y.length=z.length/\(∀e,e∈y->e=x\/e∈z)/\y=z.set i.toNat x:=by unfold set2?;rw[aP h];exact Tot.set h0 h1
def Tot.clr{α:Type}{xs:List α}{i:Int}{z:α}(h0:0<=i)(h1:i<=xs.length):Tot (clr? xs i z) λy=>y.length=xs.length/\(∀e,e∈y->e=z\/e∈xs)/\y=xs.take i.toNat++List.replicate (xs.length-i.toNat) z:=by
 refine⟨xs.take i.toNat++List.replicate (xs.length-i.toNat) z,?_,?_,λe he=>?_,rfl⟩
 .unfold clr?;rw[aP ⟨h0,h1⟩]
 .rw [bF,fH,rk];omega
 rcases cD.1 he with h|h
 .exact .inr (iw h)
 exact .inl (vF h)
def Tot.setM{α:Type}{xs:List (List α)}{i j:Int}{y:List α}{v:α}:Tot (setM? xs i y j v) λz=>z=xs.set i.toNat (y.set j.toNat v):=⟨_,rfl,rfl⟩
def Tot.bytes{s:List UInt8}(h:s.length<=9223372036854775807):Tot (bytes? s) λz=>z.length=s.length:=by unfold bytes?;rw[aP h];exact⟨_,rfl,da ..⟩
def Tot.str{xs:List Int}(h:xs≠[])(h2:∀n,n∈xs->0<=n/\n<256):Tot (str? xs) λs=>s.length=xs.length:=by unfold str?;rw[aP ⟨h,h2⟩];exact⟨_,rfl,da ..⟩
def Tot.setA5{α:Type}{x:A5 α}{i:Int}{v:α}(h0:0<=i)(h1:i<5):Tot (x.set? i v) λy=>y.list=x.list.set i.toNat v:=ZI h0 h1
def nG(n:Int):(-9223372036854775808<=n->n<9223372036854775808->IntKind.wrap .i64 n=n):=λh1 h2=>eu h1 h2
def Si(n:Int) : -9223372036854775808<=IntKind.wrap .i64 n/\IntKind.wrap .i64 n<9223372036854775808:=by simp only[IntKind.wrap,IntKind.bits,IntKind.signed,fE,k9,eI];have h1:=Int.emod_nonneg n (show(2 ^ 64:Int)≠0 by decide);have h2:=Int.emod_lt_of_pos n (show(0:Int)<2 ^ 64 by decide);split<;>omega
def ug(n:Int):0<=IntKind.wrap .u64 n/\IntKind.wrap .u64 n<18446744073709551616:=by simp only[IntKind.wrap,IntKind.bits,IntKind.signed];have h1:=Int.emod_nonneg n (show(2 ^ 64:Int)≠0 by decide);have h2:=Int.emod_lt_of_pos n (show(0:Int)<2 ^ 64 by decide);simp only[wc,fb,fy];omega
def Zfd(n:Int):0<=IntKind.wrap .u8 n/\IntKind.wrap .u8 n<256:=by simp only[IntKind.wrap,IntKind.bits,IntKind.signed];have h1:=Int.emod_nonneg n (show(2 ^ 8:Int)≠0 by decide);have h2:=Int.emod_lt_of_pos n (show(0:Int)<2 ^ 8 by decide);simp only[wc,fb,fy];omega
def SzL{α:Type}(k:Nat)(P:α->Prop)(xs:List α):Prop:=xs.length*k<=140737488351232/\∀x,x∈xs->P x
def SzS(s:List UInt8):Prop:=s.length<=281474976710656
def SzT(s:List UInt8):Prop:=s.length<=562949953421312
def SzS.t{s:List UInt8}(h:SzS s):SzT s:=cX h aS
def SzS.nil:SzS []:=fW _
def SzT.nil:SzT []:=fW _
def SzN(s:List UInt8):Prop:=s.length<=100
def SzN.t{s:List UInt8}(h:SzN s):SzT s:=cX h aS
def SzN.s{s:List UInt8}(h:SzN s):SzS s:=cX h aS
def SzN.nil:SzN []:=fW _
def shl_ne'{i:Int}(h0:0<=i)(h1:i<6):Z65 .i64 1 i≠0:=by
 have:i=0\/i=1\/i=2\/i=3\/i=4\/i=5:=bg
 rcases this with h|h|h|h|h|h<;>subst h<;>decide
def wg{s:List UInt8}(h:s.length<=reachBytes):SzS s:=cX h aS
def Zfe{s:List UInt8}(h:s.length<=reachBytes):SzT s:=cX h aS
def dF{α:Type}{k:Nat}{P Q:α->Prop}{xs:List α}(h:OkL k P xs)(f:∀x,P x->Q x):SzL k Q xs:=⟨h.1,λx hx=>f x (h.2 x hx)⟩
def mem_cons'{α:Type}{P:α->Prop}{a:α}{l:List α}(h:P a)(g:∀x,x∈l->P x):∀x,x∈a::l->P x:=λx hx=>by
 rcases cn.1 hx with h'|h'
 .rw [h'];exact h
 exact g x h'
def SzL.nt{k:Nat}{xs:List (List UInt8)}(h:SzL k SzN xs):SzL k SzT xs:=⟨h.1,λx hx=>SzN.t (h.2 x hx)⟩
def SzL.nil{α:Type}{k:Nat}{P:α->Prop}:SzL k P ([]:List α):=⟨by simp,λx h=>by cases h⟩
def SzL.app{α:Type}{k:Nat}{P:α->Prop}{a b z:List α}(h:z=a++b)(hl:z.length*k<=140737488351232)(ha:∀x,x∈a->P x)(hb:∀x,x∈b->P x):SzL k P z:=⟨hl,λx hx=>by
 subst h;rcases cD.1 hx with h|h
 .exact ha x h
 exact hb x h⟩
def filt{α γ:Type}(p:Nat->α->Bool)(q:α->γ):Nat->List α->List γ
 |_,[]=>[]
 |i,x::xs=>bif p i x then q x::filt p q (i+1) xs else filt p q (i+1) xs
def yV{α γ:Type}(p:Nat->α->Bool)(q:α->γ):∀(xs:List α) (i:Nat),(filt p q i xs).length<=xs.length
 |[],_=>aW _
 |x::xs,i=>by have:=yV p q xs (i+1);unfold filt;cases p i x<;>simp<;>omega
def Zff{S R α γ:Type}{step:S->Option (S⊕R)}{st:Nat->List γ->S}(xs:List α)(p:Nat->α->Bool)(q:α->γ)
 (h:∀i x acc,xs[i]?=some x->acc.length<=i->step (st i acc)=some (.inl (st (i+1) (bif p i x then acc++[q x]else acc)))) :
 cd step (st 0 [])=cd step (st xs.length (filt p q 0 xs)):=by
 have key:∀d i acc,i+d=xs.length->acc.length<=i->cd step (st i acc)=cd step (st xs.length (acc++filt p q i (xs.drop i))):=by
  intro d;induction d with
  |zero=>
   intro i acc hi ha;obtain rfl:i=xs.length:=bg
   rw[List.drop_length];simp[filt]
  |succ d ih=>
   intro i acc hi ha;have hlt:i<xs.length:=bg
   rw[iQ (h i xs[i] acc (bn hlt) ha),oE hlt];cases hp:p i xs[i]with
   |false=>
    rw[au,ih (i+1) acc O O];simp[filt,hp]
   |true=>
    rw[av,ih (i+1) (acc++[q xs[i]]) O aZ];simp[filt,hp]
 have:=key xs.length 0 [] O al;simpa using this
end Go.PW
namespace Go.PW
def vg{α:Type}{l:List α}{v w:Int}{k:Nat}{x y:α}(h0:0<=v)(hw:w=v+1)(hk:(k:Int)<w)(hy:l[k]?=some y)(hx:l[v.toNat]?=some x):(k:Int)<v\/y=x:=by
 by_cases h:(k:Int)<v
 .exact .inl h
 right;have:k=v.toNat:=bg
 subst this;exact c9 (hy.symm.trans hx)
def jZ{α:Type}{l:List α}{v w:Int}{x:α}(hx:l[v.toNat]?=some x)(h0:0<=v)(hw:w=v+1):l.take w.toNat=l.take v.toNat++[x]:=by
 have:w.toNat=v.toNat+1:=bg
 rw[this,lf,hx];rfl
def ZcN{α:Type}{p:α->Bool}{l acc z:List α}{v w:Int}{x:α}(hz:z=acc++[x])(hx:l[v.toNat]?=some x)(h:acc=(l.take v.toNat).filter p)(h0:0<=v)(hp:p x=true)(hw:w=v+1):z=(l.take w.toNat).filter p:=by rw[hz,h,jZ hx h0 hw,j3,j4,aP hp];rfl
def ZcO{α:Type}{p:α->Bool}{l acc:List α}{v w:Int}{x:α}(hx:l[v.toNat]?=some x)(h:acc=(l.take v.toNat).filter p)(h0:0<=v)(hp:p x=false)(hw:w=v+1):acc=(l.take w.toNat).filter p:=by rw[h,jZ hx h0 hw,j3,j4,aI AC,tc,cC]
def DI{α:Type}(b v:List α)(p:α->Bool)(i j:Int):Prop:=v.length=b.length/\0<=i/\i<=j/\v.take i.toNat=(b.take j.toNat).filter p/\v.drop j.toNat=b.drop j.toNat
def ZcP{α:Type}{b:List α}{p:α->Bool}{i j:Int}{y:α}(hy:b[i.toNat]?=some y)(h:∀(k:Nat) x,(k:Int)<i->b[k]?=some x->p x=true)(hp:p y=false)(h0:0<=i)(hj:j=i+1):DI b b p i j:=by refine⟨rfl,h0,by omega,?_,rfl⟩;rw[jZ hy h0 hj,j3,j4,aI AC,tc,cC];refine(qV.2 λx hx=>?_).symm;obtain⟨k,hk,he⟩:=List.mem_iff_getElem.1 hx;rw[fH]at hk;rw[List.getElem_take]at he;exact h k x O (by rw[bn O,he])
def DI.at{α:Type}{b v:List α}{p:α->Bool}{i j:Int}{x:α}(h:DI b v p i j)(hx:v[j.toNat]?=some x):b[j.toNat]?=some x:=by
 have:(v.drop j.toNat)[0]?=(b.drop j.toNat)[0]?:=by rw[h.2.2.2.2]
 simpa[j2,hx]using this.symm
def DI.next{α:Type}{b v:List α}{p:α->Bool}{i j:Int}(h:DI b v p i j){j':Int}(hj:j'=j+1):v.drop j'.toNat=b.drop j'.toNat:=by
 have e:j'.toNat=j.toNat+1:=Ml
 rw[e,<- gQ,<- gQ,h.2.2.2.2]
def ZcQ{α:Type}{b v z:List α}{p:α->Bool}{i j i' j':Int}{x:α}(hx:v[j.toNat]?=some x)(hz:z=v.set i.toNat x)(h:DI b v p i j)(hp:p x=true)(hi:i'=i+1)(hj:j'=j+1):DI b z p i' j':=by
 have hb:=h.at hx;have hl:=(aJ.1 hx).1;obtain⟨h1,h2,h3,h4,h5⟩:=id h;refine⟨by rw[hz,gq];exact h1,by omega,by omega,?_,?_⟩
 .rw [jZ hb O hj,j3,j4,aP hp,<- h4];have e:i'.toNat=i.toNat+1:=by omega
  have hil:i.toNat<(v.set i.toNat x).length:=by rw[gq];omega
  rw[hz,e,lf,bn hil,List.getElem_set_self,List.take_set_of_le (aW _)];rfl
 rw[hz,List.drop_set,aP O];exact h.next hj
def ZcR{α:Type}{b v:List α}{p:α->Bool}{i j j':Int}{x:α}(hx:v[j.toNat]?=some x)(h:DI b v p i j)(hp:p x=false)(hj:j'=j+1):DI b v p i j':=by have hb:=h.at hx;refine⟨h.1,h.2.1,by have:=h.2.2.1;omega,?_,h.next hj⟩;rw[jZ hb Ml hj,j3,j4,aI AC,tc,cC];exact h.2.2.2.1
def ZcS{α:Type}{b v z r:List α}{p:α->Bool}{i j:Int}{n:Nat}{c:α}(hz:z=v.take i.toNat++List.replicate n c)(hr:r=(z.take i.toNat).drop (0:Int).toNat)(h:DI b v p i j)(hi:i<=(v.length:Int))(hj:(v.length:Int)<=j):r=b.filter p:=by obtain⟨h1,h2,h3,h4,h5⟩:=h;rw[fC (l:=b) O]at h4;rw[hr,hz,<- h4,uI (by rw[fH];omega),List.take_take,Nat.min_self];rfl
def FD{α:Type}(b:List α)(p:α->Bool)(r:Int):Prop:=(r = -1/\∀x,x∈b->p x=true)\/(0<=r/\r<(b.length:Int)/\(∀(k:Nat) x,(k:Int)<r->b[k]?=some x->p x=true)/\∀x,b[r.toNat]?=some x->p x=false)
def ZcT{α:Type}{b:List α}{p:α->Bool}{v:Int}{x:α}(hx:b[v.toNat]?=some x)(h:∀(k:Nat) x,(k:Int)<v->b[k]?=some x->p x=true)(h0:0<=v)(hp:p x=false):FD b p v:=.inr ⟨h0,by have:=(aJ.1 hx).1;omega,h,λy hy=>by rw[<- c9 (hx.symm.trans hy)];exact hp⟩
def ZcU{α:Type}{b:List α}{p:α->Bool}{v:Int}(h:∀(k:Nat) x,(k:Int)<v->b[k]?=some x->p x=true)(hv:(b.length:Int)<=v):FD b p (-1):=.inl ⟨rfl,λx hx=>by obtain⟨k,hk,he⟩:=List.mem_iff_getElem.1 hx;exact h k x O (by rw[bn hk,he])⟩
def vh{α:Type}{l:List α}{P:α->Prop}{v w:Int}{x:α}(hx:l[v.toNat]?=some x)(h:∀(k:Nat) y,(k:Int)<v->l[k]?=some y->P y)(h0:0<=v)(hp:P x)(hw:w=v+1):∀(k:Nat) y,(k:Int)<w->l[k]?=some y->P y:=λk y hk hy=>by
 rcases vg h0 hw hk hy hx with hk|rfl
 .exact h k y hk hy
 exact hp
def ZcV{α:Type}{b:List α}{p:α->Bool}{r:Int}(h:FD b p r)(hr:r = -1):b=b.filter p:=by
 rcases h with⟨_,h⟩|⟨h,_⟩
 .exact (qV.2 h).symm
 omega
def ZcW{α:Type}{b:List α}{p:α->Bool}{r j:Int}(h:FD b p r)(hr:r ≠ -1)(hj:j=r+1):DI b b p r j:=by
 rcases h with⟨h,_⟩|⟨h0,h1,h2,h3⟩
 .exact absurd h hr
 have hx:=bn (show r.toNat<b.length by omega);exact ZcP hx h2 (h3 _ hx) h0 hj
def JB{α:Type}{b:List α}{p:α->Bool}{r:Int}(h:FD b p r) : -1<=r/\r<(b.length:Int):=by rcases h with⟨h,_⟩|⟨h0,h1,_⟩<;>omega
def Tot.we{α:Type}{o:Option α}{P:α->Prop}(h:Tot o P):Tot o λa=>P a/\o = .some a:=by obtain⟨a,h1,h2⟩:=h;exact⟨a,h1,h2,h1⟩
def SzL.setM{α:Type}{k m:Nat}{xs z:List (List α)}{y:List α}{i j:Int}{v:α}(h:z=xs.set i.toNat (y.set j.toNat v))(hx:SzL k (SzL m λ_=>True) xs)(hy:SzL m (λ_=>True) y):SzL k (SzL m λ_=>True) z:=by
 subst h;refine⟨by rw[gq];exact hx.1,λe he=>?_⟩;rcases lV he with he|he
 .exact hx.2 e he
 rw[he];exact⟨by rw[gq];exact hy.1,λ_ _=>trivial⟩
end Go.PW
namespace Go.PW
open Go.RowKit
inductive LT (S R:Type):Type 1 where
 |ret (r:R) (ds:List Orc)
 |go (s:S) (ds:List Orc)
 |jn (k:Nat) (s:S) (ds:List Orc) (t:LT S R)
 |br (b:Bool) (t e:LT S R)
 |cs (b:Bool) (t e:LT S R)
 |op {α:Type} (o:Option α) (xs:α->List Orc) (fs gs:α->List Prop) (h:∀x,o=some x->aG (fs x)/\aG (gs x)) (k:α->LT S R)
 |ev (xs:List Orc) (fs:List Prop) (h:aG fs) (t:LT S R)
 |us (ns:List Nat) (t:LT S R)
 |kn (ns:List Nat) (t:LT S R)
 |kg (n:Nat) (t:LT S R)
 |no
def LT.den{S R:Type}:LT S R->Option (S⊕R)
 |.ret r _=>some (.inr r)
 |.go s _=>some (.inl s)
 |.jn _ _ _ t=>t.den
 |.br b t e=>bif b then t.den else e.den
 |.cs b t e=>bif b then t.den else e.den
 |.op o _ _ _ _ k=>o.bind λx=>(k x).den
 |.ev _ _ _ t=>t.den
 |.us _ t=>t.den
 |.kn _ t=>t.den
 |.kg _ t=>t.den
 |.no=>none
inductive E:Type 2 where
 |done
 |fail
 |eq {α:Type} (a b:α) (r:E)
 |teq {α:Type 1} (a b:α) (r:E)
 |two (x y:E)
 |all {α:Type} (k:α->E)
inductive XE:Type 2 where
 |done
 |bad (b:Bool)
 |eq {α:Type} (a:α) (r:XE)
 |teq {α:Type 1} (a:α) (r:XE)
 |two (x y:XE)
 |all {α:Type} (k:α->XE)
noncomputable def E.l(e:E):XE:=E.rec (motive:=λ_=>XE) .done (.bad true) (λa _ _ r =>.eq a r) (λa _ _ r =>.teq a r) (λ_ _ x y =>.two x y) (λ_ k =>.all k) e
noncomputable def E.r(e:E):XE:=E.rec (motive:=λ_=>XE) .done (.bad false) (λ_ b _ r =>.eq b r) (λ_ b _ r =>.teq b r) (λ_ _ x y =>.two x y) (λ_ k =>.all k) e
def E.ok:E->Prop
 |.done=>True
 |.fail=>False
 |.eq a b r=>a=b/\r.ok
 |.teq a b r=>a=b/\r.ok
 |.two x y=>x.ok/\y.ok
 |.all k=>∀x,(k x).ok
def E.sound:∀e:E,e.l=e.r->e.ok
 |.done,_=>trivial
 |.fail,h=>di
 |.eq a b r,h=>by have h:XE.eq a r.l=XE.eq b r.r:=h;simp only[XE.eq.injEq,heq_eq_eq,true_and]at h;exact⟨h.1,E.sound r h.2⟩
 |.teq a b r,h=>by have h:XE.teq a r.l=XE.teq b r.r:=h;simp only[XE.teq.injEq,heq_eq_eq,true_and]at h;exact⟨h.1,E.sound r h.2⟩
 |.two x y,h=>by have h:XE.two x.l y.l=XE.two x.r y.r:=h;simp only[XE.two.injEq]at h;exact⟨E.sound x h.1,E.sound y h.2⟩
 |.all k,h=>by have h:XE.all (λx=>(k x).l)=XE.all (λx=>(k x).r):=h;simp only[XE.all.injEq,heq_eq_eq,true_and]at h;exact λx=>E.sound (k x) (congrFun h x)
def cds:List Prop->List Prop->(List Prop->E)->E
 |[],fs,k=>k fs
 |p::ps,f::fs,k =>.eq p f (cds ps fs k)
 |_::_,[],_ =>.fail
def Z2s:∀{ps fs:List Prop} {k:List Prop->E},(cds ps fs k).ok->aG fs->∃fs',aG ps/\aG fs'/\(k fs').ok
 |[],fs,k,h,hf=>⟨fs,aa,hf,h⟩
 |p::ps,f::fs,k,h,hf=>by obtain⟨rfl,h⟩:=h;obtain⟨fs',h1,h2,h3⟩:=Z2s h hf.2;exact⟨fs',⟨hf.1,h1⟩,h2,h3⟩
 |_::_,[],_,h,_=>h.elim
inductive Sg where
 |cnd (e:Bool) (a b:Code) (K:List Kf)
 |at_ (g:Cfg)
abbrev Esg:=Option (List Prop×List Orc×Sg×St)
def C7(ps:List Prop):Esg->Esg
 |some (qs,xs,g,st)=>some (ps++qs,xs,g,st)
 |none=>none
def fi(P:Program)(T:TS):Nat->Option Code->List Kf->List Orc->Option Nat->St->Esg
 |0,_,_,_,_,_=>none
 |n+1,none,K,xs,sp,st=>
  match K with
  |[]=>some ([],xs,.at_ (.done .normal),st)
  |.seq c::K=>
   match sp,xs with
   |some 0,[]=>some ([],xs,.at_ (.code c K),st)
   |some (k+1),[]=>fi P T n (some c) K xs (some k) st
   |sp,xs=>fi P T n (some c) K xs sp st
  |.blk _::K=>fi P T n none K xs sp st
  |.scp::K=>fi P T n none K xs sp st
  |.loop c::K=>some ([],xs,.at_ (.head c K),st)
 |n+1,some c,K,xs,sp,st=>
  match c with
  |.skip=>fi P T n none K xs sp st
  |.label _=>fi P T n none K xs sp st
  |.region id ops draw=>
   match zQ P T id ops draw xs st with
   |some (ps,xs',st')=>C7 ps (fi P T n none K xs' sp st')
   |none=>none
  |.seq a b=>fi P T n (some a) (.seq b::K) xs sp st
  |.cond (.tmp t) a b=>
   match get st.tm t with
   |some (.t (.bool e))=>some ([],xs,.cnd e a b K,st)
   |_=>none
  |.cond (.const (.bool v)) a b=>fi P T n (some (bif v then a else b)) K xs sp st
  |.block id body=>fi P T n (some body) (.blk id::K) xs sp st
  |.loop body=>some ([],xs,.at_ (.head body K),st)
  |.scope body=>fi P T n (some body) (.scp::K) xs sp st
  |.exit id=>
   match Z2n id K with
   |some K'=>fi P T n none K' xs sp st
   |none=>none
  |.ret=>some ([],xs,.at_ (.done .ret),st)
  |_=>none
def seg(P:Program)(T:TS)(g:Cfg)(xs:List Orc)(sp:Option Nat)(st:St):Esg:=
 match g with
 |.code c K=>fi P T 400 (some c) K xs sp st
 |.head c K=>fi P T 400 (some c) (.loop c::K) xs sp st
 |.done _=>none
section
variable {P:Program} {T:TS} {R:Exit->St->Prop}
def Zi8{qs ps:List Prop}{xs:List Orc}{r:Esg}{g:Sg}{st:St}(h:C7 qs r=some (ps,xs,g,st)):∃ps',ps=qs++ps'/\r=some (ps',xs,g,st):=by
 unfold C7 at h;split at h
 .cases h;exact⟨_,rfl,rfl⟩
 cases h
def Sg.holds(P:Program)(R:Exit->St->Prop)(st:St):Sg->Prop
 |.cnd e a b K=>PW P (bif e then a else b) (post P K R) st
 |.at_ g=>g.holds P R st
def ia(hm:P.follows .mixedOrders=true)(hT:TOK P T):∀(n:Nat) (oc:Option Code) (K:List Kf) (xs:List Orc) (sp:Option Nat) (st:St) {xs':List Orc} {st':St} {g:Sg} {ps:List Prop},
 fi P T n oc K xs sp st=some (ps,xs',g,st')->aG ps->g.holds P (eg R) st' ->
  match oc with
  |some c=>PW P c (post P K (eg R)) st
  |none=>post P K (eg R) .normal st
 |0,oc,K,xs,sp,st,xs',st',g,ps,h,_,_=>by simp[fi]at h
 |n+1,none,K,xs,sp,st,xs',st',g,ps,h,hc,hg=>by
  simp only[fi]at h;simp only;split at h
  .cases h;exact hg
  .simp only[post,Z6x];split at h
   .cases h;exact hg
   .exact ia hm hT n (some _) _ _ _ _ h hc hg
   exact ia hm hT n (some _) _ _ _ _ h hc hg
  .simp only[post,Z6t];exact ia hm hT n none _ _ _ _ h hc hg
  .simp only[post,NoGo];exact ia hm hT n none _ _ _ _ h hc hg
  cases h;simp only[post,Z6x];exact hg
 |n+1,some c,K,xs,sp,st,xs',st',g,ps,h,hc,hg=>by
  simp only[fi]at h;simp only;split at h
  .exact PW.skip (ia hm hT n none _ _ _ _ h hc hg)
  .exact PW.label (ia hm hT n none _ _ _ _ h hc hg)
  .split at h
   .rename_i ps1 xs1 st1 h1;obtain⟨ps2,rfl,h2⟩:=Zi8 h;obtain⟨c1,c2⟩:=bM.1 hc;exact Zac hm hT h1 c1 (ia hm hT n none _ _ _ _ h2 c2 hg)
   cases h
  .exact PW.seq Cb
  .split at h
   .rename_i e he;cases h;have hg:PW P (bif e then _ else _) (post P K (eg R)) st:=hg;refine PW.cond rfl he (λhb=>?_) (λhb=>?_)
    .subst hb;exact hg
    subst hb;exact hg
   cases h
  .rename_i v a b;have:=ia hm hT n (some _) _ _ _ _ h hc hg;exact PW.condConst (λhb=>by subst hb;exact this) (λhb=>by subst hb;exact this)
  .exact PW.block Cb
  .cases h;exact PW.loopHead hg
  .exact PW.scope Cb
  .split at h
   .rename_i K' hu;exact PW.exit (Z2o hu (ia hm hT n none _ _ _ _ h hc hg))
   cases h
  .cases h;obtain⟨s2,hw2,hr⟩:=hg;exact PW.ret (wu ⟨s2,hw2,hr⟩)
  cases h
def w8(hm:P.follows .mixedOrders=true)(hT:TOK P T){g:Cfg}{xs xs':List Orc}{sp:Option Nat}{st st':St}{z:Sg}{ps:List Prop}(h:seg P T g xs sp st=some (ps,xs',z,st'))(hc:aG ps)(hg:z.holds P (eg R) st'):g.holds P (eg R) st:=by
 unfold seg at h;split at h
 .exact ia hm hT _ (some _) _ _ _ _ h hc hg
 .have:=ia hm hT _ (some _) _ _ _ _ h hc hg;exact PWL.round (by simpa only[post]using this)
 cases h
def Cfg.weaken{g:Cfg}{st st':St}(hw:Wk st st')(h:g.holds P (eg R) st'):g.holds P (eg R) st:=by
 cases g with
 |code c K=>exact PW.weaken hw h
 |head c K=>exact ZfW hw h
 |done e=>obtain⟨s,h1,h2⟩:=h;exact⟨s,hw.trans h1,h2⟩
end
structure LF (S R:Type) where
 f:Nat
 rs:List RV
 own:Bool
 dirs:S->List Nat
 stf:S->PW.St
 sr:R->List (Nat×Blk)
 res:R->PV
 body:S->LT S R
section
variable {S R:Type}
def fJ(P:Program)(f:Nat):Code:=((P.funcs[f]?).bind (·.body)).getD .skip
def LF.cfg(F:LF S R)(P:Program)(s:S):Cfg:=(nav (F.dirs s) (fJ P F.f) []).getD (.done .normal)
noncomputable def LF.step(F:LF S R)(s:S):Option (S⊕R):=(F.body s).den
noncomputable def LF.run(F:LF S R)(t:LT S R):Option R:=t.den.bind (dD F.step)
def mJ{α:Type}:List (Nat×α)->List Nat
 |[]=>[]
 |(k,_)::r=>k::mJ r
def kgo(P:Program)(T:TS)(kn:List (Bool×Bool)):List Nat->Cfg->List Orc->List Prop->PW.St->(Cfg->List Orc->List Prop->PW.St->E)->E
 |[],g,xs,fs,st,k=>k g xs fs st
 |n::ns,g,xs,fs,st,k=>
  match seg P T g xs none st with
  |some (ps,xs',.cnd c a b K,st')=>cds ps fs λfs'=>
   match n with
   |0=>bif c then kgo P T kn ns (.code a K) xs' fs' st' k else kgo P T kn ns (.code b K) xs' fs' st' k
   |i+1=>
    match kn[i]? with
    |some (d,v) =>.eq c d (bif v then kgo P T kn ns (.code a K) xs' fs' st' k else kgo P T kn ns (.code b K) xs' fs' st' k)
    |none =>.fail
  |_ =>.fail
def endE(P:Program)(T:TS)(sp:Option Nat)(g:Cfg)(xs:List Orc)(fs:List Prop)(st:PW.St)(ds:List Orc)(g1:Cfg)(st1:PW.St)(rest:E):E:=
 match seg P T g xs sp st with
 |some (ps,[],.at_ g',st')=>cds ps fs λfs'=>
  match gb st'.tm (mJ st1.tm)with
  |some tm=>
   match cz ds ⟨st'.n,tm,st'.Z⟩ with
   |some (qs,[],st2)=>cds qs fs' λ_=>
    match gb st2.tm (mJ st1.tm),gb st2.Z (mJ st1.Z)with
    |some tm2,some Z =>.eq (g',st2.n,tm2,Z) (g1,st1.n,st1.tm,st1.Z) rest
    |_,_ =>.fail
   |_ =>.fail
  |none =>.fail
 |_ =>.fail
def C8:Exit->Bool
 |.ret=>true
 |.normal=>true
 |_=>false
def retE(P:Program)(T:TS)(F:LF S R)(g:Cfg)(xs:List Orc)(fs:List Prop)(st:PW.St)(ds:List Orc)(r:R):E:=
 match seg P T g xs none st with
 |some (ps,[],.at_ (.done e),st')=>bif C8 e then cds ps fs λfs'=>
  match cz ds st' with
  |some (qs,[],st2)=>cds qs fs' λfs2=>
   bif F.own then
    match Cw F.rs (mJ (F.sr r)) st2 with
    |some (Z,p) =>.eq (Z,p) (F.sr r,F.res r) .done
    |none =>.fail
   else
    match Cv F.rs st2 with
    |some (q2,p)=>cds q2 fs2 λ_ =>.eq (([]:List (Nat×Blk)),p) (F.sr r,F.res r) .done
    |none =>.fail
  |_ =>.fail
  else .fail
 |_ =>.fail
def brE(P:Program)(T:TS)(g:Cfg)(xs:List Orc)(fs:List Prop)(st:PW.St)(b:Bool)(x y:Cfg->List Orc->List Prop->PW.St->E):E:=
 match seg P T g xs none st with
 |some (ps,xs',.cnd c A B K,st')=>cds ps fs λfs' =>.eq c b (.two (x (.code A K) xs' fs' st') (y (.code B K) xs' fs' st'))
 |_ =>.fail
structure Kn where
 bs:List (Bool×Bool)
 gs:List Prop
structure Kn.OK (k:Kn):Prop where
 b:∀p∈k.bs,p.1=p.2
 g:∀p∈k.gs,p
def Vf:∀{ps:List Prop},aG ps->∀p∈ps,p
 |p::ps,h,q,hq=>by
  rcases cn.1 hq with rfl|hq
  .exact h.1
  exact Vf h.2 q hq
def sL(gs:List Prop):List Nat->Option (List Prop)
 |[]=>some []
 |n::ns=>
  match gs[n]?,sL gs ns with
  |some p,some ps=>some (p::ps)
  |_,_=>none
def Vg{gs:List Prop}(h:∀p∈gs,p):∀{ns:List Nat} {ps:List Prop},sL gs ns=some ps->aG ps
 |[],ps,hp=>by cases hp;trivial
 |n::ns,ps,hp=>by
  simp only[sL]at hp;split at hp
  .rename_i p qs h1 h2;cases hp;exact⟨h p (cj h1),Vg h h2⟩
  cases hp
def Kn.OK.br{k:Kn}(h:k.OK)(b:Bool):(Kn.mk (k.bs++[(b,b)]) k.gs).OK:=⟨λp hp=>by
 rcases cD.1 hp with hp|hp
 .exact h.b p hp
 rw[gC.1 hp],h.g⟩
def Kn.OK.op{k:Kn}(h:k.OK){gs:List Prop}(hg:aG gs):(Kn.mk k.bs (k.gs++gs)).OK:=⟨h.b,λp hp=>by
 rcases cD.1 hp with hp|hp
 .exact h.g p hp
 exact Vf hg p hp⟩
noncomputable def chk(P:Program)(T:TS)(F:LF S R)(t:LT S R):Cfg->List Orc->List Prop->Kn->PW.St->E:=
 LT.rec (motive:=λ_=>Cfg->List Orc->List Prop->Kn->PW.St->E)
  (λr ds g xs fs _ st=>retE P T F g xs fs st ds r)
  (λs ds g xs fs _ st=>endE P T none g xs fs st ds (F.cfg P s) (F.stf s) .done)
  (λk s ds t _ g xs fs _ st=>endE P T (some k) g xs fs st ds (F.cfg P s) (F.stf s) (.teq t (F.body s) .done))
  (λb _ _ x y g xs fs kn st=>brE P T g xs fs st b (λg xs fs st=>x g xs fs ⟨kn.bs++[(b,true)],kn.gs⟩ st) (λg xs fs st=>y g xs fs ⟨kn.bs++[(b,false)],kn.gs⟩ st))
  (λb _ _ x y g xs fs kn st =>.two (x g xs fs ⟨kn.bs++[(b,true)],kn.gs⟩ st) (y g xs fs ⟨kn.bs++[(b,false)],kn.gs⟩ st))
  (λ_ X Fs Gs _ _ k g xs fs kn st =>.all λx=>k x g (xs++X x) (fs++Fs x) ⟨kn.bs,kn.gs++Gs x⟩ st)
  (λX Fs _ _ k g xs fs kn st=>k g (xs++X) (fs++Fs) kn st)
  (λns _ k g xs fs kn st=>match sL kn.gs ns with|some qs=>k g xs (fs++qs) kn st|none =>.fail)
  (λns _ k g xs fs kn st=>kgo P T kn.bs ns g xs fs st λg xs fs st=>k g xs fs kn st)
  (λn _ k g xs fs kn st=>match kn.bs[n]? with|some (d,v)=>k g (xs++[.br v]) (fs++[d=v]) kn st|none =>.fail)
  (λ_ _ _ _ _ =>.done)
  t
section
variable {P:Program} {T:TS} {Q:Exit->PW.St->Prop}
def sM(hm:P.follows .mixedOrders=true)(hT:TOK P T){kn:List (Bool×Bool)}(hk:∀p∈kn,p.1=p.2){k:Cfg->List Orc->List Prop->PW.St->E}(H:∀g xs fs st,(k g xs fs st).ok->aG fs->g.holds P (eg Q) st) :
 ∀(ns:List Nat) (g:Cfg) (xs:List Orc) (fs:List Prop) (st:PW.St),(kgo P T kn ns g xs fs st k).ok->aG fs->g.holds P (eg Q) st
 |[],g,xs,fs,st,h,hf=>H g xs fs st h hf
 |n::ns,g,xs,fs,st,h,hf=>by
  simp only[kgo]at h;split at h
  .rename_i ps xs' c a b K st' hs;obtain⟨fs',h1,h2,h3⟩:=Z2s h hf;refine w8 hm hT hs h1 ?_;show PW P (bif c then a else b) (post P K (eg Q)) st';split at h3
   .cases c with
    |true=>exact sM hm hT hk H ns _ _ _ _ h3 h2
    |false=>exact sM hm hT hk H ns _ _ _ _ h3 h2
   split at h3
   .rename_i d v hd;obtain⟨rfl,h3⟩:=h3;have:c=v:=hk _ (cj hd);subst this;cases c with
    |true=>exact sM hm hT hk H ns _ _ _ _ h3 h2
    |false=>exact sM hm hT hk H ns _ _ _ _ h3 h2
   exact h3.elim
  exact h.elim
def Vh(hm:P.follows .mixedOrders=true)(hT:TOK P T){sp:Option Nat}{g g1:Cfg}{xs:List Orc}{fs:List Prop}{st st1:PW.St}{ds:List Orc}{rest:E}(h:(endE P T sp g xs fs st ds g1 st1 rest).ok)(hf:aG fs):(g1.holds P (eg Q) st1->g.holds P (eg Q) st)/\rest.ok:=by
 unfold endE at h;split at h
 .rename_i ps g' st' hs;obtain⟨fs',h1,h2,h3⟩:=Z2s h hf;split at h3
  .rename_i tm ht;split at h3
   .rename_i qs st2 hd;obtain⟨fs2,h4,_,h5⟩:=Z2s h3 h2;split at h5
    .rename_i tm2 Z ht2 hσ;obtain⟨h6,h7⟩:=h5;refine⟨λhg=>w8 hm hT hs h1 (show g'.holds P (eg Q) st' from ?_),h7⟩;simp only[bG]at h6;obtain⟨rfl,e1,e2,e3⟩:=h6;have hp:gb st'.Z (mJ st'.Z)=gb st'.Z (mJ st'.Z):=rfl;have w1:Wk st' ⟨st'.n,tm,st'.Z⟩:=λ_ _ _ ⟨β,h⟩=>⟨β,h.sub (aW _) (λi p hp=>⟨iZ ht i p hp,(h.tm i p (iZ ht i p hp)).1⟩) (λl o ho=>ho)⟩;have w2:=eB _ _ hd h4;have w3:Wk st2 ⟨st2.n,tm2,Z⟩:=λ_ _ _ ⟨β,h⟩=>⟨β,h.sub (aW _) (λi p hp=>⟨iZ ht2 i p hp,(h.tm i p (iZ ht2 i p hp)).1⟩) (λl o ho=>iZ hσ l o ho)⟩;have e:(⟨st2.n,tm2,Z⟩:PW.St)=st1:=by rw[e1,e2,e3]
     exact Cfg.weaken ((w1.trans w2).trans w3) (e▸hg)
    exact h5.elim
   exact h3.elim
  exact h3.elim
 exact h.elim
def Zi9(hm:P.follows .mixedOrders=true)(hT:TOK P T){F:LF S R}{g:Cfg}{xs:List Orc}{fs:List Prop}{st:PW.St}{ds:List Orc}{r:R}(h:(retE P T F g xs fs st ds r).ok)(hf:aG fs):g.holds P (eg (Z6z F.rs (F.sr r) (F.res r))) st:=by
 unfold retE at h;split at h
 .rename_i ps e st' hs;have he:C8 e=true:=by cases hb:C8 e with|true=>rfl|false=>rw[hb]at h;exact h.elim
  rw[he,av]at h;have hR:∀st2,Z6e F.rs (F.sr r) (F.res r) st2->Z6z F.rs (F.sr r) (F.res r) e st2:=λst2 h=>by cases e<;>first|exact h|cases he
  obtain⟨fs',h1,h2,h3⟩:=Z2s h hf;split at h3
  .rename_i qs st2 hd;obtain⟨fs2,h4,h6,h5⟩:=Z2s h3 h2;refine w8 hm hT hs h1 (show eg (Z6z F.rs (F.sr r) (F.res r)) e st' from ?_);refine⟨st2,eB _ _ hd h4,hR st2 ?_⟩;cases ho:F.own with
   |true=>
    simp only[ho,av]at h5;split at h5
    .rename_i Z p hr;have:=ZfX hr;obtain⟨h7,_⟩:=h5;simp only[bG]at h7;rw[h7.1,h7.2]at this;exact this
    exact h5.elim
   |false=>
    simp only[ho,au]at h5;split at h5
    .rename_i q2 p hr;obtain⟨_,h7,_,h8⟩:=Z2s h5 h6;have:=yg hr h7;obtain⟨h9,_⟩:=h8;simp only[bG]at h9;rw[h9.1,h9.2]at this;exact this
    exact h5.elim
  exact h3.elim
 exact h.elim
def Zja{ps:List Prop}{p:Prop}(h:aG ps)(hp:p):aG (ps++[p]):=bM.2 ⟨h,hp,aa⟩
def Vi(hm:P.follows .mixedOrders=true)(hT:TOK P T)(F:LF S R)(J:∀s,(chk P T F (F.body s) (F.cfg P s) [] [] ⟨[],[]⟩ (F.stf s)).ok){r:R} :
 ∀(t:LT S R) (g:Cfg) (xs:List Orc) (fs:List Prop) (kn:Kn) (st:PW.St) (y:S⊕R),(chk P T F t g xs fs kn st).ok->aG fs->kn.OK->t.den=some y ->
  Ok P F.rs F.sr F.res (F.cfg P) F.stf r y->g.holds P (eg (Z6z F.rs (F.sr r) (F.res r))) st:=by
 intro t;induction t with
 |ret r' ds=>
  intro g xs fs kn st y h hf hk hd hy;cases hd;have hy:r'=r:=hy;subst hy;exact Zi9 hm hT h hf
 |go s ds=>
  intro g xs fs kn st y h hf hk hd hy;cases hd;exact(Vh hm hT h hf).1 hy
 |jn k s ds t ih=>
  intro g xs fs kn st y h hf hk hd hy;have h2:=Vh (Q:=Z6z F.rs (F.sr r) (F.res r)) hm hT h hf;refine h2.1 (ih _ [] [] ⟨[],[]⟩ _ y ?_ trivial ⟨(λ_ hp=>nomatch hp),(λ_ hp=>nomatch hp)⟩ hd hy);rw[h2.2.1];exact J s
 |br b t e ih1 ih2=>
  intro g xs fs kn st y h hf hk hd hy;have h:(brE P T g xs fs st b (λg xs fs st=>chk P T F t g xs fs ⟨kn.bs++[(b,true)],kn.gs⟩ st) (λg xs fs st=>chk P T F e g xs fs ⟨kn.bs++[(b,false)],kn.gs⟩ st)).ok:=h;unfold brE at h;split at h
  .rename_i ps xs' c A B K st' hs;obtain⟨fs',h1,h2,h3⟩:=Z2s h hf;obtain⟨rfl,h4,h5⟩:=h3;refine w8 hm hT hs h1 ?_;show PW P (bif c then A else B) (post P K _) st';cases c with
   |true=>exact ih1 (.code A K) xs' fs' _ st' y h4 h2 (hk.br true) hd hy
   |false=>exact ih2 (.code B K) xs' fs' _ st' y h5 h2 (hk.br false) hd hy
  exact h.elim
 |cs b t e ih1 ih2=>
  intro g xs fs kn st y h hf hk hd hy;have h:(chk P T F t g xs fs ⟨kn.bs++[(b,true)],kn.gs⟩ st).ok/\(chk P T F e g xs fs ⟨kn.bs++[(b,false)],kn.gs⟩ st).ok:=h;cases b with
  |true=>exact ih1 g xs fs _ st y h.1 hf (hk.br true) hd hy
  |false=>exact ih2 g xs fs _ st y h.2 hf (hk.br false) hd hy
 |op o X Fs Gs hx k ih=>
  intro g xs fs kn st y h hf hk hd hy;have h:∀x,(chk P T F (k x) g (xs++X x) (fs++Fs x) ⟨kn.bs,kn.gs++Gs x⟩ st).ok:=h;cases o with
  |none=>cases hd
  |some x=>exact ih x g _ _ _ st y (h x) (bM.2 ⟨hf,(hx x rfl).1⟩) (hk.op (hx x rfl).2) hd hy
 |ev X Fs hx t ih=>
  intro g xs fs kn st y h hf hk hd hy;exact ih g _ _ kn st y h (bM.2 ⟨hf,hx⟩) hk hd hy
 |us ns t ih=>
  intro g xs fs kn st y h hf hk hd hy;have h:E.ok (match sL kn.gs ns with|some qs=>chk P T F t g xs (fs++qs) kn st|none =>.fail):=h;split at h
  .rename_i qs hq;exact ih g _ _ kn st y h (bM.2 ⟨hf,Vg hk.g hq⟩) hk hd hy
  exact h.elim
 |kn ns t ih=>
  intro g xs fs kn st y h hf hk hd hy;exact sM hm hT hk.b (λg xs fs st h hf=>ih g xs fs kn st y h hf hk hd hy) ns g xs fs st h hf
 |kg n t ih=>
  intro g xs fs kn st y h hf hk hd hy;have h:E.ok (match kn.bs[n]? with|some (d,v)=>chk P T F t g (xs++[Orc.br v]) (fs++[d=v]) kn st|none =>.fail):=h;split at h
  .rename_i d v hv;exact ih g _ _ kn st y h (Zja hf (hk.b _ (cj hv))) hk hd hy
  exact h.elim
 |no=>
  intro g xs fs kn st y h hf hk hd hy;cases hd
end
end
end Go.PW
