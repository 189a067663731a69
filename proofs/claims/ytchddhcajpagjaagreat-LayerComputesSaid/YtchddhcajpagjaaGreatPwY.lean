import Derived.Test.YtchddhcajpagjaaGreatPwLr
import Derived.Lib.IndexMore
import Derived.ProofKit
import GoSem.ClaimJoined
import Derived.KernelRfl
set_option linter.all false
namespace Go.PW
open Go.RowKit
variable {t e:Nat}
inductive TK where
 |bool
 |int (k:IntKind)
 |str
 |slice (e:Nat)
 |struct (fs:List (Nat×Nat))
 |arr (n e:Nat)
 |map (k e:Nat)
 |ptr
 |other
structure fX where
 agg:Bool
 size:Nat
 bytes:Nat
 zero:Option (List PV)
 k:TK
 flat:Option (Nat×List LK)
abbrev TS:=List (Nat×fX)
def TKOK(P:Program)(t:Nat):TK->Prop
 |.bool=>P.underlying t=some .bool
 |.int k=>P.underlying t=some (.int k)
 |.str=>P.underlying t=some .string
 |.slice e=>P.underlying t=some (.slice e)
 |.struct fs=>∃fs',P.underlying t=some (.struct fs')/\fs'.toList.map (λf=>(f.offset,f.type))=fs
 |.arr n e=>P.underlying t=some (.array n e)
 |.map k e=>P.underlying t=some (.map k e)
 |.ptr=>P.underlying t=some (.pointer (P.pointee t))
 |.other=>True
structure rh (P:Program) (t:Nat) (i:fX):Prop where
 ty:TyF P t i.agg i.size
 by_:(P.info? t).map (λi=>(i.size,i.bytes))=some (i.size,i.bytes)
 z:∀z,i.zero=some z->ia P t=some z
 k:TKOK P t i.k
 fl:∀d ks,i.flat=some (d,ks)->d<=10000/\fw P d t=some ks/\i.agg=true/\P.eqGuardType P.depth t=false
def TOK(P:Program)(T:TS):Prop:=∀t i,get T t=some i->rh P t i
def TAll(P:Program):TS->Prop
 |[]=>True
 |(t,i)::T=>rh P t i/\TAll P T
def TOK.of_all{P:Program}:∀{T:TS},TAll P T->TOK P T
 |[],_,t,i,h=>dw
 |(u,j)::T,hall,t,i,h=>by
  simp only[get]at h;cases hb:Nat.beq u t with
  |true=>have:u=t:=(ba _ _).1 hb;subst this;simp only[hb,aD,aB]at h;subst h;exact hall.1
  |false=>simp only[hb,aE]at h;exact TOK.of_all hall.2 t i h
inductive Orc where
 |br (b:Bool)
 |cs (c:List aa)
 |es (e:List (List aa))
 |num (n:Int)
 |lab (l:Nat)
 |call (r:PV)
 |nat (n:Nat)
 |byte (b:UInt8)
 |lit
 |frz (l:Nat)
 |pick (ks ls:List Nat)
 |own (t l k:Nat)
 |ahead (d:Nat)
 |relen (l:Nat)
 |cell (d:Nat) (c:List aa)
 |stop
 |callO (S:Bool) (ls:List Nat) (d:Nat) (fr:List (Nat×Blk)) (r:PV)
 |callU (S:Bool) (ls:List Nat) (d:Nat) (s1:List (Nat×Blk)) (r:PV)
 |relab (l m:Nat)
 |ownc (t j l k:Nat)
 |ownb (b j l k:Nat)
 |nilt (t:Nat)
 |niltc (t j:Nat)
 |niltb (b j:Nat)
 |stopAt (k:Nat)
 |sp (cs:List PV)
 |mp (es:List (Int×List aa))
 |tomat (l:Nat)
 |callC (l b:Nat)
 |opn (l i:Nat) (e:List aa)
 |cls (l:Nat) (es:List (List aa))
abbrev Ev:=Option (List Prop×List Orc×Stp)
def ev0(xs:List Orc)(p:PV):Ev:=some ([],xs,⟨[],p,[]⟩)
def ev1(ps:List Prop)(xs:List Orc)(p:PV):Ev:=some (ps,xs,⟨[],p,[]⟩)
def nY(a b:IntKind):Bool:=decide (a=b)
def zW(op:BinOp)(k k':IntKind)(a b:Int)(xs:List Orc):Ev:=
 match op with
 |.shl=>ev1 [¬b<0] xs (.t (.int k (k.wrap (a*2 ^ (min b.toNat k.bits)))))
 |.shr=>ev1 [¬b<0] xs (.t (.int k (a.fdiv (2 ^ (min b.toNat k.bits)))))
 |.quo=>bif nY k k' then ev1 [b≠0] xs (.t (.int k (k.wrap (a.tdiv b))))else none
 |.rem=>bif nY k k' then ev1 [b≠0] xs (.t (.int k (a.tmod b)))else none
 |_=>bif nY k k' then
  match ri op k a b with
  |some r=>ev0 xs (.t r)
  |none=>none
  else none
def zX(T:TS)(op:BinOp)(xT:Nat)(px py:PV)(xs:List Orc):Ev:=
 match px,py with
 |.t (.int k a),.t (.int k' b)=>zW op k k' a b xs
 |.t (.str a),.t (.str b)=>
  match op with
  |.add=>ev1 [a.length+b.length<=9223372036854775807] xs (.t (.str (a++b)))
  |_=>
   match zY op a b with
   |some r=>ev0 xs (.t r)
   |none=>none
 |.t (.bool a),.t (.bool b)=>
  match(get T xT).map (·.k),op with
  |some TK.bool,.eql=>ev0 xs (.t (.bool (a==b)))
  |some TK.bool,.neq=>ev0 xs (.t (.bool (!(a==b))))
  |_,_=>none
 |.agg Za,.agg bs=>
  match jI Za,jI bs,(get T xT).bind (·.flat)with
  |some Za,some bs,some (_,ks)=>
   bif fits ks Za&&fits ks bs then
    match eqOp op (Z9 Za bs)with
    |some r=>ev0 xs (.t (.bool r))
    |none=>none
   else none
  |_,_,_=>none
 |_,_=>none
section
variable {P:Program} {T:TS} {o:Oper} {tm:List (Nat×PV)} {Z:List (Nat×Blk)} {xs xs':List Orc} {ps:List Prop} {s:Stp}
def dk{p:PV}(h:ev0 xs p=some (ps,xs',s)):ps=[]/\xs'=xs/\s=⟨[],p,[]⟩:=by simp only[ev0,aB,bJ]at h;exact⟨h.1.symm,h.2.1.symm,h.2.2.symm⟩
def eI{qs:List Prop}{p:PV}(h:ev1 qs xs p=some (ps,xs',s)):ps=qs/\xs'=xs/\s=⟨[],p,[]⟩:=by simp only[ev1,aB,bJ]at h;exact⟨h.1.symm,h.2.1.symm,h.2.2.symm⟩
def ZfF{op:BinOp}{xT yT:TypeId}{x y:Operand}{k k':IntKind}{a b:Int}(ho:o.op = .binOp op xT x y yT)(hx:ai tm x=some (.t (.int k a)))(hy:ai tm y=some (.t (.int k' b)))
 (h:zW op k k' a b xs=some (ps,xs',s)) (hc:aM ps):aS P o tm Z s.need s.p s.news:=by
 unfold zW at h;split at h
 .obtain⟨rfl,rfl,rfl⟩:=eI h;exact Kz ho hx hy (by simp[vh,hc.1])
 .obtain⟨rfl,rfl,rfl⟩:=eI h;exact Kz ho hx hy (by simp[vh,hc.1])
 .cases hk:nY k k' with
  |false=>simp[hk]at h
  |true=>
   simp only[hk,aD]at h;have:k=k':=j7 hk;subst this;obtain⟨rfl,rfl,rfl⟩:=eI h;exact zZ ho hx hy (by have:=hc.1;simp[ri,this])
 .cases hk:nY k k' with
  |false=>simp[hk]at h
  |true=>
   simp only[hk,aD]at h;have:k=k':=j7 hk;subst this;obtain⟨rfl,rfl,rfl⟩:=eI h;exact zZ ho hx hy (by have:=hc.1;simp[ri,this])
 cases hk:nY k k' with
 |false=>simp[hk]at h
 |true=>
  simp only[hk,aD]at h;have:k=k':=j7 hk;subst this;split at h
  .rename_i r hr;obtain⟨rfl,rfl,rfl⟩:=dk h;exact zZ ho hx hy hr
  cases h
def ZfG(hT:TOK P T){op:BinOp}{xT yT:TypeId}{x y:Operand}{px py:PV}(ho:o.op = .binOp op xT x y yT)(hx:ai tm x=some px)(hy:ai tm y=some py)
 (h:zX T op xT px py xs=some (ps,xs',s)) (hc:aM ps):aS P o tm Z s.need s.p s.news:=by
 unfold zX at h;split at h
 .exact ZfF ho hx hy h hc
 .split at h
  .obtain⟨rfl,rfl,rfl⟩:=eI h;exact ZfH ho hx hy hc.1
  split at h
  .rename_i r hr;obtain⟨rfl,rfl,rfl⟩:=dk h;exact ZfI ho hx hy hr
  cases h
 .split at h
  .rename_i hk;obtain⟨rfl,rfl,rfl⟩:=dk h;simp only[cJ]at hk;obtain⟨i,hi,hik⟩:=hk;have:=(hT _ _ hi).k;rw[hik]at this;exact KA ho this hx hy (.inl ⟨rfl,rfl⟩)
  .rename_i hk;obtain⟨rfl,rfl,rfl⟩:=dk h;simp only[cJ]at hk;obtain⟨i,hi,hik⟩:=hk;have:=(hT _ _ hi).k;rw[hik]at this;exact KA ho this hx hy (.inr ⟨rfl,rfl⟩)
  cases h
 .split at h
  .rename_i Za bs d ks ha hb hf;cases hfit:(fits ks Za&&fits ks bs)with
   |false=>simp[hfit]at h
   |true=>
    simp only[hfit,aD]at h;simp only[aO]at hfit;split at h
    .rename_i r hr;obtain⟨rfl,rfl,rfl⟩:=dk h;simp only[eo]at hf;obtain⟨i,hi,hf⟩:=hf;have hok:=hT _ _ hi;obtain⟨hd,hfl,hag,hgt⟩:=hok.fl _ _ hf;have e1:=nZ ha;have e2:=nZ hb;subst e1;subst e2;obtain⟨dd,hu,hdr⟩:=hok.ty.und;exact ZfJ d ks ho hd hfl ⟨dd,hu,by rw[hdr];exact hag⟩ hgt hx hy hfit.1 hfit.2 hr
    cases h
  cases h
 cases h
def TOK.size{i:fX}(hT:TOK P T)(h:get T t=some i):∃inf,P.info? t=some inf/\inf.size=i.size:=(hT t i h).ty.info
def TOK.fieldInfo{f q:Nat}{i j:fX}{fs:List (Nat×Nat)}{fT:Nat}(hT:TOK P T)(h:get T t=some i)(hk:i.k = .struct fs)(hf:fs[f]?=some (q,fT))(hj:get T fT=some j):PW.fieldInfo P t f=some (q,j.size):=by
 have:=(hT t i h).k;rw[hk]at this;obtain⟨fs',hu,hfs⟩:=this;subst hfs;simp only[jF,cJ]at hf;obtain⟨fl,hfl,he⟩:=hf;cases he;obtain⟨inf,hi,hs⟩:=hT.size hj;simp only[PW.fieldInfo,hu];have:fs'[f]?=some fl:=by simpa using hfl
 simp[this,hi,hs]
def TOK.arrInfo{n:Nat}{i j:fX}(hT:TOK P T)(h:get T t=some i)(hk:i.k = .arr n e)(hj:get T e=some j):PW.arrInfo P t=some (n,j.size):=by have:=(hT t i h).k;rw[hk]at this;obtain⟨inf,hi,hs⟩:=hT.size hj;have hu:P.underlying t=some (.array n e):=this;simp[PW.arrInfo,hu,hi,hs]
def TOK.slInfo{i j:fX}(hT:TOK P T)(h:get T t=some i)(hk:i.k = .slice e)(hj:get T e=some j):PW.slInfo P t=some j.size:=by have:=(hT t i h).k;rw[hk]at this;obtain⟨inf,hi,hs⟩:=hT.size hj;have hu:P.underlying t=some (.slice e):=this;simp[PW.slInfo,hu,hi,hs]
def dH(T:TS)(t:Nat):Option (Nat×fX):=
 match get T t with
 |some ⟨_,_,_,_,.slice e,_⟩=>(get T e).map λj=>(e,j)
 |_=>none
def fx{j:fX}(h:dH T t=some (e,j)):∃i,get T t=some i/\i.k = .slice e/\get T e=some j:=by
 unfold dH at h;split at h
 .rename_i hi;simp only[cJ]at h;obtain⟨j',hj,he⟩:=h;cases he;exact⟨_,hi,rfl,hj⟩
 cases h
def n3(T:TS)(t:Nat):Option (Nat×Nat×fX):=
 match get T t with
 |some ⟨_,_,_,_,.arr n e,_⟩=>(get T e).map λj=>(n,e,j)
 |_=>none
def Z5i{n:Nat}{j:fX}(h:n3 T t=some (n,e,j)):∃i,get T t=some i/\i.k = .arr n e/\get T e=some j:=by
 unfold n3 at h;split at h
 .rename_i hi;simp only[cJ]at h;obtain⟨j',hj,he⟩:=h;cases he;exact⟨_,hi,rfl,hj⟩
 cases h
def Z9k(T:TS)(t f:Nat):Option (Nat×fX):=
 match get T t with
 |some ⟨_,_,_,_,.struct fs,_⟩=>(fs[f]?).bind λx=>(get T x.2).map λj=>(x.1,j)
 |_=>none
def Z7u{f q:Nat}{j:fX}(h:Z9k T t f=some (q,j)):∃i fs fT,get T t=some i/\i.k = .struct fs/\fs[f]?=some (q,fT)/\get T fT=some j:=by
 unfold Z9k at h;split at h
 .rename_i hi;simp only[eo,cJ]at h;obtain⟨⟨x1,x2⟩,hx,j',hj,he⟩:=h;cases he;exact⟨_,_,_,hi,rfl,hx,hj⟩
 cases h
def Z2b{j:fX}{z:List PV}(hT:TOK P T)(h:dH T t=some (e,j))(hz:j.zero=some z)(hpos:Nat.blt 0 j.size=true)(hl:Nat.beq z.length j.size=true):ElF P t e j.size j.bytes z:=by obtain⟨i,hi,hk,hj⟩:=fx h;have h1:=(hT t i hi).k;rw[hk]at h1;exact { und:=h1,info:=(hT e j hj).by_,z:=(hT e j hj).z z hz,pos:=(by rw[iK]at hpos;exact hpos),len:=(ba _ _).1 hl }
end
end Go.PW
namespace Go.PW
open Go.RowKit
def ev2(ps:List Prop)(xs:List Orc)(need:List Nat)(p:PV):Ev:=some (ps,xs,⟨need,p,[]⟩)
def ev3(ps:List Prop)(xs:List Orc)(p:PV)(l:Nat)(b:Blk):Ev:=some (ps,xs,⟨[],p,[(l,b)]⟩)
def fP(tm:List (Nat×PV)):List Operand->Option (List PV)
 |[]=>some []
 |x::l=>
  match ai tm x,fP tm l with
  |some p,some ps=>some (p::ps)
  |_,_=>none
def wh{tm:List (Nat×PV)}:∀{l:List Operand} {ps:List PV},fP tm l=some ps->l.mapM (ai tm)=some ps
 |[],ps,h=>by simp only[fP,aB]at h;subst h;rfl
 |x::l,ps,h=>by
  simp only[fP]at h;split at h
  .rename_i p qs hp hq;cases h;rw[k6,hp,wh hq];rfl
  cases h
mutual
def cE(Z:List (Nat×Blk)):PV->Option (List Prop×PV)
 |.t x=>some ([],.t x)
 |.nils=>some ([],.t (.sl []))
 |.osl l n=>
  match get Z l with
  |some (.row _ es)=>some ([es.length=n],.t (.sl es))
  |_=>none
 |.bptr l o=>
  match get Z l with
  |some (.box cs)=>match jI cs with|some ts=>some ([],.vptr (ts.drop o))|none=>none
  |_=>none
 |.rptr _ _ _ _=>none
 |.vptr cs=>some ([],.vptr cs)
 |.agg cs=>match fA Z cs with|some (ps,ds)=>some (ps,.agg ds)|none=>none
 |.tup cs=>match fA Z cs with|some (ps,ds)=>some (ps,.tup ds)|none=>none
 |.fn f cs=>match fA Z cs with|some (ps,ds)=>some (ps,.fn f ds)|none=>none
 |.own l d=>
  match d,get Z l with
  |.msl n,some (.mat _ _ es)=>some ([es.length=n],.t (.sl es))
  |_,_=>none
def fA(Z:List (Nat×Blk)):List PV->Option (List Prop×List PV)
 |[]=>some ([],[])
 |c::cs=>
  match cE Z c,fA Z cs with
  |some (ps,d),some (qs,ds)=>some (ps++qs,d::ds)
  |_,_=>none
end
mutual
def AO{Z Z':List (Nat×Blk)}(h0:∀l,get Z' l=none):∀{p q:PV} {ps:List Prop},cE Z p=some (ps,q)->aM ps->Frz Z Z' p q
 |.t x,q,ps,h,_=>Pq
 |.nils,q,ps,h,_=>by simp only[cE,aB,bJ]at h;simp only[Frz];exact .inl h.2.symm
 |.osl l n,q,ps,h,hc=>by
  simp only[cE]at h;split at h
  .rename_i k es hg;cases h;simp only[Frz];exact .inr ⟨k,es,hg,hc.1,h0 l,rfl⟩
  cases h
 |.bptr l o,q,ps,h,_=>by
  simp only[cE]at h;split at h
  .rename_i cs hg;split at h
   .rename_i ts hts;cases h;have e:=nZ hts;subst e;simp only[Frz];exact .inr ⟨ts,hg,h0 l,rfl⟩
   cases h
  cases h
 |.rptr _ _ _ _,q,ps,h,_=>by simp[cE]at h
 |.vptr cs,q,ps,h,_=>Pq
 |.agg cs,q,ps,h,hc=>by
  simp only[cE]at h;split at h
  .rename_i ps' ds hds;cases h;simp only[Frz];exact⟨ds,rfl,mj h0 hds hc⟩
  cases h
 |.tup cs,q,ps,h,hc=>by
  simp only[cE]at h;split at h
  .rename_i ps' ds hds;cases h;simp only[Frz];exact⟨ds,rfl,mj h0 hds hc⟩
  cases h
 |.fn f cs,q,ps,h,hc=>by
  simp only[cE]at h;split at h
  .rename_i ps' ds hds;cases h;simp only[Frz];exact⟨ds,rfl,mj h0 hds hc⟩
  cases h
 |.own l d,q,ps,h,hc=>by
  simp only[cE]at h;split at h
  .rename_i n k q0 es hg;cases h;simp only[Frz];exact .inr ⟨n,k,q0,es,rfl,hg,hc.1,h0 l,rfl⟩
  cases h
def mj{Z Z':List (Nat×Blk)}(h0:∀l,get Z' l=none):∀{cs ds:List PV} {ps:List Prop},fA Z cs=some (ps,ds)->aM ps->aZ Z Z' cs ds
 |[],ds,ps,h,_=>by simp only[fA,aB,bJ]at h;simp only[aZ];exact h.2.symm
 |c::cs,ds,ps,h,hc=>by
  simp only[fA]at h;split at h
  .rename_i ps1 d qs ds' h1 h2;cases h;obtain⟨hc1,hc2⟩:=Z5.1 hc;simp only[aZ];exact⟨d,ds',rfl,AO h0 h1 hc1,mj h0 h2 hc2⟩
  cases h
end
mutual
def si:PV->List Nat
 |.osl l _=>[l]
 |.bptr l _=>[l]
 |.rptr l _ _ _=>[l]
 |.agg cs=>iP cs
 |.tup cs=>iP cs
 |.fn _ cs=>iP cs
 |.own l _=>[l]
 |_=>[]
def iP:List PV->List Nat
 |[]=>[]
 |p::ps=>si p++iP ps
end
mutual
def Pr{m:Nat}:∀(p:PV),p.has m=true->m∈si p
 |.t _,h=>BB
 |.nils,h=>BB
 |.vptr _,h=>BB
 |.osl l n,h=>wi
 |.bptr l n,h=>wi
 |.rptr l _ _ _,h=>wi
 |.agg cs,h=>BC
 |.tup cs,h=>BC
 |.fn _ cs,h=>BC
 |.own l n,h=>wi
def k7{m:Nat}:∀(ps:List PV),PV.hasAny m ps=true->m∈iP ps
 |[],h=>by simp[PV.hasAny]at h
 |p::ps,h=>by
  simp only[PV.hasAny,ic]at h;simp only[iP,cb];rcases h with h|h
  .exact .inl (Pr p h)
  exact .inr (k7 ps h)
end
def ke(agg:Bool)(c:List aa):PV:=bif agg then .agg (c.map .t)else(match c with|[x] =>.t x|_ =>.agg (c.map .t))
def Z21(T:TS):List (Nat×Nat)->Option (List (Nat×Nat))
 |[]=>some []
 |(q,t)::l=>
  match get T t,Z21 T l with
  |some i,some ps=>some ((q,i.size)::ps)
  |_,_=>none
def BD(T:TS)(t:Nat)(ps:List (Nat×PV))(xs:List Orc):Ev:=
 match get T t with
 |some ⟨_,_,_,some z,.struct fs,_⟩=>
  match Z21 T fs with
  |some pl=>
   match gJ pl z ps with
   |some out=>ev0 xs (.agg out)
   |none=>none
  |none=>none
 |some ⟨_,_,_,some z,.arr n e,_⟩=>
  match get T e with
  |some j=>
   match gJ ((List.range n).map λi=>(i*j.size,j.size)) z ps with
   |some out=>ev0 xs (.agg out)
   |none=>none
  |none=>none
 |_=>none
def BE(T:TS)(t len:Nat)(ps:List (Nat×PV))(xs:List Orc):Ev:=
 match dH T t with
 |some (_,⟨_,k,_,some z,_,_⟩)=>
  bif Nat.blt 0 k&&Nat.beq z.length k&&Nat.ble (len*k) 16777216 then
   match gJ (kM k len) (rep len z) ps with
   |some out=>
    match cy out,xs with
    |some ts,.lit::xs=>ev0 xs (.t (.sl (chunk k len ts)))
    |some ts,.lab l::xs=>bif Nat.ble 1000 l&&Nat.beq ts.length (len*k)then ev3 [] xs (.osl l len) l (.row k (chunk k len ts))else none
    |_,_=>none
   |none=>none
  else none
 |_=>none
def BF(T:TS)(t:Nat)(px py:PV)(xs:List Orc):Ev:=
 match dH T t,px,py,xs with
 |some (_,⟨_,k,bytes,some z,_,_⟩),.t (.int _ m),.t (.int _ c),.lab l :: .nat n :: .es es::xs=>
  bif Nat.blt 0 k&&Nat.beq z.length k&&Nat.ble 1000 l then
   match cy z with
   |some zs=>ev3 [0<=m,m<=c,(bytes:Int)*c<=281474976710656,c<=9223372036854775807,m.toNat=n,List.replicate n zs=es] xs (.osl l n) l (.row k es)
   |none=>none
  else none
 |_,_,_,_=>none
def Z7v(T:TS)(Z:List (Nat×Blk))(s i:Nat)(px:PV)(xs:List Orc):Ev:=
 match Z9k T s i with
 |some (q,j)=>
  bif Nat.beq j.size 0 then none else
  match px with
  |.bptr l p=>
   match get Z l with
   |some (.box _)=>ev2 [] xs [l] (.bptr l (p+q))
   |_=>none
  |.rptr l m jj p=>
   match get Z l with
   |some (.row _ es)=>ev2 [es.length=m] xs [l] (.rptr l m jj (p+q))
   |_=>none
  |.vptr cs=>ev0 xs (.vptr (cs.drop q))
  |_=>none
 |none=>none
def Z7w(T:TS)(Z:List (Nat×Blk))(t:Nat)(px py:PV)(xs:List Orc):Ev:=
 match py with
 |.t (.int _ i)=>
  match px with
  |.t (.sl es)=>
   match dH T t,xs with
   |some (_,j),.cs e::xs=>ev1 [∀el,el∈es->el.length=j.size,0<=i,es[i.toNat]?=some e] xs (.vptr e)
   |_,_=>none
  |.osl l m=>
   match dH T t,get Z l,xs with
   |some (_,j),some (.row k es),.nat n::xs=>bif Nat.beq j.size k then ev2 [es.length=m,0<=i,i<m,i.toNat=n] xs [l] (.rptr l m n 0)else none
   |_,_,_=>none
  |.bptr l q=>
   match n3 T t,get Z l,xs with
   |some (len,_,j),some (.box _),.nat n::xs=>ev2 [0<=i,i<len,i.toNat=n] xs [l] (.bptr l (q+n*j.size))
   |_,_,_=>none
  |.rptr l m jj q=>
   match n3 T t,get Z l,xs with
   |some (len,_,j),some (.row _ els),.nat n::xs=>ev2 [els.length=m,0<=i,i<len,i.toNat=n] xs [l] (.rptr l m jj (q+n*j.size))
   |_,_,_=>none
  |.vptr cs=>
   match n3 T t,xs with
   |some (len,_,j),.nat n::xs=>ev1 [0<=i,i<len,i.toNat=n] xs (.vptr (cs.drop (n*j.size)))
   |_,_=>none
  |_=>none
 |_=>none
def BG(T:TS)(t:Nat)(px py:PV)(xs:List Orc):Ev:=
 match py with
 |.t (.int _ i)=>
  match px with
  |.t (.str s)=>
   match(get T t).map (·.k),xs with
   |some TK.str,.byte b::xs=>ev1 [0<=i,s[i.toNat]?=some b] xs (.t (.int .u8 b.toNat))
   |_,_=>none
  |.agg cs=>
   match n3 T t,xs with
   |some (len,_,j),.cs c::xs=>ev1 [0<=i,i<len,dn j.agg j.size (i.toNat*j.size) cs=some (ke j.agg c)] xs (ke j.agg c)
   |_,_=>none
  |_=>none
 |_=>none
def wj(T:TS)(Z:List (Nat×Blk))(t:Nat)(px:PV)(xs:List Orc):Ev:=
 match get T t with
 |some i=>
  match px with
  |.bptr l q=>
   match get Z l with
   |some (.box cs)=>
    match dn i.agg i.size q cs with
    |some p=>ev2 [] xs [l] p
    |none=>none
   |_=>none
  |.rptr l m j q=>
   match get Z l,xs with
   |some (.row _ es),.cs e::xs=>
    match dn i.agg i.size q (e.map .t)with
    |some p=>ev2 [es.length=m,es[j]?=some e] xs [l] p
    |none=>none
   |_,_=>none
  |.vptr cs=>
   match dn i.agg i.size 0 (cs.map .t)with
   |some p=>ev0 xs p
   |none=>none
  |_=>none
 |none=>none
def BH(T:TS)(Z:List (Nat×Blk))(t:Nat)(px:PV)(c:List aa)(xs:List Orc):Ev:=
 match get T t,px with
 |some i,.bptr l q=>
  match get Z l with
  |some (.box cs)=>ev2 [dn i.agg i.size q cs=some (ke i.agg c)] xs [l] (ke i.agg c)
  |_=>none
 |some i,.vptr cs=>ev1 [dn i.agg i.size 0 (cs.map .t)=some (ke i.agg c)] xs (ke i.agg c)
 |_,_=>none
def sj(Z:List (Nat×Blk)):PV->Option (List Prop×List (List aa)×List Nat)
 |.t (.sl es)=>some ([],es,[])
 |.nils=>some ([],[],[])
 |.t (.con (.slice _ 0 _))=>some ([],[],[])
 |.osl l m=>
  match get Z l with
  |some (.row _ es)=>some ([es.length=m],es,[l])
  |_=>none
 |_=>none
def wk:List Nat->Bool
 |[]=>true
 |l::r => !Z2t r l&&wk r
def ZmZ:Blk->List Nat
 |.box cs=>iP cs
 |.row _ _=>[]
 |.mat _ _ _=>[]
 |.map _ _=>[]
 |.prow _ _ _ cs=>iP cs
def wm:List (Nat×Blk)->List Nat
 |[]=>[]
 |(_,b)::r=>ZmZ b++wm r
def hasK(Z:List (Nat×Blk))(l:Nat):Bool:=match get Z l with|some _=>true|none=>false
def Ps(σa:List (Nat×Blk))(l:Nat)(b:Blk):Bool:=
 match b,get σa l with
 |.box _,some (.box _)=>true
 |.row k _,some (.row k' _)=>Nat.beq k k'
 |_,_=>false
def wo(ls:List Nat)(d:Nat)(σa σ1:List (Nat×Blk))(res:PV):Bool:=wk ls&&Nat.ble ls.length 1000&&(σ1.all λx=>match ls[x.1]? with|some _=>Ps σa x.1 x.2|none=>Nat.ble 1000 (x.1+d))&&(si res++wm σ1).all (hasK σ1)
def scB:List (Nat×Blk)->List Prop
 |[]=>[]
 |(_,.box cs)::r=>(PV.scs cs=true)::scB r
 |(_,.row _ es)::r=>(∀el,el∈es->∀x,x∈el->aa.scal x=true)::scB r
 |(_,.mat k q _)::r=>(k=1/\q=0)::scB r
 |(_,.map _ _)::r=>False::scB r
 |(_,.prow _ _ _ _)::r=>False::scB r
mutual
def wq(Z:List (Nat×Blk)):PV->List Nat
 |.bptr L _=>match get Z L with|some (.box cs)=>iP cs|_=>[]
 |.agg cs=>k9 Z cs
 |.tup cs=>k9 Z cs
 |.fn _ cs=>k9 Z cs
 |_=>[]
def k9(Z:List (Nat×Blk)):List PV->List Nat
 |[]=>[]
 |p::ps=>wq Z p++k9 Z ps
end
mutual
def ZnA{Z:List (Nat×Blk)}{m:Nat}:∀(p:PV),p.deep Z m=true->m∈wq Z p
 |.t _,h=>oH
 |.nils,h=>oH
 |.osl _ _,h=>oH
 |.bptr L o,h=>by
  simp only[PV.deep]at h;simp only[wq];cases hg:get Z L with
  |none=>simp[hg]at h
  |some b=>
   cases b with
   |box cs=>simp only[hg]at h;exact k7 _ h
   |row k es=>simp[hg]at h
   |mat k q es=>simp[hg]at h
   |map ag es=>simp[hg]at h
   |prow k i es cs=>simp[hg]at h
 |.rptr _ _ _ _,h=>oH
 |.vptr _,h=>oH
 |.agg cs,h=>BI
 |.tup cs,h=>BI
 |.fn _ cs,h=>BI
 |.own _ _,h=>oH
def wt{Z:List (Nat×Blk)}{m:Nat}:∀(ps:List PV),PV.deeps Z m ps=true->m∈k9 Z ps
 |[],h=>by simp[PV.deeps]at h
 |p::ps,h=>by
  simp only[PV.deeps,ic]at h;simp only[k9,cb];rcases h with h|h
  .exact .inl (ZnA p h)
  exact .inr (wt ps h)
end
def scC(S:Bool)(σ1:List (Nat×Blk))(res:PV):List Prop:=bif S then(res.sc=true)::scB σ1 else[]
def BJ(T:TS)(P:Program)(tm:List (Nat×PV))(Z:List (Nat×Blk))(c:Callee)(ps:List PV)(ats:List Nat)(xs:List Orc):Ev:=
 match c with
 |.value fo=>
  match ai tm fo,xs with
  |some (.fn f caps),.call res::xs=>
   match fA [] (ps++caps)with
   |some (_,qs)=>bif res.free then ev1 [Fn P f qs res] xs res else none
   |none=>
    match fA Z (ps++caps)with
    |some (cs,qs)=>bif res.scal then ev2 (cs++[Fn P f qs res]) xs (iP (ps++caps)) res else none
    |none=>none
  |some (.fn f caps),.callO S ls d fr res::xs=>
   match dx S ls Z (ps++caps),iY ls Z 0 ls with
   |some (cs,qs),some σa=>bif wo ls d σa (fr++σa) res then some (cs++(scC S (fr++σa) res++[FnG P f σa qs (fr++σa) res]),xs,⟨ls++(iP (ps++caps)++k9 Z (ps++caps)),res.ren (bV ls d),bT (bV ls d) fr⟩)else none
   |_,_=>none
  |_,_=>none
 |.builtin .len=>
  match ps,ats,xs with
  |[p],[t],.num n::xs=>
   match(get T t).map (·.k),p with
   |some (TK.slice _),.t (.sl es)=>ev1 [(es.length:Int)=n] xs (.t (.int .i64 n))
   |some (TK.slice _),.nils=>ev1 [0=n] xs (.t (.int .i64 n))
   |some (TK.slice _),.osl l m=>
    match get Z l with
    |some (.row _ es)=>ev2 [es.length=m,(m:Int)=n] xs [l] (.t (.int .i64 n))
    |_=>none
   |some (TK.slice _),.own l (.msl m)=>
    match get Z l with
    |some (.mat _ _ es)=>ev2 [es.length=m,(m:Int)=n] xs [l] (.t (.int .i64 n))
    |_=>none
   |some TK.str,.t (.str s)=>ev1 [(s.length:Int)=n] xs (.t (.int .i64 n))
   |_,_=>none
  |_,_,_=>none
 |.builtin .max=>
  match ps with
  |[.t (.int k a),.t (.int _ b)]=>ev0 xs (.t (.int k (maxI a b)))
  |_=>none
 |.builtin .min=>
  match ps with
  |[.t (.int k a),.t (.int _ b)]=>ev0 xs (.t (.int k (minI a b)))
  |_=>none
 |.builtin .append=>
  match ps,ats,xs with
  |[.nils,y],[t,tx],.lab l :: .es es::xs=>
   match dH T t,dH T tx,sj Z y with
   |some (_,⟨_,k,bytes,some z,_,_⟩),some _,some (cs,ys,ls)=>
    bif Nat.blt 0 k&&Nat.beq z.length k&&Nat.ble 1000 l then
     some (cs++[ys=es,∀el,el∈es->el.length=k,es.length<=9223372036854775807,es.length*bytes<=140737488355328],xs,⟨ls,.osl l es.length,[(l,.row k es)]⟩)
    else none
   |_,_,_=>none
  |_,_,_=>none
 |_=>none
def wu:Operand->Bool
 |.const (.slice none 0 0)=>true
 |_=>false
def BK(T:TS)(op:BinOp)(t:Nat)(px:PV)(xs:List Orc):Ev:=
 match dH T t,op,px with
 |some _,.eql,.t (.sl es)=>ev1 [es≠[]] xs (.t (.bool false))
 |some _,.neq,.t (.sl es)=>ev1 [es≠[]] xs (.t (.bool true))
 |some _,.eql,.t (.con (.slice a _ _))=>ev0 xs (.t (.bool a.isNone))
 |some _,.neq,.t (.con (.slice a _ _))=>ev0 xs (.t (.bool (!a.isNone)))
 |_,_,_=>none
def wv:Operand->Bool
 |.const (.pointer none)=>true
 |_=>false
def BL(Z:List (Nat×Blk))(op:BinOp)(px:PV)(xs:List Orc):Ev:=
 match op,px with
 |.eql,.t (.con (.pointer none))=>ev0 xs (.t (.bool true))
 |.neq,.t (.con (.pointer none))=>ev0 xs (.t (.bool false))
 |.eql,.bptr l _=>match get Z l with|some (.box _)=>ev2 [] xs [l] (.t (.bool false))|_=>none
 |.neq,.bptr l _=>match get Z l with|some (.box _)=>ev2 [] xs [l] (.t (.bool true))|_=>none
 |_,_=>none
def BM(T:TS)(tm:List (Nat×PV))(t:Nat)(px:PV)(lo hi:Option Operand)(xs:List Orc):Ev:=
 match dH T t,px,xs with
 |none,.t (.str s),.cs [.str z]::xs=>
  match(get T t).map (·.k),gf tm 0 lo,gf tm s.length hi with
  |some TK.str,some l,some h=>ev1 [0<=l,l<=h,h<=s.length,(s.take h.toNat).drop l.toNat=z] xs (.t (.str z))
  |_,_,_=>none
 |some (_,j),.t (.sl es),.es es'::xs=>
  match gf tm 0 lo,gf tm es.length hi with
  |some l,some h=>ev1 [∀el,el∈es->el.length=j.size,0<=l,l<=h,h<=es.length,(es.take h.toNat).drop l.toNat=es'] xs (.t (.sl es'))
  |_,_=>none
 |_,_,_=>none
def evOp(P:Program)(T:TS)(o:Oper)(tm:List (Nat×PV))(Z:List (Nat×Blk))(xs:List Orc):Ev:=
 match o.op with
 |.move x=>match ai tm x with|some p=>ev0 xs p|none=>none
 |.assign x=>match ai tm x with|some p=>ev0 xs p|none=>none
 |.pick c x y=>
  match ai tm c,xs with
  |some (.t (.bool e)),.br b::xs=>match ai tm (bif b then x else y)with|some p=>ev1 [e=b] xs p|none=>none
  |_,_=>none
 |.binOp op xT x y _=>
  bif wu y then(match ai tm x with|some px=>BK T op xT px xs|none=>none)
  else bif wv y then(match ai tm x,(get T xT).map (·.k)with|some px,some TK.ptr=>BL Z op px xs|_,_=>none)
  else match ai tm x,ai tm y with|some px,some py=>zX T op xT px py xs|_,_=>none
 |.unOp op _ x=>
  match op,ai tm x with
  |.not,some (.t (.bool b))=>ev0 xs (.t (.bool (!b)))
  |.neg,some (.t (.int k a))=>ev0 xs (.t (.int k (k.wrap (0-a))))
  |.xor,some (.t (.int k a))=>ev0 xs (.t (.int k (aR .xor k (if k.signed then-1 else k.max) a)))
  |_,_=>none
 |.convert s d x=>
  match(get T s).map (·.k),(get T d).map (·.k),ai tm x with
  |some (TK.int _),some (TK.int k'),some (.t (.int _ a))=>ev0 xs (.t (.int k' (k'.wrap a)))
  |some TK.str,some TK.str,some (.t (.str a))=>ev0 xs (.t (.str a))
  |some TK.str,some (TK.slice e),some (.t (.str a))=>
   match(get T e).map (·.k),xs with
   |some (TK.int .u8),.es es::xs=>ev1 [eV a=es,a.length<=9223372036854775807] xs (.t (.sl es))
   |_,_=>none
  |some (TK.slice e),some TK.str,some (.t (.sl es))=>
   match(get T e).map (·.k),xs with
   |some (TK.int .u8),.cs [.str s]::xs=>ev1 [eV s=es,s≠[]] xs (.t (.str s))
   |_,_=>none
  |_,_,_=>none
 |.field xT x i=>
  match Z9k T xT i,ai tm x with
  |some (q,j),some (.agg cs)=>match dn j.agg j.size q cs with|some p=>ev0 xs p|none=>none
  |_,_=>none
 |.extract x i=>match ai tm x with|some (.tup cs)=>(match cs[i]? with|some p=>ev0 xs p|none=>none)|_=>none
 |.nilCheck x=>
  match ai tm x with
  |some (.vptr cs)=>ev0 xs (.vptr cs)
  |some (.bptr l q)=>match get Z l with|some (.box _)=>ev2 [] xs [l] (.bptr l q)|_=>none
  |some (.rptr l m i q)=>match get Z l with|some (.row _ es)=>ev2 [es.length=m] xs [l] (.rptr l m i q)|_=>none
  |_=>none
 |.makeFunc (.func f) first caps=>bif Nat.beq first.size 0 then(match fP tm caps.toList with|some ps=>ev0 xs (.fn f ps)|none=>none)else none
 |.build t parts=>match gk tm parts.toList with|some ps=>BD T t ps xs|none=>none
 |.buildSlice t len parts=>match gk tm parts.toList with|some ps=>BE T t len ps xs|none=>none
 |.box _ x=>
  match ai tm x,xs with
  |some p,.lab l::xs=>bif (bz p).all PV.one&&Nat.ble 1000 l then ev3 [] xs (.bptr l 0) l (.box (bz p))else none
  |_,_=>none
 |.alloc t=>
  match(get T t).bind (·.zero),xs with
  |some z,.lab l::xs=>bif Nat.ble 1000 l then ev3 [] xs (.bptr l 0) l (.box z)else none
  |_,_=>none
 |.makeSlice t x y=>match ai tm x,ai tm y with|some px,some py=>BF T t px py xs|_,_=>none
 |.fieldAddr s x i=>match ai tm x with|some px=>Z7v T Z s i px xs|none=>none
 |.indexAddr t x y=>match ai tm x,ai tm y with|some px,some py=>Z7w T Z t px py xs|_,_=>none
 |.index t x y=>match ai tm x,ai tm y with|some px,some py=>BG T t px py xs|_,_=>none
 |.load t x=>
  match ai tm x with
  |some px=>
   match xs,o.dst with
   |.cell d c::xs',some d'=>bif Nat.beq d d' then BH T Z t px c xs' else wj T Z t px xs
   |_,_=>wj T Z t px xs
  |none=>none
 |.slice t x none (some y) (some z)=>
  match dH T t,ai tm x,ai tm y,ai tm z with
  |some _,some px,some (.t (.int _ 0)),some (.t (.int _ 0))=>bif wx px then ev0 xs .nils else none
  |_,_,_,_=>none
 |.slice t x lo hi none=>match ai tm x with|some px=>BM T tm t px lo hi xs|none=>none
 |.call c=>match fP tm c.args.toList with|some ps=>BJ T P tm Z c.callee ps c.argTypes.toList xs|none=>none
 |_=>none
abbrev Em:=Option (List Prop×List Orc×Stm)
def ninB(ls:List Nat)(d:Nat)(σ1:List (Nat×Blk)):Bool:=σ1.all λx=>match ls[x.1]? with|some _=>true|none => !Z2t ls (x.1+d)
def BN(P:Program)(tm:List (Nat×PV))(Z:List (Nat×Blk))(fo:Operand)(Za:List Operand)(xs:List Orc):Em:=
 match ai tm fo,fP tm Za,xs with
 |some (.fn f caps),some ps,.callU S ls d σ1 res::xs=>
  match dx S ls Z (ps++caps),iX ls Z 0 ls with
  |some (cs,qs),some σa=>
   bif wo ls d σa σ1 res&&ninB ls d σ1 then
    some (cs++(scC S σ1 res++[FnG P f σa qs σ1 res]),xs,⟨⟨ls++(iP (ps++caps)++k9 Z (ps++caps)),res.ren (bV ls d),bT (bV ls d) σ1⟩,ls⟩)
   else none
  |_,_=>none
 |_,_,_=>none
def BO(P:Program)(tm:List (Nat×PV))(Z:List (Nat×Blk))(fo:Operand)(Za:List Operand)(xs:List Orc):Em:=
 match ai tm fo,Za,xs with
 |some (.fn f []),[x],.callC L b::xs=>
  match ai tm x with
  |some (.osl l m)=>
   match get Z l with
   |some (.row k es)=>bif Nat.ble 1000 L && !Nat.beq L l then some ([es.length=m,jM P f k b,m*b<=140737488355328],xs,⟨⟨[l],.osl L m,[(L,.row k es)]⟩,[]⟩)else none
   |_=>none
  |_=>none
 |_,_,_=>none
def BP(P:Program)(T:TS)(o:Oper)(tm:List (Nat×PV))(Z:List (Nat×Blk))(xs:List Orc):Em:=
 match o.op with
 |.call c=>
  match c.callee,fP tm c.args.toList,c.argTypes.toList,xs with
  |.value fo,_,_,xs=>match BN P tm Z fo c.args.toList xs with|some r=>some r|none=>BO P tm Z fo c.args.toList xs
  |.builtin .append,some [.osl l m,y],[t,tx],.es es::xs=>
   match dH T t,dH T tx,sj Z y,get Z l with
   |some (_,⟨_,k,bytes,some z,_,_⟩),some _,some (cs,ys,ls),some (.row k' es0)=>
    bif Nat.blt 0 k&&Nat.beq z.length k&&Nat.beq k k' then
     some (cs++[es0.length=m,es0++ys=es,∀el,el∈ys->el.length=k,es.length<=9223372036854775807,es.length*bytes<=140737488355328],xs,⟨⟨l::ls,.osl l es.length,[(l,.row k es)]⟩,[l]⟩)
    else none
   |_,_,_,_=>none
  |.builtin .copy,some [.osl l m,y],[t,tx],.num q :: .es es::xs=>
   match dH T t,dH T tx,sj Z y,get Z l with
   |some (_,⟨_,k,_,some z,_,_⟩),some _,some (cs,ys,ls),some (.row k' es0)=>
    bif Nat.blt 0 k&&Nat.beq z.length k&&Nat.beq k k' then
     some (cs++[es0.length=m,(ys.length:Int)=q,ys.length<=m,∀el,el∈ys->el.length=k,ys++es0.drop ys.length=es],xs,⟨⟨l::ls,.t (.int .i64 q),[(l,.row k es)]⟩,[l]⟩)
    else none
   |_,_,_,_=>none
  |_,_,_,_=>none
 |.store t x y=>
  match o.dst,get T t,ai tm x,ai tm y with
  |none,some i,some (.bptr l q),some p=>
   match get Z l,xs with
   |some (.box cs),.sp cs'::xs=>bif Nat.beq (bz p).length i.size&&(bz p).all PV.one then some ([q+i.size<=cs.length,splice cs q (bz p)=cs'],xs,⟨⟨[l],.tup [],[(l,.box cs')]⟩,[l]⟩)else none
   |some (.box cs),xs=>bif Nat.beq (bz p).length i.size&&(bz p).all PV.one&&Nat.ble (q+i.size) cs.length then some ([],xs,⟨⟨[l],.tup [],[(l,.box (splice cs q (bz p)))]⟩,[l]⟩)else none
   |_,_=>none
  |none,some i,some (.rptr l m j q),some p=>
   match get Z l,xs,cy (bz p)with
   |some (.row k es),.cs e :: .es es'::xs,some ts=>bif Nat.beq ts.length i.size&&Nat.ble (q+i.size) k then some ([es.length=m,es[j]?=some e,es.set j (splice e q ts)=es'],xs,⟨⟨[l],.tup [],[(l,.row k es')]⟩,[l]⟩)else none
   |_,_,_=>none
  |_,_,_,_=>none
 |_=>none
def BQ(T:TS)(o:Oper)(tm:List (Nat×PV))(Z:List (Nat×Blk))(xs:List Orc):Em:=
 match o.op with
 |.slice t x (some y) none none=>
  match dH T t,ai tm x,ai tm y,xs with
  |some (_,j),some (.osl l m),some (.t (.int _ i)),.nat n::xs=>
   match get Z l with
   |some (.row k es)=>bif Nat.beq j.size k then some ([es.length=m,0<=i,i<=m,i.toNat=n],xs,⟨⟨[l],.own l (.tail m n),[]⟩,[]⟩)else none
   |_=>none
  |_,_,_,_=>none
 |.indexAddr t x y=>
  match dH T t,ai tm x,ai tm y,xs with
  |some (_,j),some (.own l (.msl m)),some (.t (.int _ i)),.nat n::xs=>
   match get Z l with
   |some (.mat 1 0 es)=>bif Nat.beq j.size 1 then some ([es.length=m,0<=i,i<m,i.toNat=n],xs,⟨⟨[l],.own l (.mpt m n 0),[]⟩,[]⟩)else none
   |_=>none
  |some (_,j),some (.own l (.mrow m jj)),some (.t (.int _ i)),.es inner :: .nat n::xs=>
   match get Z l with
   |some (.mat 1 0 es)=>bif Nat.beq j.size 1 then some ([es.length=m,es[jj]?=some [.sl inner],0<=i,i<inner.length,i.toNat=n],xs,⟨⟨[l],.own l (.mel m jj n),[]⟩,[]⟩)else none
   |_=>none
  |_,_,_,_=>none
 |.load t x=>
  match get T t,ai tm x with
  |some i,some (.own l (.mpt m j 0))=>
   match get Z l with
   |some (.mat 1 0 es)=>bif !i.agg&&Nat.beq i.size 1 then some ([es.length=m,j<m],xs,⟨⟨[l],.own l (.mrow m j),[]⟩,[]⟩)else none
   |_=>none
  |some i,some (.own l (.mel m j q))=>
   match get Z l,xs with
   |some (.mat 1 0 es),.es inner :: .cs [z]::xs=>bif (!i.agg&&Nat.beq i.size 1)&&z.scal then some ([es.length=m,es[j]?=some [.sl inner],inner[q]?=some [z]],xs,⟨⟨[l],.t z,[]⟩,[]⟩)else none
   |_,_=>none
  |_,_=>none
 |.buildSlice t 1 parts=>
  match dH T t,gk tm parts.toList,xs with
  |some (_,⟨_,1,_,some z,_,_⟩),some [(0,.osl l2 n2)],.lab L::xs=>
   match get Z l2,gJ (kM 1 1) (rep 1 z) [(0,.osl l2 n2)]with
   |some (.row 1 es2),some out=>bif Nat.beq z.length 1&&Nat.ble 1000 L && !Nat.beq L l2 then some ([out=[.osl l2 n2],es2.length=n2,SC1 es2],xs,⟨⟨[l2],.own L (.msl 1),[(L,.mat 1 0 [[.sl es2]])]⟩,[l2]⟩)else none
   |_,_=>none
  |_,_,_=>none
 |.buildSlice t 0 parts=>
  match dH T t,gk tm parts.toList,xs with
  |some (_,⟨_,1,_,some z,_,_⟩),some [],.num 0 :: .lab L::xs=>bif Nat.beq z.length 1 then some ([],xs,⟨⟨[],.own L (.msl 0),[(L,.mat 1 0 [])]⟩,[]⟩)else none
  |_,_,_=>none
 |.call c=>
  match c.callee,fP tm c.args.toList,c.argTypes.toList,xs with
  |.builtin .append,some [.own l (.msl m),.own l3 (.msl m3)],[t,tx],.es es::xs=>
   match dH T t,dH T tx,get Z l,get Z l3 with
   |some (_,⟨_,1,bytes,some z,_,_⟩),some _,some (.mat 1 0 es0),some (.mat 1 0 es3)=>
    bif Nat.beq z.length 1&&Nat.blt 0 m3 && !Nat.beq l l3 then
     some ([es0.length=m,es3.length=m3,es0++es3=es,m+m3<=9223372036854775807,(m+m3)*bytes<=140737488355328],xs,⟨⟨[l,l3],.own l (.msl es.length),[(l,.mat 1 0 es)]⟩,[l,l3]⟩)
    else none
   |_,_,_,_=>none
  |_,_,_,_=>none
 |_=>none
def BS(P:Program)(T:TS)(o:Oper)(tm:List (Nat×PV))(Z:List (Nat×Blk))(xs:List Orc):Em:=
 match o.op with
 |.makeMap t none=>
  match(get T t).map (·.k),xs with
  |some (TK.map _ e),.lab L::xs=>match get T e with|some j=>some ([],xs,⟨⟨[],.own L .map,[(L,.map j.agg [])]⟩,[]⟩)|none=>none
  |_,_=>none
 |.lookup t x y ok=>
  match(get T t).map (·.k),ai tm x,ai tm y,xs with
  |some (TK.map k e),some (.own l .map),some (.t (.int .i64 n)),.cs ts::xs=>
   match get Z l,(get T k).map (·.k)with
   |some (.map ag es),some (TK.int .i64)=>
    match oI P ag e,ok,xs with
    |some zs,true,.br b::xs=>some ([mlk es n zs=(ts,b)],xs,⟨⟨[l],.tup [mvP ag ts,.t (.bool b)],[]⟩,[]⟩)
    |some zs,false,xs=>some ([(mlk es n zs).1=ts],xs,⟨⟨[l],mvP ag ts,[]⟩,[]⟩)
    |_,_,_=>none
   |_,_=>none
  |_,_,_,_=>none
 |.call c=>
  match c.callee,fP tm c.args.toList,c.argTypes.toList,xs with
  |.builtin .len,some [.own l .map],[t],.num n::xs=>
   match(get T t).map (·.k),get Z l with
   |some (TK.map _ _),some (.map _ es)=>some ([(es.length:Int)=n],xs,⟨⟨[l],.t (.int .i64 n),[]⟩,[]⟩)
   |_,_=>none
  |_,_,_,_=>none
 |_=>none
def evPr(T:TS)(o:Oper)(tm:List (Nat×PV))(Z:List (Nat×Blk))(xs:List Orc):Em:=
 match o.op with
 |.nilCheck x=>
  match ai tm x with
  |some (.own l (.pp m q))=>match get Z l with|some (.prow _ _ es _)=>some ([es.length=m],xs,⟨⟨[l],.own l (.pp m q),[]⟩,[]⟩)|_=>none
  |_=>none
 |.fieldAddr s x f=>
  match Z9k T s f,ai tm x with
  |some (q0,j),some (.own l (.pp m q))=>match get Z l with|some (.prow _ _ es _)=>bif Nat.blt 0 j.size then some ([es.length=m],xs,⟨⟨[l],.own l (.pp m (q+q0)),[]⟩,[]⟩)else none|_=>none
  |_,_=>none
 |.load t x=>
  match get T t,ai tm x with
  |some i,some (.own l (.pp m q))=>
   match get Z l with
   |some (.prow _ _ es cs)=>match dn i.agg i.size q cs with|some p=>some ([es.length=m],xs,⟨⟨[l],p,[]⟩,[]⟩)|none=>none
   |_=>none
  |_,_=>none
 |.store t x y=>
  match o.dst,get T t,ai tm x,ai tm y with
  |none,some i,some (.own l (.pp m q)),some p=>
   match get Z l with
   |some (.prow k i0 es cs)=>bif Nat.beq (bz p).length i.size&&(bz p).all PV.one&&Nat.ble (q+i.size) cs.length then some ([es.length=m],xs,⟨⟨[l],.tup [],[(l,.prow k i0 es (splice cs q (bz p)))]⟩,[l]⟩)else none
   |_=>none
  |_,_,_,_=>none
 |_=>none
def wy(P:Program)(T:TS)(o:Oper)(tm:List (Nat×PV))(Z:List (Nat×Blk))(xs:List Orc):Em:=
 match evOp P T o tm Z xs with
 |some (ps,xs,s)=>some (ps,xs,⟨s,[]⟩)
 |none=>
  match BP P T o tm Z xs with
  |some r=>some r
  |none=>
   match BQ T o tm Z xs with
   |some r=>some r
   |none=>
    match BS P T o tm Z xs with
    |some r=>some r
    |none=>evPr T o tm Z xs
end Go.PW
namespace Go.PW
open Go.RowKit
variable {p px py:PV} {t:Nat} {x y:Operand}
section
variable {P:Program} {T:TS} {o:Oper} {tm:List (Nat×PV)} {Z:List (Nat×Blk)} {xs xs':List Orc} {ps:List Prop} {s:Stp}
def gC{qs:List Prop}{need:List Nat}(h:ev2 qs xs need p=some (ps,xs',s)):ps=qs/\xs'=xs/\s=⟨need,p,[]⟩:=by simp only[ev2,aB,bJ]at h;exact⟨h.1.symm,h.2.1.symm,h.2.2.symm⟩
def yh{qs:List Prop}{l:Nat}{b:Blk}(h:ev3 qs xs p l b=some (ps,xs',s)):ps=qs/\xs'=xs/\s=⟨[],p,[(l,b)]⟩:=by simp only[ev3,aB,bJ]at h;exact⟨h.1.symm,h.2.1.symm,h.2.2.symm⟩
def eQ(a b:Nat):Nat.ble a b=true↔a<=b:=by rw[Dp]
def bM{α:Type}{b:Bool}{x:Option α}{y:α}(h:(bif b then x else none)=some y):b=true/\x=some y:=by cases b<;>simp_all
def condNone'{α:Type}{b:Bool}{x:Option α}{y:α}(h:(bif b then none else x)=some y):b=false/\x=some y:=by cases b<;>simp_all
def ZBe(hT:TOK P T){i:fX}{fs:List (Nat×Nat)}(h:get T t=some i)(hk:i.k = .struct fs){pl:List (Nat×Nat)}(hp:Z21 T fs=some pl):xr P t=some pl:=by
 have:=(hT t i h).k;rw[hk]at this;obtain⟨fs',hu,rfl⟩:=this;simp only[xr,hu];generalize fs'.toList=l at hp;clear hu hk h i;induction l generalizing pl with
 |nil=>simp only[fW,Z21,aB]at hp;subst hp;rfl
 |cons f l ih=>
  simp only[ck,Z21]at hp;split at hp
  .rename_i i ps hi hps;cases hp;obtain⟨inf,hinf,hs⟩:=hT.size hi;rw[k6,ih hps,hinf];simp[hs]
  cases hp
def ZBf(hT:TOK P T){parts:Array (Nat×Operand)}{qs:List (Nat×PV)}(ho:o.op = .build t parts)(hp:gk tm parts.toList=some qs)(h:BD T t qs xs=some (ps,xs',s)):aS P o tm Z s.need s.p s.news:=by
 unfold BD at h;split at h
 .rename_i z fs _ hi;split at h
  .rename_i pl hpl;split at h
   .rename_i out hf;obtain⟨rfl,rfl,rfl⟩:=dk h;exact UE ho ⟨.inl (ZBe hT hi rfl hpl),(hT t _ hi).z z rfl⟩ hp hf
   cases h
  cases h
 .rename_i z n e _ hi;split at h
  .rename_i j hj;split at h
   .rename_i out hf;obtain⟨rfl,rfl,rfl⟩:=dk h;refine UE ho ⟨.inr ?_,(hT t _ hi).z z rfl⟩ hp hf;have hu:P.underlying t=some (.array n e):=(hT t _ hi).k;obtain⟨inf,hinf,hs⟩:=hT.size hj;simp[Dq,hu,hinf,hs]
   cases h
  cases h
 cases h
def ZBg(hT:TOK P T){len:Nat}{parts:Array (Nat×Operand)}{qs:List (Nat×PV)}(ho:o.op = .buildSlice t len parts)(hp:gk tm parts.toList=some qs)(h:BE T t len qs xs=some (ps,xs',s)):aS P o tm Z s.need s.p s.news:=by
 unfold BE at h;split at h
 .rename_i e agg k by_ z kk fl he;have hbh:=bM h;clear h;obtain⟨hb,h⟩:=hbh;simp only[aO]at hb;have hE:=Z2b (z:=z) hT he rfl hb.1.1 hb.1.2;have hsm:=(eQ _ _).1 hb.2;split at h
  .rename_i out hf;split at h
   .rename_i ts xs2 hts;obtain⟨rfl,rfl,rfl⟩:=dk h;exact ZyD ho hE hp hsm hf hts
   .rename_i ts l xs2 hts;have hbh:=bM h;clear h;obtain⟨hb2,h⟩:=hbh;simp only[aO]at hb2;obtain⟨rfl,rfl,rfl⟩:=yh h;exact ZyE l ((eQ _ _).1 hb2.1) ho hE hp hsm hf hts ((ba _ _).1 hb2.2)
   cases h
  cases h
 cases h
def ZBh(hT:TOK P T)(ho:o.op = .makeSlice t x y)(hx:ai tm x=some px)(hy:ai tm y=some py)(h:BF T t px py xs=some (ps,xs',s))(hc:aM ps):aS P o tm Z s.need s.p s.news:=by
 unfold BF at h;split at h
 .rename_i e agg k bytes z kk fl _ m _ c l n es xs2 he;have hbh:=bM h;clear h;obtain⟨hb,h⟩:=hbh;simp only[aO]at hb;have hE:=Z2b (z:=z) hT he rfl hb.1.1 hb.1.2;split at h
  .rename_i zs hzs;obtain⟨rfl,rfl,rfl⟩:=yh h;obtain⟨h1,h2,h3,h4,h5,h6,_⟩:=hc;subst h5;subst h6;exact ZyF l ((eQ _ _).1 hb.2) ho hE hzs hx hy h1 h2 h3 h4
  cases h
 cases h
def ZBi(hT:TOK P T){i:Nat}(ho:o.op = .fieldAddr t x i)(hx:ai tm x=some px)(h:Z7v T Z t i px xs=some (ps,xs',s))(hc:aM ps):aS P o tm Z s.need s.p s.news:=by
 unfold Z7v at h;split at h
 .rename_i q j hf;have hbh:=condNone' h;clear h;obtain⟨hb,h⟩:=hbh;have hs:j.size≠0:=λe=>by rw[e]at hb;cases hb
  obtain⟨i0,fs,fT,hi0,hk0,hfs,hj⟩:=Z7u hf;have hfi:=hT.fieldInfo hi0 hk0 hfs hj;split at h
  .split at h
   .rename_i hg;obtain⟨rfl,rfl,rfl⟩:=gC h;exact ZyG ho hfi hs hx hg
   cases h
  .split at h
   .rename_i hg;obtain⟨rfl,rfl,rfl⟩:=gC h;exact ZyH ho hfi hs hx hg hc.1
   cases h
  .obtain⟨rfl,rfl,rfl⟩:=dk h;exact ZyI ho hfi hs hx
  cases h
 cases h
def ZBj(hT:TOK P T)(ho:o.op = .indexAddr t x y)(hx:ai tm x=some px)(hy:ai tm y=some py)(h:Z7w T Z t px py xs=some (ps,xs',s))(hc:aM ps):aS P o tm Z s.need s.p s.news:=by
 unfold Z7w at h;split at h
 .split at h
  .split at h
   .rename_i e j c xs2 he;obtain⟨rfl,rfl,rfl⟩:=eI h;obtain⟨i0,hi0,hk0,hj⟩:=fx he;exact ZyM ho (hT.slInfo hi0 hk0 hj) hx hy hc.1 hc.2.1 hc.2.2.1
   cases h
  .split at h
   .rename_i e j k es n xs2 he hg;have hbh:=bM h;clear h;obtain⟨hb,h⟩:=hbh;have hb:=(ba _ _).1 hb;obtain⟨rfl,rfl,rfl⟩:=gC h;obtain⟨i0,hi0,hk0,hj⟩:=fx he;obtain⟨h1,h2,h3,h4,_⟩:=hc;subst h4;exact ZyN ho (hT.slInfo hi0 hk0 hj) hx hy (by rw[hb];exact hg) h1 h2 h3
   cases h
  .split at h
   .rename_i len e j cs n xs2 he hg;obtain⟨rfl,rfl,rfl⟩:=gC h;obtain⟨i0,hi0,hk0,hj⟩:=Z5i he;obtain⟨h2,h3,h4,_⟩:=hc;subst h4;exact ZyJ ho (hT.arrInfo hi0 hk0 hj) hx hy hg h2 h3
   cases h
  .split at h
   .rename_i len e j k els n xs2 he hg;obtain⟨rfl,rfl,rfl⟩:=gC h;obtain⟨i0,hi0,hk0,hj⟩:=Z5i he;obtain⟨h1,h2,h3,h4,_⟩:=hc;subst h4;exact ZyK ho (hT.arrInfo hi0 hk0 hj) hx hy hg h1 h2 h3
   cases h
  .split at h
   .rename_i len e j n xs2 he;obtain⟨rfl,rfl,rfl⟩:=eI h;obtain⟨i0,hi0,hk0,hj⟩:=Z5i he;obtain⟨h2,h3,h4,_⟩:=hc;subst h4;exact ZyL ho (hT.arrInfo hi0 hk0 hj) hx hy h2 h3
   cases h
  cases h
 cases h
def ZBk(hT:TOK P T)(ho:o.op = .index t x y)(hx:ai tm x=some px)(hy:ai tm y=some py)(h:BG T t px py xs=some (ps,xs',s))(hc:aM ps):aS P o tm Z s.need s.p s.news:=by
 unfold BG at h;split at h
 .split at h
  .split at h
   .rename_i hk;obtain⟨rfl,rfl,rfl⟩:=eI h;simp only[cJ]at hk;obtain⟨i0,hi0,hk⟩:=hk;have hu:=(hT _ _ hi0).k;rw[hk]at hu;exact ZyP ho hu hx hy hc.1 hc.2.1
   cases h
  .split at h
   .rename_i len e j c xs2 he;obtain⟨rfl,rfl,rfl⟩:=eI h;obtain⟨i0,hi0,hk0,hj⟩:=Z5i he;have hu:=(hT _ _ hi0).k;rw[hk0]at hu;exact ZyO ho hu (hT _ _ hj).ty hx hy hc.1 hc.2.1 hc.2.2.1
   cases h
  cases h
 cases h
def Yi(hT:TOK P T)(ho:o.op = .load t x)(hx:ai tm x=some px)(h:wj T Z t px xs=some (ps,xs',s))(hc:aM ps):aS P o tm Z s.need s.p s.news:=by
 unfold wj at h;split at h
 .rename_i i hi;have hty:=(hT t i hi).ty;split at h
  .split at h
   .rename_i hg;split at h
    .rename_i p hp;obtain⟨rfl,rfl,rfl⟩:=gC h;exact UR ho hty hx hg hp
    cases h
   cases h
  .split at h
   .rename_i hg;split at h
    .rename_i p hp;obtain⟨rfl,rfl,rfl⟩:=gC h;exact ZyQ ho hty hx hg hc.1 hc.2.1 hp
    cases h
   cases h
  .split at h
   .rename_i p hp;obtain⟨rfl,rfl,rfl⟩:=dk h;exact US ho hty hx hp
   cases h
  cases h
 cases h
def ZBl(hT:TOK P T){c:List aa}(ho:o.op = .load t x)(hx:ai tm x=some px)(h:BH T Z t px c xs=some (ps,xs',s))(hc:aM ps):aS P o tm Z s.need s.p s.news:=by
 unfold BH at h;split at h
 .rename_i i l q hi;split at h
  .rename_i cs hg;obtain⟨rfl,rfl,rfl⟩:=gC h;exact UR ho (hT t i hi).ty hx hg hc.1
  cases h
 .rename_i i cs hi;obtain⟨rfl,rfl,rfl⟩:=eI h;exact US ho (hT t i hi).ty hx hc.1
 cases h
def iT{c:Call}{ce:Callee}{Za:List Operand}{ts:List Nat}(hc:c.callee=ce)(ha:c.args.toList=Za)(ht:c.argTypes.toList=ts):c={ callee:=ce,args:=Za.toArray,argTypes:=ts.toArray }:=by cases c;subst hc ha ht;simp
def Z5j{tm:List (Nat×PV)}{l:List Operand}(h:fP tm l=some [p]):∃x,l=[x]/\ai tm x=some p:=by
 match l,h with
 |[x],h=>
  simp only[fP]at h;split at h
  .rename_i q qs hq hqs;cases h;cases hqs;exact⟨x,rfl,hq⟩
  cases h
 |x::y::l,h=>
  simp only[fP]at h;split at h
  .rename_i q qs hq hqs;cases h;split at hqs
   .cases hqs
   cases hqs
  cases h
def pk{tm:List (Nat×PV)}{l:List Operand}{q:PV}(h:fP tm l=some [p,q]):∃x y,l=[x,y]/\ai tm x=some p/\ai tm y=some q:=by
 match l,h with
 |x::l,h=>
  simp only[fP]at h;split at h
  .rename_i r rs hr hrs;cases h;obtain⟨y,rfl,hy⟩:=Z5j hrs;exact⟨x,y,rfl,hr,hy⟩
  cases h
def ER{cs:List Prop}{es:List (List aa)}{ls:List Nat}(h:sj Z p=some (cs,es,ls))(hc:aM cs):gQ Z p es/\∀m,p.has m=true->m∈ls:=by
 unfold sj at h;split at h
 .cases h;exact⟨.tree _,λm hm=>by simp[PV.has]at hm⟩
 .cases h;exact⟨.nils,λm hm=>by simp[PV.has]at hm⟩
 .cases h;exact⟨.con _ _,λm hm=>by simp[PV.has]at hm⟩
 .split at h
  .rename_i hg;cases h;exact⟨.own _ _ _ _ hg hc.1,λm hm=>by simp only[PV.has,ba]at hm;subst hm;simp⟩
  cases h
 cases h
def Yj:∀{ls:List Nat},wk ls=true->∀(i j L:Nat),ls[i]?=some L->ls[j]?=some L->i=j
 |[],_,i,j,L,h,_=>ju
 |l::r,h,i,j,L,h1,h2=>by
  simp only[wk,aO,dA]at h;have hmem:∀{r:List Nat} {L:Nat},L∈r->Z2t r L=true:=by
   intro r L;induction r with
   |nil=>intro h;cases h
   |cons x r ih=>
    intro h;simp only[Z2t];cases hb:Nat.beq x L with
    |true=>rfl
    |false=>
     rcases cm.1 h with e|e
     .subst e;simp at hb
     exact ih e
  cases i with
  |zero=>
   cases j with
   |zero=>rfl
   |succ j=>
    simp only[ky,aB]at h1;subst h1;have:=hmem (bH (by simpa using h2:r[j]?=some l));rw[h.1]at this;cases this
  |succ i=>
   cases j with
   |zero=>
    simp only[ky,aB]at h2;subst h2;have:=hmem (bH (by simpa using h1:r[i]?=some l));rw[h.1]at this;cases this
   |succ j=>rw[Yj h.2 i j L (by simpa using h1) (by simpa using h2)]
def Yk{m l:Nat}{o:Blk}:∀{Z:List (Nat×Blk)},get Z m=some o->o.has l=true->l∈wm Z
 |[],h,_=>dw
 |(j,b)::r,h,hl=>by
  simp only[wm,cb];simp only[PW.get]at h;cases hb:Nat.beq j m with
  |true=>
   simp only[hb,aD,aB]at h;subst h;cases b with
   |box cs=>exact .inl (k7 cs hl)
   |row k es=>simp[Blk.has]at hl
   |mat k q es=>simp[Blk.has]at hl
   |map ag es=>simp[Blk.has]at hl
   |prow k i es cs=>exact .inl (k7 cs hl)
  |false=>simp only[hb,aE]at h;exact .inr (Yk h hl)
def Yl{ls:List Nat}{d:Nat}{σa σ1:List (Nat×Blk)}{res:PV}(h:wo ls d σa σ1 res=true):uo ls d σa σ1 res:=by
 simp only[wo,aO,bO]at h;obtain⟨⟨⟨h1,h2⟩,h3⟩,h4⟩:=h;refine { nd:=Yj h1,len:=(eQ _ _).1 h2,box:=λl o hg L hL=>?_,ge:=λl o hg hn=>?_,cl:=λl hl=>?_ }
 .have:=h3 _ (fv hg);simp only[hL]at this;unfold Ps at this;split at this
  .rename_i cs cs0 hc0;exact .inl ⟨_,cs0,rfl,hc0⟩
  .rename_i k es k' es0 hc0;obtain rfl:=(ba _ _).1 this;exact .inr ⟨_,_,es0,rfl,hc0⟩
  cases this
 .have:=h3 _ (fv hg);simp only[hn]at this;exact(eQ _ _).1 this
 have hk:hasK σ1 l=true:=by
  rcases hl with hl|⟨m,o,hg,hl⟩
  .exact h4 l (cb.2 (.inl (Pr res hl)))
  exact h4 l (cb.2 (.inr (Yk hg hl)))
 unfold hasK at hk;split at hk
 .exact⟨_,by assumption⟩
 cases hk
def Ym:∀{σ1:List (Nat×Blk)},aM (scB σ1)->∀l o,get σ1 l=some o->o.SC
 |[],_,l,o,h=>dw
 |(j,b)::r,hc,l,o,h=>by
  simp only[PW.get]at h;cases hb:Nat.beq j l with
  |true=>
   simp only[hb,aD,aB]at h;subst h;cases b<;>exact hc.1
  |false=>
   simp only[hb,aE]at h;cases b<;>exact Ym hc.2 l o h
def Yn{S:Bool}{σ1:List (Nat×Blk)}{res:PV}(hc:aM (scC S σ1 res)):S=true->res.sc=true/\∀l o,get σ1 l=some o->o.SC:=by rintro rfl;exact⟨hc.1,Ym hc.2⟩
def ZBm(hT:TOK P T){c:Call}{qs:List PV}(ho:o.op = .call c)(hq:fP tm c.args.toList=some qs)(h:BJ T P tm Z c.callee qs c.argTypes.toList xs=some (ps,xs',s))(hc:aM ps):aS P o tm Z s.need s.p s.news:=by
 unfold BJ at h;split at h
 .rename_i fo hce;have hceq:=iT hce rfl rfl;rw[hceq]at ho;split at h
  .rename_i f caps res xs2 hfo;split at h
   .rename_i cs fs hfz;have hbh:=bM h;clear h;obtain⟨hb,h⟩:=hbh;obtain⟨rfl,rfl,rfl⟩:=eI h;refine ZBn hc.1 ho hfo DK (mj (λ_=>rfl) hfz ?_) hb;have:∀{qs fs:List PV} {cs:List Prop},fA [] qs=some (cs,fs)->aM cs:=by
     have hv:(∀p:PV,∀{q:PV} {cs:List Prop},cE [] p=some (cs,q)->cs=[])/\(∀qs:List PV,∀{fs:List PV} {cs:List Prop},fA [] qs=some (cs,fs)->cs=[]):=by
      constructor
      .intro p;refine PV.rec (motive_1:=λp=>∀{q:PV} {cs:List Prop},cE [] p=some (cs,q)->cs=[]) (motive_2:=λqs=>∀{fs:List PV} {cs:List Prop},fA [] qs=some (cs,fs)->cs=[]) ?_ ?_ ?_ ?_ ?_ ?_ ?_ ?_ ?_ ?_ ?_ ?_ p
       .intro x q cs h;simp only[cE,aB,bJ]at h;exact h.1.symm
       .intro q cs h;simp only[cE,aB,bJ]at h;exact h.1.symm
       .intro l n q cs h;simp[cE,PW.get]at h
       .intro l n q cs h;simp[cE,PW.get]at h
       .intro l n i j q cs h;simp[cE]at h
       .intro ts q cs h;simp only[cE,aB,bJ]at h;exact h.1.symm
       .intro cs ih q ps h;simp only[cE]at h;split at h
        .rename_i h2;cases h;exact ih h2
        cases h
       .intro cs ih q ps h;simp only[cE]at h;split at h
        .rename_i h2;cases h;exact ih h2
        cases h
       .intro f cs ih q ps h;simp only[cE]at h;split at h
        .rename_i h2;cases h;exact ih h2
        cases h
       .intro l d q cs h;simp[cE,PW.get]at h
       .intro fs cs h;simp only[fA,aB,bJ]at h;exact h.1.symm
       intro p ps ih1 ih2 fs cs h;simp only[fA]at h;split at h
       .rename_i h1 h2;cases h;rw[ih1 h1,ih2 h2];rfl
       cases h
      intro qs;refine PV.rec_1 (motive_1:=λp=>∀{q:PV} {cs:List Prop},cE [] p=some (cs,q)->cs=[]) (motive_2:=λqs=>∀{fs:List PV} {cs:List Prop},fA [] qs=some (cs,fs)->cs=[]) ?_ ?_ ?_ ?_ ?_ ?_ ?_ ?_ ?_ ?_ ?_ ?_ qs
      .intro x q cs h;simp only[cE,aB,bJ]at h;exact h.1.symm
      .intro q cs h;simp only[cE,aB,bJ]at h;exact h.1.symm
      .intro l n q cs h;simp[cE,PW.get]at h
      .intro l n q cs h;simp[cE,PW.get]at h
      .intro l n i j q cs h;simp[cE]at h
      .intro ts q cs h;simp only[cE,aB,bJ]at h;exact h.1.symm
      .intro cs ih q ps h;simp only[cE]at h;split at h
       .rename_i h2;cases h;exact ih h2
       cases h
      .intro cs ih q ps h;simp only[cE]at h;split at h
       .rename_i h2;cases h;exact ih h2
       cases h
      .intro f cs ih q ps h;simp only[cE]at h;split at h
       .rename_i h2;cases h;exact ih h2
       cases h
      .intro l d q cs h;simp[cE,PW.get]at h
      .intro fs cs h;simp only[fA,aB,bJ]at h;exact h.1.symm
      intro p ps ih1 ih2 fs cs h;simp only[fA]at h;split at h
      .rename_i h1 h2;cases h;rw[ih1 h1,ih2 h2];rfl
      cases h
     intro qs fs cs h;rw[hv.2 qs h];trivial
    exact this hfz
   split at h
   .rename_i cs fs hfz;have hbh:=bM h;clear h;obtain⟨hb,h⟩:=hbh;obtain⟨rfl,rfl,rfl⟩:=gC h;obtain⟨hc1,hc2⟩:=Z5.1 hc;exact ZBo hc2.1 ho hfo DK (mj (λ_=>rfl) hfz hc1) (λm hm=>k7 _ hm) hb
   cases h
  .rename_i f caps S ls d fr res xs2 hfo;split at h
   .rename_i cs qs' σa hav hpa;have hbh:=bM h;clear h;obtain⟨hb,h⟩:=hbh;cases h;obtain⟨c1,c2⟩:=Z5.1 hc;obtain⟨c2,c3⟩:=Z5.1 c2;exact ZbC c3.1 ho hfo DK hav c1 hpa (Yl hb) (Yn c2) (λm hm=>by
     rcases hm with hm|hm|hm
     .exact cb.2 (.inl hm)
     .exact cb.2 (.inr (cb.2 (.inl (k7 _ hm))))
     exact cb.2 (.inr (cb.2 (.inr (wt _ hm)))))
   cases h
  cases h
 .rename_i hce;split at h
  .rename_i p t n xs2 hat;obtain⟨x,hax,hx⟩:=Z5j hq;have hceq:=iT hce hax hat;rw[hceq]at ho;split at h
   .rename_i e es hk;obtain⟨rfl,rfl,rfl⟩:=eI h;simp only[cJ]at hk;obtain⟨i0,hi0,hk⟩:=hk;have hu:=(hT _ _ hi0).k;rw[hk]at hu;have:=ZxP (Z:=Z) ho hu hx;rw[hc.1]at this;exact this
   .rename_i e hk;obtain⟨rfl,rfl,rfl⟩:=eI h;simp only[cJ]at hk;obtain⟨i0,hi0,hk⟩:=hk;have hu:=(hT _ _ hi0).k;rw[hk]at hu;have:=ZxQ (Z:=Z) ho hu hx;rw[hc.1]at this;exact this
   .rename_i e l m hk;split at h
    .rename_i k es hg;obtain⟨rfl,rfl,rfl⟩:=gC h;simp only[cJ]at hk;obtain⟨i0,hi0,hk⟩:=hk;have hu:=(hT _ _ hi0).k;rw[hk]at hu;have:=ZxR ho hu hx hg hc.1;rw[hc.2.1]at this;exact this
    cases h
   .rename_i e l m hk;split at h
    .rename_i k q es hg;obtain⟨rfl,rfl,rfl⟩:=gC h;simp only[cJ]at hk;obtain⟨i0,hi0,hk⟩:=hk;have hu:=(hT _ _ hi0).k;rw[hk]at hu;have:=ZjW ho hu hx hg hc.1;rw[hc.2.1]at this;exact this
    cases h
   .rename_i st hk;obtain⟨rfl,rfl,rfl⟩:=eI h;simp only[cJ]at hk;obtain⟨i0,hi0,hk⟩:=hk;have hu:=(hT _ _ hi0).k;rw[hk]at hu;have:=ZxS (Z:=Z) ho hu hx;rw[hc.1]at this;exact this
   cases h
  cases h
 .rename_i hce;split at h
  .rename_i k a k' b;obtain⟨x,y',hax,hx,hy⟩:=pk hq;have hceq:=iT hce hax rfl;rw[hceq]at ho;obtain⟨rfl,rfl,rfl⟩:=dk h;exact ZBp ho hx hy
  cases h
 .rename_i hce;split at h
  .rename_i k a k' b;obtain⟨x,y',hax,hx,hy⟩:=pk hq;have hceq:=iT hce hax rfl;rw[hceq]at ho;obtain⟨rfl,rfl,rfl⟩:=dk h;exact ZBq ho hx hy
  cases h
 .rename_i hce;split at h
  .rename_i y t tx l es xs2 hat;obtain⟨x,y',hax,hx,hy⟩:=pk hq;have hceq:=iT hce hax hat;rw[hceq]at ho;split at h
   .rename_i e k bytes z kk fl ex cs ys ls he hex hsrc;have hbh:=bM h;clear h;obtain⟨hb,h⟩:=hbh;simp only[aO]at hb;have hE:=Z2b (z:=z) hT he rfl hb.1.1 hb.1.2;simp only[aB,bJ]at h;obtain⟨rfl,rfl,rfl⟩:=h;obtain⟨hc1,hc2⟩:=Z5.1 hc;obtain⟨h1,h2,h3,h4,_⟩:=hc2;subst h1;obtain⟨hs,hn⟩:=ER hsrc hc1;obtain⟨i1,hi1,hk1,_⟩:=fx hex;have hu1:=(hT _ _ hi1).k;rw[hk1]at hu1;exact ZjU l ((eQ _ _).1 hb.2) ho hE ⟨_,hu1⟩ hx hy hs hn h2 h3 h4
   cases h
  cases h
 cases h
def ZBr(h:wu y=true):y = .const (.slice none 0 0):=by
 unfold wu at h;split at h
 .rfl
 cases h
def ZBs(hT:TOK P T){op:BinOp}{yT:TypeId}(ho:o.op = .binOp op t x (.const (.slice none 0 0)) yT)(hx:ai tm x=some px)(h:BK T op t px xs=some (ps,xs',s))(hc:aM ps):aS P o tm Z s.need s.p s.news:=by
 unfold BK at h;split at h
 .rename_i e he;obtain⟨rfl,rfl,rfl⟩:=eI h;obtain⟨i,hi,hk,hj⟩:=fx he;have hu:=(hT _ _ hi).k;rw[hk]at hu;exact Yo hu ho (.inl rfl) hx hc.1
 .rename_i e he;obtain⟨rfl,rfl,rfl⟩:=eI h;obtain⟨i,hi,hk,hj⟩:=fx he;have hu:=(hT _ _ hi).k;rw[hk]at hu;exact Yo hu ho (.inr rfl) hx hc.1
 .rename_i e he;obtain⟨rfl,rfl,rfl⟩:=dk h;obtain⟨i,hi,hk,hj⟩:=fx he;have hu:=(hT _ _ hi).k;rw[hk]at hu;exact Yp hu ho (.inl rfl) hx
 .rename_i e he;obtain⟨rfl,rfl,rfl⟩:=dk h;obtain⟨i,hi,hk,hj⟩:=fx he;have hu:=(hT _ _ hi).k;rw[hk]at hu;exact Yp hu ho (.inr rfl) hx
 cases h
def ZBt(h:wv y=true):y = .const (.pointer none):=by
 unfold wv at h;split at h
 .rfl
 cases h
def ZBu{op:BinOp}{yT:TypeId}(hu:P.underlying t=some (.pointer (P.pointee t)))(ho:o.op = .binOp op t x (.const (.pointer none)) yT)(hx:ai tm x=some px)(h:BL Z op px xs=some (ps,xs',s)):aS P o tm Z s.need s.p s.news:=by
 unfold BL at h;split at h
 .obtain⟨rfl,rfl,rfl⟩:=dk h;exact Yq hu ho (.inl rfl) hx
 .obtain⟨rfl,rfl,rfl⟩:=dk h;exact Yq hu ho (.inr rfl) hx
 .split at h
  .rename_i hg;obtain⟨rfl,rfl,rfl⟩:=gC h;exact Yr hu ho (.inl rfl) hx hg
  cases h
 .split at h
  .rename_i hg;obtain⟨rfl,rfl,rfl⟩:=gC h;exact Yr hu ho (.inr rfl) hx hg
  cases h
 cases h
def ZBv(hT:TOK P T){lo hi:Option Operand}(ho:o.op = .slice t x lo hi none)(hx:ai tm x=some px)(h:BM T tm t px lo hi xs=some (ps,xs',s))(hc:aM ps):aS P o tm Z s.need s.p s.news:=by
 unfold BM at h;split at h
 .rename_i sv z xs2 he;split at h
  .rename_i l hh h3 h1 h2;obtain⟨rfl,rfl,rfl⟩:=eI h;simp only[cJ]at h3;obtain⟨i3,hi3,hk3⟩:=h3;have hu3:=(hT _ _ hi3).k;rw[hk3]at hu3;obtain⟨c1,c2,c3,c4,_⟩:=hc;subst c4;exact ZBw ho hu3 hx h1 h2 c1 c2 c3
  cases h
 .rename_i e j es es' xs2 he;split at h
  .rename_i l hh h1 h2;obtain⟨rfl,rfl,rfl⟩:=eI h;obtain⟨i,hi,hk,hj⟩:=fx he;obtain⟨c1,c2,c3,c4,c5,_⟩:=hc;subst c5;exact ZBx ho (hT.slInfo hi hk hj) hx h1 h2 c1 c2 c3 c4
  cases h
 cases h
def ZBy(hT:TOK P T)(h:evOp P T o tm Z xs=some (ps,xs',s))(hc:aM ps):aS P o tm Z s.need s.p s.news:=by
 unfold evOp at h;split at h
 .rename_i x ho;split at h
  .rename_i p hp;obtain⟨rfl,rfl,rfl⟩:=dk h;exact ZxH ho hp
  cases h
 .rename_i x ho;split at h
  .rename_i p hp;obtain⟨rfl,rfl,rfl⟩:=dk h;exact ZxI ho hp
  cases h
 .rename_i c x y ho;split at h
  .rename_i e b xs2 he;split at h
   .rename_i p hp;obtain⟨rfl,rfl,rfl⟩:=eI h;have:=hc.1;subst this;exact ZxJ ho he hp
   cases h
  cases h
 .rename_i op xT x y yT ho;cases hn:wu y with
  |true=>
   rw[ZBr hn]at ho;simp only[hn,aD]at h;split at h
   .rename_i px hx;exact ZBs hT ho hx h hc
   cases h
  |false=>
   simp only[hn,aE]at h;cases hn2:wv y with
   |true=>
    rw[ZBt hn2]at ho;simp only[hn2,aD]at h;split at h
    .rename_i px hx hk;simp only[cJ]at hk;obtain⟨i0,hi0,hk⟩:=hk;have hu:=(hT _ _ hi0).k;rw[hk]at hu;exact ZBu hu ho hx h
    cases h
   |false=>
    simp only[hn2,aE]at h;split at h
    .rename_i px py hx hy;exact ZfG hT ho hx hy h hc
    cases h
 .rename_i op t x ho;split at h
  .rename_i b hb;obtain⟨rfl,rfl,rfl⟩:=dk h;exact ZxK ho hb
  .rename_i k a hb;obtain⟨rfl,rfl,rfl⟩:=dk h;exact ZxL ho hb
  .rename_i k a hb;obtain⟨rfl,rfl,rfl⟩:=dk h;exact ZxM ho hb
  cases h
 .rename_i sT dT x ho;split at h
  .rename_i k k' k2 a h1 h2 hx;obtain⟨rfl,rfl,rfl⟩:=dk h;simp only[cJ]at h1 h2;obtain⟨i1,hi1,hk1⟩:=h1;obtain⟨i2,hi2,hk2⟩:=h2;have hu1:=(hT _ _ hi1).k;have hu2:=(hT _ _ hi2).k;rw[hk1]at hu1;rw[hk2]at hu2;exact ZxN ho ⟨_,hu1⟩ hu2 hx
  .rename_i a h1 h2 hx;obtain⟨rfl,rfl,rfl⟩:=dk h;simp only[cJ]at h1 h2;obtain⟨i1,hi1,hk1⟩:=h1;obtain⟨i2,hi2,hk2⟩:=h2;have hu1:=(hT _ _ hi1).k;have hu2:=(hT _ _ hi2).k;rw[hk1]at hu1;rw[hk2]at hu2;exact ZxO ho hu1 hu2 hx
  .rename_i e a h1 h2 hx;split at h
   .rename_i es xs2 h3;obtain⟨rfl,rfl,rfl⟩:=eI h;simp only[cJ]at h1 h2 h3;obtain⟨i1,hi1,hk1⟩:=h1;obtain⟨i2,hi2,hk2⟩:=h2;obtain⟨i3,hi3,hk3⟩:=h3;have hu1:=(hT _ _ hi1).k;have hu2:=(hT _ _ hi2).k;have hu3:=(hT _ _ hi3).k;rw[hk1]at hu1;rw[hk2]at hu2;rw[hk3]at hu3;obtain⟨rfl,hl,_⟩:=hc;exact ZBz ho hu1 hu2 hu3 hx hl
   cases h
  .rename_i e es h1 h2 hx;split at h
   .rename_i s xs2 h3;obtain⟨rfl,rfl,rfl⟩:=eI h;simp only[cJ]at h1 h2 h3;obtain⟨i1,hi1,hk1⟩:=h1;obtain⟨i2,hi2,hk2⟩:=h2;obtain⟨i3,hi3,hk3⟩:=h3;have hu1:=(hT _ _ hi1).k;have hu2:=(hT _ _ hi2).k;have hu3:=(hT _ _ hi3).k;rw[hk1]at hu1;rw[hk2]at hu2;rw[hk3]at hu3;obtain⟨rfl,hl,_⟩:=hc;exact ZBA ho hu1 hu2 hu3 hx hl
   cases h
  cases h
 .rename_i xT x i ho;split at h
  .rename_i q j cs hf hx;split at h
   .rename_i p hp;obtain⟨rfl,rfl,rfl⟩:=dk h;obtain⟨i0,fs,fT,hi0,hk0,hfs,hj⟩:=Z7u hf;have hu:=(hT _ _ hi0).k;rw[hk0]at hu;obtain⟨fs',hu,rfl⟩:=hu;simp only[jF,cJ]at hfs;obtain⟨fl,hfl,he⟩:=hfs;cases he;exact ZxT fs' fl ho hu (by simpa using hfl) rfl rfl (hT _ _ hj).ty hx hp
   cases h
  cases h
 .rename_i x i ho;split at h
  .rename_i cs hx;split at h
   .rename_i p hp;obtain⟨rfl,rfl,rfl⟩:=dk h;exact ZxU ho hx hp
   cases h
  cases h
 .rename_i x ho;split at h
  .rename_i cs hx;obtain⟨rfl,rfl,rfl⟩:=dk h;exact ZxV ho hx trivial
  .rename_i l q hx;split at h
   .rename_i hg;obtain⟨rfl,rfl,rfl⟩:=gC h;exact ZBB ho hx hg
   cases h
  .rename_i l m i q hx;split at h
   .rename_i hg;obtain⟨rfl,rfl,rfl⟩:=gC h;exact ZBC ho hx hg hc.1
   cases h
  cases h
 .rename_i f first caps ho
  have hbh:=bM h;clear h;obtain⟨hb,h⟩:=hbh;have hb:=(ba _ _).1 hb;have:first = #[]:=Array.size_eq_zero_iff.1 hb
  subst this;split at h
  .rename_i qs hq;obtain⟨rfl,rfl,rfl⟩:=dk h;exact ZxW (t:=0) ho (wh hq)
  cases h
 .rename_i t parts ho;split at h
  .rename_i qs hq;exact ZBf hT ho hq h
  cases h
 .rename_i t len parts ho;split at h
  .rename_i qs hq;exact ZBg hT ho hq h
  cases h
 .rename_i t x ho;split at h
  .rename_i p l xs2 hx;have hbh:=bM h;clear h;obtain⟨hb,h⟩:=hbh;simp only[aO]at hb;obtain⟨rfl,rfl,rfl⟩:=yh h;exact ZxZ l ((eQ _ _).1 hb.2) ho hx hb.1
  cases h
 .rename_i t ho;split at h
  .rename_i z l xs2 hz;have hbh:=bM h;clear h;obtain⟨hb,h⟩:=hbh;obtain⟨rfl,rfl,rfl⟩:=yh h;simp only[eo]at hz;obtain⟨i0,hi0,hz⟩:=hz;exact ZyA l ((eQ _ _).1 hb) ho ((hT _ _ hi0).z z hz)
  cases h
 .rename_i t x y ho;split at h
  .rename_i px py hx hy;exact ZBh hT ho hx hy h hc
  cases h
 .rename_i t x i ho;split at h
  .rename_i px hx;exact ZBi hT ho hx h hc
  cases h
 .rename_i t x y ho;split at h
  .rename_i px py hx hy;exact ZBj hT ho hx hy h hc
  cases h
 .rename_i t x y ho;split at h
  .rename_i px py hx hy;exact ZBk hT ho hx hy h hc
  cases h
 .rename_i t x ho;split at h
  .rename_i px hx;split at h
   .rename_i d c xs2 d' hd;cases hb:Nat.beq d d' with
    |true=>simp only[hb,aD]at h;exact ZBl hT ho hx h hc
    |false=>simp only[hb,aE]at h;exact Yi hT ho hx h hc
   exact Yi hT ho hx h hc
  cases h
 .rename_i t x y z ho;split at h
  .rename_i ej px k1 k2 he hx hy hz;obtain⟨hp,h⟩:=bM h;obtain⟨rfl,rfl,rfl⟩:=dk h;obtain⟨i,hi,hk,hj⟩:=fx he;exact ZBD ho (hT.slInfo hi hk hj) hx hp hy hz
  cases h
 .rename_i t x lo hi ho;split at h
  .rename_i px hx;exact ZBv hT ho hx h hc
  cases h
 .rename_i c ho;split at h
  .rename_i qs hq;exact ZBm hT ho hq h hc
  cases h
 cases h
def ZBE{x:Stm}{c:Call}{fo:Operand}(hce:c.callee = .value fo)(ho:o.op = .call c)(h:BN P tm Z fo c.args.toList xs=some (ps,xs',x))(hc:aM ps):OpF P o tm Z x.s.need x.rm x.s.p x.s.news:=by
 have hceq:=iT hce rfl rfl;rw[hceq]at ho;unfold BN at h;split at h
 .rename_i f caps qs0 S ls d σ1 res xs2 hfo hps;split at h
  .rename_i cs qs σa hav hpa;have hbh:=bM h;clear h;obtain⟨hb,h⟩:=hbh;simp only[aO]at hb;cases h;obtain⟨c1,c2⟩:=Z5.1 hc;obtain⟨c2,c3⟩:=Z5.1 c2;refine ZbB c3.1 ho hfo (by rw[wh hps];rfl) hav c1 hpa (Yl hb.1) (Yn c2) (λm hm=>?_) (λl o hg hn hmem=>?_)
   .rcases hm with hm|hm|hm
    .exact cb.2 (.inl hm)
    .exact cb.2 (.inr (cb.2 (.inl (k7 _ hm))))
    exact cb.2 (.inr (cb.2 (.inr (wt _ hm))))
   have:=bO.1 hb.2 _ (fv hg);simp only[hn,dA]at this;rw[u0.2 hmem]at this;cases this
  cases h
 cases h
def ZBF{x:Stm}{c:Call}{fo:Operand}(hce:c.callee = .value fo)(ho:o.op = .call c)(h:BO P tm Z fo c.args.toList xs=some (ps,xs',x))(hc:aM ps):OpF P o tm Z x.s.need x.rm x.s.p x.s.news:=by
 unfold BO at h;split at h
 .rename_i f y L b xs2 hfo hax;have hceq:=iT hce hax rfl;rw[hceq]at ho;split at h
  .rename_i l m hy;split at h
   .rename_i k es hg;have hbh:=bM h;clear h;obtain⟨hb,h⟩:=hbh;simp only[aO,eQ]at hb;cases h;obtain⟨h1,h2,h3,_⟩:=hc;exact ZjZ h2 ho hfo hy hg h1 h3 (Z9j hb.2) hb.1
   cases h
  cases h
 cases h
def ZBG(hT:TOK P T){x:Stm}(h:BP P T o tm Z xs=some (ps,xs',x))(hc:aM ps):OpF P o tm Z x.s.need x.rm x.s.p x.s.news:=by
 unfold BP at h;split at h
 .rename_i c ho;split at h
  .rename_i fo xs2 hce;split at h
   .rename_i h0;cases h;exact ZBE hce ho h0 hc
   exact ZBF hce ho h hc
  .rename_i l m y t tx es xs2 hce hps hat;obtain⟨x,y',hax,hx,hy⟩:=pk hps;have hceq:=iT hce hax hat;rw[hceq]at ho;split at h
   .rename_i e agg k bytes z kk fl ex cs ys ls k' es0 he hex hsrc hg;have hbh:=bM h;clear h;obtain⟨hb,h⟩:=hbh;simp only[aO,ba]at hb;obtain⟨⟨hb1,hb2⟩,hb3⟩:=hb;subst hb3;have hE:=Z2b (z:=z) hT he rfl hb1 ((ba _ _).2 hb2);cases h;obtain⟨hc1,hc2⟩:=Z5.1 hc;obtain⟨h1,h2,h3,h4,h5,_⟩:=hc2;obtain⟨hs,hn⟩:=ER hsrc hc1;obtain⟨i1,hi1,hk1,_⟩:=fx hex;have hu1:=(hT _ _ hi1).k;rw[hk1]at hu1;subst h2;have hl:(es0++ys).length=m+ys.length:=by rw[bm,h1]
    rw[hl]at h4 h5;show OpF P o tm Z (l::ls) [l] (.osl l (es0++ys).length) [(l,.row k (es0++ys))];rw[hl];refine ZjV ho hE ⟨_,hu1⟩ hx hg h1 hy hs (λq hq=>?_) h3 h4 h5;rcases hq with rfl|hq
    .exact nR ..
    exact bY _ (hn q hq)
   cases h
  .rename_i l m y t tx q es xs2 hce hps hat;obtain⟨x,y',hax,hx,hy⟩:=pk hps;have hceq:=iT hce hax hat;rw[hceq]at ho;split at h
   .rename_i e agg k bytes z kk fl ex cs ys ls k' es0 he hex hsrc hg;have hbh:=bM h;clear h;obtain⟨hb,h⟩:=hbh;simp only[aO,ba]at hb;obtain⟨⟨hb1,hb2⟩,hb3⟩:=hb;subst hb3;have hE:=Z2b (z:=z) hT he rfl hb1 ((ba _ _).2 hb2);cases h;obtain⟨hc1,hc2⟩:=Z5.1 hc;obtain⟨h1,h2,h3,h4,h5,_⟩:=hc2;obtain⟨hs,hn⟩:=ER hsrc hc1;obtain⟨i1,hi1,hk1,_⟩:=fx hex;have hu1:=(hT _ _ hi1).k;rw[hk1]at hu1;subst h5;rw[<- h2];refine ZBH ho hE ⟨_,hu1⟩ hx hg h1 hy hs (λq hq=>?_) h4 h3;rcases hq with rfl|hq
    .exact nR ..
    exact bY _ (hn q hq)
   cases h
  cases h
 .rename_i t x y ho;split at h
  .rename_i i l q p hd hi hx hy;split at h
   .rename_i cs cs' xs2 hg;have hbh:=bM h;clear h;obtain⟨hb,h⟩:=hbh;simp only[aO,ba]at hb;cases h;obtain⟨h1,h2,_⟩:=hc;subst h2;exact UV ho hd (hT _ _ hi).ty hx hy hg hb.1 hb.2 h1
   .rename_i cs hg _;have hbh:=bM h;clear h;obtain⟨hb,h⟩:=hbh;simp only[aO,ba,eQ]at hb;cases h;exact UV ho hd (hT _ _ hi).ty hx hy hg hb.1.1 hb.1.2 hb.2
   cases h
  .rename_i i l m j q p hd hi hx hy;split at h
   .rename_i k es e es' xs2 ts hg hts;have hbh:=bM h;clear h;obtain⟨hb,h⟩:=hbh;simp only[aO,ba,eQ]at hb;cases h;obtain⟨h1,h2,h3,_⟩:=hc;subst h3;exact ZyT ho hd (hT _ _ hi).ty hx hy hg h1 h2 hts hb.1 hb.2
   cases h
  cases h
 cases h
def ZBI(hT:TOK P T){x:Stm}(h:BQ T o tm Z xs=some (ps,xs',x))(hc:aM ps):OpF P o tm Z x.s.need x.rm x.s.p x.s.news:=by
 unfold BQ at h;split at h
 .rename_i t x y ho;split at h
  .rename_i e j l m ki i n xs2 he hx hy;split at h
   .rename_i k es hg;have hbh:=bM h;clear h;obtain⟨hb,h⟩:=hbh;rw[ba]at hb;cases h;obtain⟨h1,h2,h3,h4,_⟩:=hc;subst h4;obtain⟨i0,hi0,hk0,hj⟩:=fx he;exact(ZfA ho (hb▸hT.slInfo hi0 hk0 hj) hx hy hg h1 h2 h3).toF
   cases h
  cases h
 .rename_i t x y ho;split at h
  .rename_i e j l m ki i n xs2 he hx hy;split at h
   .rename_i es hg;have hbh:=bM h;clear h;obtain⟨hb,h⟩:=hbh;rw[ba]at hb;cases h;obtain⟨h1,h2,h3,h4,_⟩:=hc;subst h4;obtain⟨i0,hi0,hk0,hj⟩:=fx he;exact(ZeO ho (hb▸hT.slInfo hi0 hk0 hj) hx hy hg h1 h2 h3).toF
   cases h
  .rename_i e j l m jj ki i inner n xs2 he hx hy;split at h
   .rename_i es hg;have hbh:=bM h;clear h;obtain⟨hb,h⟩:=hbh;rw[ba]at hb;cases h;obtain⟨h1,h2,h3,h4,h5,_⟩:=hc;subst h5;obtain⟨i0,hi0,hk0,hj⟩:=fx he;exact(ZeQ ho (hb▸hT.slInfo hi0 hk0 hj) hx hy hg h1 h2 h3 h4).toF
   cases h
  cases h
 .rename_i t x ho;split at h
  .rename_i i l m j hi hx;split at h
   .rename_i es hg;have hbh:=bM h;clear h;obtain⟨hb,h⟩:=hbh;simp only[aO,dA,ba]at hb;cases h;have hty:=(hT t i hi).ty;rw[hb.1,hb.2]at hty;exact(ZeP ho hty hx hg hc.1 hc.2.1).toF
   cases h
  .rename_i i l m j q hi hx;split at h
   .rename_i es inner z xs2 hg;have hbh:=bM h;clear h;obtain⟨hb,h⟩:=hbh;simp only[aO,dA,ba]at hb;cases h;have hty:=(hT t i hi).ty;rw[hb.1.1,hb.1.2]at hty;exact(ZjX ho hty hx hg hc.1 hc.2.1 hc.2.2.1 hb.2).toF
   cases h
  cases h
 .rename_i t parts ho;split at h
  .rename_i e agg by_ z kk fl l2 n2 L xs2 he hp;split at h
   .rename_i es2 out hg hf;have hbh:=bM h;clear h;obtain⟨hb,h⟩:=hbh;simp only[aO,dA,eQ]at hb;cases h;obtain⟨h1,h2,h3,_⟩:=hc;subst h1;exact ZeM L hb.1.2 ho (Z2b (z:=z) hT he rfl rfl hb.1.1) hp hf hg h2 h3 (λe=>by subst e;simp at hb)
   cases h
  cases h
 .rename_i t parts ho;split at h
  .rename_i e agg by_ z kk fl L xs2 he hp;have hbh:=bM h;clear h;obtain⟨hb,h⟩:=hbh;cases h;exact ZeS L ho (Z2b (z:=z) hT he rfl rfl hb) hp
  cases h
 .rename_i c ho;split at h
  .rename_i l m l3 m3 t tx es xs2 hce hps hat;obtain⟨x,y',hax,hx,hy⟩:=pk hps;have hceq:=iT hce hax hat;rw[hceq]at ho;split at h
   .rename_i e agg bytes z kk fl ex es0 es3 he hex hg hg3;have hbh:=bM h;clear h;obtain⟨hb,h⟩:=hbh;simp only[aO,dA,iK]at hb;cases h;obtain⟨h1,h2,h3,h4,h5,_⟩:=hc;subst h3;obtain⟨i1,hi1,hk1,_⟩:=fx hex;have hu1:=(hT _ _ hi1).k;rw[hk1]at hu1;show OpF P o tm Z [l,l3] [l,l3] (.own l (.msl (es0++es3).length)) [(l,.mat 1 0 (es0++es3))];rw[bm,h1,h2];exact ZeN ho (Z2b (z:=z) hT he rfl rfl hb.1.1) ⟨_,hu1⟩ hx hg h1 hy hg3 h2 hb.1.2 (λe=>by subst e;simp at hb) h4 h5
   cases h
  cases h
 cases h
def mapK{hT:TOK P T}{k e:Nat}(h:(get T t).map (·.k)=some (.map k e)):P.underlying t=some (.map k e):=U0
def intK{hT:TOK P T}{q:IntKind}(h:(get T t).map (·.k)=some (.int q)):P.underlying t=some (.int q):=U0
def ZBJ(hT:TOK P T){x:Stm}(h:BS P T o tm Z xs=some (ps,xs',x))(hc:aM ps):OpF P o tm Z x.s.need x.rm x.s.p x.s.news:=by
 unfold BS at h;split at h
 .rename_i t ho;split at h
  .split at h
   .cases h;exact ZBK _ _ ho
   cases h
  cases h
 .rename_i t y z ok ho;split at h
  .rename_i k e l n ts xs2 hk hx hy;split at h
   .rename_i ag es hg hi;split at h
    .rename_i zs b xs3 hz;cases h;have:=ZBL ho (mapK (hT:=hT) hk) (intK (hT:=hT) hi) hz hx hy hg;rw[hc.1]at this;exact this
    .rename_i zs xs3 hz;cases h;have:=ZBM ho (mapK (hT:=hT) hk) (intK (hT:=hT) hi) hz hx hy hg;rw[hc.1]at this;exact this
    cases h
   cases h
  cases h
 .rename_i c ho;split at h
  .rename_i l t n xs2 hce hps hat;obtain⟨x,hax,hx⟩:=Z5j hps;have hceq:=iT hce hax hat;rw[hceq]at ho;split at h
   .rename_i k e ag es hk hg;cases h;have:=ZBN ho (mapK (hT:=hT) hk) hx hg;rw[hc.1]at this;exact this
   cases h
  cases h
 cases h
def ZBO(hT:TOK P T){x:Stm}(h:evPr T o tm Z xs=some (ps,xs',x))(hc:aM ps):OpF P o tm Z x.s.need x.rm x.s.p x.s.news:=by
 unfold evPr at h;split at h
 .rename_i y ho;split at h
  .rename_i l m q hx;split at h
   .rename_i hg;cases h;exact(ZpL ho hx hg hc.1).toF
   cases h
  cases h
 .rename_i s y f ho;split at h
  .rename_i q0 j l m q hf hx;split at h
   .rename_i hg;have hbh:=bM h;clear h;obtain⟨hb,h⟩:=hbh;cases h;have hs:j.size≠0:=λe=>by rw[e]at hb;cases hb
    obtain⟨i0,fs,fT,hi0,hk0,hfs,hj⟩:=Z7u hf;exact(ZpK ho (hT.fieldInfo hi0 hk0 hfs hj) hs hx hg hc.1).toF
   cases h
  cases h
 .rename_i t y ho;split at h
  .rename_i i l m q hi hx;split at h
   .rename_i hg;split at h
    .rename_i p hp;cases h;exact(ZpM ho (hT _ _ hi).ty hx hg hc.1 hp).toF
    cases h
   cases h
  cases h
 .rename_i t y z ho;split at h
  .rename_i i l m q p hd hi hx hy;split at h
   .rename_i hg;have hbh:=bM h;clear h;obtain⟨hb,h⟩:=hbh;simp only[aO,ba,eQ]at hb;cases h;exact ZpN ho hd (hT _ _ hi).ty hx hy hg hc.1 hb.1.1 hb.1.2 hb.2
   cases h
  cases h
 cases h
def D4(hT:TOK P T){x:Stm}(h:wy P T o tm Z xs=some (ps,xs',x))(hc:aM ps):OpF P o tm Z x.s.need x.rm x.s.p x.s.news:=by
 unfold wy at h;split at h
 .rename_i he;cases h;exact(ZBy hT he hc).toF
 split at h
 .rename_i hm;cases h;exact ZBG hT hm hc
 split at h
 .rename_i hm;cases h;exact ZBI hT hm hc
 split at h
 .rename_i hm;cases h;exact ZBJ hT hm hc
 exact ZBO hT h hc
end
end Go.PW
namespace Go.PW
open Go.RowKit
variable {Z Z':List (Nat×Blk)} {mt:Bool} {l k n t b j:Nat} {es:List (List aa)} {ts:List aa} {tm:List (Nat×PV)} {G:Frm} {β:Nat->Option Nat} {w:World} {c:Ctx} {p q:PV} {cs:List PV} {st st':St}
abbrev Es:=Option (List Prop×List Orc×St)
def Vp(m:Nat):Nat.beq m m=true:=(ba _ _).2 rfl
mutual
def jm(mt:Bool)(l:Nat)(es:List (List aa)):PV->List Prop×PV
 |.t x=>([],.t x)
 |.nils=>([],.nils)
 |.osl m n=>bif !mt&&Nat.beq m l then([es.length=n],.t (.sl es))else([],.osl m n)
 |.bptr m o=>([],.bptr m o)
 |.rptr m n i o=>([],.rptr m n i o)
 |.vptr cs=>([],.vptr cs)
 |.agg cs=>((gg mt l es cs).1,.agg (gg mt l es cs).2)
 |.tup cs=>((gg mt l es cs).1,.tup (gg mt l es cs).2)
 |.fn f cs=>((gg mt l es cs).1,.fn f (gg mt l es cs).2)
 |.own m (.msl n)=>bif mt&&Nat.beq m l then([es.length=n],.t (.sl es))else([],.own m (.msl n))
 |.own m d=>([],.own m d)
def gg(mt:Bool)(l:Nat)(es:List (List aa)):List PV->List Prop×List PV
 |[]=>([],[])
 |c::cs=>((jm mt l es c).1++(gg mt l es cs).1,(jm mt l es c).2::(gg mt l es cs).2)
end
def kr(mt:Bool)(l:Nat)(es:List (List aa)):List (Nat×PV)->List Prop×List (Nat×PV)
 |[]=>([],[])
 |(i,p)::r=>((jm mt l es p).1++(kr mt l es r).1,(i,(jm mt l es p).2)::(kr mt l es r).2)
def eZ(mt:Bool)(l:Nat)(es:List (List aa)):List (Nat×Blk)->List Prop×List (Nat×Blk)
 |[]=>([],[])
 |(m,b)::r=>
  bif Nat.beq m l then eZ mt l es r else
  match b with
  |.row k es'=>((eZ mt l es r).1,(m,.row k es')::(eZ mt l es r).2)
  |.mat k q es'=>((eZ mt l es r).1,(m,.mat k q es')::(eZ mt l es r).2)
  |.map ag es'=>((eZ mt l es r).1,(m,.map ag es')::(eZ mt l es r).2)
  |.prow k i es' cs=>((gg mt l es cs).1++(eZ mt l es r).1,(m,.prow k i es' (gg mt l es cs).2)::(eZ mt l es r).2)
  |.box cs=>((gg mt l es cs).1++(eZ mt l es r).1,(m,.box (gg mt l es cs).2)::(eZ mt l es r).2)
mutual
def Vq{Z Z':List (Nat×Blk)}{mt:Bool}{l k q0:Nat}{es:List (List aa)}(hg:get Z l=some (bif mt then .mat k q0 es else .row k es))(h0:get Z' l=none):∀(p:PV),aM (jm mt l es p).1->Frz Z Z' p (jm mt l es p).2
 |.t _,_=>s7
 |.nils,_=>s7
 |.osl m n,h=>by
  simp only[jm]at h⊢;cases hb : !mt&&Nat.beq m l with
  |true=>
   simp only[aO,dA,ba]at hb;obtain⟨rfl,rfl⟩:=hb;simp only[Vp,fO,fD,aD]at h⊢;simp only[Frz];exact .inr ⟨k,es,hg,h.1,h0,rfl⟩
  |false=>simp only[aE,Frz];exact .inl trivial
 |.bptr _ _,_=>s7
 |.rptr _ _ _ _,_=>s7
 |.vptr _,_=>s7
 |.agg cs,h=>DF
 |.tup cs,h=>DF
 |.fn _ cs,h=>DF
 |.own m (.msl n),h=>by
  simp only[jm]at h⊢;cases hb:mt&&Nat.beq m l with
  |true=>
   simp only[aO,ba]at hb;obtain⟨rfl,rfl⟩:=hb;simp only[Vp,fD,aD]at h⊢;simp only[Frz];exact .inr ⟨n,k,q0,es,rfl,hg,h.1,h0,rfl⟩
  |false=>simp only[aE,Frz];exact .inl trivial
 |.own m (.tail _ _),_=>mS
 |.own m (.mpt _ _ _),_=>mS
 |.own m (.mrow _ _),_=>mS
 |.own m (.mel _ _ _),_=>mS
 |.own m .map,_=>mS
 |.own m (.pw _),_=>mS
 |.own m (.pp _ _),_=>mS
def xA{Z Z':List (Nat×Blk)}{mt:Bool}{l k q0:Nat}{es:List (List aa)}(hg:get Z l=some (bif mt then .mat k q0 es else .row k es))(h0:get Z' l=none):∀(cs:List PV),aM (gg mt l es cs).1->aZ Z Z' cs (gg mt l es cs).2
 |[],_=>by simp[gg,aZ]
 |c::cs,h=>by simp only[gg,aZ]at h⊢;obtain⟨h1,h2⟩:=Z5.1 h;exact⟨_,_,rfl,Vq hg h0 c h1,xA hg h0 cs h2⟩
end
def DY{q0:Nat}(hg:get Z l=some (bif mt then .mat k q0 es else .row k es))(h0:get Z' l=none):∀(tm:List (Nat×PV)),aM (kr mt l es tm).1->∀i q,get (kr mt l es tm).2 i=some q->∃p,get tm i=some p/\Frz Z Z' p q
 |[],_,i,q,hq=>by cases hq
 |(j,p)::r,h,i,q,hq=>by
  simp only[kr]at h hq;obtain⟨h1,h2⟩:=Z5.1 h;simp only[PW.get]at hq⊢;cases hb:Nat.beq j i with
  |true=>simp only[hb,aD,aB]at hq⊢;subst hq;exact⟨p,rfl,Vq hg h0 p h1⟩
  |false=>simp only[hb,aE]at hq⊢;exact DY hg h0 r h2 i q hq
def tb:∀(Z:List (Nat×Blk)),get (eZ mt l es Z).2 l=none
 |[]=>rfl
 |(m,b)::r=>by
  simp only[eZ];cases hb:Nat.beq m l with
  |true=>simp only[aD];exact tb r
  |false=>
   simp only[aE];cases b<;>simp only[PW.get,hb,aE]<;>exact tb r
def ll{σ0 σ0':List (Nat×Blk)}{mt:Bool}{l k q0:Nat}{es:List (List aa)}(hg:get σ0 l=some (bif mt then .mat k q0 es else .row k es))(h0:get σ0' l=none):∀(Z:List (Nat×Blk)),aM (eZ mt l es Z).1->∀m o',get (eZ mt l es Z).2 m=some o'->∃o,get Z m=some o/\bX σ0 σ0' o o'
 |[],_,m,o',ho=>by cases ho
 |(j,b)::r,h,m,o',ho=>by
  simp only[eZ]at h ho;cases hb:Nat.beq j l with
  |true=>
   simp only[hb,aD]at h ho;have:j=l:=(ba _ _).1 hb;subst this;have hjm:j≠m:=λe=>by subst e;rw[tb]at ho;cases ho
   simp only[PW.get,e9 hjm,aE];exact ll hg h0 r h m o' ho
  |false=>
   simp only[hb,aE]at h ho;cases b with
   |row k' es'=>
    simp only[PW.get]at ho⊢;cases hm:Nat.beq j m with
    |true=>simp only[hm,aD,aB]at ho⊢;subst ho;exact⟨_,rfl,rfl⟩
    |false=>simp only[hm,aE]at ho⊢;exact ll hg h0 r h m o' ho
   |mat k' q' es'=>
    simp only[PW.get]at ho⊢;cases hm:Nat.beq j m with
    |true=>simp only[hm,aD,aB]at ho⊢;subst ho;exact⟨_,rfl,rfl⟩
    |false=>simp only[hm,aE]at ho⊢;exact ll hg h0 r h m o' ho
   |map k' es'=>
    simp only[PW.get]at ho⊢;cases hm:Nat.beq j m with
    |true=>simp only[hm,aD,aB]at ho⊢;subst ho;exact⟨_,rfl,rfl⟩
    |false=>simp only[hm,aE]at ho⊢;exact ll hg h0 r h m o' ho
   |prow k' i' es' cs=>
    obtain⟨h1,h2⟩:=Z5.1 h;simp only[PW.get]at ho⊢;cases hm:Nat.beq j m with
    |true=>simp only[hm,aD,aB]at ho⊢;subst ho;exact⟨_,rfl,_,rfl,xA hg h0 cs h1⟩
    |false=>simp only[hm,aE]at ho⊢;exact ll hg h0 r h2 m o' ho
   |box cs=>
    obtain⟨h1,h2⟩:=Z5.1 h;simp only[PW.get]at ho⊢;cases hm:Nat.beq j m with
    |true=>simp only[hm,aD,aB]at ho⊢;subst ho;exact⟨_,rfl,_,rfl,xA hg h0 cs h1⟩
    |false=>simp only[hm,aE]at ho⊢;exact ll hg h0 r h2 m o' ho
mutual
def vbx(l:Nat)(ts:List aa):PV->PV
 |.bptr m o=>bif Nat.beq m l then .vptr (ts.drop o)else .bptr m o
 |.agg cs =>.agg (vbxs l ts cs)
 |.tup cs =>.tup (vbxs l ts cs)
 |.fn f cs =>.fn f (vbxs l ts cs)
 |.t x =>.t x
 |.nils =>.nils
 |.osl m n =>.osl m n
 |.rptr m n i o =>.rptr m n i o
 |.vptr cs =>.vptr cs
 |.own m d =>.own m d
def vbxs(l:Nat)(ts:List aa):List PV->List PV
 |[]=>[]
 |c::cs=>vbx l ts c::vbxs l ts cs
end
def xK(l:Nat)(ts:List aa):List (Nat×PV)->List (Nat×PV)
 |[]=>[]
 |(i,p)::r=>(i,vbx l ts p)::xK l ts r
def vbxσ(l:Nat)(ts:List aa):List (Nat×Blk)->List (Nat×Blk)
 |[]=>[]
 |(m,b)::r=>
  bif Nat.beq m l then vbxσ l ts r else
  match b with
  |.box cs=>(m,.box (vbxs l ts cs))::vbxσ l ts r
  |.prow k i es cs=>(m,.prow k i es (vbxs l ts cs))::vbxσ l ts r
  |b=>(m,b)::vbxσ l ts r
mutual
def Vr{Z Z':List (Nat×Blk)}{l:Nat}{ts:List aa}(hg:get Z l=some (.box (ts.map .t)))(h0:get Z' l=none):∀(p:PV),Frz Z Z' p (vbx l ts p)
 |.t _=>s6
 |.nils=>s6
 |.osl _ _=>s6
 |.bptr m o=>by
  simp only[vbx];cases hb:Nat.beq m l with
  |true=>have:m=l:=(ba _ _).1 hb;subst this;simp only[aD,Frz];exact .inr ⟨ts,hg,h0,rfl⟩
  |false=>simp only[aE,Frz];exact .inl trivial
 |.rptr _ _ _ _=>s6
 |.vptr _=>s6
 |.agg cs=>DG
 |.tup cs=>DG
 |.fn _ cs=>DG
 |.own _ _=>by simp only[vbx,Frz];exact .inl trivial
def Z2r{Z Z':List (Nat×Blk)}{l:Nat}{ts:List aa}(hg:get Z l=some (.box (ts.map .t)))(h0:get Z' l=none):∀(cs:List PV),aZ Z Z' cs (vbxs l ts cs)
 |[]=>by simp[vbxs,aZ]
 |c::cs=>by simp only[vbxs,aZ];exact⟨_,_,rfl,Vr hg h0 c,Z2r hg h0 cs⟩
end
def Vs(hg:get Z l=some (.box (ts.map .t)))(h0:get Z' l=none):∀(tm:List (Nat×PV)) (i:Nat) (q:PV),get (xK l ts tm) i=some q->∃p,get tm i=some p/\Frz Z Z' p q
 |[],i,q,hq=>by cases hq
 |(j,p)::r,i,q,hq=>by
  simp only[xK,PW.get]at hq⊢;cases hb:Nat.beq j i with
  |true=>simp only[hb,aD,aB]at hq⊢;subst hq;exact⟨p,rfl,Vr hg h0 p⟩
  |false=>simp only[hb,aE]at hq⊢;exact Vs hg h0 r i q hq
def Z5k:∀(Z:List (Nat×Blk)),get (vbxσ l ts Z) l=none
 |[]=>rfl
 |(m,b)::r=>by
  simp only[vbxσ];cases hb:Nat.beq m l with
  |true=>simp only[aD];exact Z5k r
  |false=>
   simp only[aE];cases b<;>simp only[PW.get,hb,aE]<;>exact Z5k r
def DZ{σ0 σ0':List (Nat×Blk)}{l:Nat}{ts:List aa}(hg:get σ0 l=some (.box (ts.map .t)))(h0:get σ0' l=none):∀(Z:List (Nat×Blk)) (m:Nat) (o':Blk),get (vbxσ l ts Z) m=some o'->∃o,get Z m=some o/\bX σ0 σ0' o o'
 |[],m,o',ho=>by cases ho
 |(j,b)::r,m,o',ho=>by
  simp only[vbxσ]at ho;cases hb:Nat.beq j l with
  |true=>
   simp only[hb,aD]at ho;have:j=l:=(ba _ _).1 hb;subst this;have hjm:j≠m:=λe=>by subst e;rw[Z5k]at ho;cases ho
   simp only[PW.get,e9 hjm,aE];exact DZ hg h0 r m o' ho
  |false=>
   simp only[hb,aE]at ho;simp only[PW.get];cases hm:Nat.beq j m with
   |true=>
    cases b with
    |box cs=>simp only[PW.get,hm,aD,aB]at ho⊢;subst ho;exact⟨_,rfl,_,rfl,Z2r hg h0 cs⟩
    |row k es=>simp only[PW.get,hm,aD,aB]at ho⊢;subst ho;exact⟨_,rfl,rfl⟩
    |mat k q es=>simp only[PW.get,hm,aD,aB]at ho⊢;subst ho;exact⟨_,rfl,rfl⟩
    |map ag es=>simp only[PW.get,hm,aD,aB]at ho⊢;subst ho;exact⟨_,rfl,rfl⟩
    |prow k i es cs=>simp only[PW.get,hm,aD,aB]at ho⊢;subst ho;exact⟨_,rfl,_,rfl,Z2r hg h0 cs⟩
   |false=>
    simp only[aE];refine DZ hg h0 r m o' ?_;cases b<;>simpa only[PW.get,hm,aE]using ho
def gu{α:Type}(l:List (Nat×α)):List Nat->Option (List (Nat×α))
 |[]=>some []
 |k::ks=>
  match get l k,gu l ks with
  |some x,some r=>some ((k,x)::r)
  |_,_=>none
def jL{α:Type}{l:List (Nat×α)}:∀{ks:List Nat} {r:List (Nat×α)},gu l ks=some r->∀i x,get r i=some x->get l i=some x
 |[],r,h,i,x,hx=>by simp only[gu,aB]at h;subst h;cases hx
 |k::ks,r,h,i,x,hx=>by
  simp only[gu]at h;split at h
  .rename_i y r' hy hr;cases h;simp only[PW.get]at hx;cases hb:Nat.beq k i with
   |true=>have:k=i:=(ba _ _).1 hb;subst this;simp only[hb,aD,aB]at hx;subst hx;exact hy
   |false=>simp only[hb,aE]at hx;exact jL hr i x hx
  cases h
def jo(l:Nat)(tm:List (Nat×PV))(Z:List (Nat×Blk)):Bool:=(tm.all λq => !q.2.has l)&&Z.all λq => !Nat.beq q.1 l && !q.2.has l
def tc(h:jo l tm Z=true):(∀i q,get tm i=some q->q.has l=false)/\(∀m y,get Z m=some y->m≠l/\y.has l=false):=by
 simp only[jo,aO,bO]at h;refine⟨λi q hq=>?_,λm y hy=>?_⟩
 .have:=h.1 _ (fv hq);simpa using this
 have:=h.2 _ (fv hy);simp only[dA]at this;exact⟨λe=>by subst e;have:=this.1;simp at this,this.2⟩
def dN(l n:Nat):List (Nat×PV)->List Prop×List (Nat×PV)
 |[]=>([],[])
 |(i,p)::r=>
  match p with
  |.osl m k=>bif Nat.beq m l then((k=n)::(dN l n r).1,(i,.osl m n)::(dN l n r).2)else((dN l n r).1,(i,.osl m k)::(dN l n r).2)
  |.rptr m k j o=>bif Nat.beq m l then((k=n)::(dN l n r).1,(i,.rptr m n j o)::(dN l n r).2)else((dN l n r).1,(i,.rptr m k j o)::(dN l n r).2)
  |.own m (.msl k)=>bif Nat.beq m l then((k=n)::(dN l n r).1,(i,.own m (.msl n))::(dN l n r).2)else((dN l n r).1,(i,.own m (.msl k))::(dN l n r).2)
  |p=>((dN l n r).1,(i,p)::(dN l n r).2)
def jQ{l n:Nat}:∀(tm:List (Nat×PV)),aM (dN l n tm).1->(dN l n tm).2=tm
 |[],_=>rfl
 |(i,p)::r,h=>by
  cases p
  case osl m k=>
   simp only[dN]at h⊢;cases hb:Nat.beq m l with
   |true=>
    simp only[hb,aD]at h⊢;obtain⟨h1,h2⟩:=h;subst h1;rw[jQ r h2]
   |false=>
    simp only[hb,aE]at h⊢;rw[jQ r h]
  case rptr m k j o=>
   simp only[dN]at h⊢;cases hb:Nat.beq m l with
   |true=>
    simp only[hb,aD]at h⊢;obtain⟨h1,h2⟩:=h;subst h1;rw[jQ r h2]
   |false=>
    simp only[hb,aE]at h⊢;rw[jQ r h]
  case own m d=>
   cases d
   case msl k=>
    simp only[dN]at h⊢;cases hb:Nat.beq m l with
    |true=>
     simp only[hb,aD]at h⊢;obtain⟨h1,h2⟩:=h;subst h1;rw[jQ r h2]
    |false=>
     simp only[hb,aE]at h⊢;rw[jQ r h]
   all_goals
    simp only[dN]at h⊢;rw[jQ r h]
  all_goals
   simp only[dN]at h⊢;rw[jQ r h]
def e8(l n:Nat):List PV->List Prop×List PV
 |[]=>([],[])
 |.osl m k::r=>bif Nat.beq m l then((k=n)::(e8 l n r).1,.osl m n::(e8 l n r).2)else((e8 l n r).1,.osl m k::(e8 l n r).2)
 |.own m (.msl k)::r=>bif Nat.beq m l then((k=n)::(e8 l n r).1,.own m (.msl n)::(e8 l n r).2)else((e8 l n r).1,.own m (.msl k)::(e8 l n r).2)
 |p::r=>((e8 l n r).1,p::(e8 l n r).2)
def ln{l n:Nat}:∀(cs:List PV),aM (e8 l n cs).1->(e8 l n cs).2=cs
 |[],_=>rfl
 |p::r,h=>by
  cases p
  case osl m k=>
   simp only[e8]at h⊢;cases hb:Nat.beq m l with
   |true=>
    simp only[hb,aD]at h⊢;obtain⟨h1,h2⟩:=h;subst h1;rw[ln r h2]
   |false=>
    simp only[hb,aE]at h⊢;rw[ln r h]
  case own m d=>
   cases d
   case msl k=>
    simp only[e8]at h⊢;cases hb:Nat.beq m l with
    |true=>
     simp only[hb,aD]at h⊢;obtain⟨h1,h2⟩:=h;subst h1;rw[ln r h2]
    |false=>
     simp only[hb,aE]at h⊢;rw[ln r h]
   all_goals (simp only[e8]at h⊢;rw[ln r h])
  all_goals
   simp only[e8]at h⊢;rw[ln r h]
def eP(l n:Nat):List (Nat×Blk)->List Prop×List (Nat×Blk)
 |[]=>([],[])
 |(m,.box cs)::r=>((e8 l n cs).1++(eP l n r).1,(m,.box (e8 l n cs).2)::(eP l n r).2)
 |(m,.row k es)::r=>((eP l n r).1,(m,.row k es)::(eP l n r).2)
 |(m,.mat k q es)::r=>((eP l n r).1,(m,.mat k q es)::(eP l n r).2)
 |(m,.map ag es)::r=>((eP l n r).1,(m,.map ag es)::(eP l n r).2)
 |(m,.prow k i es cs)::r=>((e8 l n cs).1++(eP l n r).1,(m,.prow k i es (e8 l n cs).2)::(eP l n r).2)
def mV:∀(Z:List (Nat×Blk)),aM (eP l n Z).1->(eP l n Z).2=Z
 |[],_=>rfl
 |(m,b)::r,h=>by
  cases b with
  |box cs=>
   simp only[eP]at h⊢;obtain⟨h1,h2⟩:=Z5.1 h;rw[ln cs h1,mV r h2]
  |row k es=>
   simp only[eP]at h⊢;rw[mV r h]
  |mat k q es=>
   simp only[eP]at h⊢;rw[mV r h]
  |map ag es=>
   simp only[eP]at h⊢;rw[mV r h]
  |prow k i es cs=>
   simp only[eP]at h⊢;obtain⟨h1,h2⟩:=Z5.1 h;rw[ln cs h1,mV r h2]
def xL{tm':List (Nat×PV)}{a:Act}(h:aP G β ⟨n,tm,Z⟩ a w)
 (hσ:∀l o',get Z' l=some o'->∃o,get Z l=some o/\(o'=o\/∃cs cs',o = .box cs/\o' = .box cs'/\cs'.length=cs.length/\cs'.all PV.one=true/\∀vs,VRs (ctx G β w Z) cs vs->VRs (ctx G β w Z) cs' vs))
 (ht:∀i q,get tm' i=some q->∃p,get tm i=some p/\∀v,VR (ctx G β w Z) p v->VR (ctx G β w Z) q v):aP G β ⟨n,tm',Z'⟩ a w:=by
 have hO:∀l o' o,(o'=o\/∃cs cs',o = .box cs/\o' = .box cs'/\cs'.length=cs.length/\cs'.all PV.one=true/\∀vs,VRs (ctx G β w Z) cs vs->VRs (ctx G β w Z) cs' vs)->∀b,aI β w l o' b->aI β w l o b:=λl o' o hr b ho=>by
  rcases hr with rfl|⟨cs,cs',rfl,rfl,_⟩
  .exact ho
  exact .inl (aI.flat (o :=.box cs') trivial ho)
 have hI:∀b,(ctx G β w Z).I b->(ctx G β w Z').I b/\(ctx G β w Z').w.heap[b]?=(ctx G β w Z).w.heap[b]?:=λb hb=>⟨⟨hb.1,hb.2.1,λl o hl ho=>by obtain⟨o2,ho2,hr2⟩:=hσ l o hl;exact hb.2.2 l o2 ho2 (hO l o o2 hr2 b ho)⟩,rfl⟩;have hL:∀l,bb (ctx G β w Z) (ctx G β w Z') l:=λl=>by
  refine⟨λk es' hg=>?_,λcs' hg=>?_,λk q es' hg=>?_,λk es' hg=>?_,λk i es' cs' hg=>?_⟩
  .obtain⟨o,ho,h1⟩:=hσ l _ hg;rcases h1 with rfl|⟨cs,cs',_,h2,_⟩
   .exact⟨es',ho,bk _,λ_=>⟨rfl,λ_ _ _ h=>h⟩⟩
   cases h2
  .obtain⟨o,ho,h1⟩:=hσ l _ hg;rcases h1 with rfl|⟨cs,cs',rfl,h2,_⟩
   .exact⟨cs',ho,rfl⟩
   exact⟨cs,ho,rfl⟩
  .obtain⟨o,ho,h1⟩:=hσ l _ hg;rcases h1 with rfl|⟨cs,cs',_,h2,_⟩
   .exact⟨es',ho,bk _,λ_=>⟨rfl,λ_ _=>⟨λ_ h=>h,λ_ _=>rfl⟩⟩⟩
   cases h2
  .obtain⟨o,ho,h1⟩:=hσ l _ hg;rcases h1 with rfl|⟨cs,cs',_,h2,_⟩
   .exact⟨es',ho,rfl⟩
   cases h2
  obtain⟨o,ho,h1⟩:=hσ l _ hg;rcases h1 with rfl|⟨cs,cs'',_,h2,_⟩
  .exact⟨es',cs',ho,rfl,rfl,λ_ _ _ h=>h⟩
  cases h2
 exact { defers:=h.defers,sz:=h.sz,base:=h.base,os:=h.os,tape:=h.tape,output:=h.output,old:=h.old,A:=h.A,gl:=h.gl,
         inj:=λl l' o o' b hl hl' hb hb'=>by obtain⟨o1,h1,r1⟩:=hσ l o hl;obtain⟨o2,h2,r2⟩:=hσ l' o' hl';exact h.inj l l' o1 o2 b h1 h2 (hO l o o1 r1 b hb) (hO l' o' o2 r2 b hb'),
         sep:=λl o b hl hb=>by obtain⟨o1,h1,r1⟩:=hσ l o hl;exact h.sep l o1 b h1 (hO l o o1 r1 b hb),
         fix:=λl cs h1 hl=>by
          obtain⟨o,ho,h2⟩:=hσ l _ hl;rcases h2 with rfl|⟨cs0,cs',rfl,_⟩
          .exact h.fix l cs h1 ho
          exact h.fix l cs0 h1 ho,
         row0:=h.row0.step (λm _=>hL m),
         blk:=λl o' hl=>by
          obtain⟨o,ho,h2⟩:=hσ l o' hl;have hb:=h.blk l o ho;rcases h2 with rfl|⟨cs,cs',rfl,rfl,h3,h4,h5⟩
          .exact BR.step hI rfl (λ_ _=>rfl) (λm _=>hL m) hb
          obtain⟨b,vs,f1,f2,f3,f4,f5⟩:=hb;exact⟨b,vs,f1,by rw[h3];exact f2,f3,VRs.step hI _ _ (λm _=>hL m) (h5 vs f4),h4⟩,
         tm:=λi q hq=>by obtain⟨p,hp,hf⟩:=ht i q hq;exact⟨(h.tm i p hp).1,VR.step hI q _ (λm _=>hL m) (hf _ (h.tm i p hp).2)⟩ }
def VRs.set:∀{cs:List PV} {vs:List Value} {j:Nat},cs[j]?=some p->(∀v,VR c p v->VR c q v)->VRs c cs vs->VRs c (cs.set j q) vs
 |[],vs,j,h,_,_=>ju
 |x::cs,vs,0,h,hq,hv=>by simp only[ky,aB]at h;subst h;simp only[Du,VRs]at hv⊢;obtain⟨v,rest,rfl,hv,hr⟩:=hv;exact⟨v,rest,rfl,hq v hv,hr⟩
 |x::cs,vs,j+1,h,hq,hv=>by simp only[Dv,VRs]at hv⊢;obtain⟨v,rest,rfl,hv,hr⟩:=hv;exact⟨v,rest,rfl,hv,VRs.set iU hq hr⟩
def Vt(hq:q.one=true):∀{cs:List PV} {j:Nat},cs.all PV.one=true->(cs.set j q).all PV.one=true
 |[],_,h=>h
 |x::cs,0,h=>by simp only[Du,kD,aO]at h⊢;exact⟨hq,h.2⟩
 |x::cs,j+1,h=>by simp only[Dv,kD,aO]at h⊢;exact⟨h.1,Vt hq h.2⟩
def VR.nilt(v:Value)(h:VR c .nils v):VR c (.t (.sl [])) v:=by simp only[VR]at h⊢;obtain⟨a,rfl⟩:=h;simp only[az];exact⟨a,0,rfl,by simp,by simp[maxLen],.inl trivial⟩
def VR.nilOwn(hg:get c.Z l=some (.row k []))(hb:c.β l=none)(v:Value)(h:VR c .nils v):VR c (.osl l 0) v:=by simp only[VR]at h⊢;obtain⟨a,rfl⟩:=h;refine⟨λk' es' hg'=>?_,a,0,0,rfl⟩;rw[hg]at hg';cases hg';exact⟨bk _,λ_=>⟨a,0,rfl,bk _,by simp[maxLen],.inl ⟨rfl,hb⟩⟩⟩
def Vu(hg:get tm t=some p)(hq:∀v,VR (ctx G β w Z) p v->VR (ctx G β w Z) q v) :
 ∀i r,get (put tm t q) i=some r->∃p,get tm i=some p/\∀v,VR (ctx G β w Z) p v->VR (ctx G β w Z) r v:=λi r hr=>by
 by_cases hi:t=i
 .subst hi;rw[fV]at hr;cases hr;exact⟨p,hg,hq⟩
 rw[gp _ _ hi]at hr;exact⟨r,hr,λ_ h=>h⟩
def Vv(hg:get Z b=some (.box cs))(hj:cs[j]?=some p)(h1:cs.all PV.one=true)(h2:q.one=true)(hq:∀v,VR (ctx G β w Z) p v->VR (ctx G β w Z) q v) :
 ∀l o',get (put Z b (.box (cs.set j q))) l=some o'->∃o,get Z l=some o/\(o'=o\/∃cs cs',o = .box cs/\o' = .box cs'/\cs'.length=cs.length/\cs'.all PV.one=true/\∀vs,VRs (ctx G β w Z) cs vs->VRs (ctx G β w Z) cs' vs):=λl o' ho=>by
 by_cases hi:b=l
 .subst hi;rw[fV]at ho;cases ho;exact⟨_,hg,.inr ⟨cs,_,rfl,rfl,by simp,Vt h2 h1,λvs hv=>VRs.set hj hq hv⟩⟩
 rw[gp _ _ hi]at ho;exact⟨o',ho,.inl rfl⟩
def f1(l m:Nat)(j:Nat):Nat:=bif Nat.beq j l then m else j
def td(f:Nat->Nat):List (Nat×PV)->List (Nat×PV)
 |[]=>[]
 |(i,p)::r=>(i,p.ren f)::td f r
def Vw(f:Nat->Nat):∀tm:List (Nat×PV),td f tm=tm.map λx=>(x.1,x.2.ren f)
 |[]=>rfl
 |(i,p)::r=>by simp only[td,ck,Vw f r]
def Wk.relab{m:Nat}(hm:1000<=m)(hf:jo m st.tm st.Z=true):Wk st ⟨st.n,td (f1 l m) st.tm,bT (f1 l m) st.Z⟩:=by rintro G a w ⟨β,h⟩;obtain⟨g1,g2⟩:=tc hf;rw[Vw];exact ZbD (n:=st.n) (tm:=st.tm) (Z:=st.Z) h l m hm g1 g2
def Wk.slot(hg:get st.tm t=some p)(hq:∀c v,VR c p v->VR c q v):Wk st ⟨st.n,put st.tm t q,st.Z⟩:=λ_ _ _ ⟨β,h⟩=>⟨β,xL (n:=st.n) (tm:=st.tm) (Z:=st.Z) h (λ_ o ho=>⟨o,ho,.inl rfl⟩) (Vu hg (hq _))⟩
def Vx{a:Act}(h:aP G β st a w)(hg:get st.Z b=some (.box cs)):cs.all PV.one=true:=by obtain⟨_,_,_,_,_,_,h⟩:=h.blk b _ hg;exact h
def Wk.cell(hg:get st.Z b=some (.box cs))(hj:cs[j]?=some p)(h2:q.one=true)(hq:∀c v,VR c p v->VR c q v):Wk st ⟨st.n,st.tm,put st.Z b (.box (cs.set j q))⟩:=λ_ _ _ ⟨β,h⟩=>⟨β,xL (n:=st.n) (tm:=st.tm) (Z:=st.Z) h (Vv hg hj (Vx h hg) h2 (hq _)) (λ_ q hq=>⟨q,hq,λ_ h=>h⟩)⟩
def Wk.ownc(hg:get st.tm t=some (.agg cs))(hj:cs[j]?=some .nils)(hk:0<k)(hl:1000<=l)(hf:jo l st.tm st.Z=true):Wk st ⟨st.n,put st.tm t (.agg (cs.set j (.osl l 0))),(l,.row k [])::st.Z⟩:=by rintro G a w ⟨β,h⟩;obtain⟨g1,g2⟩:=tc hf;have h':=vN (n:=st.n) (tm:=st.tm) (Z:=st.Z) h l k hk hl g1 g2;refine⟨fK β l,xL h' (λ_ o ho=>⟨o,ho,.inl rfl⟩) (Vu hg λv hv=>?_)⟩;simp only[VR]at hv⊢;obtain⟨vs,hv,hs⟩:=hv;exact⟨vs,hv,VRs.set hj (VR.nilOwn (l:=l) (k:=k) hP (by simp[ctx,fK])) hs⟩
def Wk.ownb(hg:get st.Z b=some (.box cs))(hj:cs[j]?=some .nils)(hk:0<k)(hl:1000<=l)(hf:jo l st.tm st.Z=true):Wk st ⟨st.n,st.tm,put ((l,.row k [])::st.Z) b (.box (cs.set j (.osl l 0)))⟩:=by rintro G a w ⟨β,h⟩;obtain⟨g1,g2⟩:=tc hf;have h':=vN (n:=st.n) (tm:=st.tm) (Z:=st.Z) h l k hk hl g1 g2;have hbl:b≠l:=(g2 b _ hg).1;exact⟨fK β l,xL h' (Vv (by simp only[PW.get,e9 (ec hbl),aE];exact hg) hj (Vx h hg) rfl (VR.nilOwn (l:=l) (k:=k) hP (by simp[ctx,fK]))) (λ_ q hq=>⟨q,hq,λ_ h=>h⟩)⟩
def cH:List Orc->St->Es
 |.frz l::xs,st=>
  match get st.Z l with
  |some (.row _ es)=>
   match cH xs ⟨st.n,(kr false l es st.tm).2,(eZ false l es st.Z).2⟩ with
   |some (ps,xs',st')=>some ((kr false l es st.tm).1++((eZ false l es st.Z).1++ps),xs',st')
   |none=>none
  |some (.mat _ _ es)=>
   match cH xs ⟨st.n,(kr true l es st.tm).2,(eZ true l es st.Z).2⟩ with
   |some (ps,xs',st')=>some ((kr true l es st.tm).1++((eZ true l es st.Z).1++ps),xs',st')
   |none=>none
  |some (.box cs)=>match jI cs with|some ts=>cH xs ⟨st.n,xK l ts st.tm,vbxσ l ts st.Z⟩|none=>none
  |_=>none
 |.relen l::xs,st=>
  match get st.Z l with
  |some (.row _ es)=>
   match cH xs ⟨st.n,(dN l es.length st.tm).2,(eP l es.length st.Z).2⟩ with
   |some (ps,xs',st')=>some ((dN l es.length st.tm).1++((eP l es.length st.Z).1++ps),xs',st')
   |none=>none
  |some (.mat _ _ es)=>
   match cH xs ⟨st.n,(dN l es.length st.tm).2,(eP l es.length st.Z).2⟩ with
   |some (ps,xs',st')=>some ((dN l es.length st.tm).1++((eP l es.length st.Z).1++ps),xs',st')
   |none=>none
  |_=>none
 |.opn l i e::xs,st=>
  match get st.Z l with
  |some (.row k es)=>
   bif Nat.ble 1000 l then
    match Z2a (opnV l i) st.tm,mapσ l (.prow k i es (e.map .t)) (opnV l i) st.Z with
    |some (q1,tm),some (q2,Z)=>
     match cH xs ⟨st.n,tm,Z⟩ with
     |some (ps,xs',st')=>some ((es[i]?=some e)::(q1++(q2++ps)),xs',st')
     |none=>none
    |_,_=>none
   else none
  |_=>none
 |.cls l es'::xs,st=>
  match get st.Z l with
  |some (.prow k i es cs)=>
   match jI cs with
   |some ts=>
    bif Nat.ble 1000 l then
     match Z2a (clsV l i es.length) st.tm,mapσ l (.row k es') (clsV l i es.length) st.Z with
     |some (q1,tm),some (q2,Z)=>
      match cH xs ⟨st.n,tm,Z⟩ with
      |some (ps,xs',st')=>some ((es.set i ts=es')::(q1++(q2++ps)),xs',st')
      |none=>none
     |_,_=>none
    else none
   |none=>none
  |_=>none
 |.tomat l::xs,st=>
  match get st.Z l with
  |some (.row 1 es)=>
   bif (st.Z.all λq => !q.2.has l)&&Z19 st.tm then
    match cH xs ⟨st.n,toM l st.tm,put st.Z l (.mat 1 0 es)⟩ with
    |some (ps,xs',st')=>some ((∀e,e∈es->e=[aa.sl []])::ps,xs',st')
    |none=>none
   else none
  |_=>none
 |.pick ks ls::xs,st=>
  match gu st.tm ks,gu st.Z ls with
  |some tm,some Z=>cH xs ⟨st.n,tm,Z⟩
  |_,_=>none
 |.own t l k::xs,st=>
  match get st.tm t with
  |some .nils=>bif Nat.blt 0 k&&Nat.ble 1000 l&&jo l st.tm st.Z&&Nat.blt t st.n then cH xs ⟨st.n,put st.tm t (.osl l 0),(l,.row k [])::st.Z⟩ else none
  |_=>none
 |.relab l m::xs,st=>bif Nat.ble 1000 m&&jo m st.tm st.Z then cH xs ⟨st.n,td (f1 l m) st.tm,bT (f1 l m) st.Z⟩ else none
 |.nilt t::xs,st=>match get st.tm t with|some .nils=>cH xs ⟨st.n,put st.tm t (.t (.sl [])),st.Z⟩|_=>none
 |.niltc t j::xs,st=>
  match get st.tm t with
  |some (.agg cs)=>match cs[j]? with|some .nils=>cH xs ⟨st.n,put st.tm t (.agg (cs.set j (.t (.sl [])))),st.Z⟩|_=>none
  |_=>none
 |.niltb b j::xs,st=>
  match get st.Z b with
  |some (.box cs)=>match cs[j]? with|some .nils=>cH xs ⟨st.n,st.tm,put st.Z b (.box (cs.set j (.t (.sl []))))⟩|_=>none
  |_=>none
 |.ownc t j l k::xs,st=>
  match get st.tm t with
  |some (.agg cs)=>match cs[j]? with|some .nils=>bif Nat.blt 0 k&&Nat.ble 1000 l&&jo l st.tm st.Z then cH xs ⟨st.n,put st.tm t (.agg (cs.set j (.osl l 0))),(l,.row k [])::st.Z⟩ else none|_=>none
  |_=>none
 |.ownb b j l k::xs,st=>
  match get st.Z b with
  |some (.box cs)=>match cs[j]? with|some .nils=>bif Nat.blt 0 k&&Nat.ble 1000 l&&jo l st.tm st.Z then cH xs ⟨st.n,st.tm,put ((l,.row k [])::st.Z) b (.box (cs.set j (.osl l 0)))⟩ else none|_=>none
  |_=>none
 |xs,st=>some ([],xs,st)
def Wk.pick{ks ls:List Nat}(h1:gu st.tm ks=some tm)(h2:gu st.Z ls=some Z):Wk st ⟨st.n,tm,Z⟩:=λ_ _ _ ⟨β,h⟩=>⟨β,h.sub (bk _) (λi p hp=>⟨jL h1 i p hp,(h.tm i p (jL h1 i p hp)).1⟩) (λl o ho=>jL h2 l o ho)⟩
def Wk.own(hg:get st.tm t=some .nils)(hk:0<k)(hl:1000<=l)(hf:jo l st.tm st.Z=true):Wk st ⟨st.n,put st.tm t (.osl l 0),(l,.row k [])::st.Z⟩:=by
 rintro G a w ⟨β,h⟩;obtain⟨f1,f2⟩:=tc hf;have h':=vN (n:=st.n) (tm:=st.tm) (Z:=st.Z) h l k hk hl f1 f2;refine⟨fK β l,?_⟩;have hv:=(h.tm t _ hg);simp only[VR]at hv;obtain⟨hlt,a0,hv⟩:=hv
 exact { defers:=h'.defers,sz:=h'.sz,base:=h'.base,os:=h'.os,tape:=h'.tape,output:=h'.output,old:=h'.old,A:=h'.A,gl:=h'.gl,inj:=h'.inj,sep:=h'.sep,fix:=h'.fix,row0:=h'.row0,blk:=h'.blk,
         tm:=λi p hp=>by
          by_cases hi:t=i
          .subst hi;rw[fV]at hp;cases hp;refine⟨hlt,?_⟩;simp only[VR];refine⟨λk' es' hes'=>?_,a0,0,0,hv⟩;have hgs:get ((l,Blk.row k [])::st.Z) l=some (.row k []):=by simp[PW.get]
           have:some (Blk.row k' es')=some (.row k []):=bC (bE hes') hgs;cases this;exact⟨bk _,λ_=>⟨a0,0,hv,bk _,by simp[maxLen],.inl ⟨rfl,by simp[ctx,fK]⟩⟩⟩
          rw[gp _ _ hi]at hp;exact h'.tm i p hp }
def fj:∀(xs:List Orc) (st:St) {ps:List Prop} {xs':List Orc} {st':St},cH xs st=some (ps,xs',st')->aM ps->Wk st st'
 |[],st,ps,xs',st',h,_=>by simp only[cH,aB,bJ]at h;rw[h.2.2];exact Wk.refl _
 |x::xs,st,ps,xs',st',h,hc=>by
  cases x
  case frz l=>
   simp only[cH]at h;split at h
   .rename_i k es hg;split at h
    .rename_i ps' xs2 st2 h2;cases h;obtain⟨h3,h4⟩:=Z5.1 hc;obtain⟨h4,h5⟩:=Z5.1 h4;have h0:=tb (mt:=false) (l:=l) (es:=es) st.Z;exact(Wk.frz (ll (mt:=false) (q0:=0) hg h0 st.Z h4) (DY (mt:=false) (q0:=0) hg h0 st.tm h3)).trans (fj xs _ h2 h5)
    cases h
   .rename_i k q0 es hg;split at h
    .rename_i ps' xs2 st2 h2;cases h;obtain⟨h3,h4⟩:=Z5.1 hc;obtain⟨h4,h5⟩:=Z5.1 h4;have h0:=tb (mt:=true) (l:=l) (es:=es) st.Z;exact(Wk.frz (ll (mt:=true) (k:=k) hg h0 st.Z h4) (DY (mt:=true) (k:=k) hg h0 st.tm h3)).trans (fj xs _ h2 h5)
    cases h
   .rename_i cs hg;split at h
    .rename_i ts hts;have e:=nZ hts;subst e;have h0:=Z5k (l:=l) (ts:=ts) st.Z;exact(Wk.frz (DZ hg h0 st.Z) (Vs hg h0 st.tm)).trans (fj xs _ h hc)
    cases h
   cases h
  case relen l=>
   simp only[cH]at h;split at h
   .rename_i k es hg;split at h
    .rename_i ps' xs2 st2 h2;cases h;obtain⟨h3,h4⟩:=Z5.1 hc;obtain⟨h4,h5⟩:=Z5.1 h4;have:=fj xs _ h2 h5;rw[jQ _ h3,mV _ h4]at this;exact this
    cases h
   .rename_i k q0 es hg;split at h
    .rename_i ps' xs2 st2 h2;cases h;obtain⟨h3,h4⟩:=Z5.1 hc;obtain⟨h4,h5⟩:=Z5.1 h4;have:=fj xs _ h2 h5;rw[jQ _ h3,mV _ h4]at this;exact this
    cases h
   cases h
  case opn l i e=>
   simp only[cH]at h;split at h
   .rename_i k es hg;have hbh:=bM h;clear h;obtain⟨hb,h⟩:=hbh;split at h
    .rename_i q1 tm q2 Z h1 h2;split at h
     .rename_i ps' xs2 st2 h3;cases h;obtain⟨c1,c2⟩:=hc;obtain⟨c2,c3⟩:=Z5.1 c2;obtain⟨c3,c4⟩:=Z5.1 c3;exact(Wk.opn (DV hb) hg c1 h1 h2 c2 c3).trans (fj xs _ h3 c4)
     cases h
    cases h
   cases h
  case cls l es'=>
   simp only[cH]at h;split at h
   .rename_i k i es cs hg;split at h
    .rename_i ts ht;have hbh:=bM h;clear h;obtain⟨hb,h⟩:=hbh;split at h
     .rename_i q1 tm q2 Z h1 h2;split at h
      .rename_i ps' xs2 st2 h3;cases h;obtain⟨c1,c2⟩:=hc;obtain⟨c2,c3⟩:=Z5.1 c2;obtain⟨c3,c4⟩:=Z5.1 c3;exact(Wk.cls (DV hb) hg ht c1 h1 h2 c2 c3).trans (fj xs _ h3 c4)
      cases h
     cases h
    cases h
   cases h
  case tomat l=>
   simp only[cH]at h;split at h
   .rename_i es hg;have hbh:=bM h;clear h;obtain⟨hb,h⟩:=hbh;simp only[aO]at hb;split at h
    .rename_i ps' xs2 st2 h2;cases h;exact(Wk.tomat hg hc.1 hb.1 hb.2).trans (fj xs _ h2 hc.2)
    cases h
   cases h
  case pick ks ls=>
   simp only[cH]at h;split at h
   .rename_i tm Z h1 h2;exact(Wk.pick h1 h2).trans (fj xs _ h hc)
   cases h
  case own t l k=>
   simp only[cH]at h;split at h
   .rename_i hg;obtain⟨hb,h⟩:=bM h;simp only[aO,iK,eQ]at hb;exact(Wk.own hg hb.1.1.1 hb.1.1.2 hb.1.2).trans (fj xs _ h hc)
   cases h
  case relab l m=>
   simp only[cH]at h;obtain⟨hb,h⟩:=bM h;simp only[aO,eQ]at hb;exact(Wk.relab hb.1 hb.2).trans (fj xs _ h hc)
  case nilt t=>
   simp only[cH]at h;split at h
   .rename_i hg;exact(Wk.slot hg λ_ v hv=>VR.nilt v hv).trans (fj xs _ h hc)
   cases h
  case niltc t j=>
   simp only[cH]at h;split at h
   .rename_i cs hg;split at h
    .rename_i hj;refine(Wk.slot hg λc v hv=>?_).trans (fj xs _ h hc);simp only[VR]at hv⊢;obtain⟨vs,hv,hs⟩:=hv;exact⟨vs,hv,VRs.set hj VR.nilt hs⟩
    cases h
   cases h
  case niltb b j=>
   simp only[cH]at h;split at h
   .rename_i cs hg;split at h
    .rename_i hj;exact(Wk.cell hg hj rfl λ_ v hv=>VR.nilt v hv).trans (fj xs _ h hc)
    cases h
   cases h
  case ownc t j l k=>
   simp only[cH]at h;split at h
   .rename_i cs hg;split at h
    .rename_i hj;obtain⟨hb,h⟩:=bM h;simp only[aO,iK,eQ]at hb;exact(Wk.ownc hg hj hb.1.1 hb.1.2 hb.2).trans (fj xs _ h hc)
    cases h
   cases h
  case ownb b j l k=>
   simp only[cH]at h;split at h
   .rename_i cs hg;split at h
    .rename_i hj;obtain⟨hb,h⟩:=bM h;simp only[aO,iK,eQ]at hb;exact(Wk.ownb hg hj hb.1.1 hb.1.2 hb.2).trans (fj xs _ h hc)
    cases h
   cases h
  all_goals
   simp only[cH,aB,bJ]at h;rw[h.2.2];exact Wk.refl _
def D0:Es->Es
 |some (ps,.stop::xs,st)=>some (ps,xs,st)
 |r=>r
def ZyW{r:Es}{ps:List Prop}{xs:List Orc}(h:D0 r=some (ps,xs,st)):∃xs',r=some (ps,xs',st):=by
 unfold D0 at h;split at h
 .cases h;exact⟨_,rfl⟩
 exact⟨_,h⟩
def evAt(d:Option Nat)(xs:List Orc)(st:St):Es:=
 match xs,d with
 |.ahead i::xs',some j=>bif Nat.beq i j then D0 (cH xs' st)else some ([],xs,st)
 |_,_=>some ([],xs,st)
def Vy{d:Option Nat}{xs:List Orc}{ps:List Prop}{xs':List Orc}(h:evAt d xs st=some (ps,xs',st'))(hc:aM ps):Wk st st':=by
 have triv:∀ys:List Orc,(some ([],ys,st):Es)=some (ps,xs',st')->Wk st st':=λys h=>by cases h;exact Wk.refl _
 unfold evAt at h;split at h
 .rename_i i xs2 j;cases hb:Nat.beq i j with
  |true=>
   simp only[hb,aD]at h;obtain⟨ys,h⟩:=ZyW h;exact fj _ _ h hc
  |false=>simp only[hb,aE]at h;exact triv _ h
 exact triv _ h
def D1(T:TS)(o:Oper)(st:St)(xs:List Orc):Es:=
 match o.op with
 |.store t x y=>
  match o.dst,get T t,ai st.tm x,ai st.tm y with
  |none,some i,some (.bptr l q),some p=>
   match get st.Z l,xs with
   |some (.box cs),.sp cs'::xs=>bif Nat.beq (bz p).length i.size&&(bz p).all PV.one then some ([q+i.size<=cs.length,splice cs q (bz p)=cs'],xs,⟨st.n,st.tm,put st.Z l (.box cs')⟩)else none
   |some (.box cs),xs=>bif Nat.beq (bz p).length i.size&&(bz p).all PV.one&&Nat.ble (q+i.size) cs.length then some ([],xs,⟨st.n,st.tm,put st.Z l (.box (splice cs q (bz p)))⟩)else none
   |_,_=>none
  |none,some i,some (.rptr l m j q),some p=>
   match get st.Z l,xs,cy (bz p)with
   |some (.row k es),.cs e :: .es es'::xs,some ts=>bif Nat.beq ts.length i.size&&Nat.ble (q+i.size) k then some ([es.length=m,es[j]?=some e,es.set j (splice e q ts)=es'],xs,⟨st.n,st.tm,put st.Z l (.row k es')⟩)else none
   |_,_,_=>none
  |_,_,_,_=>none
 |.convert s t x=>
  match dH T t,ai st.tm x,o.dst with
  |some (_,⟨_,_,_,_,.int .u8,_⟩),some (.osl l m),some d=>
   match get st.Z l with
   |some (.row _ es)=>bif Nat.beq s t&&Nat.blt d st.n then some ([False],xs,⟨st.n,put st.tm d (.osl l m),st.Z⟩)else none
   |_=>none
  |_,_,_=>none
 |_=>none
def D2(T:TS)(o:Oper)(st:St)(xs:List Orc):Es:=
 match o.op with
 |.call c=>
  match c.callee,fP st.tm c.args.toList,c.argTypes.toList,o.dst,xs with
  |.builtin .clear,some [.own l (.tail m i)],[t],none,.es es'::xs=>
   match dH T t,get st.Z l with
   |some (_,⟨_,k,bytes,some z,_,_⟩),some (.row k' es)=>
    match cy z with
    |some zs=>bif Nat.blt 0 k&&Nat.beq z.length k&&Nat.beq k k' then some ([es.length=m,i<=m,es.take i++List.replicate (m-i) zs=es'],xs,⟨st.n,st.tm,put st.Z l (.row k es')⟩)else none
    |none=>none
   |_,_=>none
  |_,_,_,_,_=>none
 |.slice t x none (some y) none=>
  match dH T t,ai st.tm x,ai st.tm y,o.dst,xs with
  |some (_,j),some (.osl l m),some (.t (.int _ i)),some d,.nat q :: .es es'::xs=>
   match get st.Z l with
   |some (.row k es)=>bif Nat.beq j.size k&&Nat.blt d st.n&&(st.Z.all λq => !q.2.has l)&&Z19 st.tm&&Nat.ble 1000 l then some ([es.length=m,0<=i,i<=m,i.toNat=q,es.take i.toNat=es'],xs,⟨st.n,put (l8 l st.tm) d (.osl l q),put st.Z l (.row k es')⟩)else none
   |_=>none
  |_,_,_,_,_=>none
 |.store t x y=>
  match o.dst,get T t,ai st.tm x,ai st.tm y,xs with
  |none,some i,some (.own l (.mel m j q)),some (.t z),.es inner :: .es es'::xs=>
   match get st.Z l with
   |some (.mat 1 0 es)=>bif !i.agg&&Nat.beq i.size 1&&z.scal then some ([es.length=m,es[j]?=some [.sl inner],q<inner.length,es.set j [.sl (inner.set q [z])]=es'],xs,⟨st.n,st.tm,put st.Z l (.mat 1 0 es')⟩)else none
   |_=>none
  |none,some i,some (.own l (.mpt m j 0)),some (.osl l2 n2),.es es'::xs=>
   match get st.Z l,get st.Z l2 with
   |some (.mat 1 0 es),some (.row 1 es2)=>bif (!i.agg&&Nat.beq i.size 1)&&(!Nat.beq l l2&&((st.Z.all λq=>q.2.mo l)&&Z19 st.tm))then some ([es.length=m,j<m,es2.length=n2,SC1 es2,es.set j [.sl es2]=es'],xs,⟨st.n,Z5f l st.tm,(l,.mat 1 0 es')::bp [l,l2] st.Z⟩)else none
   |_,_=>none
  |_,_,_,_,_=>none
 |.mapUpdate t x y z=>
  match o.dst,(get T t).map (·.k),ai st.tm x,ai st.tm y,ai st.tm z,xs with
  |none,some (TK.map k _),some (.own l .map),some (.t (.int .i64 i)),some p,.cs ts :: .mp es'::xs=>
   match get st.Z l,(get T k).map (·.k)with
   |some (.map ag es),some (TK.int .i64)=>some ([p=mvP ag ts,dC es i ts=es'],xs,⟨st.n,st.tm,put st.Z l (.map ag es')⟩)
   |_,_=>none
  |_,_,_,_,_,_=>none
 |_=>none
def evUp(T:TS)(o:Oper)(st:St)(xs:List Orc):Es:=
 match D1 T o st xs with
 |some r=>some r
 |none=>D2 T o st xs
section
variable {P:Program} {T:TS} {o:Oper} {xs xs':List Orc} {ps:List Prop}
def ZyX(hT:TOK P T)(h:D1 T o st xs=some (ps,xs',st'))(hc:aM ps):iI P o st st':=by
 obtain⟨n,tm,Z⟩:=st;unfold D1 at h;split at h
 .rename_i t x y ho;split at h
  .rename_i i l q p hd hi hx hy;split at h
   .rename_i cs cs' xs2 hg;have hbh:=bM h;clear h;obtain⟨hb,h⟩:=hbh;simp only[aO,ba]at hb;cases h;obtain⟨h1,h2,_⟩:=hc;subst h2;exact UT ho hd (hT _ _ hi).ty hx hy hg hb.1 hb.2 h1
   .rename_i cs hg _;have hbh:=bM h;clear h;obtain⟨hb,h⟩:=hbh;simp only[aO,ba,eQ]at hb;cases h;exact UT ho hd (hT _ _ hi).ty hx hy hg hb.1.1 hb.1.2 hb.2
   cases h
  .rename_i i l m j q p hd hi hx hy;split at h
   .rename_i k es e es' xs2 ts hg hts;have hbh:=bM h;clear h;obtain⟨hb,h⟩:=hbh;simp only[aO,ba,eQ]at hb;cases h;obtain⟨h1,h2,h3,_⟩:=hc;subst h3;exact ZyS ho hd (hT _ _ hi).ty hx hy hg h1 h2 hts hb.1 hb.2
   cases h
  cases h
 .rename_i s t x ho;split at h
  .rename_i e agg sz by_ z fl l m d he hx hd;split at h
   .rename_i k es hg;have hbh:=bM h;clear h;obtain⟨hb,h⟩:=hbh;simp only[aO,ba,iK]at hb;obtain⟨rfl,hb2⟩:=hb;cases h;obtain⟨i,hi,hk,hj⟩:=fx he;have hu:=(hT _ _ hi).k;rw[hk]at hu;have hu2:P.underlying e=some (.int .u8):=(hT _ _ hj).k;exact hc.1.elim
   cases h
  cases h
 cases h
def ZyY(hT:TOK P T)(h:D2 T o st xs=some (ps,xs',st'))(hc:aM ps):iI P o st st':=by
 obtain⟨n,tm,Z⟩:=st;unfold D2 at h;split at h
 .rename_i c ho;split at h
  .rename_i l m i t es' xs2 hce hps hat hd;obtain⟨x,hax,hx⟩:=Z5j hps;have hceq:=iT hce hax hat;rw[hceq]at ho;split at h
   .rename_i e agg k bytes z kk fl k' es he hg;split at h
    .rename_i zs hzs;have hbh:=bM h;clear h;obtain⟨hb,h⟩:=hbh;simp only[aO,ba]at hb;obtain⟨⟨hb1,hb2⟩,hb3⟩:=hb;subst hb3;cases h;obtain⟨h1,h2,h3,_⟩:=hc;subst h3;exact ZfD ho hd (Z2b (z:=z) hT he rfl hb1 ((ba _ _).2 hb2)) hzs hx hg h1 h2
    cases h
   cases h
  cases h
 .rename_i t x y ho;split at h
  .rename_i e j l m ki i d q es' xs2 he hx hy hd;split at h
   .rename_i k es hg;have hbh:=bM h;clear h;obtain⟨hb,h⟩:=hbh;simp only[aO,ba,iK]at hb;obtain⟨⟨⟨⟨hb1,hb2⟩,hb3⟩,hb4⟩,hb5⟩:=hb;cases h;obtain⟨h1,h2,h3,h4,h5,_⟩:=hc;subst h4;subst h5;obtain⟨i0,hi0,hk0,hj⟩:=fx he;exact ZfE ho hd hb2 (hb1▸hT.slInfo hi0 hk0 hj) hx hy hg h1 h2 h3 (DV hb5) hb3 hb4
   cases h
  cases h
 .rename_i t x y ho;split at h
  .rename_i i l m j q z inner es' xs2 hd hi hx hy;split at h
   .rename_i es hg;have hbh:=bM h;clear h;obtain⟨hb,h⟩:=hbh;simp only[aO,dA,ba]at hb;cases h;obtain⟨h1,h2,h3,h4,_⟩:=hc;subst h4;have hty:=(hT t i hi).ty;rw[hb.1.1,hb.1.2]at hty;exact ZeR ho hd hty hx hy rfl hb.2 hg h1 h2 h3
   cases h
  .rename_i i l m j l2 n2 es' xs2 hd hi hx hy;split at h
   .rename_i es es2 hg hg2;have hbh:=bM h;clear h;obtain⟨hb,h⟩:=hbh;simp only[aO,dA,ba]at hb;cases h;obtain⟨h1,h2,h3,h4,h5,_⟩:=hc;subst h5;have hty:=(hT t i hi).ty;rw[hb.1.1,hb.1.2]at hty;exact ZjY ho hd hty hx hy hg h1 h2 hg2 h3 h4 (Z9j (by rw[hb.2.1];rfl)) hb.2.2.1 hb.2.2.2
   cases h
  cases h
 .rename_i t x y z ho;split at h
  .rename_i k e l i p ts es' xs2 hd hk hx hy hz;split at h
   .rename_i ag es hg hi;cases h;obtain⟨h1,h2,_⟩:=hc;subst h2;exact ZyZ ho hd (mapK (hT:=hT) hk) (intK (hT:=hT) hi) hx hy hz h1 hg
   cases h
  cases h
 cases h
def ZzA(hT:TOK P T)(h:evUp T o st xs=some (ps,xs',st'))(hc:aM ps):iI P o st st':=by
 unfold evUp at h;split at h
 .rename_i h0;cases h;exact ZyX hT h0 hc
 exact ZyY hT h hc
def xM(ops:Array Oper)(tm:List (Nat×PV))(o:Oper)(xs:List Orc):Option (List Prop×List Orc×Bool):=
 match o.guard with
 |none=>some ([],xs,true)
 |some (g,want)=>
  match(ops[g]?).bind (·.dst)with
  |none=>none
  |some d=>
   match get tm d,xs with
   |some (.t (.bool e)),.br b::xs=>some ([e=b],xs,b==want)
   |some (.tup []),xs=>some ([],xs,false)
   |_,_=>none
def mW{ops:Array Oper}{r:Bool}(h:xM ops tm o xs=some (ps,xs',r))(hc:aM ps):je ops tm o=some r:=by
 unfold xM at h;unfold je;split at h
 .rename_i hg;cases h;rw[hg]
 rename_i g want hg;rw[hg];simp only;split at h
 .cases h
 rename_i d hd;simp only[hd];split at h
 .rename_i e b xs2 he;cases h;have:=hc.1;subst this;simp[he]
 .rename_i he;cases h;simp[he]
 cases h
def te(rm:List Nat)(tm:List (Nat×PV))(Z:List (Nat×Blk)):List (Nat×Blk)->Bool
 |[]=>true
 |(l,_)::r=>(Z2t rm l||jo l tm Z)&&te rm tm Z r
def Z22{rm:List Nat}:∀{news:List (Nat×Blk)},te rm tm Z news=true->∀l x,(l,x)∈news->l∉rm->(∀i q,get tm i=some q->q.has l=false)/\(∀m y,get Z m=some y->m≠l/\y.has l=false)
 |[],_,l,x,hm,_=>by cases hm
 |(m,y)::r,h,l,x,hm,hr=>by
  simp only[te,aO,ic]at h;rcases cm.1 hm with hm|hm
  .cases hm;rcases h.1 with h1|h1
   .exact absurd (u0.1 h1) hr
   exact tc h1
  exact Z22 h.2 l x hm hr
def dstN(o:Oper):Nat:=match o.dst with|some d=>d|none=>1000000
def D3(P:Program)(T:TS)(ops:Array Oper)(o:Oper)(xs:List Orc)(st:St):Es:=
 match evAt (some (dstN o)) xs st with
 |some (ps0,xs0,st0)=>
  match xM ops st0.tm o xs0 with
  |some (ps1,xs1,true)=>
   match wy P T o st0.tm st0.Z xs1 with
   |some (ps2,xs2,x)=>
    match o.dst with
    |some d=>bif Nat.blt d st0.n&&te x.rm st0.tm st0.Z x.s.news then some (ps0++(ps1++ps2),xs2,⟨st0.n,put st0.tm d x.s.p,x.s.news++bp x.rm st0.Z⟩)else none
    |none=>bif te x.rm st0.tm st0.Z x.s.news then some (ps0++(ps1++ps2),xs2,⟨st0.n,st0.tm,x.s.news++bp x.rm st0.Z⟩)else none
   |none=>
    match evUp T o st0 xs1 with
    |some (ps2,xs2,st2)=>some (ps0++(ps1++ps2),xs2,st2)
    |none=>none
  |some (ps1,xs1,false)=>
   match o.dst with
   |some d=>bif Nat.blt d st0.n then some (ps0++ps1,xs1,⟨st0.n,put st0.tm d (.tup []),st0.Z⟩)else none
   |none=>some (ps0++ps1,xs1,st0)
  |none=>none
 |none=>none
def ZzB(hT:TOK P T){ops:Array Oper}{R:St->Prop}{l:List Oper}(h:D3 P T ops o xs st=some (ps,xs',st'))(hc:aM ps)(hk:cG P ops R l st'):cG P ops R (o::l) st:=by
 unfold D3 at h;split at h
 .rename_i ps0 xs0 st0 h0;suffices hs:aM ps0/\cG P ops R (o::l) st0 from cG.weaken (Vy h0 hs.1) hs.2
  split at h
  .rename_i ps1 xs1 h1;split at h
   .rename_i ps2 xs2 s h2;split at h
    .rename_i d hd;have hbh:=bM h;clear h;obtain⟨hb,h⟩:=hbh;simp only[aO,iK]at hb;cases h;obtain⟨c0,c1⟩:=Z5.1 hc;obtain⟨c1,c2⟩:=Z5.1 c1;refine⟨c0,cG.step (mW h1 c1) ?_ hk⟩;intro G a w K Q hr hK;refine D4 hT h2 c2 G st0.n st0.tm st0.Z a w K Q (λ_ _ _ h=>h) (λ_ _=>rfl) (Z22 hb.2) hr ?_;rintro v w' ⟨β,hβ,hv⟩;exact hK _ _ ⟨β,by rw[hd];exact hβ.put hb.1 hv⟩
    rename_i hd;have hbh:=bM h;clear h;obtain⟨hb,h⟩:=hbh;cases h;obtain⟨c0,c1⟩:=Z5.1 hc;obtain⟨c1,c2⟩:=Z5.1 c1;refine⟨c0,cG.step (mW h1 c1) ?_ hk⟩;intro G a w K Q hr hK;refine D4 hT h2 c2 G st0.n st0.tm st0.Z a w K Q (λ_ _ _ h=>h) (λ_ _=>rfl) (Z22 hb) hr ?_;rintro v w' ⟨β,hβ,hv⟩;exact hK _ _ ⟨β,by rw[hd];exact hβ⟩
   split at h
   .rename_i ps2 xs2 st2 h2;cases h;obtain⟨c0,c1⟩:=Z5.1 hc;obtain⟨c1,c2⟩:=Z5.1 c1;exact⟨c0,cG.step (mW h1 c1) (ZzA hT h2 c2) hk⟩
   cases h
  .rename_i ps1 xs1 h1;split at h
   .rename_i d hd;have hbh:=bM h;clear h;obtain⟨hb,h⟩:=hbh;simp only[iK]at hb;cases h;obtain⟨c0,c1⟩:=Z5.1 hc;exact⟨c0,cG.skip hd hb (mW h1 c1) hk⟩
   rename_i hd;cases h;obtain⟨c0,c1⟩:=Z5.1 hc;exact⟨c0,cG.skipNone hd (mW h1 c1) hk⟩
  cases h
 cases h
def pd(P:Program)(T:TS)(ops:Array Oper):List Oper->List Orc->St->Es
 |[],xs,st=>some ([],xs,st)
 |o::l,xs,st=>
  match D3 P T ops o xs st with
  |some (ps,xs1,st1)=>
   match pd P T ops l xs1 st1 with
   |some (qs,xs2,st2)=>some (ps++qs,xs2,st2)
   |none=>none
  |none=>none
def D5(hT:TOK P T){ops:Array Oper}{R:St->Prop}:∀(l:List Oper) {xs xs':List Orc} {st st':St} {ps:List Prop},pd P T ops l xs st=some (ps,xs',st')->aM ps->R st'->cG P ops R l st
 |[],xs,xs',st,st',ps,h,_,hr=>by simp only[pd,aB,bJ]at h;rw[<- h.2.2]at hr;exact cG.nil hr
 |o::l,xs,xs',st,st',ps,h,hc,hr=>by
  simp only[pd]at h;split at h
  .rename_i ps1 xs1 st1 h1;split at h
   .rename_i qs xs2 st2 h2;cases h;obtain⟨c1,c2⟩:=Z5.1 hc;exact ZzB hT h1 c1 (D5 hT l h2 c2 hr)
   cases h
  cases h
structure D6 where
 ps:List Prop
 xs:List Orc
 plan:List (Option Stm)
 rest:List Oper
 tm:List (Nat×PV)
 Z:List (Nat×Blk)
def xN(n:Nat):Option Nat->Bool
 |some d=>Nat.blt d n
 |none=>true
def ZzC{d:Option Nat}(h:xN n d=true):∀e,d=some e->e<n:=by rintro e rfl;simpa only[xN,iK]using h
def jq(P:Program)(T:TS)(ops:Array Oper)(n:Nat):List Oper->List Orc->List (Nat×PV)->List (Nat×Blk)->D6
 |[],xs,tm,Z=>⟨[],xs,[],[],tm,Z⟩
 |o::l,xs,tm,Z=>
  bif xN n o.dst then
   match xM ops tm o xs with
   |some (ps1,xs1,true)=>
    match wy P T o tm Z xs1 with
    |some (ps2,xs2,x)=>
     match jq P T ops n l xs2 (iJ tm o.dst x.s.p) (x.s.news++bp x.rm Z)with
     |⟨ps,xs,plan,rest,tm,Z⟩=>⟨ps1++(ps2++ps),xs,some x::plan,rest,tm,Z⟩
    |none=>⟨[],xs,[],o::l,tm,Z⟩
   |some (ps1,xs1,false)=>
    match jq P T ops n l xs1 (iJ tm o.dst (.tup [])) Z with
    |⟨ps,xs,plan,rest,tm,Z⟩=>⟨ps1++ps,xs,none::plan,rest,tm,Z⟩
   |none=>⟨[],xs,[],o::l,tm,Z⟩
  else⟨[],xs,[],o::l,tm,Z⟩
def D7(hT:TOK P T){ops:Array Oper}:∀(l:List Oper) (xs:List Orc) (tm:List (Nat×PV)) (Z:List (Nat×Blk)),aM (jq P T ops n l xs tm Z).ps ->
 ∃pre,l=pre++(jq P T ops n l xs tm Z).rest/\eC P ops n pre (jq P T ops n l xs tm Z).plan tm Z /\
  fu pre (jq P T ops n l xs tm Z).plan tm=(jq P T ops n l xs tm Z).tm/\gm (jq P T ops n l xs tm Z).plan Z=(jq P T ops n l xs tm Z).Z
 |[],xs,tm,Z,_=>⟨[],rfl,ae,rfl,rfl⟩
 |o::l,xs,tm,Z,hc=>by
  have triv:∀r:D6,r=⟨[],xs,[],o::l,tm,Z⟩->∃pre,o::l=pre++r.rest/\eC P ops n pre r.plan tm Z/\fu pre r.plan tm=r.tm/\gm r.plan Z=r.Z:=by rintro r rfl;exact⟨[],rfl,ae,rfl,rfl⟩
  rw[jq]at hc⊢;cases hd:xN n o.dst with
  |false=>exact triv _ rfl
  |true=>
   have hdn:=ZzC hd;simp only[hd,aD]at hc⊢;split at hc
   .rename_i ps1 xs1 hg;split at hc
    .rename_i ps2 xs2 s h2;obtain⟨c1,c2⟩:=Z5.1 hc;obtain⟨c2,c3⟩:=Z5.1 c2;obtain⟨pre,h1,h3,h4,h5⟩:=D7 hT l xs2 (iJ tm o.dst s.s.p) (s.s.news++bp s.rm Z) c3;refine⟨o::pre,by rw[gn,<- h1],?_,?_,?_⟩
     .simp only[eC];exact⟨hdn,mW hg c1,λs' hs'=>by cases hs';exact D4 hT h2 c2,h3⟩
     .simp only[fu];exact h4
     simp only[gm];exact h5
    exact triv _ rfl
   .rename_i ps1 xs1 hg;obtain⟨c1,c3⟩:=Z5.1 hc;obtain⟨pre,h1,h3,h4,h5⟩:=D7 hT l xs1 (iJ tm o.dst (.tup [])) Z c3;refine⟨o::pre,by rw[gn,<- h1],?_,?_,?_⟩
    .simp only[eC];exact⟨hdn,mW hg c1,(λs' hs'=>by cases hs'),h3⟩
    .simp only[fu];exact h4
    simp only[gm];exact h5
   exact triv _ rfl
def Vz(P:Program)(T:TS)(ops:Array Oper)(st:St)(r:D6):Es:=
 bif kP ops r.plan st.tm st.Z then
  match pd P T ops r.rest r.xs ⟨st.n,r.tm,r.Z⟩ with
  |some (qs,xs2,st2)=>some (r.ps++qs,xs2,st2)
  |none=>none
 else none
def D8(P:Program)(T:TS)(id:Nat)(ops:Array Oper)(draw:Bool)(xs:List Orc)(st:St):Es:=
 bif draw then
  match evAt (some id) xs st with
  |some (ps0,xs0,st0)=>
   match Vz P T ops st0 (jq P T ops st0.n ops.toList xs0 st0.tm st0.Z)with
   |some (ps,xs,st)=>some (ps0++ps,xs,st)
   |none=>none
  |none=>none
 else pd P T ops ops.toList xs st
def ZzD(hm:P.follows .mixedOrders=true)(hT:TOK P T){ops:Array Oper}{draw:Bool}{id:Nat}{Q:Exit->St->Prop}(h:D8 P T id ops draw xs st=some (ps,xs',st'))(hc:aM ps)(hq:Q .normal st') :
 PW P (.region id ops draw) Q st:=by
 unfold D8 at h;cases draw with
 |false=>
  simp only[aE]at h;exact PW.region (D5 hT _ h hc hq)
 |true=>
  simp only[aD]at h;split at h
  .rename_i ps0 xs0 st0 h0;split at h
   .rename_i ps1 xs1 st1 h1;cases h;obtain⟨c0,c1⟩:=Z5.1 hc;refine PW.weaken (Vy h0 c0) ?_;unfold Vz at h1;have hbh:=bM h1;clear h1;obtain⟨hb,h1⟩:=hbh;split at h1
    .rename_i qs xs2 st2 h2;cases h1;obtain⟨c1,c2⟩:=Z5.1 c1;obtain⟨pre,e1,e2,e3,e4⟩:=D7 hT ops.toList xs0 st0.tm st0.Z c1;exact PW.region_draw hm _ pre _ e1 e2 hb (by rw[e3,e4];exact D5 hT _ h2 c2 hq)
    cases h1
   cases h
  cases h
end
end Go.PW
namespace Go.PW
open Go.RowKit
variable {P:Program} {c:Code} {Q:Exit->St->Prop} {st st':St} {xs:List Orc} {ps:List Prop} {n:Nat} {rs:List RV} {res:PV}
inductive Kf where
 |seq (c:Code)
 |blk (id:Nat)
 |loop (c:Code)
 |scp
inductive Cfg where
 |code (c:Code) (K:List Kf)
 |head (c:Code) (K:List Kf)
 |done (e:Exit)
def PWL(P:Program)(c:Code)(Q:Exit->St->Prop)(st:St):Prop:=∀G a w,Rel G st a w->∀b k cs,∃e a' w',(∃st',Q e st'/\Rel G st' a' w')/\Arrives P (lone (b.at a (.code c :: .inLoop c::k)) cs w) b k cs e a' w'
def PW.loopHead(h:PWL P c Q st):PW P (.loop c) Q st:=by intro G a w hr b k cs;obtain⟨e,a',w',hq,harr⟩:=h G a w hr b k cs;exact⟨e,a',w',hq,.of_steps (.one step_loop) harr⟩
def PWL.round(h:PW P c (Z2u (PWL P c Q) Q) st):PWL P c Q st:=by
 intro G a w hr b k cs;obtain⟨e,a₁,w₁,⟨st',hq,hr'⟩,harr⟩:=h G a w hr b (.inLoop c::k) cs;cases e with
 |normal=>
  obtain⟨e₂,a₂,w₂,hq₂,harr₂⟩:=hq G a₁ w₁ hr' b k cs;exact⟨e₂,a₂,w₂,hq₂,.of_steps (Steps.trans harr (.one step_inLoop)) harr₂⟩
 |exit id=>exact⟨_,a₁,w₁,⟨st',hq,hr'⟩,.pass (x :=.inLoop c) rfl (λ_ _ =>.inl ay) harr⟩
 |goto l=>exact⟨_,a₁,w₁,⟨st',hq,hr'⟩,.pass (x :=.inLoop c) rfl (λ_ _ =>.inl ay) harr⟩
 |ret=>exact⟨_,a₁,w₁,⟨st',hq,hr'⟩,.pass (x :=.inLoop c) rfl (λ_ _ =>.inl ay) harr⟩
 |panic ch=>exact⟨_,a₁,w₁,⟨st',hq,hr'⟩,.pass (x :=.inLoop c) rfl (λ_ _ =>.inl ay) harr⟩
 |outgrown=>exact⟨_,a₁,w₁,⟨st',hq,hr'⟩,.pass (x :=.inLoop c) rfl (λ_ _ =>.inl ay) harr⟩
def post(P:Program):List Kf->(Exit->St->Prop)->Exit->St->Prop
 |[],R=>R
 |.seq c::K,R=>Z2u (PW P c (post P K R)) (post P K R)
 |.blk id::K,R=>Z2p id (post P K R)
 |.loop c::K,R=>Z2u (PWL P c (post P K R)) (post P K R)
 |.scp::K,R=>NoGo (post P K R)
def Cfg.holds(P:Program)(R:Exit->St->Prop):Cfg->St->Prop
 |.code c K,st=>PW P c (post P K R) st
 |.head c K,st=>PWL P c (post P K R) st
 |.done e,st=>R e st
def mi(id:Nat):List Kf->Option (List Kf)
 |[]=>none
 |.blk i::K=>bif Nat.beq i id then some K else mi id K
 |_::K=>mi id K
def vF{R:Exit->St->Prop}{id:Nat}:∀{K K':List Kf},mi id K=some K'->post P K' R .normal st->post P K R (.exit id) st
 |[],K',h,_=>dw
 |.blk i::K,K',h,hp=>by
  simp only[mi]at h;simp only[post,Z2p];cases hb:Nat.beq i id with
  |true=>have:i=id:=(ba _ _).1 hb;subst this;simp only[hb,aD,aB]at h;subst h;simpa using hp
  |false=>
   simp only[hb,aE]at h;have hne:¬id=i:=λe=>zL
   simp only[hne,ft];exact vF h hp
 |.seq c::K,K',h,hp=>Of
 |.loop c::K,K',h,hp=>Of
 |.scp::K,K',h,hp=>by simp only[mi]at h;simp only[post,NoGo];exact vF h hp
def vG{R:Exit->St->Prop}:∀{K:List Kf},R .ret st->post P K R .ret st
 |[],h=>h
 |.blk i::K,h=>by simp only[post,Z2p];exact vG h
 |.seq c::K,h=>Og
 |.loop c::K,h=>Og
 |.scp::K,h=>by simp only[post,NoGo];exact vG h
abbrev Er:=Option (List Prop×Cfg×St)
def ahead(ps:List Prop):Er->Er
 |some (qs,g,st)=>some (ps++qs,g,st)
 |none=>none
section
variable {P:Program} {T:TS} {R:Exit->St->Prop}
def ZiX(hw:Wk st st')(h:PWL P c Q st'):PWL P c Q st:=λG a w hr=>h G a w (hw G a w hr)
def eD(R:Exit->St->Prop):Exit->St->Prop:=λe st=>∃st',Wk st st'/\R e st'
def PW.b9(h:PW P c (eD R) st):PW P c R st:=by intro G a w hr;refine rY (h G a w hr) ?_;rintro e a' w' ⟨st',⟨st2,hw,hq⟩,hr'⟩;exact⟨st2,hq,hw _ _ _ hr'⟩
def nav:List Nat->Code->List Kf->Option Cfg
 |[],.loop c,K=>some (.head c K)
 |[],c,K=>some (.code c K)
 |d::ds,c,K=>
  match c with
  |.seq a b=>bif Nat.beq d 0 then nav ds a (.seq b::K)else nav ds b K
  |.cond _ a b=>bif Nat.beq d 2 then nav ds a K else nav ds b K
  |.block id body=>nav ds body (.blk id::K)
  |.loop body=>nav ds body (.loop body::K)
  |.scope body=>nav ds body (.scp::K)
  |_=>none
def AN(rs:List RV)(st:St):Option (List Prop×PV):=
 match Z5e st rs with
 |some [p]=>cE st.Z p
 |some ps=>match fA st.Z ps with|some (cs,ds)=>some (cs,.tup ds)|none=>none
 |none=>none
def ZiY(h:AN rs st=some (ps,res))(hc:aM ps):rZ rs [] res st:=by
 unfold AN at h;split at h
 .rename_i p hp;exact⟨[p],hp,iB.nil _,AO (λ_=>rfl) h hc⟩
 .rename_i qs hn hq;split at h
  .rename_i cs ds hd;cases h;refine⟨qs,hq,iB.nil _,?_⟩;unfold vH;split
   .rename_i p;exact(hn p rfl).elim
   exact⟨ds,rfl,mj (λ_=>rfl) hd hc⟩
  cases h
 cases h
mutual
def Frz.refl{Z Z':List (Nat×Blk)}:∀p:PV,Frz Z Z' p p
 |.t _=>ml
 |.nils=>ml
 |.osl _ _=>ml
 |.bptr _ _=>ml
 |.rptr _ _ _ _=>ml
 |.vptr _=>ml
 |.agg cs=>AP
 |.tup cs=>AP
 |.fn _ cs=>AP
 |.own _ _=>ml
def aZ.refl{Z Z':List (Nat×Blk)}:∀ps:List PV,aZ Z Z' ps ps
 |[]=>by simp[aZ]
 |p::ps=>by simp only[aZ];exact⟨p,ps,rfl,Frz.refl p,aZ.refl ps⟩
end
def AQ(rs:List RV)(ls:List Nat)(st:St):Option (List (Nat×Blk)×PV):=
 match gu st.Z ls,Z5e st rs with
 |some Z',some [p]=>some (Z',p)
 |some Z',some ps=>some (Z',.tup ps)
 |_,_=>none
def ZiZ{ls:List Nat}{Z':List (Nat×Blk)}(h:AQ rs ls st=some (Z',res)):rZ rs Z' res st:=by
 have hsub:∀{Z':List (Nat×Blk)},gu st.Z ls=some Z'->iB st.Z Z':=λhp l o ho=>⟨o,jL hp l o ho,by cases o with
  |row k es=>rfl
  |mat k q es=>rfl
  |map ag es=>rfl
  |prow k i es cs=>exact⟨cs,rfl,aZ.refl cs⟩
  |box cs=>exact⟨cs,rfl,aZ.refl cs⟩⟩
 unfold AQ at h;split at h
 .rename_i s2 p hσ hp;simp only[aB,bJ]at h;obtain⟨rfl,rfl⟩:=h;exact⟨[p],hp,hsub hσ,Frz.refl p⟩
 .rename_i s2 qs hn hσ hq;simp only[aB,bJ]at h;obtain⟨rfl,rfl⟩:=h;refine⟨qs,hq,hsub hσ,?_⟩;unfold vH;split
  .rename_i p;exact(hn p rfl).elim
  exact⟨qs,rfl,aZ.refl qs⟩
 cases h
end
end Go.PW
namespace Go.PW
open Go.RowKit
variable {S R α β:Type} {C:Prop} {i l h m c:Int} {b:Nat} {P:Program} {f:FuncId} {res q:PV} {Z σ1:List (Nat×Blk)} {args:List PV} {s:List UInt8}
def ij(step:S->Option (S⊕R)):Nat->S->Option R
 |0,_=>none
 |n+1,s=>
  match step s with
  |none=>none
  |some (.inl s')=>ij step n s'
  |some (.inr r)=>some r
def A1{step:S->Option (S⊕R)}:∀{n m:Nat} {s:S} {r:R},n<=m->ij step n s=some r->ij step m s=some r
 |0,m,s,r,_,h=>dw
 |n+1,0,s,r,hl,h=>a8
 |n+1,m+1,s,r,hl,h=>by
  simp only[ij]at h⊢;split at h
  .cases h
  .exact A1 O h
  exact h
open Classical in
noncomputable def runC(step:S->Option (S⊕R))(s:S):Option R:=if h:∃r,∃n,ij step n s=some r then some (Classical.choose h)else none
def vP{step:S->Option (S⊕R)}{s:S}{r:R}:runC step s=some r↔∃n,ij step n s=some r:=by
 unfold runC;constructor
 .intro h;split at h
  .rename_i hx;cases h;exact OE hx
  cases h
 rintro⟨n,hn⟩;have hx:∃r,∃n,ij step n s=some r:=⟨r,n,hn⟩;rw[iH hx];obtain⟨m,hm⟩:=OE hx;have h1:=A1 (Nat.le_max_left n m) hn;have h2:=A1 (Nat.le_max_right n m) hm;rw[<- h2,h1]
def OF(step:S->Option (S⊕R))(s:S):runC step s=match step s with
 |none=>none
 |some (.inl s')=>runC step s'
 |some (.inr r)=>some r:=by
 apply Option.ext;intro r;rw[vP];constructor
 .rintro ⟨n,hn⟩;cases n with
  |zero=>cases hn
  |succ n=>
   simp only[ij]at hn;split at hn
   .cases hn
   .exact vP.2 ⟨n,hn⟩
   exact hn
 intro h;split at h
 .cases h
 .rename_i s' hs;obtain⟨n,hn⟩:=vP.1 h;exact⟨n+1,by simp only[ij,hs];exact hn⟩
 rename_i r' hs;exact⟨1,by simp only[ij,hs];exact h⟩
noncomputable def goO(step:S->Option (S⊕R))(n:Nat):S->Option R⊕S:=Nat.rec (motive:=λ_=>S->Option R⊕S) (λs =>.inr s) (λ_ ih s=>match step s with|none =>.inl none|some (.inl s')=>ih s'|some (.inr r) =>.inl (some r)) n
def OG{step:S->Option (S⊕R)}:∀(n:Nat) (s:S),(match goO step n s with|.inl o=>o|.inr s'=>runC step s')=runC step s
 |0,s=>rfl
 |n+1,s=>by
  rw[OF];show(match(match step s with|none=>Sum.inl none|some (.inl s')=>goO step n s'|some (.inr r) =>.inl (some r))with|.inl o=>o|.inr s'=>runC step s')=_;cases step s with
  |none=>rfl
  |some y=>
   cases y with
   |inl s'=>exact OG n s'
   |inr r=>rfl
noncomputable def bZ(step:S->Option (S⊕R))(s:S):Option R:=
 match goO step 1000000000000 s with
 |.inl o=>o
 |.inr s'=>runC step s'
def A9(step:S->Option (S⊕R))(s:S):bZ step s=runC step s:=OG _ s
def ZkR{step:S->Option (S⊕R)}{s:S}{r:R}:bZ step s=some r↔∃n,ij step n s=some r:=by rw[A9];exact vP
def Ba(step:S->Option (S⊕R))(s:S):bZ step s=match step s with
 |none=>none
 |some (.inl s')=>bZ step s'
 |some (.inr r)=>some r:=by
 rw[A9,OF];cases step s with
 |none=>rfl
 |some y=>cases y with
  |inl s'=>exact(A9 step s').symm
  |inr r=>rfl
def jN{step:S->Option (S⊕R)}{s s':S}(h:step s=some (.inl s')):bZ step s=bZ step s':=by rw[Ba,h]
def fc{step:S->Option (S⊕R)}{s:S}{r:R}(h:step s=some (.inr r)):bZ step s=some r:=by rw[Ba,h]
noncomputable def dh(step:S->Option (S⊕R)):S⊕R->Option R
 |.inl s=>bZ step s
 |.inr r=>some r
def idx? (xs:List α) (i:Int):Option α:=if 0<=i then xs[i.toNat]? else none
def app? (bytes:Nat) (xs ys:List α):Option (List α):=if(xs.length+ys.length)*bytes<=140737488355328/\xs.length+ys.length<=9223372036854775807 then some (xs++ys)else none
def ok? (b:Bool):Option Unit:=if b then some ()else none
def OH(f:α->β)(xs:List α):(((xs.map f).length:Nat):Int)=(xs.length:Int):=by rw[cN]
def all_map(f:α->List aa)(k:Nat)(h:∀x,(f x).length=k)(xs:List α):∀el,el∈xs.map f->el.length=k:=by intro el hel;obtain⟨x,_,rfl⟩:=iL.1 hel;exact h x
def jh{xs:List α}{x:α}(h:idx? xs i=some x):0<=i:=by
 unfold idx? at h;split at h
 .assumption
 cases h
def mr{xs:List α}{x:α}(f:α->β)(h:idx? xs i=some x):(xs.map f)[i.toNat]?=some (f x):=by
 unfold idx? at h;split at h
 .simp [h]
 cases h
def kY{xs:List α}{x:α}(f:α->β)(h:idx? xs i=some x):i<((xs.map f).length:Nat):=by
 unfold idx? at h;split at h
 .have:=(aL.1 h).1;rw[cN];omega
 cases h
def Bb{xs ys zs:List α}(f:α->β)(h:app? b xs ys=some zs):xs.map f++ys.map f=zs.map f:=by
 unfold app? at h;split at h
 .cases h;simp
 cases h
def OI{ys zs:List α}(f:α->β)(h:app? b [] ys=some zs):ys.map f=zs.map f:=by simpa using Bb f h
def OJ{xs ys zs:List α}(f:α->β)(h:app? b xs ys=some zs):(zs.map f).length<=9223372036854775807:=by
 unfold app? at h;split at h
 .cases h;simp;omega
 cases h
def Bc{xs ys zs:List α}(f:α->β)(h:app? b xs ys=some zs):(zs.map f).length*b<=140737488355328:=by
 unfold app? at h;split at h
 .cases h;simp;omega
 cases h
def ZkS{b:Bool}{u:Unit}(h:ok? b=some u):b=true:=by
 unfold ok? at h;split at h
 .assumption
 cases h
def ZkT{p:Prop} [Decidable p] {u:Unit} (h:ok? (decide p)=some u):p:=j7 (ZkS h)
def slice? (xs:List α) (l h:Int):Option (List α):=if 0<=l/\l<=h/\h<=xs.length then some ((xs.take h.toNat).drop l.toNat)else none
def copy? (dst src:List α):Option (List α):=if src.length<=dst.length then some (src++dst.drop src.length)else none
def make? (bytes:Nat) (z:α) (m c:Int):Option (List α):=if 0<=m/\m<=c/\(bytes:Int)*c<=281474976710656/\c<=9223372036854775807 then some (List.replicate m.toNat z)else none
def OL{xs zs:List α}(e:slice? xs l h=some zs):0<=l:=by
 unfold slice? at e;split at e
 .rename_i c;exact c.1
 cases e
def Bd{xs zs:List α}(e:slice? xs l h=some zs):l<=h:=by
 unfold slice? at e;split at e
 .rename_i c;exact c.2.1
 cases e
def OM{xs zs:List α}(f:α->β)(e:slice? xs l h=some zs):h<=((xs.map f).length:Nat):=by
 unfold slice? at e;split at e
 .rename_i c;rw[cN];exact c.2.2
 cases e
def Be{xs zs:List α}(f:α->β)(e:slice? xs l h=some zs):((xs.map f).take h.toNat).drop l.toNat=zs.map f:=by
 unfold slice? at e;split at e
 .cases e;simp[pA,lF]
 cases e
def ZkU{xs zs:List α}(f:α->β)(e:slice? xs l xs.length=some zs):l<=((xs.map f).length:Nat):=by rw[cN];exact Bd e
def ZkV{xs zs:List α}(f:α->β)(e:slice? xs l xs.length=some zs):((xs.map f).take (((xs.map f).length:Nat):Int).toNat).drop l.toNat=zs.map f:=by rw[show(((xs.map f).length:Nat):Int)=(xs.length:Int) by rw[cN]];exact Be f e
def kZ{z:α}{zs:List α}(e:make? b z m c=some zs):0<=m/\m<=c/\(b:Int)*c<=281474976710656/\c<=9223372036854775807:=by
 unfold make? at e;split at e
 .assumption
 cases e
def ON{z:α}{zs:List α}(f:α->β)(e:make? b z m c=some zs):m.toNat=(zs.map f).length:=by
 unfold make? at e;split at e
 .cases e;simp
 cases e
def Bf{z:α}{zs:List α}(f:α->β)(e:make? b z m c=some zs):List.replicate (zs.map f).length (f z)=zs.map f:=by
 unfold make? at e;split at e
 .cases e;simp
 cases e
def ZkW(f:α->β){xs:List α}(h:xs≠[]):xs.map f≠[]:=iU
def FnG.split0{es:List (List aa)}{rest:List PV}{Z':List (Nat×Blk)}(h1:es≠[]->FnG P f Z (.t (.sl es)::rest) Z' res)(h2:es=[]->∀a c,FnG P f Z (.t (.con (.slice a 0 c))::rest) Z' res):FnG P f Z (.t (.sl es)::rest) Z' res:=by
 by_cases he:es=[]
 .refine⟨(h2 he none 0).1,λA β w vals hl hr=>?_⟩;have hv:=(hr.tm 0 (.t (.sl es)) (by simp[idx,PW.get])).2;subst he;simp only[VR,az]at hv;obtain⟨a,cap,hv,_⟩:=hv;refine(h2 rfl a cap).2 A β w vals hl ?_
  exact { defers:=hr.defers,sz:=hr.sz,base:=hr.base,os:=hr.os,tape:=hr.tape,output:=hr.output,old:=hr.old,A:=hr.A,gl:=hr.gl,inj:=hr.inj,sep:=hr.sep,fix:=hr.fix,row0:=hr.row0,blk:=hr.blk,
          tm:=λi p hp=>by
           by_cases hi:i=0
           .subst hi;simp only[idx,PW.get,Nat.beq_eq,aD,aB]at hp;have hp:PV.t (.con (.slice a 0 cap))=p:=by simpa using hp
            subst hp;exact⟨by simp,by simp only[VR,az];exact⟨hv,rfl⟩⟩
           refine hr.tm i p ?_;simp only[idx,PW.get,e9 (ec hi),aE]at hp⊢;exact hp }
 exact h1 he
def set? (xs:List α) (i:Int) (x:α):Option (List α):=if 0<=i/\i.toNat<xs.length then some (xs.set i.toNat x)else none
def set2? (z0 xs:List α) (i:Int) (x:α):Option (List α):=if xs.length=z0.length then set? xs i x else none
def mu{z0 z z2:List α}{x:α}(h:set2? z0 z i x=some z2):z.length=z0.length/\set? z i x=some z2:=by
 unfold set2? at h;split at h
 .rename_i e;exact⟨e,h⟩
 cases h
def OO{z z2:List α}{x':α}(f:α->β)(h:set? z i x'=some z2):(List.map f z2)[i.toNat]?=some (f x'):=by
 unfold set? at h;split at h
 .rename_i c;cases h;simp[c.2]
 cases h
def Bg{z z2:List α}{x x':α}{q:Nat}{ts:List aa}(f:α->List aa)(h:set? z i x'=some z2)(hs:splice (f x) q ts=f x'):(List.map f z).set i.toNat (splice (f x) q ts)=List.map f z2:=by
 unfold set? at h;split at h
 .cases h;rw[hs,r6]
 cases h
def OP{z z2:List α}{x':α}(f:α->β)(h:set? z i x'=some z2):(List.map f z).set i.toNat (f x')=List.map f z2:=by
 unfold set? at h;split at h
 .cases h;rw[r6]
 cases h
def mv{z z2:List α}{x':α}(f:α->β)(h:set? z i x'=some z2):(List.map f z).length=(List.map f z2).length:=by
 unfold set? at h;split at h
 .cases h;simp
 cases h
def oy(f:α->List aa)(h:∀x,(f x).all aa.scal=true)(z:List α):∀el,el∈List.map f z->∀x,x∈el->aa.scal x=true:=by intro el hel x hx;obtain⟨y,_,rfl⟩:=iL.1 hel;exact bO.1 (h y) x hx
def VRs.of_getD{c:Ctx}:∀{args:List PV} {vals:List Value},vals.length=args.length->(∀i p,args[i]?=some p->VR c p (vals.getD i undef))->VRs c args vals
 |[],[],_,_=>by simp[VRs]
 |p::args,v::vals,hl,h=>by simp only[VRs];exact⟨v,vals,rfl,by simpa using h 0 p rfl,VRs.of_getD uZ (λi q hq=>by simpa using h (i+1) q vQ)⟩
 |[],_::_,hl,_=>qV
 |_::_,[],hl,_=>qV
def FnG.ofW(hok:FnOk P f)
 (h:∀(w:World) (vals:List Value),r7 w->(∃c:Ctx,VRs c args vals)->Calls P f vals.toArray w λe w'=>∃v,e = .returned v/\w'=w/\∀c,VR c res v):Fn P f args res:=by
 refine⟨hok,λA β w vals hlen hr=>?_⟩;have hv:VRs (ctx (cU β [] A w) β w []) args vals:=VRs.of_getD hlen (λi p hp=>by have:=(hr.tm i p (by rw[Z2q];simpa using hp)).2;simpa[List.getD_eq_getElem?_getD,Bh]using this);refine(h w vals hr.glw ⟨_,hv⟩).mono ?_;rintro e w' ⟨v,rfl,rfl,hres⟩;refine⟨v,β,rfl,{ defers:=rfl,sz:=by simp,base:=hr.base,os:=hr.os,tape:=hr.tape,output:=hr.output,old:=hr.old,A:=hr.A,gl:=hr.gl,inj:=hr.inj,sep:=hr.sep,fix:=hr.fix,row0:=hr.row0,blk:=hr.blk,tm:=λi p hp=>?_ }⟩;simp only[PW.get]at hp;cases hb:Nat.beq 0 i with
 |true=>have:0=i:=(ba _ _).1 hb;subst this;simp only[hb,aD,aB]at hp;subst hp;exact⟨by simp,by simpa using hres _⟩
 |false=>simp[hb]at hp
def strings_Contains(s sub:List UInt8):Option Bool:=if s.length<4294967281 then some (Lib.contains s sub)else none
def cB(b:Bool):List aa:=[.bool b]
def cI(k:IntKind)(n:Int):List aa:=[.int k n]
def cS(s:List UInt8):List aa:=[.str s]
def cL(f:α->List aa)(xs:List α):List aa:=[.sl (xs.map f)]
structure A2 (α:Type) where
 (a0 a1:α)
 deriving DecidableEq,Inhabited
structure A3 (α:Type) where
 (a0 a1 a2:α)
 deriving DecidableEq,Inhabited
structure A5 (α:Type) where
 (a0 a1 a2 a3 a4:α)
 deriving DecidableEq,Inhabited
structure A6 (α:Type) where
 (a0 a1 a2 a3 a4 a5:α)
 deriving DecidableEq,Inhabited
def A2.list(x:A2 α):List α:=[x.a0,x.a1]
def cA3(f:α->List aa)(x:A3 α):List aa:=f x.a0++(f x.a1++f x.a2)
def A3.list(x:A3 α):List α:=[x.a0,x.a1,x.a2]
def cA5(f:α->List aa)(x:A5 α):List aa:=f x.a0++(f x.a1++(f x.a2++(f x.a3++f x.a4)))
def A5.list(x:A5 α):List α:=[x.a0,x.a1,x.a2,x.a3,x.a4]
def cA6(f:α->List aa)(x:A6 α):List aa:=f x.a0++(f x.a1++(f x.a2++(f x.a3++(f x.a4++f x.a5))))
def A6.list(x:A6 α):List α:=[x.a0,x.a1,x.a2,x.a3,x.a4,x.a5]
def ZkX{k:Nat}{mid:List PV}{p:PV}(pre post:List PV)(h:dn false 1 k mid=some p):dn false 1 (pre.length+k) (pre++(mid++post))=some p:=by simp only[dn,aE]at h⊢;rw[er O,Bi,dX (aL.1 h).1];exact h
def ZkY{xs:List α}{x:α}(h:idx? xs i=some x):xs[i.toNat]?=some x:=by have:=mr id h;simpa using this
def bytes? (s:List UInt8):Option (List Int):=if s.length<=9223372036854775807 then some (s.map λb=>(b.toNat:Int))else none
def ZkZ{z:List Int}(h:bytes? s=some z):eV s=List.map (cI .u8) z:=by
 unfold bytes? at h;split at h
 .cases h;simp[eV,cI]
 cases h
def ZlA{z:List Int}(h:bytes? s=some z):s.length<=9223372036854775807:=by
 unfold bytes? at h;split at h
 .rename_i hl;exact hl
 cases h
def Z23(k:IntKind)(a b:Int):Int:=k.wrap (a*2 ^ (min b.toNat k.bits))
def shrI(k:IntKind)(a b:Int):Int:=a.fdiv (2 ^ (min b.toNat k.bits))
def eu(k:IntKind)(a b:Int):Int:=k.wrap (a.tdiv b)
def Ok(P:Program)(rs:List RV)(sr:R->List (Nat×Blk))(res:R->PV)(cfg:S->Cfg)(stf:S->PW.St)(r:R):S⊕R->Prop
 |.inl s=>(cfg s).holds P (eD (Z2x rs (sr r) (res r))) (stf s)
 |.inr r'=>r'=r
def ZlB{rs:List RV}{sr:R->List (Nat×Blk)}{res:R->PV}{cfg:S->Cfg}{stf:S->PW.St}{r:R}{step:S->Option (S⊕R)}(hstep:∀s y,step s=some y->Ok P rs sr res cfg stf r y->(cfg s).holds P (eD (Z2x rs (sr r) (res r))) (stf s)){y:S⊕R}
 (h:dh step y=some r):Ok P rs sr res cfg stf r y:=by
 have key:∀(n:Nat) (s:S),ij step n s=some r->(cfg s).holds P (eD (Z2x rs (sr r) (res r))) (stf s):=by
  intro n;induction n with
  |zero=>intro s h;cases h
  |succ n ih=>
   intro s h;simp only[ij]at h;split at h
   .cases h
   .rename_i s' hs;exact hstep s _ hs (ih s' h)
   rename_i r' hs;cases h;exact hstep s _ hs (show Ok P rs sr res cfg stf r (.inr r)from rfl)
 cases y with
 |inl s=>obtain⟨n,hn⟩:=ZkR.1 h;exact key n s hn
 |inr r'=>have:some r'=some r:=h;cases this;exact(show Ok P rs sr res cfg stf r (.inr r)from rfl)
section
variable {P:Program} {T:TS} {S R:Type} {rs:List RV} {sr:R->List (Nat×Blk)} {res:R->PV} {cfg:S->Cfg} {stf:S->PW.St} {r:R} {y:S⊕R} {g:Cfg} {st:PW.St} {C:Prop}
end
def rvOK(T:TS):List RV->Bool
 |[]=>true
 |.t _::r=>rvOK T r
 |.c _ t ag sz::r=>(match get T t with|some i=>(i.agg==ag)&&Nat.beq i.size sz|none=>false)&&rvOK T r
def Bj{T:TS}(hT:TOK P T):∀(rs:List RV),rvOK T rs=true->∀x t ag sz,RV.c x t ag sz∈rs->TyF P t ag sz
 |[],_,x,t,ag,sz,h=>dw
 |.t i::r,hb,x,t,ag,sz,h=>by
  simp only[rvOK]at hb;rcases cm.1 h with h|h
  .cases h
  exact Bj hT r hb x t ag sz h
 |.c x0 t0 ag0 sz0::r,hb,x,t,ag,sz,h=>by
  simp only[rvOK,aO]at hb;rcases cm.1 h with h|h
  .cases h;have h1:=hb.1;split at h1
   .rename_i i hi;simp only[aO,ba,lz]at h1;have:=(hT _ i hi).ty;rw[h1.1,h1.2]at this;exact this
   cases h1
  exact Bj hT r hb.2 x t ag sz h
def FnG.of_cfg {T:TS} (hT:TOK P T) {Z':List (Nat×Blk)} {fn:Func} {c:Code} (hf:P.funcs[f]? = some fn) (hb:fn.body=some c) (hname:(fn.name == "runtime.NumGoroutine")=false)
 (n:Nat) (hn:fn.ntmps=n) (hna:args.length<=n) (rs:List RV) (hres:fn.results=(rs.map RV.to).toArray) (hrv:rvOK T rs=true) (h:(Cfg.code c []).holds P (eD (Z2x rs Z' res)) ⟨n,idx 0 args,Z⟩):FnG P f Z args Z' res:=
 FnG.of_pw hf hb hname n hn hna rs hres (Bj hT rs hrv) (PW.b9 h)
def FnG.frozen(h:FnG P f [] args σ1 res)(c:C)(hq:(cE σ1 res).map (λx=>(aM x.1,x.2))=some (C,q)):Fn P f args q:=by simp only[cJ,bJ]at hq;obtain⟨⟨cs,p⟩,h1,h2,h3⟩:=hq;simp only at h2 h3;subst h3;exact h.toFn (AO (λ_=>rfl) h1 (by rw[h2];exact c))
def ZlC(pre l post:List α)(k:Nat)(hk:k<l.length)(p:α):splice (pre++(l++post)) (pre.length+k) [p]=pre++(l.set k p++post):=by unfold splice;rw[List.take_length_add_append,bw,bW,show pre.length+k+(0+1)=pre.length+(k+1) by omega,List.drop_length_add_append,vM O,Bk O,Bl,ar hk];simp
def A5.set? (x:A5 α) (i:Int) (v:α):Option (A5 α):=if 0<=i/\i<5 then(match x.list.set i.toNat v with|[a0,a1,a2,a3,a4]=>some ⟨a0,a1,a2,a3,a4⟩|_=>none)else none
def ZcR(f:α->aa){x y:A5 α}{v:α}(pre post:List PV)(h:x.set? i v=some y):(pre.length+i.toNat*1+1<=(pre++((cA5 (λa=>[f a]) x).map PV.t++post)).length)/\splice (pre++((cA5 (λa=>[f a]) x).map PV.t++post)) (pre.length+i.toNat*1) [.t (f v)]=pre++((cA5 (λa=>[f a]) y).map PV.t++post):=by
 unfold A5.set? at h;split at h
 .rename_i hi;have hl:i.toNat<(x.list.map λa=>PV.t (f a)).length:=by simp[A5.list];omega
  have e1:(cA5 (λa=>[f a]) x).map PV.t=x.list.map λa=>PV.t (f a):=rfl;have e2:(cA5 (λa=>[f a]) y).map PV.t=y.list.map λa=>PV.t (f a):=rfl;have hy:y.list=x.list.set i.toNat v:=by
   split at h
   .rename_i heq;cases h;rw[heq];rfl
   cases h
  rw[e1,e2,df,ZlC _ _ _ _ hl,hy,r6];refine⟨?_,rfl⟩;rw[bm,bm];omega
 cases h
def ZlD{x:A5 α}{v:α}(h0:0<=i)(h1:i<5):∃y,x.set? i v=some y/\y.list=x.list.set i.toNat v:=by
 have hl:(x.list.set i.toNat v).length=5:=by simp[A5.list]
 unfold A5.set?;rw[ar ⟨h0,h1⟩];generalize x.list.set i.toNat v=l at hl
 match l,hl with
 |[a0,a1,a2,a3,a4],_=>exact⟨⟨a0,a1,a2,a3,a4⟩,rfl,rfl⟩
def str? (xs:List Int):Option (List UInt8):=if xs≠[]/\∀n,n∈xs->0<=n/\n<256 then some (xs.map λn=>UInt8.ofNat n.toNat)else none
def OQ{xs:List Int}(h:str? xs=some s):eV s=List.map (cI .u8) xs/\s≠[]:=by
 unfold str? at h;split at h
 .rename_i hc;cases h;refine⟨?_,by simpa using hc.1⟩;simp only[eV,oz];refine Bm λn hn=>?_;obtain⟨h0,h1⟩:=hc.2 n hn;simp only[Function.comp,cI];have:(UInt8.ofNat n.toNat).toNat=n.toNat:=by simp;omega
  rw[this];congr 1;congr 1;omega
 cases h
def Z5l{xs zs:List UInt8}(e:slice? xs l h=some zs):0<=l/\l<=h/\h<=(xs.length:Int)/\(xs.take h.toNat).drop l.toNat=zs:=by
 unfold slice? at e;split at e
 .rename_i c;exact⟨c.1,c.2.1,c.2.2,cA e⟩
 cases e
def clr? (xs:List α) (i:Int) (z:α):Option (List α):=if 0<=i/\i<=xs.length then some (xs.take i.toNat++List.replicate (xs.length-i.toNat) z)else none
def OR{xs zs:List α}{z:α}(e:clr? xs i z=some zs):0<=i:=by
 unfold clr? at e;split at e
 .rename_i c;exact c.1
 cases e
def OS{xs zs:List α}{z:α}(f:α->β)(e:clr? xs i z=some zs):i<=((xs.map f).length:Nat):=by
 unfold clr? at e;split at e
 .rename_i c;rw[cN];exact c.2
 cases e
def ZlE{xs zs:List α}{z:α}(f:α->β)(e:clr? xs i z=some zs):(xs.map f).take i.toNat++List.replicate ((xs.map f).length-i.toNat) (f z)=zs.map f:=by
 unfold clr? at e;split at e
 .cases e;simp[lF]
 cases e
def ZlF{xs zs:List α}{z:α}(f:α->β)(e:clr? xs i z=some zs):(xs.map f).length=(zs.map f).length:=by
 unfold clr? at e;split at e
 .rename_i c;cases e;simp;omega
 cases e
def ZlG{xs zs:List α}(f:α->β)(e:slice? xs 0 i=some zs):i.toNat=(zs.map f).length:=by
 unfold slice? at e;split at e
 .rename_i c;cases e;simp;omega
 cases e
def ZlH{xs zs:List α}(f:α->β)(e:slice? xs 0 i=some zs):(xs.map f).take i.toNat=zs.map f:=Be f e
def setM? (xs:List (List α)) (i:Int) (y:List α) (j:Int) (v:α):Option (List (List α)):=some (xs.set i.toNat (y.set j.toNat v))
def ZlI{xs zs:List (List α)}{j:Int}{y:List α}{v:α}(f:α->List aa)(e:setM? xs i y j v=some zs):(xs.map (cL f)).set i.toNat [.sl ((y.map f).set j.toNat (f v))]=zs.map (cL f):=by cases e;rw[r6];show _=(xs.map (cL f)).set i.toNat [.sl ((y.set j.toNat v).map f)];rw[r6]
def ZlJ{xs zs:List (List α)}{j:Int}{y:List α}{v:α}(f:α->List aa)(e:setM? xs i y j v=some zs):(xs.map (cL f)).length=(zs.map (cL f)).length:=by cases e;simp
def OT{xs zs:List (List α)}{y:List α}(f:α->List aa)(h:app? b xs [y]=some zs):(xs.map (cL f)).length+1<=9223372036854775807/\((xs.map (cL f)).length+1)*b<=140737488355328:=by
 unfold app? at h;split at h
 .rename_i c;rw[cN];exact⟨by simpa using c.2,by simpa using c.1⟩
 cases h
end Go.PW
namespace Go.PW
open Go.RowKit
variable {H:Type}
def lx(P:Program):List Field->Nat->Nat->Bool
 |[],off,xv=>Nat.beq off xv
 |f::fs,off,xv=>Nat.beq f.offset off&&lx P fs (off+P.cellsOf f.type) xv
def jR(P:Program):Nat->TypeId->Bool
 |0,_=>false
 |d+1,t=>
  match P.underlying t with
  |some .bool=>true
  |some (.int _)=>true
  |some .string=>true
  |some (.slice e)=>jR P d e&&Nat.blt 0 (P.cellsOf e)
  |some (.struct fs)=>(fs.toList.all λf=>jR P d f.type)&&lx P fs.toList 0 (P.cellsOf t)
  |some (.array n e)=>jR P d e&&Nat.beq (n*P.cellsOf e) (P.cellsOf t)
  |_=>false
def Seq(Q:TypeId->List aa->Prop):List TypeId->List aa->Prop
 |[],ts=>ts=[]
 |t::l,ts=>∃a b,ts=a++b/\Q t a/\Seq Q l b
def WT(P:Program):Nat->TypeId->List aa->Prop
 |0,_,_=>False
 |d+1,t,ts=>
  match P.underlying t with
  |some .bool=>∃b,ts=[.bool b]
  |some (.int k)=>∃n,ts=[.int k n]/\(Lit.int k n).wf=true
  |some .string=>∃s,ts=[.str s]/\(s.length<=maxLen/\s.length<=reachBytes)
  |some (.slice e)=>∃es,ts=[.sl es]/\(es.length<=maxLen/\es.length*P.bytesOf e<=reachBytes)/\∀el∈es,WT P d e el
  |some (.struct fs)=>Seq (WT P d) (fs.toList.map (·.type)) ts
  |some (.array n e)=>Seq (WT P d) (List.replicate n e) ts
  |_=>False
def Rd(w:World):Ctx:=⟨λ_=>none,λb=>b<w.heap.size,w,[]⟩
def Yz{I:Nat->Prop}{w:World}{b k:Nat}{Q:List aa->Prop}:∀(n off:Nat),(∀i,i<n->∃ts,ts.length=k/\Z3 I w b ts (off+i*k)/\Q ts)->∃es,es.length=n/\aA I w b es off/\∀el∈es,Q el
 |0,off,_=>⟨[],rfl,ae,λ_ h=>by cases h⟩
 |n+1,off,h=>by
  obtain⟨t0,h0,hc,hq⟩:=h 0 O;obtain⟨es,h1,h2,h3⟩:=Yz (I:=I) (w:=w) (b:=b) (k:=k) (Q:=Q) n (off+k) (λi hi=>by obtain⟨ts,g1,g2,g3⟩:=h (i+1) O;exact⟨ts,g1,by rwa[show off+(i+1)*k=off+k+i*k by rw[dG,fb];omega]at g2,g3⟩);refine⟨t0::es,by simp[h1],?_,λel hel=>?_⟩
  .simp only[aA];exact⟨by simpa using hc,by rw[h0];exact h2⟩
  rcases cm.1 hel with h|h
  .subst h;exact hq
  exact h3 el h
def mapM_mem'{α β:Type}{f:α->Option β}:∀{l:List α} {xs:List β},l.mapM f=some xs->∀a∈l,∃x,f a=some x/\x∈xs
 |[],_,_,a,h=>dw
 |b::l,xs,h,a,ha=>by
  rw[k6]at h;simp only[bind,eo,pure,aB]at h;obtain⟨y,hy,ys,hys,rfl⟩:=h;rcases cm.1 ha with e|e
  .subst e;exact⟨y,hy,by simp⟩
  obtain⟨x,h1,h2⟩:=mapM_mem' hys a e;exact⟨x,h1,by simp[h2]⟩
section
variable {P:Program} {w:World}
def YA{Q:TypeId->List aa->Prop}{cs:List Value}:∀(fs:List Field) (off:Nat),lx P fs off cs.length=true->off<=cs.length ->
 (∀f∈fs,∃ts,VRs (Rd w) (ts.map .t) ((cs.drop f.offset).take (P.cellsOf f.type))/\Q f.type ts)->∃ts:List aa,VRs (Rd w) (ts.map .t) (cs.drop off)/\Seq Q (fs.map (·.type)) ts
 |[],off,h,_,_=>by simp only[lx,ba]at h;exact⟨[],by simp[VRs,h],rfl⟩
 |f::fs,off,h,hle,hf=>by
  simp only[lx,aO,ba]at h;obtain⟨h1,h2⟩:=h;obtain⟨a,ha,hq⟩:=hf f ay;rw[h1]at ha;have hle2:off+P.cellsOf f.type<=cs.length:=by
   have:∀(fs:List Field) (o:Nat),lx P fs o cs.length=true->o<=cs.length:=by
    intro fs;induction fs with
    |nil=>intro o h;simp only[lx,ba]at h;omega
    |cons g fs ih=>intro o h;simp only[lx,aO]at h;have:=ih _ h.2;omega
   exact this fs _ h2
  obtain⟨b,hb,hs⟩:=YA (Q:=Q) fs (off+P.cellsOf f.type) h2 hle2 (λg hg=>hf g (bY _ hg));refine⟨a++b,?_,a,b,rfl,hq,hs⟩;rw[fk];have:=ha.append hb;rwa[show(cs.drop off).take (P.cellsOf f.type)++cs.drop (off+P.cellsOf f.type)=cs.drop off by rw[<- hZ];exact mz _ _]at this
def YB{Q:TypeId->List aa->Prop}{cs:List Value}{e k:Nat}:∀(n off:Nat),off+n*k=cs.length ->
 (∀i,i<n->∃ts,VRs (Rd w) (ts.map .t) ((cs.drop (off+i*k)).take k)/\Q e ts)->∃ts:List aa,VRs (Rd w) (ts.map .t) (cs.drop off)/\Seq Q (List.replicate n e) ts
 |0,off,h,_=>⟨[],by simp[VRs,show off=cs.length by omega],rfl⟩
 |n+1,off,h,hf=>by
  have e1:(n+1)*k=n*k+k:=xt
  obtain⟨a,ha,hq⟩:=hf 0 O;rw[vf,c9]at ha;obtain⟨b,hb,hs⟩:=YB (Q:=Q) (cs:=cs) (e:=e) (k:=k) n (off+k) O (λi hi=>by obtain⟨ts,g1,g2⟩:=hf (i+1) O;exact⟨ts,by rwa[show off+(i+1)*k=off+k+i*k by rw[dG,fb];omega]at g1,g2⟩);refine⟨a++b,?_,a,b,rfl,hq,hs⟩;rw[fk];have:=ha.append hb;rwa[show(cs.drop off).take k++cs.drop (off+k)=cs.drop off by rw[<- hZ];exact mz _ _]at this
def ET{e:TypeId}{d:DataW H}{n:Nat}:∀{ds:List (DataW H)},d∈ds->n∈d.weights P e->n∈DataW.weightsAll P e ds
 |[],h,_=>dw
 |y::ds,h,hn=>by
  simp only[DataW.weightsAll,cb];rcases cm.1 h with h|h
  .subst h;exact .inl hn
  exact .inr (ET h hn)
def EU{t:TypeId}{d:DataW H}{n:Nat}:∀{ts:List TypeId} {ds:List (DataW H)} {i:Nat},ts[i]?=some t->ds[i]?=some d->n∈d.weights P t->n∈DataW.weightsEach P ts ds
 |[],_,_,h,_,_=>ju
 |_::_,[],_,_,h,_=>ju
 |u::ts,y::ds,0,ht,hd,hn=>by simp only[ky,aB]at ht hd;subst ht;subst hd;simp only[DataW.weightsEach,cb];exact .inl hn
 |u::ts,y::ds,i+1,ht,hd,hn=>by simp only[DataW.weightsEach,cb];exact .inr (EU (by simpa using ht) (by simpa using hd) hn)
def Z2c{enc:TypeId×Value->H}:∀(D fuel:Nat) (t:TypeId) (cs:List Value) (x:DataW H×List MemPlace),DataW.trod enc P w 0 (λ_=>true) true fuel t cs=some x->jR P D t=true->(∀n∈x.1.weights P t,n<=reachBytes) ->
 ∃ts:List aa,VRs (Rd w) (ts.map .t) cs/\WT P D t ts
 |0,_,_,_,_,_,hp,_=>by simp[jR]at hp
 |D+1,fuel,t,cs,x,h,hp,hwt=>by
  unfold jR at hp;unfold WT;cases hu:P.underlying t with
  |none=>simp[hu]at hp
  |some u=>
   simp only[hu]at hp⊢;cases u<;>simp only[eT]at hp
   case bool=>
    obtain⟨b,rfl,_⟩:=DataW.trod_bool hu h;exact⟨[.bool b],by simp[VRs,VR,az],b,rfl⟩
   case int k=>
    obtain⟨n,rfl,_,hw⟩:=DataW.trod_int hu h;exact⟨[.int k n],by simp[VRs,VR,az],n,rfl,hw⟩
   case string=>
    obtain⟨s,rfl,rfl,hl⟩:=DataW.trod_string hu h;refine⟨[.str s.data.toList],by simp[VRs,VR,az],_,rfl,by rw[kS];exact hl,hwt _ (by simp[DataW.weights])⟩
   case slice e=>
    obtain⟨hp1,hp2⟩:=DN.1 hp;rw[iK]at hp2;rcases DataW.trod_slice hu h with⟨rfl,_⟩|⟨a,len,cap,elems,rest,n,_,rfl,rfl,_,hlc,hcm,hel,hE,_⟩
    .refine⟨[.sl []],?_,[],rfl,⟨gv _,by simp⟩,λ_ h=>by cases h⟩;simp only[ck,fW,VRs,VR,az];exact⟨_,_,rfl,⟨none,0,rfl,bk _,gv _,.inl trivial⟩,rfl⟩
    by_cases h0:len=0
    .subst h0;refine⟨[.sl []],?_,[],rfl,⟨gv _,by simp⟩,λ_ h=>by cases h⟩;simp only[ck,fW,VRs,VR,az];exact⟨_,_,rfl,⟨some a,cap,rfl,hlc,hcm,.inl trivial⟩,rfl⟩
    have hwl:(elems.length+rest.length)*P.bytesOf e<=reachBytes:=hwt _ (by simp[DataW.weights,hu]);have hone:∀i,i<len->∃cs' y,w.cells? 0 (a.add (i*P.cellsOf e)) (P.cellsOf e)=some cs'/\DataW.trod enc P w 0 (λ_=>true) true n e cs'=some y/\∀m∈y.1.weights P e,m<=reachBytes:=by
     intro i hi;have:=hE i hi;have hlt:i<elems.length:=a8
     rw[bj hlt]at this;obtain⟨cs',h1,h2⟩:=eo.1 this;refine⟨cs',_,h1,h2,λm hm=>hwt m ?_⟩;simp only[DataW.weights,hu];exact bY _ (cb.2 (.inl (ET (iL.2 ⟨_,kN hlt,rfl⟩) hm)))
    have hspot:a.spot=none:=by
     obtain⟨cs',y,h1,_,_⟩:=hone 0 O;obtain⟨_,hl,hc⟩:=World.cells?_some h1;have:=hc 0 hp2;rw[bj O]at this;have e0:(a.add (0*P.cellsOf e)).add 0=a:=by simp[Addr.add]
     rw[e0]at this;unfold World.cell? at this;split at this
     .split at this
      .cases this
      rename_i hs;simpa using hs
     cases this
    obtain⟨b,off,spot⟩:=a;simp only at hspot;subst hspot;have hbl:b<w.heap.size:=by obtain⟨cs',y,h1,_,_⟩:=hone 0 O;have:=World.cells?_block h1 hp2;simpa[Addr.add]using this
    obtain⟨es,g1,g2,g3⟩:=Yz (I:=(Rd w).I) (w:=w) (b:=b) (k:=P.cellsOf e) (Q:=WT P D e) len off (λi hi=>by
     obtain⟨cs',y,h1,h2,hy⟩:=hone i hi;obtain⟨ts,ht,hw⟩:=Z2c D n e cs' y h2 hp1 hy;obtain⟨_,hl,hc⟩:=World.cells?_some h1;refine⟨ts,by have:=ht.length;simp at this;omega,ja (c:=Rd w) ht (λj v hj=>?_),hw⟩;have hjl:j<P.cellsOf e:=by rw[<- hl];exact(aL.1 hj).1
     have:=hc j hjl;rw[hQ,hQ]at this;exact this.trans hj)
    refine⟨[.sl es],?_,es,rfl,⟨by omega,c7 (gM _ O) hwl⟩,g3⟩;simp only[ck,fW,VRs,VR,az];exact⟨_,_,rfl,⟨some ⟨b,off,none⟩,cap,by rw[g1],by omega,hcm,.inr ⟨b,off,rfl,hbl,g2⟩⟩,rfl⟩
   case struct fs=>
    obtain⟨hp1,hp2⟩:=DN.1 hp;obtain⟨xs,n,_,rfl,hl,hlen,hf⟩:=DataW.trod_struct hu h;rw[<- hl]at hp2;have:=YA (Q:=WT P D) fs.toList 0 hp2 (gv _) (λf hfm=>by
     obtain⟨i,hi⟩:=List.mem_iff_getElem?.1 hfm;have hi':fs[i]?=some f:=DM
     have hlt:i<xs.length:=by rw[hlen];exact(xE.1 hi').1
     have h2:=hf i f hi';rw[bj hlt]at h2;refine Z2c D n f.type _ _ h2 (bO.1 hp1 f hfm) (λm hm=>hwt m ?_);simp only[DataW.weights,hu];exact EU (i:=i) (t:=f.type) (d:=xs[i].1) (by simp[hi]) (by simp[bj hlt]) hm)
    simpa using this
   case array n e=>
    obtain⟨hp1,hp2⟩:=DN.1 hp;cases fuel with
    |zero=>simp[DataW.trod]at h
    |succ m=>
     unfold DataW.trod at h;simp only[hu]at h;have harr:cs.length=P.cellsOf t/\∃xs,(List.range n).mapM (λi=>DataW.trod enc P w 0 (λ_=>true) true m e ((cs.drop (i*P.cellsOf e)).take (P.cellsOf e)))=some xs/\x.1 = .agg (xs.map (·.1)):=by
      split at h
      .rename_i hl;simp only[cJ]at h;obtain⟨xs,h1,h2⟩:=h;exact⟨hl,xs,h1,by rw[<- h2]⟩
      cases h
     obtain⟨hl,xs,hx,hx1⟩:=harr;have hwx:∀y∈xs,∀k∈y.1.weights P e,k<=reachBytes:=λy hy k hk=>hwt k (by rw[hx1];simp only[DataW.weights,hu];exact ET (iL.2 ⟨y,hy,rfl⟩) hk);have:=YB (w:=w) (Q:=WT P D) (cs:=cs) (e:=e) (k:=P.cellsOf e) n 0 (by rw[hl];have:=(ba _ _).1 hp2;omega) (λi hi=>by obtain⟨y,hy,hym⟩:=mapM_mem' hx i DM;rw[aN];exact Z2c D m e _ _ hy hp1 (hwx y hym));simpa using this
end
end Go.PW
namespace Go.PW
open Go.RowKit Go.ChangeShapes Go.WideShapes Go.ChangeAt
def oneT:List aa->PV
 |[x] =>.t x
 |_ =>.nils
def na(P:Program)(t:TypeId)(ts:List aa):PV:=
 match P.underlying t with
 |some (.struct _) =>.agg (ts.map .t)
 |some (.array _ _) =>.agg (ts.map .t)
 |_=>oneT ts
section
variable {H:Type} {enc:TypeId×Value->H} {P:Program} {w:World}
def ZBX{D base:Nat}{t:TypeId}{v:Value}{d:DataW H}{p:List MemPlace}(hval:Value.okWide P w .any base t v)(hd:DataW.Trod enc P w 0 (λ_=>true) true t v d p)(hp:jR P D t=true)(hwt:∀n∈d.weights P t,n<=reachBytes) :
 ∃ts,VR (Rd w) (na P t ts) v/\WT P D t ts:=by
 obtain⟨fuel,hd⟩:=hd;obtain⟨ts,hr,hw⟩:=Z2c D fuel t _ _ hd hp hwt;refine⟨ts,?_,hw⟩;unfold na;unfold Value.okWide at hval;have one:∀u,v.cells.toList=[u]->(∀cs,v ≠ .agg cs)->u=v:=by intro u hu hne;cases v<;>first|exact absurd rfl (hne _)|(simp[Value.cells]at hu;exact hu.symm)
 have key:(∀cs,v ≠ .agg cs)->(∃x,ts=[x])->VR (Rd w) (oneT ts) v:=by rintro hne ⟨x,rfl⟩;simp only[ck,fW,VRs]at hr;obtain⟨u,rest,he,hv,hrest⟩:=hr;subst hrest;have:=one u he hne;subst this;exact hv
 cases D with
 |zero=>simp[jR]at hp
 |succ D=>
  unfold WT at hw;unfold jR at hp;cases hu:P.underlying t with
  |none=>simp[hu]at hp
  |some u=>
   simp only[hu]at hp hval hw⊢;cases u<;>simp only[eT]at hp hval hw⊢
   case struct fs=>
    obtain⟨cs,rfl,_⟩:=hval;simp only[VR];exact⟨cs.toList,by simp,by simpa[Value.cells]using hr⟩
   case array n e=>
    obtain⟨cs,rfl,_⟩:=hval;simp only[VR];exact⟨cs.toList,by simp,by simpa[Value.cells]using hr⟩
   all_goals
    refine key (λcs e=>?_) ?_
    .subst e;simp[Cell.okWide,Cell.ok,hu]at hval
    first
    |(obtain⟨b,hb⟩:=hw;exact⟨_,hb⟩)
    |(obtain⟨b,hb,_⟩:=hw;exact⟨_,hb⟩)
def ZoS{f:FuncId}{qs:List PV}{W:World}{args:Array Value}(hgl:r7 W)(hf:Fn P f qs (.t (.bool true)))(hv:VRs (Rd W) qs args.toList) :
 Calls P f args W λe W'=>e = .returned (.bool true)/\Below W.heap.size W W':=by
 have:=EW hf (λb=>b<W.heap.size) (λb hb=>hb) (λg k hg=>(hgl g k hg).1) (w:=W) (vals:=args.toList) hgl hv;rw[UH]at this;refine this.mono ?_;rintro e W' ⟨v,rfl,hr,hs,hb,h1,h2,h3⟩;simp only[VR,az]at hr;subst hr;exact⟨rfl,h1,h2,h3,hs,hb⟩
end
end Go.PW
namespace Go.PW
open Go.RowKit
variable {α:Type} {k t e:Nat}
def fg{n:Int}(h0 : -9223372036854775808<=n)(h1:n<9223372036854775808):IntKind.wrap .i64 n=n:=by
 simp only[IntKind.wrap,IntKind.bits,IntKind.signed,fD,mA,gW];rcases Int.lt_or_le n 0 with h|h
 .have:n%(2 ^ 64:Int)=n+2 ^ 64:=by
   rw[<- Int.add_emod_right];exact Dc O O
  rw[this,ar O];omega
 have:n%(2 ^ 64:Int)=n:=Dc h O;rw[this,aw O]
def sG{i n:Nat}(h:i<n)(hn:n<=4611686018427387904):IntKind.wrap .i64 ((i:Int)+1)=((i+1:Nat):Int):=by rw[fg O O];omega
def gz{b:List α}{j:Nat}{x:α}(h:b[j]?=some x):idx? b (j:Int)=some x:=by unfold idx?;rw[ar O];simpa using h
def QD(b:List α){j:Nat}(h:j<b.length):idx? b (j:Int)=some b[j]:=gz (bj h)
def Cm{a b:List α}(h:(a.length+b.length)*k<=140737488355328)(hk:0<k):app? k a b=some (a++b):=by have:a.length+b.length<=(a.length+b.length)*k:=xy _ hk;unfold app?;rw[ar ⟨h,by omega⟩]
def scan{S R:Type}{step:S->Option (S⊕R)}{st:Nat->S}{bad:R}(n:Nat)(q:Nat->Bool)(h:∀i,i<n->step (st i)=some (bif q i then .inl (st (i+1))else .inr bad)) :
 bZ step (st 0)=bif (List.range n).all q then bZ step (st n)else some bad:=by
 have key:∀(d i:Nat),i+d=n->bZ step (st i)=bif (List.range' i d).all q then bZ step (st n)else some bad:=by
  intro d;induction d with
  |zero=>intro i hi;rw[show i=n by omega];rfl
  |succ d ih=>
   intro i hi;rw[Ba,h i O,List.range'_succ,kD];cases hq:q i with
   |true=>simp only[aD,fD];exact ih (i+1) O
   |false=>rfl
 rw[key n 0 O,DU]
def qX(k:IntKind)(x y:Int)(r s:List aa):Z9 (cI k x++r) (cI k y++s)=(decide (x=y)&&Z9 r s):=by simp only[cI,gn,kW,Z9,iR];try rfl
def Km(x y:List UInt8)(r s:List aa):Z9 (cS x++r) (cS y++s)=(decide (x=y)&&Z9 r s):=by
 simp only[cS,gn,kW,Z9,iR];congr 1;by_cases h:x=y
 .subst h;simp
 rw[bn h];exact sD.2 h
def ZBT [DecidableEq α] {f:α->List aa} (hf:∀x y r s,Z9 (f x++r) (f y++s)=(decide (x=y)&&Z9 r s)) (x y:A5 α) (r s:List aa):Z9 (cA5 f x++r) (cA5 f y++s)=(decide (x=y)&&Z9 r s):=by obtain⟨a0,a1,a2,a3,a4⟩:=x;obtain⟨b0,b1,b2,b3,b4⟩:=y;simp only[cA5,hH,hf,A5.mk.injEq,nU,nV]
def yr [DecidableEq α] {f:α->List aa} (hf:∀x y r s,Z9 (f x++r) (f y++s)=(decide (x=y)&&Z9 r s)) (x y:α):Z9 (f x) (f y)=decide (x=y):=by have:=hf x y [] [];simpa[Z9]using this
section
variable {P:Program}
def Z4{t:TypeId}{k:IntKind}(hu:P.underlying t=some (.int k))(d:Nat)(ts:List aa)(h:WT P d t ts):∃n,ts=cI k n/\(k.min<=n/\n<=k.max):=by
 cases d with
 |zero=>cases h
 |succ d=>
  simp only[WT,hu]at h;obtain⟨n,rfl,h⟩:=h;simp only[Lit.wf,aO,gW]at h;exact⟨n,rfl,h⟩
def fC{t:TypeId}(hu:P.underlying t=some .bool)(d:Nat)(ts:List aa)(h:WT P d t ts):∃b,ts=cB b/\True:=by
 cases d with
 |zero=>cases h
 |succ d=>
  simp only[WT,hu]at h;obtain⟨b,rfl⟩:=h;exact⟨b,rfl,ae⟩
def r5{t:TypeId}(hu:P.underlying t=some .string)(d:Nat)(ts:List aa)(h:WT P d t ts):∃s,ts=cS s/\s.length<=reachBytes:=by
 cases d with
 |zero=>cases h
 |succ d=>
  simp only[WT,hu]at h;obtain⟨b,rfl,_,h⟩:=h;exact⟨b,rfl,h⟩
def OkL(k:Nat)(ok:α->Prop)(xs:List α):Prop:=xs.length*k<=reachBytes/\∀x,x∈xs->ok x
def eK{f:α->List aa}{ok:α->Prop}(hu:P.underlying t=some (.slice e))(hb:P.bytesOf e=k)(he:∀d ts,WT P d e ts->∃x,ts=f x/\ok x)(d:Nat)(ts:List aa)(h:WT P d t ts):∃xs,ts=cL f xs/\OkL k ok xs:=by
 cases d with
 |zero=>cases h
 |succ d=>
  simp only[WT,hu]at h;obtain⟨es,rfl,⟨_,h1⟩,h2⟩:=h;have:∀es:List (List aa),(∀el∈es,WT P d e el)->∃xs:List α,es=List.map f xs/\∀x∈xs,ok x:=by
   intro es;induction es with
   |nil=>intro _;exact⟨[],rfl,λ_ h=>by cases h⟩
   |cons el es ih=>
    intro h;obtain⟨x,rfl,hx⟩:=he d el (h el ay);obtain⟨xs,rfl,hxs⟩:=ih (λel' hel=>h el' (bY _ hel));exact⟨x::xs,rfl,λy hy=>by
     rcases cm.1 hy with e|e
     .subst e;exact hx
     exact hxs y e⟩
  obtain⟨xs,rfl,hxs⟩:=this es h2;exact⟨xs,rfl,by rw[cN,hb]at h1;exact h1,hxs⟩
def OkA3(ok:α->Prop)(x:A3 α):Prop:=ok x.a0/\ok x.a1/\ok x.a2
def OkA5(ok:α->Prop)(x:A5 α):Prop:=ok x.a0/\ok x.a1/\ok x.a2/\ok x.a3/\ok x.a4
def OkA6(ok:α->Prop)(x:A6 α):Prop:=ok x.a0/\ok x.a1/\ok x.a2/\ok x.a3/\ok x.a4/\ok x.a5
def OB{f:α->List aa}{ok:α->Prop}(hu:P.underlying t=some (.array 3 e))(he:∀d ts,WT P d e ts->∃x,ts=f x/\ok x)(d:Nat)(ts:List aa)(h:WT P d t ts):∃x,ts=cA3 f x/\OkA3 ok x:=by
 cases d with
 |zero=>cases h
 |succ d=>
  simp only[WT,hu,List.replicate,Seq]at h;obtain⟨_,_,rfl,h0,_,_,rfl,h1,_,_,rfl,h2,rfl⟩:=h;obtain⟨x0,rfl,o0⟩:=he d _ h0;obtain⟨x1,rfl,o1⟩:=he d _ h1;obtain⟨x2,rfl,o2⟩:=he d _ h2;exact⟨⟨x0,x1,x2⟩,by simp[cA3],o0,o1,o2⟩
def ZkA{f:α->List aa}{ok:α->Prop}(hu:P.underlying t=some (.array 5 e))(he:∀d ts,WT P d e ts->∃x,ts=f x/\ok x)(d:Nat)(ts:List aa)(h:WT P d t ts):∃x,ts=cA5 f x/\OkA5 ok x:=by
 cases d with
 |zero=>cases h
 |succ d=>
  simp only[WT,hu,List.replicate,Seq]at h;obtain⟨_,_,rfl,h0,_,_,rfl,h1,_,_,rfl,h2,_,_,rfl,h3,_,_,rfl,h4,rfl⟩:=h;obtain⟨x0,rfl,o0⟩:=he d _ h0;obtain⟨x1,rfl,o1⟩:=he d _ h1;obtain⟨x2,rfl,o2⟩:=he d _ h2;obtain⟨x3,rfl,o3⟩:=he d _ h3;obtain⟨x4,rfl,o4⟩:=he d _ h4;exact⟨⟨x0,x1,x2,x3,x4⟩,by simp[cA5],o0,o1,o2,o3,o4⟩
def OA{f:α->List aa}{ok:α->Prop}(hu:P.underlying t=some (.array 6 e))(he:∀d ts,WT P d e ts->∃x,ts=f x/\ok x)(d:Nat)(ts:List aa)(h:WT P d t ts):∃x,ts=cA6 f x/\OkA6 ok x:=by
 cases d with
 |zero=>cases h
 |succ d=>
  simp only[WT,hu,List.replicate,Seq]at h;obtain⟨_,_,rfl,h0,_,_,rfl,h1,_,_,rfl,h2,_,_,rfl,h3,_,_,rfl,h4,_,_,rfl,h5,rfl⟩:=h;obtain⟨x0,rfl,o0⟩:=he d _ h0;obtain⟨x1,rfl,o1⟩:=he d _ h1;obtain⟨x2,rfl,o2⟩:=he d _ h2;obtain⟨x3,rfl,o3⟩:=he d _ h3;obtain⟨x4,rfl,o4⟩:=he d _ h4;obtain⟨x5,rfl,o5⟩:=he d _ h5;exact⟨⟨x0,x1,x2,x3,x4,x5⟩,by simp[cA6],o0,o1,o2,o3,o4,o5⟩
def Qh{H:Type}{enc:TypeId×Value->H}{w:World}{f:α->List aa}{ok:α->Prop}{base D:Nat}{v:Value}{d:DataW H}{p:List MemPlace}(he:∀d ts,WT P d t ts->∃x,ts=f x/\ok x)(hp:jR P D t=true)
 (hval:Value.okWide P w .any base t v) (hd:DataW.Trod enc P w 0 (λ_=>true) true t v d p) (hwt:∀n∈d.weights P t,n<=reachBytes):∃x,ok x/\VR (Rd w) (na P t (f x)) v:=by
 obtain⟨ts,hv,hw⟩:=ZBX hval hd hp hwt;obtain⟨x,rfl,hx⟩:=he D ts hw;exact⟨x,hx,hv⟩
def ZoR{fs:Array Field}(hu:P.underlying t=some (.struct fs))(ts:List aa):na P t ts = .agg (ts.map .t):=by simp[na,hu]
def ZoQ{f:α->List aa}(hu:P.underlying t=some (.slice e))(xs:List α):na P t (cL f xs) = .t (.sl (List.map f xs)):=by simp[na,hu,oneT,cL]
end
def Qi{H:Type}{P:Program}{ts:List TypeId}{ds:List (DataW H)}(h:(DataW.weightsEach P ts ds).all (· <= reachBytes)=true){i:Nat}{d:DataW H}(ht:ts[i]?=some t)(hd:ds[i]?=some d):∀n∈d.weights P t,n<=reachBytes:=by intro n hn;have:=bO.1 h n (EU ht hd hn);simpa using this
end Go.PW
namespace Go.PW
variable {S R α:Type} {b:Bool}
def gy(step:S->Option (S⊕R))(r:R):dh step (.inr r)=some r:=rfl
def kf(step:S->Option (S⊕R))(s:S):dh step (.inl s)=bZ step s:=rfl
def UI(b:Bool)(x y:α):(bif !b then x else y)=bif b then y else x:=by cases b<;>rfl
def mR(a b:Int):(a==b)=decide (a=b):=rfl
def UJ(a b:Int):(a != b)=decide (a≠b):=by show(!(decide (a=b)))=_;by_cases h:a=b<;>simp[h]
def UK(a b:List UInt8):(a==b)=decide (a=b):=by
 by_cases h:a=b
 .subst h;simp
 rw[bn h];exact sD.2 h
def Z24{step:S->Option (S⊕R)}{st:Nat->S}{bad:R}:∀(xs:List α) (p:α->Bool) (_:∀i x,xs[i]?=some x->step (st i)=some (bif p x then .inl (st (i+1))else .inr bad)),
 bZ step (st 0)=bif xs.all p then bZ step (st xs.length)else some bad
 |[],_,_=>rfl
 |x::xs,p,h=>by
  have h0:=h 0 x rfl;cases hp:p x with
  |false=>
   simp only[hp,aE]at h0;rw[fc h0];simp[hp]
  |true=>
   simp only[hp,aD]at h0;rw[jN h0,Z24 (st:=λi=>st (i+1)) xs p (λi y hy=>h (i+1) y xu)];simp[hp]
def s5{step:S->Option (S⊕R)}:∀(xs:List α) (st:Nat->S) (hit:Nat->R) (p:α->Bool) (_:∀i x,xs[i]?=some x->step (st i)=some (bif p x then .inr (hit i)else .inl (st (i+1)))),
 (xs.any p=true/\∃i,i<xs.length/\bZ step (st 0)=some (hit i))\/(xs.any p=false/\bZ step (st 0)=bZ step (st xs.length))
 |[],_,_,_,_ =>.inr ⟨rfl,rfl⟩
 |x::xs,st,hit,p,h=>by
  have h0:=h 0 x rfl;cases hp:p x with
  |true=>
   simp only[hp,aD]at h0;exact .inl ⟨by simp[hp],0,by simp,fc h0⟩
  |false=>
   simp only[hp,aE]at h0;rcases s5 xs (λi=>st (i+1)) (λi=>hit (i+1)) p (λi y hy=>h (i+1) y xu)with⟨h1,i,h2,h3⟩|⟨h1,h2⟩
   .exact .inl ⟨by simp[hp,h1],i+1,by simpa using h2,by rw[jN h0];exact h3⟩
   exact .inr ⟨by simp[hp,h1],by rw[jN h0];exact h2⟩
def xv{β:Type}{step:S->Option (S⊕R)}{st:Nat->β->S}{Q:Nat->β->Prop}{post:R->Prop}(n:Nat)
 (h:∀i b,i<n->Q i b->(∃b',step (st i b)=some (.inl (st (i+1) b'))/\Q (i+1) b')\/∃r,step (st i b)=some (.inr r)/\post r)
 (hend:∀b,Q n b->∃r,bZ step (st n b)=some r/\post r):∀b,Q 0 b->∃r,bZ step (st 0 b)=some r/\post r:=by
 have key:∀d i b,i+d=n->Q i b->∃r,bZ step (st i b)=some r/\post r:=by
  intro d;induction d with
  |zero =>
   intro i b hi hq;obtain rfl:i=n:=a8
   exact hend b hq
  |succ d ih=>
   intro i b hi hq;rcases h i b O hq with⟨b',h1,h2⟩|⟨r,h1,h2⟩
   .rw [jN h1];exact ih (i+1) b' O h2
   exact⟨r,fc h1,h2⟩
 exact λb hq=>key n 0 b O hq
section
variable {S:Type} {step:S->Option (S⊕Bool)} {b r:Bool} {k:Option (S⊕Bool)}
def dQ(h:b=true->k.bind (dh step)=some r):(bif !b then some (.inr false)else k).bind (dh step)=some (b&&r):=by
 cases b
 .rfl
 simpa using h rfl
def iu(h:b=true->k.bind (dh step)=some r):(bif b then k else some (.inr false)).bind (dh step)=some (b&&r):=by
 cases b
 .rfl
 simpa using h rfl
def cF(h:b=false->k.bind (dh step)=some r):(bif b then some (.inr false)else k).bind (dh step)=some (!b&&r):=by
 cases b
 .simpa using h rfl
 rfl
end
def ZyB{a b:Nat}(ha:a<2 ^ 62)(hb:b<2 ^ 62):aR .and .i64 (a:Int) (b:Int)=((a &&& b:Nat):Int):=by have hle:a &&& b<=a:=Nat.and_le_left;unfold aR;show IntKind.wrap .i64 (((BitVec.ofInt 64 (a:Int) &&& BitVec.ofInt 64 (b:Int)).toNat:Nat):Int)=_;rw[UL,UL,BitVec.toNat_and,UM,UM,rb O,rb O];exact fg O O
def Z25:Nat->Nat->Nat->Bool
 |0,_,_=>true
 |n+1,a,b=>if a%2=1/\b%2=1 then false else Z25 n (a/2) (b/2)
def UN:∀(n a b:Nat),Z25 n a b=true↔∀i,i<n->¬(a.testBit i=true/\b.testBit i=true)
 |0,a,b=>by simp[Z25]
 |n+1,a,b=>by
  unfold Z25;have h0:∀x:Nat,x.testBit 0=true↔x%2=1:=λx=>by simp[Nat.testBit_zero]
  by_cases h:a%2=1/\b%2=1
  .rw [ar h];constructor
   .intro h';cases h'
   intro h';exact absurd ⟨(h0 a).2 h.1,(h0 b).2 h.2⟩ (h' 0 O)
  rw[aw h,UN n];constructor
  .intro h' i hi;cases i with
   |zero=>rw[h0,h0];exact h
   |succ i=>rw[xw,xw];exact h' i O
  intro h' i hi;have:=h' (i+1) O;rwa[xw,xw]at this
def ZyC{n a b:Nat}(ha:a<2 ^ n):Z25 n a b=decide ((a &&& b:Nat)=0):=by
 rw[ka,UN,gW];constructor
 .intro h;refine Nat.eq_of_testBit_eq λi=>?_;rw[Nat.testBit_and,Nat.zero_testBit];by_cases hi:i<n
  .have:=h i hi;cases h1:a.testBit i<;>cases h2:b.testBit i<;>simp_all
  rw[Nat.testBit_lt_two_pow (eF ha (Nat.pow_le_pow_right bF (Nat.le_of_not_lt hi))),xl]
 intro h i _ ⟨h1,h2⟩;have:(a &&& b).testBit i=true:=by rw[Nat.testBit_and,h1,h2];rfl
 rw[h,Nat.zero_testBit]at this;cases this
def UO(a:Nat)(h:a<2 ^ 62):eu .i64 (a:Int) 2=((a/2:Nat):Int):=by unfold eu;rw[show(2:Int)=((2:Nat):Int)from rfl,<- Int.ofNat_tdiv];exact fg O O
def UP(a:Nat):(Int.tmod (a:Int) 2==1)=decide (a%2=1):=by rw[show(2:Int)=((2:Nat):Int)from rfl,<- Int.ofNat_tmod];rw[mR,sg];omega
end Go.PW
namespace Go.PW
variable {α β S R γ:Type} {b:Bool} {i:Int} {k:Nat}
def Tot(o:Option α)(Q:α->Prop):Prop:=∃a,o=some a/\Q a
def Tot.mono{o:Option α}{P Q:α->Prop}(h:Tot o P)(f:∀a,P a->Q a):Tot o Q:=by obtain⟨a,h1,h2⟩:=h;exact⟨a,h1,f a h2⟩
def tB{o:Option α}{k:α->Option β}{P:α->Prop}{Q:β->Prop}(h:Tot o P)(f:∀a,P a->Tot (k a) Q):Tot (o.bind k) Q:=by obtain⟨a,rfl,h2⟩:=h;exact f a h2
def tF{x y:Option α}{Q:α->Prop}(h:b=true->Tot x Q)(g:b=false->Tot y Q):Tot (bif b then x else y) Q:=by
 cases b
 .exact g rfl
 exact h rfl
def Tot.eq{o:Option α}{a:α}(h:Tot o (λx=>x=a)):o=some a:=by obtain⟨x,h1,rfl⟩:=h;exact h1
def tI{xs:List α}(h0:0<=i)(h1:i<xs.length):Tot (idx? xs i) λx=>x∈xs/\xs[i.toNat]?=some x:=by have h:=bj (show i.toNat<xs.length by omega);refine⟨xs[i.toNat],?_,kN _,h⟩;unfold idx?;rw[ar h0,h]
def tA{a b:List α}(h:(a.length+b.length)*k<=140737488355328)(hk:0<k):Tot (app? k a b) λz=>z=a++b:=⟨_,Cm h hk,rfl⟩
def Tot.some{o:Option α}{Q:α->Prop}(h:Tot o Q):∃a,o=some a:=by obtain⟨a,h,_⟩:=h;exact⟨a,h⟩
def Tot.stop{step:S->Option (S⊕R)}{s:S}{r:R}{Q:R->Prop}(h:step s = .some (.inr r))(hq:Q r):Tot (bZ step s) Q:=⟨r,fc h,hq⟩
abbrev M6:=Nat×Nat×Nat×Nat×Nat×Nat
def lt6(x y:M6):Prop:=x.1<y.1\/(x.1=y.1/\(x.2.1<y.2.1\/(x.2.1=y.2.1/\(x.2.2.1<y.2.2.1\/(x.2.2.1=y.2.2.1/\(x.2.2.2.1<y.2.2.2.1\/(x.2.2.2.1=y.2.2.2.1/\(x.2.2.2.2.1<y.2.2.2.2.1\/(x.2.2.2.2.1=y.2.2.2.2.1/\x.2.2.2.2.2<y.2.2.2.2.2)))))))))
def le6(x y:M6):Prop:=lt6 x y\/(x.1=y.1/\x.2.1=y.2.1/\x.2.2.1=y.2.2.1/\x.2.2.2.1=y.2.2.2.1/\x.2.2.2.2.1=y.2.2.2.2.1/\x.2.2.2.2.2=y.2.2.2.2.2)
def ZAV{x y z:M6}(h:lt6 x y)(g:le6 y z):lt6 x z:=by unfold le6 lt6 at g;unfold lt6 at *;omega
def ZAW:WellFounded lt6:=by
 have h:WellFounded (Prod.Lex (λa b:Nat=>a<b) (Prod.Lex (λa b:Nat=>a<b) (Prod.Lex (λa b:Nat=>a<b) (Prod.Lex (λa b:Nat=>a<b) (Prod.Lex (λa b:Nat=>a<b) (λa b:Nat=>a<b)))))):=(Prod.lex ⟨_,Nat.lt_wfRel.wf⟩ (Prod.lex ⟨_,Nat.lt_wfRel.wf⟩ (Prod.lex ⟨_,Nat.lt_wfRel.wf⟩ (Prod.lex ⟨_,Nat.lt_wfRel.wf⟩ (Prod.lex ⟨_,Nat.lt_wfRel.wf⟩ ⟨_,Nat.lt_wfRel.wf⟩))))).wf;refine Subrelation.wf ?_ h;rintro⟨a1,a2,a3,a4,a5,a6⟩ ⟨b1,b2,b3,b4,b5,b6⟩ h;unfold lt6 at h;simp only at h;rcases h with h|⟨rfl,h|⟨rfl,h|⟨rfl,h|⟨rfl,h|⟨rfl,h⟩⟩⟩⟩⟩
 .exact .left _ _ h
 .exact .right _ (.left _ _ h)
 .exact .right _ (.right _ (.left _ _ h))
 .exact .right _ (.right _ (.right _ (.left _ _ h)))
 .exact .right _ (.right _ (.right _ (.right _ (.left _ _ h))))
 exact .right _ (.right _ (.right _ (.right _ (.right _ h))))
def Nx(Inv:S->Prop)(μ:S->M6)(m:M6)(post:R->Prop):S⊕R->Prop
 |.inl s=>Inv s/\lt6 (μ s) m
 |.inr r=>post r
section
variable {S R:Type} {Inv:S->Prop} {μ:S->M6} {m m':M6} {post:R->Prop}
def tL{s:S}(h:Inv s)(hm:lt6 (μ s) m):Tot (.some (.inl s)) (Nx Inv μ m post):=⟨_,rfl,h,hm⟩
def tR{r:R}(h:post r):Tot (.some (.inr r)) (Nx Inv μ m post):=⟨_,rfl,h⟩
def Tot.join{o:Option (S⊕R)}(h:Tot o (Nx Inv μ m' post))(hm:le6 m' m):Tot o (Nx Inv μ m post):=h.mono λy hy=>by
 cases y with
 |inl s=>exact⟨hy.1,ZAV hy.2 hm⟩
 |inr r=>exact hy
def Tot.fin{step:S->Option (S⊕R)}{o:Option (S⊕R)}(h0:Tot o (Nx Inv μ m post))(hs:∀s,Inv s->Tot (step s) (Nx Inv μ (μ s) post)):Tot (o.bind (dh step)) post:=by
 have key:∀x:M6,∀s,μ s=x->Inv s->Tot (bZ step s) post:=λx=>ZAW.induction (C:=λx=>∀s,μ s=x->Inv s->Tot (bZ step s) post) x (λx ih s hx hi=>by
  subst hx;obtain⟨y,h1,h2⟩:=hs s hi;cases y with
  |inl s'=>rw[jN h1];exact ih _ h2.2 s' rfl h2.1
  |inr r=>exact⟨r,fc h1,h2⟩)
 obtain⟨y,rfl,h2⟩:=h0;cases y with
 |inl s=>exact key _ s rfl h2.1
 |inr r=>exact⟨r,rfl,h2⟩
end
def tD{p:Prop} [Decidable p] {x y:Option α} {Q:α->Prop} (h:p->Tot x Q) (g:¬p->Tot y Q):Tot (bif decide p then x else y) Q:=by
 by_cases hp:p
 .rw [bh hp];exact h hp
 rw[bn hp];exact g hp
def tE{a b:Int}{x y:Option α}{Q:α->Prop}(h:a=b->Tot x Q)(g:a≠b->Tot y Q):Tot (bif (a==b)then x else y) Q:=by rw[mR];exact tD h g
def tN{a b:Int}{x y:Option α}{Q:α->Prop}(h:a≠b->Tot x Q)(g:a=b->Tot y Q):Tot (bif (a != b)then x else y) Q:=by rw[UJ];exact tD h (λe=>g O)
def tO{x y:Option α}{Q:α->Prop}(h:b=false->Tot x Q)(g:b=true->Tot y Q):Tot (bif !b then x else y) Q:=by
 cases b
 .exact h rfl
 exact g rfl
def tK{p:Prop} [Decidable p] (h:p):Tot (ok? (decide p)) λ_=>p:=⟨(),by rw[bh h];rfl,h⟩
def Tot.slice{xs:List α}{l h:Int}(h0:0<=l)(h1:l<=h)(h2:h<=xs.length):Tot (slice? xs l h) λz=>(z.length:Int)=h-l/\(∀x,x∈z->x∈xs)/\z=(xs.take h.toNat).drop l.toNat:=by
 refine⟨(xs.take h.toNat).drop l.toNat,?_,?_,λx hx=>iZ (kH hx),rfl⟩
 .unfold slice?;rw[ar ⟨h0,h1,h2⟩]
 rw[jy,eU];omega
def Tot.make{b:Nat}{z:α}{m c:Int}(h:0<=m/\m<=c/\(b:Int)*c<=281474976710656/\c<=9223372036854775807):Tot (make? b z m c) λx=>(x.length:Int)=m/\∀y,y∈x->y=z:=by
 refine⟨List.replicate m.toNat z,?_,?_,λy hy=>(Vl.1 hy).2⟩
 .unfold make?;rw[ar h]
 rw[j6];omega
def Tot.copy{x y:List α}(h:y.length<=x.length):Tot (copy? x y) λz=>z.length=x.length/\(∀e,e∈z->e∈y\/e∈x)/\z=y++x.drop y.length:=by
 refine⟨y++x.drop y.length,?_,?_,λe he=>?_,rfl⟩
 .unfold copy?;rw[ar h]
 .rw [bm,jy];omega
 rcases cb.1 he with h|h
 .exact .inl h
 exact .inr (kH h)
def Tot.set{z:List α}{x:α}(h0:0<=i)(h1:i<z.length):Tot (set? z i x) λy=>y.length=z.length/\(∀e,e∈y->e=x\/e∈z)/\y=z.set i.toNat x:=by
 refine⟨z.set i.toNat x,?_,ez ..,λe he=>?_,rfl⟩
 .unfold set?;rw[ar ⟨h0,by omega⟩]
 rcases kO he with h|h
 .exact .inr h
 exact .inl h
def Tot.set2{z0 z:List α}{x:α}(h:z.length=z0.length)(h0:0<=i)(h1:i<z.length):Tot (set2? z0 z i x) λy=>y.length=z.length/\(∀e,e∈y->e=x\/e∈z)/\y=z.set i.toNat x:=by unfold set2?;rw[ar h];exact Tot.set h0 h1
def Tot.clr{xs:List α}{z:α}(h0:0<=i)(h1:i<=xs.length):Tot (clr? xs i z) λy=>y.length=xs.length/\(∀e,e∈y->e=z\/e∈xs)/\y=xs.take i.toNat++List.replicate (xs.length-i.toNat) z:=by
 refine⟨xs.take i.toNat++List.replicate (xs.length-i.toNat) z,?_,?_,λe he=>?_,rfl⟩
 .unfold clr?;rw[ar ⟨h0,h1⟩]
 .rw [bm,eU,j6];omega
 rcases cb.1 he with h|h
 .exact .inr (iZ h)
 exact .inl (ve h)
def Tot.setM{xs:List (List α)}{j:Int}{y:List α}{v:α}:Tot (setM? xs i y j v) λz=>z=xs.set i.toNat (y.set j.toNat v):=⟨_,rfl,rfl⟩
def Tot.bytes{s:List UInt8}(h:s.length<=9223372036854775807):Tot (bytes? s) λz=>z.length=s.length:=by unfold bytes?;rw[ar h];exact⟨_,rfl,cN ..⟩
def Tot.str{xs:List Int}(h:xs≠[])(h2:∀n,n∈xs->0<=n/\n<256):Tot (str? xs) λs=>s.length=xs.length:=by unfold str?;rw[ar ⟨h,h2⟩];exact⟨_,rfl,cN ..⟩
def Tot.setA5{x:A5 α}{v:α}(h0:0<=i)(h1:i<5):Tot (x.set? i v) λy=>y.list=x.list.set i.toNat v:=ZlD h0 h1
def FA(n:Int):(-9223372036854775808<=n->n<9223372036854775808->IntKind.wrap .i64 n=n):=λh1 h2=>fg h1 h2
def FB(n:Int) : -9223372036854775808<=IntKind.wrap .i64 n/\IntKind.wrap .i64 n<9223372036854775808:=by simp only[IntKind.wrap,IntKind.bits,IntKind.signed,fD,mA,gW];have h1:=DR n (show(2 ^ 64:Int)≠0 by decide);have h2:=DQ n (show(0:Int)<2 ^ 64 by decide);split<;>omega
def TW(n:Int):0<=IntKind.wrap .u64 n/\IntKind.wrap .u64 n<18446744073709551616:=by simp only[IntKind.wrap,IntKind.bits,IntKind.signed];have h1:=DR n (show(2 ^ 64:Int)≠0 by decide);have h2:=DQ n (show(0:Int)<2 ^ 64 by decide);simp only[xl,eT,ft];omega
def ZsR(n:Int):0<=IntKind.wrap .u8 n/\IntKind.wrap .u8 n<256:=by simp only[IntKind.wrap,IntKind.bits,IntKind.signed];have h1:=DR n (show(2 ^ 8:Int)≠0 by decide);have h2:=DQ n (show(0:Int)<2 ^ 8 by decide);simp only[xl,eT,ft];omega
def SzL(k:Nat)(P:α->Prop)(xs:List α):Prop:=xs.length*k<=140737488351232/\∀x,x∈xs->P x
def SzS(s:List UInt8):Prop:=s.length<=281474976710656
def SzT(s:List UInt8):Prop:=s.length<=562949953421312
def SzS.t{s:List UInt8}(h:SzS s):SzT s:=c7 h bF
def SzS.nil:SzS []:=gv _
def SzT.nil:SzT []:=gv _
def SzN(s:List UInt8):Prop:=s.length<=100
def SzN.t{s:List UInt8}(h:SzN s):SzT s:=c7 h bF
def SzN.s{s:List UInt8}(h:SzN s):SzS s:=c7 h bF
def SzN.nil:SzN []:=gv _
def shl_ne'(h0:0<=i)(h1:i<6):Z23 .i64 1 i≠0:=by
 have:i=0\/i=1\/i=2\/i=3\/i=4\/i=5:=a8
 rcases this with h|h|h|h|h|h<;>subst h<;>decide
def xf{s:List UInt8}(h:s.length<=reachBytes):SzS s:=c7 h bF
def ZsW{s:List UInt8}(h:s.length<=reachBytes):SzT s:=c7 h bF
def eM{P Q:α->Prop}{xs:List α}(h:OkL k P xs)(f:∀x,P x->Q x):SzL k Q xs:=⟨h.1,λx hx=>f x (h.2 x hx)⟩
def mem_cons'{P:α->Prop}{a:α}{l:List α}(h:P a)(g:∀x,x∈l->P x):∀x,x∈a::l->P x:=λx hx=>by
 rcases cm.1 hx with h'|h'
 .rw [h'];exact h
 exact g x h'
def SzL.nil{P:α->Prop}:SzL k P ([]:List α):=⟨by simp,λx h=>by cases h⟩
def SzL.app{P:α->Prop}{a b z:List α}(h:z=a++b)(hl:z.length*k<=140737488351232)(ha:∀x,x∈a->P x)(hb:∀x,x∈b->P x):SzL k P z:=⟨hl,λx hx=>by
 subst h;rcases cb.1 hx with h|h
 .exact ha x h
 exact hb x h⟩
def Z0a(p:Nat->α->Bool)(q:α->γ):Nat->List α->List γ
 |_,[]=>[]
 |i,x::xs=>bif p i x then q x::Z0a p q (i+1) xs else Z0a p q (i+1) xs
def Wb(p:Nat->α->Bool)(q:α->γ):∀(xs:List α) (i:Nat),(Z0a p q i xs).length<=xs.length
 |[],_=>bk _
 |x::xs,i=>by have:=Wb p q xs (i+1);unfold Z0a;cases p i x<;>simp<;>omega
def QG{step:S->Option (S⊕R)}{st:Nat->List γ->S}(xs:List α)(p:Nat->α->Bool)(q:α->γ)
 (h:∀i x acc,xs[i]?=some x->acc.length<=i->step (st i acc)=some (.inl (st (i+1) (bif p i x then acc++[q x]else acc)))) :
 bZ step (st 0 [])=bZ step (st xs.length (Z0a p q 0 xs)):=by
 have key:∀d i acc,i+d=xs.length->acc.length<=i->bZ step (st i acc)=bZ step (st xs.length (acc++Z0a p q i (xs.drop i))):=by
  intro d;induction d with
  |zero=>
   intro i acc hi ha;obtain rfl:i=xs.length:=a8
   rw[List.drop_length];simp[Z0a]
  |succ d ih=>
   intro i acc hi ha;have hlt:i<xs.length:=a8
   rw[jN (h i xs[i] acc (bj hlt) ha),xF hlt];cases hp:p i xs[i]with
   |false=>
    rw[aE,ih (i+1) acc O O];simp[Z0a,hp]
   |true=>
    rw[aD,ih (i+1) (acc++[q xs[i]]) O cn];simp[Z0a,hp]
 have:=key xs.length 0 [] O ay;simpa using this
end Go.PW
namespace Go.PW
variable {α:Type} {l out:List Int} {nd:List (List Bool)} {i x v w y j j' r:Int}
def AR [DecidableEq α]:∀{a b:List α},a.Nodup->(∀x,x∈a->x∈b)->a.length<=b.length
 |[],_,_,_=>gv _
 |x::a,b,h,hs=>by have hx:=hs x (nR ..);have h':=vI.1 h;have:=AR (b:=b.erase x) h'.2 (λy hy=>(List.mem_erase_of_ne (λe=>by subst e;exact h'.1 hy)).2 (hs y (bY _ hy)));rw[Oh hx]at this;have:0<b.length:=Oi hx;simp only[bw];omega
def ZjA [DecidableEq α] {a b:List α} (h:a.Nodup) (hs:∀x,x∈a->x∈b) (hl:b.length<=a.length):∀x,x∈b->x∈a:=λx hx=>jg λhn=>by have:=AR (a:=x::a) (b:=b) (vI.2 ⟨hn,h⟩) (λy hy=>(cm.1 hy).elim (λe=>e▸hx) (hs y));simp only[bw]at this;omega
def AS{l:List α}(h:l.Nodup){i j:Nat}{x:α}(hi:l[i]?=some x)(hj:l[j]?=some x):i=j:=by
 obtain⟨h1,e1⟩:=aL.1 hi;obtain⟨h2,e2⟩:=aL.1 hj;have h:=List.pairwise_iff_getElem.1 h;rcases nj i j with hl|hl|hl
 .exact absurd (e1.trans e2.symm) (h i j h1 h2 hl)
 .exact hl
 exact absurd (e2.trans e1.symm) (h j i h2 h1 hl)
def AT{l:List α}{x:α}(h:l.Nodup)(hx:x∉l):(l++[x]).Nodup:=by rw[List.nodup_append];refine⟨h,by simp,λa ha b hb=>?_⟩;rw[dW.1 hb];exact λe=>hx (e▸ha)
def Oj(f:α->Nat):∀{l:List α},l≠[]->∃i,i∈l/\∀j,j∈l->f i<=f j
 |[],h=>absurd rfl h
 |[x],_=>⟨x,dW.2 rfl,λj hj=>by rw[dW.1 hj];exact bk _⟩
 |x::y::l,_=>by
  obtain⟨i,h1,h2⟩:=Oj f (l:=y::l) ay;by_cases h:f x<=f i
  .refine⟨x,nR ..,λj hj=>?_⟩;rcases cm.1 hj with rfl|hj
   .exact bk _
   exact c7 h (h2 j hj)
  refine⟨i,bY _ h1,λj hj=>?_⟩;rcases cm.1 hj with rfl|hj
  .omega
  exact h2 j hj
structure Rch (l:List Int) (N:Int->Int->Prop) (i:Int) (r:List Int):Prop where
 nd:r.Nodup
 sub:∀x,x∈r->x∈l
 st:∀x,x∈l->N i x->x∈r
 cl:∀y,y∈r->∀x,x∈l->N y x->x∈r
 mn:∀S:Int->Prop,(∀x,x∈l->N i x->S x)->(∀y x,S y->x∈l->N y x->S x)->∀x,x∈r->S x
def ZjB{N:Int->Int->Prop}{R:Int->List Int}(hl:l≠[])(h:∀i,i∈l->Rch l N i (R i)):∃i,i∈l/\∀j,j∈l->j≠i->N i j->i∈R j:=by
 classical
 let U:Int->List Int:=λi=>if i∈R i then R i else i::R i
 have hU:∀i x,x∈U i↔x=i\/x∈R i:=λi x=>by
  show x∈(if i∈R i then R i else i::R i)↔_;split
  .rename_i hi;exact⟨.inr,λe=>e.elim (λe=>e▸hi) id⟩
  exact cm
 have hN:∀i,i∈l->(U i).Nodup:=λi hi=>by
  show(if i∈R i then R i else i::R i).Nodup;split
  .exact (h i hi).nd
  rename_i hn;exact vI.2 ⟨hn,(h i hi).nd⟩
 obtain⟨i,h1,h2⟩:=Oj (λi=>(U i).length) hl;refine⟨i,h1,λj hj hne hij=>?_⟩;have hjR:j∈R i:=(h i h1).st j hj hij;have hsub:∀x,x∈U j->x∈U i:=λx hx=>by
  refine(hU i x).2 (.inr ?_);rcases(hU j x).1 hx with rfl|hx
  .exact hjR
  exact(h j hj).mn (λx=>x∈R i) (λx hx hn=>(h i h1).cl j hjR x hx hn) (λy x hy hx hn=>(h i h1).cl y hy x hx hn) x hx
 have:=ZjA (hN j hj) hsub (h2 j hj) i ((hU i i).2 (.inl rfl));rcases(hU j i).1 this with e|e
 .exact absurd e.symm hne
 exact e
def nB(nd:List (List Bool))(i j:Int):Bool:=(nd[i.toNat]?.bind λy=>y[j.toNat]?).getD false
def RI(l:List Int)(nd:List (List Bool))(i:Int)(out:List Int):Prop:=out.Nodup/\(∀x,x∈out->x∈l)/\∀S:Int->Prop,(∀x,x∈l->nB nd i x=true->S x)->(∀y x,S y->x∈l->nB nd y x=true->S x)->∀x,x∈out->S x
def RI.snoc(h:RI l nd i out)(hx:x∈l)(hn:x∉out)(hw:nB nd i x=true\/∃y,y∈out/\nB nd y x=true):RI l nd i (out++[x]):=by
 obtain⟨h1,h2,h3⟩:=h;refine⟨AT h1 hn,λz hz=>?_,λS a b z hz=>?_⟩
 .rcases cb.1 hz with hz|hz
  .exact h2 z hz
  rw[dW.1 hz];exact hx
 rcases cb.1 hz with hz|hz
 .exact h3 S a b z hz
 rw[dW.1 hz];rcases hw with hw|⟨y,hy,hw⟩
 .exact a x hx hw
 exact b y x (h3 S a b y hy) hx hw
def RI.len(h:RI l nd i out):out.length<=l.length:=AR h.1 h.2.1
def RA(l:List Int)(nd:List (List Bool))(i:Int)(out:List Int)(v:Int):Prop:=RI l nd i out/\(∀x,x∈out->∃k:Nat,(k:Int)<v/\l[k]?=some x)/\∀(k:Nat) x,(k:Int)<v->l[k]?=some x->nB nd i x=true->x∈out
def RA_0:RA l nd i [] 0:=⟨⟨mm,λx hx=>(nomatch hx),λ_ _ _ x hx=>(nomatch hx)⟩,λx hx=>(nomatch hx),λk x hk=>by omega⟩
def Z2d{l:List α}{k:Nat}{x y:α}(h0:0<=v)(hw:w=v+1)(hk:(k:Int)<w)(hy:l[k]?=some y)(hx:l[v.toNat]?=some x):(k:Int)<v\/y=x:=by
 by_cases h:(k:Int)<v
 .exact .inl h
 right;have:k=v.toNat:=a8
 subst this;exact cA (hy.symm.trans hx)
def ZjC{z:List Int}(hz:z=out++[x])(hx:l[v.toNat]?=some x)(hl:l.Nodup)(h:RA l nd i out v)(h0:0<=v)(hb:nB nd i x=true)(hw:w=v+1):RA l nd i z w:=by
 obtain⟨h1,h2,h3⟩:=h;subst hz;have hn:x∉out:=λhm=>by obtain⟨k,hk,he⟩:=h2 x hm;have:=AS hl he hx;omega
 refine⟨h1.snoc (bH hx) hn (.inl hb),λy hy=>?_,λk y hk he hb'=>?_⟩
 .rcases cb.1 hy with hy|hy
  .obtain⟨k,hk,he⟩:=h2 y hy;exact⟨k,by omega,he⟩
  rw[dW.1 hy];exact⟨v.toNat,by omega,hx⟩
 rcases Z2d h0 hw hk he hx with hk|rfl
 .exact vJ _ (h3 k y hk he hb')
 exact Ol _ (dW.2 rfl)
def ZjD(hx:l[v.toNat]?=some x)(h:RA l nd i out v)(h0:0<=v)(hb:nB nd i x=false)(hw:w=v+1):RA l nd i out w:=by
 obtain⟨h1,h2,h3⟩:=h;refine⟨h1,λy hy=>?_,λk y hk he hb'=>?_⟩
 .obtain⟨k,hk,he⟩:=h2 y hy;exact⟨k,by omega,he⟩
 rcases Z2d h0 hw hk he hx with hk|rfl
 .exact h3 k y hk he hb'
 rw[hb]at hb';cases hb'
def RB(l:List Int)(nd:List (List Bool))(i:Int)(out:List Int)(v:Int):Prop:=RI l nd i out/\(∀x,x∈l->nB nd i x=true->x∈out)/\∀(k:Nat) y,(k:Int)<v->out[k]?=some y->∀x,x∈l->nB nd y x=true->x∈out
def RB_0(h:RA l nd i out v)(hv:(l.length:Int)<=v):RB l nd i out 0:=⟨h.1,λx hx hb=>by obtain⟨k,hk,he⟩:=lC.1 hx;exact h.2.2 k x O uj hb,λk y hk=>by omega⟩
def RC(l:List Int)(nd:List (List Bool))(i:Int)(out:List Int)(v w:Int):Prop:=RB l nd i out v/\∀y,out[v.toNat]?=some y->∀(k:Nat) x,(k:Int)<w->l[k]?=some x->nB nd y x=true->x∈out
def RC_0(h:RB l nd i out v):RC l nd i out v 0:=⟨h,λy _ k x hk=>by omega⟩
def ZjE{z:List Int}{w':Int}(hz:z=out++[x])(hx:l[w.toNat]?=some x)(hy:out[v.toNat]?=some y)(h:RC l nd i out v w)(h0:0<=w)(hv:0<=v)(hb:nB nd y x=true)(hn:x∉out)(hw:w'=w+1):RC l nd i z v w':=by
 obtain⟨⟨h1,h2,h3⟩,h4⟩:=h;subst hz;have hl:=(aL.1 hy).1;refine⟨⟨h1.snoc (bH hx) hn (.inr ⟨y,bH hy,hb⟩),λa ha hb'=>vJ _ (h2 a ha hb'),λk a hk he b hb' hc=>?_⟩,λa ha k b hk he hb'=>?_⟩
 .rw [dX O]at he;exact vJ _ (h3 k a hk he b hb' hc)
 rw[dX hl]at ha;rcases Z2d h0 hw hk he hx with hk|rfl
 .exact vJ _ (h4 a ha k b hk he hb')
 exact Ol _ (dW.2 rfl)
def ZjF{w':Int}(hx:l[w.toNat]?=some x)(hy:out[v.toNat]?=some y)(h:RC l nd i out v w)(h0:0<=w)(hb:nB nd y x=false\/x∈out)(hw:w'=w+1):RC l nd i out v w':=by
 refine⟨h.1,λa ha k b hk he hb'=>?_⟩;rcases Z2d h0 hw hk he hx with hk|rfl
 .exact h.2 a ha k b hk he hb'
 have:a=y:=cA (ha.symm.trans hy);subst this;rcases hb with hb|hb
 .rw [hb]at hb';cases hb'
 exact hb
def ZjG{v':Int}(h:RC l nd i out v w)(h0:0<=v)(hw:(l.length:Int)<=w)(hv:v'=v+1):RB l nd i out v':=by
 obtain⟨⟨h1,h2,h3⟩,h4⟩:=h;refine⟨h1,h2,λk y hk he x hx hb=>?_⟩;by_cases hk':(k:Int)<v
 .exact h3 k y hk' he x hx hb
 have:k=v.toNat:=a8
 subst this;obtain⟨j,hj,hje⟩:=lC.1 hx;exact h4 y he j x O (by rw[bj hj,hje]) hb
def ZhT(h:RB l nd i out v)(hv:(out.length:Int)<=v):Rch l (λa b=>nB nd a b=true) i out:=⟨h.1.1,h.1.2.1,h.2.1,λy hy x hx hb=>by obtain⟨j,hj,hje⟩:=lC.1 hy;exact h.2.2 j y O (by rw[bj hj,hje]) x hx hb,h.1.2.2⟩
def cnt(p:α->Bool)(l:List α)(v:Int):Nat:=((l.take v.toNat).filter p).length
def dJ{l:List α}{x:α}(hx:l[v.toNat]?=some x)(h0:0<=v)(hw:w=v+1):l.take w.toNat=l.take v.toNat++[x]:=by
 have:w.toNat=v.toNat+1:=a8
 rw[this,j5,hx];rfl
def Om{p:α->Bool}{l:List α}{x:α}(hx:l[v.toNat]?=some x)(h0:0<=v)(hp:p x=true)(hw:w=v+1):cnt p l w=cnt p l v+1:=by unfold cnt;rw[dJ hx h0 hw,iM,bm,gP,ar hp];rfl
def ZjH{p:α->Bool}{l:List α}{x:α}(hx:l[v.toNat]?=some x)(h0:0<=v)(hp:p x=false)(hw:w=v+1):cnt p l w=cnt p l v:=by unfold cnt;rw[dJ hx h0 hw,iM,bm,gP,aw vK];rfl
def ZjI{p:α->Bool}{l:List α}{x:α}(hx:l[v.toNat]?=some x)(h0:0<=v)(hp:p x=true):cnt p l v<(l.filter p).length:=by
 have h:=Om (w:=v+1) hx h0 hp rfl;have:cnt p l (v+1)<=(l.filter p).length:=by unfold cnt;exact(List.Sublist.filter p (List.take_sublist ..)).length_le
 omega
def AU{p:α->Bool}{l acc z:List α}{x:α}(hz:z=acc++[x])(hx:l[v.toNat]?=some x)(h:acc=(l.take v.toNat).filter p)(h0:0<=v)(hp:p x=true)(hw:w=v+1):z=(l.take w.toNat).filter p:=by rw[hz,h,dJ hx h0 hw,iM,gP,ar hp];rfl
def AV{p:α->Bool}{l acc:List α}{x:α}(hx:l[v.toNat]?=some x)(h:acc=(l.take v.toNat).filter p)(h0:0<=v)(hp:p x=false)(hw:w=v+1):acc=(l.take w.toNat).filter p:=by rw[h,dJ hx h0 hw,iM,gP,aw vK,r3,cW]
def AB{p:α->Bool}{l acc:List α}(h:acc=(l.take v.toNat).filter p)(hv:(l.length:Int)<=v):acc=l.filter p:=by rw[h,da O]
def DI(b v:List α)(p:α->Bool)(i j:Int):Prop:=v.length=b.length/\0<=i/\i<=j/\v.take i.toNat=(b.take j.toNat).filter p/\v.drop j.toNat=b.drop j.toNat
def ZjJ{b:List α}{p:α->Bool}{y:α}(hy:b[i.toNat]?=some y)(h:∀(k:Nat) x,(k:Int)<i->b[k]?=some x->p x=true)(hp:p y=false)(h0:0<=i)(hj:j=i+1):DI b b p i j:=by refine⟨rfl,h0,by omega,?_,rfl⟩;rw[dJ hy h0 hj,iM,gP,aw vK,r3,cW];refine(vL.2 λx hx=>?_).symm;obtain⟨k,hk,he⟩:=lC.1 hx;rw[eU]at hk;rw[List.getElem_take]at he;exact h k x O (by rw[bj O,he])
def DI.at{b v:List α}{p:α->Bool}{x:α}(h:DI b v p i j)(hx:v[j.toNat]?=some x):b[j.toNat]?=some x:=by
 have:(v.drop j.toNat)[0]?=(b.drop j.toNat)[0]?:=by rw[h.2.2.2.2]
 simpa[kI,hx]using this.symm
def DI.next{b v:List α}{p:α->Bool}(h:DI b v p i j)(hj:j'=j+1):v.drop j'.toNat=b.drop j'.toNat:=by
 have e:j'.toNat=j.toNat+1:=Oo
 rw[e,<- hZ,<- hZ,h.2.2.2.2]
def ZjK{b v z:List α}{p:α->Bool}{i':Int}{x:α}(hx:v[j.toNat]?=some x)(hz:z=v.set i.toNat x)(h:DI b v p i j)(hp:p x=true)(hi:i'=i+1)(hj:j'=j+1):DI b z p i' j':=by
 have hb:=h.at hx;have hl:=(aL.1 hx).1;obtain⟨h1,h2,h3,h4,h5⟩:=id h;refine⟨by rw[hz,ez];exact h1,by omega,by omega,?_,?_⟩
 .rw [dJ hb O hj,iM,gP,ar hp,<- h4];have e:i'.toNat=i.toNat+1:=by omega
  have hil:i.toNat<(v.set i.toNat x).length:=by rw[ez];omega
  rw[hz,e,j5,bj hil,List.getElem_set_self,List.take_set_of_le (bk _)];rfl
 rw[hz,List.drop_set,ar O];exact h.next hj
def ZjL{b v:List α}{p:α->Bool}{x:α}(hx:v[j.toNat]?=some x)(h:DI b v p i j)(hp:p x=false)(hj:j'=j+1):DI b v p i j':=by have hb:=h.at hx;refine⟨h.1,h.2.1,by have:=h.2.2.1;omega,?_,h.next hj⟩;rw[dJ hb Oo hj,iM,gP,aw vK,r3,cW];exact h.2.2.2.1
def ZjM{b v z r:List α}{p:α->Bool}{n:Nat}{c:α}(hz:z=v.take i.toNat++List.replicate n c)(hr:r=(z.take i.toNat).drop (0:Int).toNat)(h:DI b v p i j)(hi:i<=(v.length:Int))(hj:(v.length:Int)<=j):r=b.filter p:=by obtain⟨h1,h2,h3,h4,h5⟩:=h;rw[da (l:=b) O]at h4;rw[hr,hz,<- h4,vM (by rw[eU];omega),List.take_take,Nat.min_self];rfl
def FD(b:List α)(p:α->Bool)(r:Int):Prop:=(r = -1/\∀x,x∈b->p x=true)\/(0<=r/\r<(b.length:Int)/\(∀(k:Nat) x,(k:Int)<r->b[k]?=some x->p x=true)/\∀x,b[r.toNat]?=some x->p x=false)
def ZjN{b:List α}{p:α->Bool}{x:α}(hx:b[v.toNat]?=some x)(h:∀(k:Nat) x,(k:Int)<v->b[k]?=some x->p x=true)(h0:0<=v)(hp:p x=false):FD b p v:=.inr ⟨h0,by have:=(aL.1 hx).1;omega,h,λy hy=>by rw[<- cA (hx.symm.trans hy)];exact hp⟩
def ZjO{b:List α}{p:α->Bool}(h:∀(k:Nat) x,(k:Int)<v->b[k]?=some x->p x=true)(hv:(b.length:Int)<=v):FD b p (-1):=.inl ⟨rfl,λx hx=>by obtain⟨k,hk,he⟩:=lC.1 hx;exact h k x O uj⟩
def mq{l:List α}{P:α->Prop}{x:α}(hx:l[v.toNat]?=some x)(h:∀(k:Nat) y,(k:Int)<v->l[k]?=some y->P y)(h0:0<=v)(hp:P x)(hw:w=v+1):∀(k:Nat) y,(k:Int)<w->l[k]?=some y->P y:=λk y hk hy=>by
 rcases Z2d h0 hw hk hy hx with hk|rfl
 .exact h k y hk hy
 exact hp
def ZjP{b:List α}{p:α->Bool}(h:FD b p r)(hr:r = -1):b=b.filter p:=by
 rcases h with⟨_,h⟩|⟨h,_⟩
 .exact (vL.2 h).symm
 omega
def ZjQ{b:List α}{p:α->Bool}(h:FD b p r)(hr:r ≠ -1)(hj:j=r+1):DI b b p r j:=by
 rcases h with⟨h,_⟩|⟨h0,h1,h2,h3⟩
 .exact absurd h hr
 have hx:=bj (show r.toNat<b.length by omega);exact ZjJ hx h2 (h3 _ hx) h0 hj
def ZjR{b:List α}{p:α->Bool}(h:FD b p r) : -1<=r/\r<(b.length:Int):=by rcases h with⟨h,_⟩|⟨h0,h1,_⟩<;>omega
def Tot.we{o:Option α}{P:α->Prop}(h:Tot o P):Tot o λa=>P a/\o = .some a:=by obtain⟨a,h1,h2⟩:=h;exact⟨a,h1,h2,h1⟩
def SzL.setM{k m:Nat}{xs z:List (List α)}{y:List α}{v:α}(h:z=xs.set i.toNat (y.set j.toNat v))(hx:SzL k (SzL m λ_=>True) xs)(hy:SzL m (λ_=>True) y):SzL k (SzL m λ_=>True) z:=by
 subst h;refine⟨by rw[ez];exact hx.1,λe he=>?_⟩;rcases kO he with he|he
 .exact hx.2 e he
 rw[he];exact⟨by rw[ez];exact hy.1,λ_ _=>trivial⟩
def ZjS{xs z:List (List α)}{y:List α}{v:α}{n:Nat}(h:z=xs.set i.toNat (y.set j.toNat v))(hy:y∈xs)(hx:∀e,e∈xs->e.length=n):∀e,e∈z->e.length=n:=λe he=>by
 subst h;rcases kO he with he|he
 .exact hx e he
 rw[he,ez];exact hx y hy
def NN(h:l.Nodup)(hx:x∈l):(l.filter λy=>y != x).length+1=l.length:=by rw[<- List.Nodup.erase_eq_filter h x,Oh hx];have:=Oi hx;omega
end Go.PW
namespace Go.PW
open Go.RowKit
variable {ps:List Prop} {xs:List Orc} {st:St} {g:Cfg}
inductive LT (S R:Type):Type 1 where
 |ret (r:R) (ds:List Orc)
 |go (s:S) (ds:List Orc)
 |jn (k:Nat) (s:S) (ds:List Orc) (t:LT S R)
 |br (b:Bool) (t e:LT S R)
 |cs (b:Bool) (t e:LT S R)
 |op {α:Type} (o:Option α) (xs:α->List Orc) (fs gs:α->List Prop) (h:∀x,o=some x->aM (fs x)/\aM (gs x)) (k:α->LT S R)
 |ev (xs:List Orc) (fs:List Prop) (h:aM fs) (t:LT S R)
 |us (ns:List Nat) (t:LT S R)
 |kn (ns:List Nat) (t:LT S R)
 |kg (n:Nat) (t:LT S R)
 |no
def LT.den{S R:Type}:LT S R->Option (S⊕R)
 |.ret r _=>some (.inr r)
 |.go s _=>some (.inl s)
 |.jn _ _ _ t=>t.den
 |.br b t e=>bif b then t.den else e.den
 |.cs b t e=>bif b then t.den else e.den
 |.op o _ _ _ _ k=>o.bind λx=>(k x).den
 |.ev _ _ _ t=>t.den
 |.us _ t=>t.den
 |.kn _ t=>t.den
 |.kg _ t=>t.den
 |.no=>none
inductive E:Type 2 where
 |done
 |fail
 |eq {α:Type} (a b:α) (r:E)
 |teq {α:Type 1} (a b:α) (r:E)
 |two (x y:E)
 |all {α:Type} (k:α->E)
inductive XE:Type 2 where
 |done
 |bad (b:Bool)
 |eq {α:Type} (a:α) (r:XE)
 |teq {α:Type 1} (a:α) (r:XE)
 |two (x y:XE)
 |all {α:Type} (k:α->XE)
noncomputable def E.l(e:E):XE:=E.rec (motive:=λ_=>XE) .done (.bad true) (λa _ _ r =>.eq a r) (λa _ _ r =>.teq a r) (λ_ _ x y =>.two x y) (λ_ k =>.all k) e
noncomputable def E.r(e:E):XE:=E.rec (motive:=λ_=>XE) .done (.bad false) (λ_ b _ r =>.eq b r) (λ_ b _ r =>.teq b r) (λ_ _ x y =>.two x y) (λ_ k =>.all k) e
def E.ok:E->Prop
 |.done=>True
 |.fail=>False
 |.eq a b r=>a=b/\r.ok
 |.teq a b r=>a=b/\r.ok
 |.two x y=>x.ok/\y.ok
 |.all k=>∀x,(k x).ok
def E.sound:∀e:E,e.l=e.r->e.ok
 |.done,_=>trivial
 |.fail,h=>dw
 |.eq a b r,h=>by have h:XE.eq a r.l=XE.eq b r.r:=h;simp only[XE.eq.injEq,heq_eq_eq,true_and]at h;exact⟨h.1,E.sound r h.2⟩
 |.teq a b r,h=>by have h:XE.teq a r.l=XE.teq b r.r:=h;simp only[XE.teq.injEq,heq_eq_eq,true_and]at h;exact⟨h.1,E.sound r h.2⟩
 |.two x y,h=>by have h:XE.two x.l y.l=XE.two x.r y.r:=h;simp only[XE.two.injEq]at h;exact⟨E.sound x h.1,E.sound y h.2⟩
 |.all k,h=>by have h:XE.all (λx=>(k x).l)=XE.all (λx=>(k x).r):=h;simp only[XE.all.injEq,heq_eq_eq,true_and]at h;exact λx=>E.sound (k x) (congrFun h x)
def cds:List Prop->List Prop->(List Prop->E)->E
 |[],fs,k=>k fs
 |p::ps,f::fs,k =>.eq p f (cds ps fs k)
 |_::_,[],_ =>.fail
def ly:∀{ps fs:List Prop} {k:List Prop->E},(cds ps fs k).ok->aM fs->∃fs',aM ps/\aM fs'/\(k fs').ok
 |[],fs,k,h,hf=>⟨fs,ae,hf,h⟩
 |p::ps,f::fs,k,h,hf=>by obtain⟨rfl,h⟩:=h;obtain⟨fs',h1,h2,h3⟩:=ly h hf.2;exact⟨fs',⟨hf.1,h1⟩,h2,h3⟩
 |_::_,[],_,h,_=>h.elim
inductive Sg where
 |cnd (e:Bool) (a b:Code) (K:List Kf)
 |at_ (g:Cfg)
abbrev Esg:=Option (List Prop×List Orc×Sg×St)
def Fc(ps:List Prop):Esg->Esg
 |some (qs,xs,g,st)=>some (ps++qs,xs,g,st)
 |none=>none
def fF(P:Program)(T:TS):Nat->Option Code->List Kf->List Orc->Option Nat->St->Esg
 |0,_,_,_,_,_=>none
 |n+1,none,K,xs,sp,st=>
  match K with
  |[]=>some ([],xs,.at_ (.done .normal),st)
  |.seq c::K=>
   match sp,xs with
   |some 0,[]=>some ([],xs,.at_ (.code c K),st)
   |some (k+1),[]=>fF P T n (some c) K xs (some k) st
   |sp,xs=>fF P T n (some c) K xs sp st
  |.blk _::K=>fF P T n none K xs sp st
  |.scp::K=>fF P T n none K xs sp st
  |.loop c::K=>some ([],xs,.at_ (.head c K),st)
 |n+1,some c,K,xs,sp,st=>
  match c with
  |.skip=>fF P T n none K xs sp st
  |.label _=>fF P T n none K xs sp st
  |.region id ops draw=>
   match D8 P T id ops draw xs st with
   |some (ps,xs',st')=>Fc ps (fF P T n none K xs' sp st')
   |none=>none
  |.seq a b=>fF P T n (some a) (.seq b::K) xs sp st
  |.cond (.tmp t) a b=>
   match get st.tm t with
   |some (.t (.bool e))=>some ([],xs,.cnd e a b K,st)
   |_=>none
  |.cond (.const (.bool v)) a b=>fF P T n (some (bif v then a else b)) K xs sp st
  |.block id body=>fF P T n (some body) (.blk id::K) xs sp st
  |.loop body=>some ([],xs,.at_ (.head body K),st)
  |.scope body=>fF P T n (some body) (.scp::K) xs sp st
  |.exit id=>
   match mi id K with
   |some K'=>fF P T n none K' xs sp st
   |none=>none
  |.ret=>some ([],xs,.at_ (.done .ret),st)
  |_=>none
def seg(P:Program)(T:TS)(g:Cfg)(xs:List Orc)(sp:Option Nat)(st:St):Esg:=
 match g with
 |.code c K=>fF P T 400 (some c) K xs sp st
 |.head c K=>fF P T 400 (some c) (.loop c::K) xs sp st
 |.done _=>none
section
variable {P:Program} {T:TS} {R:Exit->St->Prop}
def ZC6{qs:List Prop}{r:Esg}{g:Sg}(h:Fc qs r=some (ps,xs,g,st)):∃ps',ps=qs++ps'/\r=some (ps',xs,g,st):=by
 unfold Fc at h;split at h
 .cases h;exact⟨_,rfl,rfl⟩
 cases h
def Sg.holds(P:Program)(R:Exit->St->Prop)(st:St):Sg->Prop
 |.cnd e a b K=>PW P (bif e then a else b) (post P K R) st
 |.at_ g=>g.holds P R st
def iS(hm:P.follows .mixedOrders=true)(hT:TOK P T):∀(n:Nat) (oc:Option Code) (K:List Kf) (xs:List Orc) (sp:Option Nat) (st:St) {xs':List Orc} {st':St} {g:Sg} {ps:List Prop},
 fF P T n oc K xs sp st=some (ps,xs',g,st')->aM ps->g.holds P (eD R) st' ->
  match oc with
  |some c=>PW P c (post P K (eD R)) st
  |none=>post P K (eD R) .normal st
 |0,oc,K,xs,sp,st,xs',st',g,ps,h,_,_=>by simp[fF]at h
 |n+1,none,K,xs,sp,st,xs',st',g,ps,h,hc,hg=>by
  simp only[fF]at h;simp only;split at h
  .cases h;exact hg
  .simp only[post,Z2u];split at h
   .cases h;exact hg
   .exact iS hm hT n (some _) _ _ _ _ h hc hg
   exact iS hm hT n (some _) _ _ _ _ h hc hg
  .simp only[post,Z2p];exact iS hm hT n none _ _ _ _ h hc hg
  .simp only[post,NoGo];exact iS hm hT n none _ _ _ _ h hc hg
  cases h;simp only[post,Z2u];exact hg
 |n+1,some c,K,xs,sp,st,xs',st',g,ps,h,hc,hg=>by
  simp only[fF]at h;simp only;split at h
  .exact PW.skip (iS hm hT n none _ _ _ _ h hc hg)
  .exact PW.label (iS hm hT n none _ _ _ _ h hc hg)
  .split at h
   .rename_i ps1 xs1 st1 h1;obtain⟨ps2,rfl,h2⟩:=ZC6 h;obtain⟨c1,c2⟩:=Z5.1 hc;exact ZzD hm hT h1 c1 (iS hm hT n none _ _ _ _ h2 c2 hg)
   cases h
  .exact PW.seq DB
  .split at h
   .rename_i e he;cases h;have hg:PW P (bif e then _ else _) (post P K (eD R)) st:=hg;refine PW.cond rfl he (λhb=>?_) (λhb=>?_)
    .subst hb;exact hg
    subst hb;exact hg
   cases h
  .rename_i v a b;have:=iS hm hT n (some _) _ _ _ _ h hc hg;exact PW.condConst (λhb=>by subst hb;exact this) (λhb=>by subst hb;exact this)
  .exact PW.block DB
  .cases h;exact PW.loopHead hg
  .exact PW.scope DB
  .split at h
   .rename_i K' hu;exact PW.exit (vF hu (iS hm hT n none _ _ _ _ h hc hg))
   cases h
  .cases h;obtain⟨s2,hw2,hr⟩:=hg;exact PW.ret (vG ⟨s2,hw2,hr⟩)
  cases h
def yn(hm:P.follows .mixedOrders=true)(hT:TOK P T){xs':List Orc}{sp:Option Nat}{st':St}{z:Sg}(h:seg P T g xs sp st=some (ps,xs',z,st'))(hc:aM ps)(hg:z.holds P (eD R) st'):g.holds P (eD R) st:=by
 unfold seg at h;split at h
 .exact iS hm hT _ (some _) _ _ _ _ h hc hg
 .have:=iS hm hT _ (some _) _ _ _ _ h hc hg;exact PWL.round (by simpa only[post]using this)
 cases h
def Cfg.weaken{st':St}(hw:Wk st st')(h:g.holds P (eD R) st'):g.holds P (eD R) st:=by
 cases g with
 |code c K=>exact PW.weaken hw h
 |head c K=>exact ZiX hw h
 |done e=>obtain⟨s,h1,h2⟩:=h;exact⟨s,hw.trans h1,h2⟩
end
structure LF (S R:Type) where
 f:Nat
 rs:List RV
 own:Bool
 dirs:S->List Nat
 stf:S->PW.St
 sr:R->List (Nat×Blk)
 res:R->PV
 body:S->LT S R
section
variable {S R:Type}
def uf(P:Program)(f:Nat):Code:=((P.funcs[f]?).bind (·.body)).getD .skip
def LF.cfg(F:LF S R)(P:Program)(s:S):Cfg:=(nav (F.dirs s) (uf P F.f) []).getD (.done .normal)
noncomputable def LF.step(F:LF S R)(s:S):Option (S⊕R):=(F.body s).den
noncomputable def LF.run(F:LF S R)(t:LT S R):Option R:=t.den.bind (dh F.step)
def ni{α:Type}:List (Nat×α)->List Nat
 |[]=>[]
 |(k,_)::r=>k::ni r
def kgo(P:Program)(T:TS)(kn:List (Bool×Bool)):List Nat->Cfg->List Orc->List Prop->PW.St->(Cfg->List Orc->List Prop->PW.St->E)->E
 |[],g,xs,fs,st,k=>k g xs fs st
 |n::ns,g,xs,fs,st,k=>
  match seg P T g xs none st with
  |some (ps,xs',.cnd c a b K,st')=>cds ps fs λfs'=>
   match n with
   |0=>bif c then kgo P T kn ns (.code a K) xs' fs' st' k else kgo P T kn ns (.code b K) xs' fs' st' k
   |i+1=>
    match kn[i]? with
    |some (d,v) =>.eq c d (bif v then kgo P T kn ns (.code a K) xs' fs' st' k else kgo P T kn ns (.code b K) xs' fs' st' k)
    |none =>.fail
  |_ =>.fail
def endE(P:Program)(T:TS)(sp:Option Nat)(g:Cfg)(xs:List Orc)(fs:List Prop)(st:PW.St)(ds:List Orc)(g1:Cfg)(st1:PW.St)(rest:E):E:=
 match seg P T g xs sp st with
 |some (ps,[],.at_ g',st')=>cds ps fs λfs'=>
  match gu st'.tm (ni st1.tm)with
  |some tm=>
   match cH ds ⟨st'.n,tm,st'.Z⟩ with
   |some (qs,[],st2)=>cds qs fs' λ_=>
    match gu st2.tm (ni st1.tm),gu st2.Z (ni st1.Z)with
    |some tm2,some Z =>.eq (g',st2.n,tm2,Z) (g1,st1.n,st1.tm,st1.Z) rest
    |_,_ =>.fail
   |_ =>.fail
  |none =>.fail
 |_ =>.fail
def Fe:Exit->Bool
 |.ret=>true
 |.normal=>true
 |_=>false
def retE(P:Program)(T:TS)(F:LF S R)(g:Cfg)(xs:List Orc)(fs:List Prop)(st:PW.St)(ds:List Orc)(r:R):E:=
 match seg P T g xs none st with
 |some (ps,[],.at_ (.done e),st')=>bif Fe e then cds ps fs λfs'=>
  match cH ds st' with
  |some (qs,[],st2)=>cds qs fs' λfs2=>
   bif F.own then
    match AQ F.rs (ni (F.sr r)) st2 with
    |some (Z,p) =>.eq (Z,p) (F.sr r,F.res r) .done
    |none =>.fail
   else
    match AN F.rs st2 with
    |some (q2,p)=>cds q2 fs2 λ_ =>.eq (([]:List (Nat×Blk)),p) (F.sr r,F.res r) .done
    |none =>.fail
  |_ =>.fail
  else .fail
 |_ =>.fail
def brE(P:Program)(T:TS)(g:Cfg)(xs:List Orc)(fs:List Prop)(st:PW.St)(b:Bool)(x y:Cfg->List Orc->List Prop->PW.St->E):E:=
 match seg P T g xs none st with
 |some (ps,xs',.cnd c A B K,st')=>cds ps fs λfs' =>.eq c b (.two (x (.code A K) xs' fs' st') (y (.code B K) xs' fs' st'))
 |_ =>.fail
structure Kn where
 bs:List (Bool×Bool)
 gs:List Prop
structure Kn.OK (k:Kn):Prop where
 b:∀p∈k.bs,p.1=p.2
 g:∀p∈k.gs,p
def ZaF:∀{ps:List Prop},aM ps->∀p∈ps,p
 |p::ps,h,q,hq=>by
  rcases cm.1 hq with rfl|hq
  .exact h.1
  exact ZaF h.2 q hq
def uh(gs:List Prop):List Nat->Option (List Prop)
 |[]=>some []
 |n::ns=>
  match gs[n]?,uh gs ns with
  |some p,some ps=>some (p::ps)
  |_,_=>none
def ZaG{gs:List Prop}(h:∀p∈gs,p):∀{ns:List Nat} {ps:List Prop},uh gs ns=some ps->aM ps
 |[],ps,hp=>by cases hp;trivial
 |n::ns,ps,hp=>by
  simp only[uh]at hp;split at hp
  .rename_i p qs h1 h2;cases hp;exact⟨h p (bH h1),ZaG h h2⟩
  cases hp
def Kn.OK.br{k:Kn}(h:k.OK)(b:Bool):(Kn.mk (k.bs++[(b,b)]) k.gs).OK:=⟨λp hp=>by
 rcases cb.1 hp with hp|hp
 .exact h.b p hp
 rw[dW.1 hp],h.g⟩
def Kn.OK.op{k:Kn}(h:k.OK){gs:List Prop}(hg:aM gs):(Kn.mk k.bs (k.gs++gs)).OK:=⟨h.b,λp hp=>by
 rcases cb.1 hp with hp|hp
 .exact h.g p hp
 exact ZaF hg p hp⟩
noncomputable def chk(P:Program)(T:TS)(F:LF S R)(t:LT S R):Cfg->List Orc->List Prop->Kn->PW.St->E:=
 LT.rec (motive:=λ_=>Cfg->List Orc->List Prop->Kn->PW.St->E)
  (λr ds g xs fs _ st=>retE P T F g xs fs st ds r)
  (λs ds g xs fs _ st=>endE P T none g xs fs st ds (F.cfg P s) (F.stf s) .done)
  (λk s ds t _ g xs fs _ st=>endE P T (some k) g xs fs st ds (F.cfg P s) (F.stf s) (.teq t (F.body s) .done))
  (λb _ _ x y g xs fs kn st=>brE P T g xs fs st b (λg xs fs st=>x g xs fs ⟨kn.bs++[(b,true)],kn.gs⟩ st) (λg xs fs st=>y g xs fs ⟨kn.bs++[(b,false)],kn.gs⟩ st))
  (λb _ _ x y g xs fs kn st =>.two (x g xs fs ⟨kn.bs++[(b,true)],kn.gs⟩ st) (y g xs fs ⟨kn.bs++[(b,false)],kn.gs⟩ st))
  (λ_ X Fs Gs _ _ k g xs fs kn st =>.all λx=>k x g (xs++X x) (fs++Fs x) ⟨kn.bs,kn.gs++Gs x⟩ st)
  (λX Fs _ _ k g xs fs kn st=>k g (xs++X) (fs++Fs) kn st)
  (λns _ k g xs fs kn st=>match uh kn.gs ns with|some qs=>k g xs (fs++qs) kn st|none =>.fail)
  (λns _ k g xs fs kn st=>kgo P T kn.bs ns g xs fs st λg xs fs st=>k g xs fs kn st)
  (λn _ k g xs fs kn st=>match kn.bs[n]? with|some (d,v)=>k g (xs++[.br v]) (fs++[d=v]) kn st|none =>.fail)
  (λ_ _ _ _ _ =>.done)
  t
section
variable {P:Program} {T:TS} {Q:Exit->PW.St->Prop}
def ui(hm:P.follows .mixedOrders=true)(hT:TOK P T){kn:List (Bool×Bool)}(hk:∀p∈kn,p.1=p.2){k:Cfg->List Orc->List Prop->PW.St->E}(H:∀g xs fs st,(k g xs fs st).ok->aM fs->g.holds P (eD Q) st) :
 ∀(ns:List Nat) (g:Cfg) (xs:List Orc) (fs:List Prop) (st:PW.St),(kgo P T kn ns g xs fs st k).ok->aM fs->g.holds P (eD Q) st
 |[],g,xs,fs,st,h,hf=>H g xs fs st h hf
 |n::ns,g,xs,fs,st,h,hf=>by
  simp only[kgo]at h;split at h
  .rename_i ps xs' c a b K st' hs;obtain⟨fs',h1,h2,h3⟩:=ly h hf;refine yn hm hT hs h1 ?_;show PW P (bif c then a else b) (post P K (eD Q)) st';split at h3
   .cases c with
    |true=>exact ui hm hT hk H ns _ _ _ _ h3 h2
    |false=>exact ui hm hT hk H ns _ _ _ _ h3 h2
   split at h3
   .rename_i d v hd;obtain⟨rfl,h3⟩:=h3;have:c=v:=hk _ (bH hd);subst this;cases c with
    |true=>exact ui hm hT hk H ns _ _ _ _ h3 h2
    |false=>exact ui hm hT hk H ns _ _ _ _ h3 h2
   exact h3.elim
  exact h.elim
def ZaH(hm:P.follows .mixedOrders=true)(hT:TOK P T){sp:Option Nat}{g1:Cfg}{fs:List Prop}{st st1:PW.St}{ds:List Orc}{rest:E}(h:(endE P T sp g xs fs st ds g1 st1 rest).ok)(hf:aM fs):(g1.holds P (eD Q) st1->g.holds P (eD Q) st)/\rest.ok:=by
 unfold endE at h;split at h
 .rename_i ps g' st' hs;obtain⟨fs',h1,h2,h3⟩:=ly h hf;split at h3
  .rename_i tm ht;split at h3
   .rename_i qs st2 hd;obtain⟨fs2,h4,_,h5⟩:=ly h3 h2;split at h5
    .rename_i tm2 Z ht2 hσ;obtain⟨h6,h7⟩:=h5;refine⟨λhg=>yn hm hT hs h1 (show g'.holds P (eD Q) st' from ?_),h7⟩;simp only[bJ]at h6;obtain⟨rfl,e1,e2,e3⟩:=h6;have hp:gu st'.Z (ni st'.Z)=gu st'.Z (ni st'.Z):=rfl;have w1:Wk st' ⟨st'.n,tm,st'.Z⟩:=λ_ _ _ ⟨β,h⟩=>⟨β,h.sub (bk _) (λi p hp=>⟨jL ht i p hp,(h.tm i p (jL ht i p hp)).1⟩) (λl o ho=>ho)⟩;have w2:=fj _ _ hd h4;have w3:Wk st2 ⟨st2.n,tm2,Z⟩:=λ_ _ _ ⟨β,h⟩=>⟨β,h.sub (bk _) (λi p hp=>⟨jL ht2 i p hp,(h.tm i p (jL ht2 i p hp)).1⟩) (λl o ho=>jL hσ l o ho)⟩;have e:(⟨st2.n,tm2,Z⟩:PW.St)=st1:=by rw[e1,e2,e3]
     exact Cfg.weaken ((w1.trans w2).trans w3) (e▸hg)
    exact h5.elim
   exact h3.elim
  exact h3.elim
 exact h.elim
def ZC7(hm:P.follows .mixedOrders=true)(hT:TOK P T){F:LF S R}{fs:List Prop}{st:PW.St}{ds:List Orc}{r:R}(h:(retE P T F g xs fs st ds r).ok)(hf:aM fs):g.holds P (eD (Z2x F.rs (F.sr r) (F.res r))) st:=by
 unfold retE at h;split at h
 .rename_i ps e st' hs;have he:Fe e=true:=by cases hb:Fe e with|true=>rfl|false=>rw[hb]at h;exact h.elim
  rw[he,aD]at h;have hR:∀st2,rZ F.rs (F.sr r) (F.res r) st2->Z2x F.rs (F.sr r) (F.res r) e st2:=λst2 h=>by cases e<;>first|exact h|cases he
  obtain⟨fs',h1,h2,h3⟩:=ly h hf;split at h3
  .rename_i qs st2 hd;obtain⟨fs2,h4,h6,h5⟩:=ly h3 h2;refine yn hm hT hs h1 (show eD (Z2x F.rs (F.sr r) (F.res r)) e st' from ?_);refine⟨st2,fj _ _ hd h4,hR st2 ?_⟩;cases ho:F.own with
   |true=>
    simp only[ho,aD]at h5;split at h5
    .rename_i Z p hr;have:=ZiZ hr;obtain⟨h7,_⟩:=h5;simp only[bJ]at h7;rw[h7.1,h7.2]at this;exact this
    exact h5.elim
   |false=>
    simp only[ho,aE]at h5;split at h5
    .rename_i q2 p hr;obtain⟨_,h7,_,h8⟩:=ly h5 h6;have:=ZiY hr h7;obtain⟨h9,_⟩:=h8;simp only[bJ]at h9;rw[h9.1,h9.2]at this;exact this
    exact h5.elim
  exact h3.elim
 exact h.elim
def ZC8{p:Prop}(h:aM ps)(hp:p):aM (ps++[p]):=Z5.2 ⟨h,hp,ae⟩
def YD(hm:P.follows .mixedOrders=true)(hT:TOK P T)(F:LF S R)(J:∀s,(chk P T F (F.body s) (F.cfg P s) [] [] ⟨[],[]⟩ (F.stf s)).ok){r:R} :
 ∀(t:LT S R) (g:Cfg) (xs:List Orc) (fs:List Prop) (kn:Kn) (st:PW.St) (y:S⊕R),(chk P T F t g xs fs kn st).ok->aM fs->kn.OK->t.den=some y ->
  Ok P F.rs F.sr F.res (F.cfg P) F.stf r y->g.holds P (eD (Z2x F.rs (F.sr r) (F.res r))) st:=by
 intro t;induction t with
 |ret r' ds=>
  intro g xs fs kn st y h hf hk hd hy;cases hd;have hy:r'=r:=hy;subst hy;exact ZC7 hm hT h hf
 |go s ds=>
  intro g xs fs kn st y h hf hk hd hy;cases hd;exact(ZaH hm hT h hf).1 hy
 |jn k s ds t ih=>
  intro g xs fs kn st y h hf hk hd hy;have h2:=ZaH (Q:=Z2x F.rs (F.sr r) (F.res r)) hm hT h hf;refine h2.1 (ih _ [] [] ⟨[],[]⟩ _ y ?_ trivial ⟨(λ_ hp=>nomatch hp),(λ_ hp=>nomatch hp)⟩ hd hy);rw[h2.2.1];exact J s
 |br b t e ih1 ih2=>
  intro g xs fs kn st y h hf hk hd hy;have h:(brE P T g xs fs st b (λg xs fs st=>chk P T F t g xs fs ⟨kn.bs++[(b,true)],kn.gs⟩ st) (λg xs fs st=>chk P T F e g xs fs ⟨kn.bs++[(b,false)],kn.gs⟩ st)).ok:=h;unfold brE at h;split at h
  .rename_i ps xs' c A B K st' hs;obtain⟨fs',h1,h2,h3⟩:=ly h hf;obtain⟨rfl,h4,h5⟩:=h3;refine yn hm hT hs h1 ?_;show PW P (bif c then A else B) (post P K _) st';cases c with
   |true=>exact ih1 (.code A K) xs' fs' _ st' y h4 h2 (hk.br true) hd hy
   |false=>exact ih2 (.code B K) xs' fs' _ st' y h5 h2 (hk.br false) hd hy
  exact h.elim
 |cs b t e ih1 ih2=>
  intro g xs fs kn st y h hf hk hd hy;have h:(chk P T F t g xs fs ⟨kn.bs++[(b,true)],kn.gs⟩ st).ok/\(chk P T F e g xs fs ⟨kn.bs++[(b,false)],kn.gs⟩ st).ok:=h;cases b with
  |true=>exact ih1 g xs fs _ st y h.1 hf (hk.br true) hd hy
  |false=>exact ih2 g xs fs _ st y h.2 hf (hk.br false) hd hy
 |op o X Fs Gs hx k ih=>
  intro g xs fs kn st y h hf hk hd hy;have h:∀x,(chk P T F (k x) g (xs++X x) (fs++Fs x) ⟨kn.bs,kn.gs++Gs x⟩ st).ok:=h;cases o with
  |none=>cases hd
  |some x=>exact ih x g _ _ _ st y (h x) (Z5.2 ⟨hf,(hx x rfl).1⟩) (hk.op (hx x rfl).2) hd hy
 |ev X Fs hx t ih=>
  intro g xs fs kn st y h hf hk hd hy;exact ih g _ _ kn st y h (Z5.2 ⟨hf,hx⟩) hk hd hy
 |us ns t ih=>
  intro g xs fs kn st y h hf hk hd hy;have h:E.ok (match uh kn.gs ns with|some qs=>chk P T F t g xs (fs++qs) kn st|none =>.fail):=h;split at h
  .rename_i qs hq;exact ih g _ _ kn st y h (Z5.2 ⟨hf,ZaG hk.g hq⟩) hk hd hy
  exact h.elim
 |kn ns t ih=>
  intro g xs fs kn st y h hf hk hd hy;exact ui hm hT hk.b (λg xs fs st h hf=>ih g xs fs kn st y h hf hk hd hy) ns g xs fs st h hf
 |kg n t ih=>
  intro g xs fs kn st y h hf hk hd hy;have h:E.ok (match kn.bs[n]? with|some (d,v)=>chk P T F t g (xs++[Orc.br v]) (fs++[d=v]) kn st|none =>.fail):=h;split at h
  .rename_i d v hv;exact ih g _ _ kn st y h (ZC8 hf (hk.b _ (bH hv))) hk hd hy
  exact h.elim
 |no=>
  intro g xs fs kn st y h hf hk hd hy;cases hd
end
end
end Go.PW
