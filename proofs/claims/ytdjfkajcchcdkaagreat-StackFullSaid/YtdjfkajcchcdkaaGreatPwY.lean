import Derived.Test.YtdjfkajcchcdkaaGreatPwLr
import Derived.Lib.IndexMore
import Derived.ProofKit
import GoSem.ClaimJoined
import Derived.KernelRfl
set_option linter.all false
namespace Go.PW
open Go.RowKit
inductive TK where
 |bool
 |int (k:IntKind)
 |str
 |slice (e:Nat)
 |struct (fs:List (Nat×Nat))
 |arr (n e:Nat)
 |map (k e:Nat)
 |ptr
 |other
structure fc where
 agg:Bool
 size:Nat
 bytes:Nat
 zero:Option (List PV)
 k:TK
 flat:Option (Nat×List LK)
abbrev TS:=List (Nat×fc)
def TKOK(P:Program)(t:Nat):TK->Prop
 |.bool=>P.underlying t=some .bool
 |.int k=>P.underlying t=some (.int k)
 |.str=>P.underlying t=some .string
 |.slice e=>P.underlying t=some (.slice e)
 |.struct fs=>∃fs',P.underlying t=some (.struct fs')/\fs'.toList.map (λf=>(f.offset,f.type))=fs
 |.arr n e=>P.underlying t=some (.array n e)
 |.map k e=>P.underlying t=some (.map k e)
 |.ptr=>P.underlying t=some (.pointer (P.pointee t))
 |.other=>True
structure nr (P:Program) (t:Nat) (i:fc):Prop where
 ty:TyF P t i.agg i.size
 by_:(P.info? t).map (λi=>(i.size,i.bytes))=some (i.size,i.bytes)
 z:∀z,i.zero=some z->eR P t=some z
 k:TKOK P t i.k
 fl:∀d ks,i.flat=some (d,ks)->d<=10000/\eA P d t=some ks/\i.agg=true/\P.eqGuardType P.depth t=false
def TOK(P:Program)(T:TS):Prop:=∀t i,get T t=some i->nr P t i
def TAll(P:Program):TS->Prop
 |[]=>True
 |(t,i)::T=>nr P t i/\TAll P T
def TOK.of_all{P:Program}:∀{T:TS},TAll P T->TOK P T
 |[],_,t,i,h=>dv
 |(u,j)::T,hall,t,i,h=>by
  simp only[get]at h;cases hb:Nat.beq u t with
  |true=>have:u=t:=(aW _ _).1 hb;subst this;simp only[hb,aD,ao]at h;subst h;exact hall.1
  |false=>simp only[hb,aB]at h;exact TOK.of_all hall.2 t i h
inductive Orc where
 |br (b:Bool)
 |cs (c:List U)
 |es (e:List (List U))
 |num (n:Int)
 |lab (l:Nat)
 |call (r:PV)
 |nat (n:Nat)
 |byte (b:UInt8)
 |lit
 |frz (l:Nat)
 |pick (ks ls:List Nat)
 |own (t l k:Nat)
 |ahead (d:Nat)
 |relen (l:Nat)
 |cell (d:Nat) (c:List U)
 |stop
 |callO (S:Bool) (ls:List Nat) (d:Nat) (fr:List (Nat×Blk)) (r:PV)
 |callU (S:Bool) (ls:List Nat) (d:Nat) (s1:List (Nat×Blk)) (r:PV)
 |relab (l m:Nat)
 |ownc (t j l k:Nat)
 |ownb (b j l k:Nat)
 |nilt (t:Nat)
 |niltc (t j:Nat)
 |niltb (b j:Nat)
 |stopAt (k:Nat)
 |sp (cs:List PV)
 |mp (es:List (Int×List U))
 |tomat (l:Nat)
 |tomr (l k:Nat)
 |frzm (l:Nat)
 |callC (l b:Nat)
 |opn (l i:Nat) (e:List U)
 |cls (l:Nat) (es:List (List U))
abbrev Ev:=Option (List Prop×List Orc×Stp)
def ev0(xs:List Orc)(p:PV):Ev:=some ([],xs,⟨[],p,[]⟩)
def ev1(ps:List Prop)(xs:List Orc)(p:PV):Ev:=some (ps,xs,⟨[],p,[]⟩)
def me(a b:IntKind):Bool:=decide (a=b)
def uV(op:BinOp)(k k':IntKind)(a b:Int)(xs:List Orc):Ev:=
 match op with
 |.shl=>ev1 [¬b<0] xs (.t (.int k (k.wrap (a*2 ^ (min b.toNat k.bits)))))
 |.shr=>ev1 [¬b<0] xs (.t (.int k (a.fdiv (2 ^ (min b.toNat k.bits)))))
 |.quo=>bif me k k' then ev1 [b≠0] xs (.t (.int k (k.wrap (a.tdiv b))))else none
 |.rem=>bif me k k' then ev1 [b≠0] xs (.t (.int k (a.tmod b)))else none
 |_=>bif me k k' then
  match nu op k a b with
  |some r=>ev0 xs (.t r)
  |none=>none
  else none
def uW(T:TS)(op:BinOp)(xT:Nat)(px py:PV)(xs:List Orc):Ev:=
 match px,py with
 |.t (.int k a),.t (.int k' b)=>uV op k k' a b xs
 |.t (.str a),.t (.str b)=>
  match op with
  |.add=>ev1 [a.length+b.length<=9223372036854775807] xs (.t (.str (a++b)))
  |_=>
   match uX op a b with
   |some r=>ev0 xs (.t r)
   |none=>none
 |.t (.bool a),.t (.bool b)=>
  match(get T xT).map (·.k),op with
  |some TK.bool,.eql=>ev0 xs (.t (.bool (a==b)))
  |some TK.bool,.neq=>ev0 xs (.t (.bool (!(a==b))))
  |_,_=>none
 |.agg ZbU,.agg bs=>
  match iz ZbU,iz bs,(get T xT).bind (·.flat)with
  |some ZbU,some bs,some (_,ks)=>
   bif fits ks ZbU&&fits ks bs then
    match eqOp op (ax ZbU bs)with
    |some r=>ev0 xs (.t (.bool r))
    |none=>none
   else none
  |_,_,_=>none
 |_,_=>none
section
variable {P:Program} {T:TS} {o:Oper} {tm:List (Nat×PV)} {Z:List (Nat×Blk)} {xs xs':List Orc} {ps:List Prop} {s:Stp}
def cT{p:PV}(h:ev0 xs p=some (ps,xs',s)):ps=[]/\xs'=xs/\s=⟨[],p,[]⟩:=by simp only[ev0,ao,bp]at h;exact⟨h.1.symm,h.2.1.symm,h.2.2.symm⟩
def dU{qs:List Prop}{p:PV}(h:ev1 qs xs p=some (ps,xs',s)):ps=qs/\xs'=xs/\s=⟨[],p,[]⟩:=by simp only[ev1,ao,bp]at h;exact⟨h.1.symm,h.2.1.symm,h.2.2.symm⟩
def MN{op:BinOp}{xT yT:TypeId}{x y:Operand}{k k':IntKind}{a b:Int}(ho:o.op = .binOp op xT x y yT)(hx:af tm x=some (.t (.int k a)))(hy:af tm y=some (.t (.int k' b)))
 (h:uV op k k' a b xs=some (ps,xs',s)) (hc:aI ps):aQ P o tm Z s.need s.p s.news:=by
 unfold uV at h;split at h
 .obtain⟨rfl,rfl,rfl⟩:=dU h;exact Ch ho hx hy (by simp[rb,hc.1])
 .obtain⟨rfl,rfl,rfl⟩:=dU h;exact Ch ho hx hy (by simp[rb,hc.1])
 .cases hk:me k k' with
  |false=>simp[hk]at h
  |true=>
   simp only[hk,aD]at h;have:k=k':=gj hk;subst this;obtain⟨rfl,rfl,rfl⟩:=dU h;exact uY ho hx hy (by have:=hc.1;simp[nu,this])
 .cases hk:me k k' with
  |false=>simp[hk]at h
  |true=>
   simp only[hk,aD]at h;have:k=k':=gj hk;subst this;obtain⟨rfl,rfl,rfl⟩:=dU h;exact uY ho hx hy (by have:=hc.1;simp[nu,this])
 cases hk:me k k' with
 |false=>simp[hk]at h
 |true=>
  simp only[hk,aD]at h;have:k=k':=gj hk;subst this;split at h
  .rename_i r hr;obtain⟨rfl,rfl,rfl⟩:=cT h;exact uY ho hx hy hr
  cases h
def MO(hT:TOK P T){op:BinOp}{xT yT:TypeId}{x y:Operand}{px py:PV}(ho:o.op = .binOp op xT x y yT)(hx:af tm x=some px)(hy:af tm y=some py)
 (h:uW T op xT px py xs=some (ps,xs',s)) (hc:aI ps):aQ P o tm Z s.need s.p s.news:=by
 unfold uW at h;split at h
 .exact MN ho hx hy h hc
 .split at h
  .obtain⟨rfl,rfl,rfl⟩:=dU h;exact MP ho hx hy hc.1
  split at h
  .rename_i r hr;obtain⟨rfl,rfl,rfl⟩:=cT h;exact MQ ho hx hy hr
  cases h
 .split at h
  .rename_i hk;obtain⟨rfl,rfl,rfl⟩:=cT h;simp only[ca]at hk;obtain⟨i,hi,hik⟩:=hk;have:=(hT _ _ hi).k;rw[hik]at this;exact Ci ho this hx hy (.inl ⟨rfl,rfl⟩)
  .rename_i hk;obtain⟨rfl,rfl,rfl⟩:=cT h;simp only[ca]at hk;obtain⟨i,hi,hik⟩:=hk;have:=(hT _ _ hi).k;rw[hik]at this;exact Ci ho this hx hy (.inr ⟨rfl,rfl⟩)
  cases h
 .split at h
  .rename_i ZbU bs d ks ha hb hf;cases hfit:(fits ks ZbU&&fits ks bs)with
   |false=>simp[hfit]at h
   |true=>
    simp only[hfit,aD]at h;simp only[aM]at hfit;split at h
    .rename_i r hr;obtain⟨rfl,rfl,rfl⟩:=cT h;simp only[c9]at hf;obtain⟨i,hi,hf⟩:=hf;have hok:=hT _ _ hi;obtain⟨hd,hfl,hag,hgt⟩:=hok.fl _ _ hf;have e1:=mf ha;have e2:=mf hb;subst e1;subst e2;obtain⟨dd,hu,hdr⟩:=hok.ty.und;exact MR d ks ho hd hfl ⟨dd,hu,by rw[hdr];exact hag⟩ hgt hx hy hfit.1 hfit.2 hr
    cases h
  cases h
 cases h
def TOK.size{t:Nat}{i:fc}(hT:TOK P T)(h:get T t=some i):∃inf,P.info? t=some inf/\inf.size=i.size:=(hT t i h).ty.info
def TOK.fieldInfo{t f q:Nat}{i j:fc}{fs:List (Nat×Nat)}{fT:Nat}(hT:TOK P T)(h:get T t=some i)(hk:i.k = .struct fs)(hf:fs[f]?=some (q,fT))(hj:get T fT=some j):PW.fieldInfo P t f=some (q,j.size):=by
 have:=(hT t i h).k;rw[hk]at this;obtain⟨fs',hu,hfs⟩:=this;subst hfs;simp only[fq,ca]at hf;obtain⟨fl,hfl,he⟩:=hf;cases he;obtain⟨inf,hi,hs⟩:=hT.size hj;simp only[PW.fieldInfo,hu];have:fs'[f]?=some fl:=by simpa using hfl
 simp[this,hi,hs]
def TOK.arrInfo{t n e:Nat}{i j:fc}(hT:TOK P T)(h:get T t=some i)(hk:i.k = .arr n e)(hj:get T e=some j):PW.arrInfo P t=some (n,j.size):=by have:=(hT t i h).k;rw[hk]at this;obtain⟨inf,hi,hs⟩:=hT.size hj;have hu:P.underlying t=some (.array n e):=this;simp[PW.arrInfo,hu,hi,hs]
def TOK.slInfo{t e:Nat}{i j:fc}(hT:TOK P T)(h:get T t=some i)(hk:i.k = .slice e)(hj:get T e=some j):PW.slInfo P t=some j.size:=by have:=(hT t i h).k;rw[hk]at this;obtain⟨inf,hi,hs⟩:=hT.size hj;have hu:P.underlying t=some (.slice e):=this;simp[PW.slInfo,hu,hi,hs]
def dm(T:TS)(t:Nat):Option (Nat×fc):=
 match get T t with
 |some ⟨_,_,_,_,.slice e,_⟩=>(get T e).map λj=>(e,j)
 |_=>none
def eB{t e:Nat}{j:fc}(h:dm T t=some (e,j)):∃i,get T t=some i/\i.k = .slice e/\get T e=some j:=by
 unfold dm at h;split at h
 .rename_i hi;simp only[ca]at h;obtain⟨j',hj,he⟩:=h;cases he;exact⟨_,hi,rfl,hj⟩
 cases h
def mg(T:TS)(t:Nat):Option (Nat×Nat×fc):=
 match get T t with
 |some ⟨_,_,_,_,.arr n e,_⟩=>(get T e).map λj=>(n,e,j)
 |_=>none
def Z3c{t n e:Nat}{j:fc}(h:mg T t=some (n,e,j)):∃i,get T t=some i/\i.k = .arr n e/\get T e=some j:=by
 unfold mg at h;split at h
 .rename_i hi;simp only[ca]at h;obtain⟨j',hj,he⟩:=h;cases he;exact⟨_,hi,rfl,hj⟩
 cases h
def Z6s(T:TS)(t f:Nat):Option (Nat×fc):=
 match get T t with
 |some ⟨_,_,_,_,.struct fs,_⟩=>(fs[f]?).bind λx=>(get T x.2).map λj=>(x.1,j)
 |_=>none
def Z4q{t f q:Nat}{j:fc}(h:Z6s T t f=some (q,j)):∃i fs fT,get T t=some i/\i.k = .struct fs/\fs[f]?=some (q,fT)/\get T fT=some j:=by
 unfold Z6s at h;split at h
 .rename_i hi;simp only[c9,ca]at h;obtain⟨⟨x1,x2⟩,hx,j',hj,he⟩:=h;cases he;exact⟨_,_,_,hi,rfl,hx,hj⟩
 cases h
def ja{t e:Nat}{j:fc}{z:List PV}(hT:TOK P T)(h:dm T t=some (e,j))(hz:j.zero=some z)(hpos:Nat.blt 0 j.size=true)(hl:Nat.beq z.length j.size=true):ElF P t e j.size j.bytes z:=by obtain⟨i,hi,hk,hj⟩:=eB h;have h1:=(hT t i hi).k;rw[hk]at h1;exact { und:=h1,info:=(hT e j hj).by_,z:=(hT e j hj).z z hz,pos:=(by rw[fQ]at hpos;exact hpos),len:=(aW _ _).1 hl }
end
end Go.PW
namespace Go.PW
open Go.RowKit
def ev2(ps:List Prop)(xs:List Orc)(need:List Nat)(p:PV):Ev:=some (ps,xs,⟨need,p,[]⟩)
def ev3(ps:List Prop)(xs:List Orc)(p:PV)(l:Nat)(b:Blk):Ev:=some (ps,xs,⟨[],p,[(l,b)]⟩)
def eY(tm:List (Nat×PV)):List Operand->Option (List PV)
 |[]=>some []
 |x::l=>
  match af tm x,eY tm l with
  |some p,some ps=>some (p::ps)
  |_,_=>none
def uh{tm:List (Nat×PV)}:∀{l:List Operand} {ps:List PV},eY tm l=some ps->l.mapM (af tm)=some ps
 |[],ps,h=>by simp only[eY,ao]at h;subst h;rfl
 |x::l,ps,h=>by
  simp only[eY]at h;split at h
  .rename_i p qs hp hq;cases h;rw[jZ,hp,uh hq];rfl
  cases h
mutual
def cz(Z:List (Nat×Blk)):PV->Option (List Prop×PV)
 |.t x=>some ([],.t x)
 |.nils=>some ([],.t (.sl []))
 |.osl l n=>
  match get Z l with
  |some (.row _ es)=>some ([es.length=n],.t (.sl es))
  |_=>none
 |.bptr l o=>
  match get Z l with
  |some (.box cs)=>match iz cs with|some ts=>some ([],.vptr (ts.drop o))|none=>none
  |_=>none
 |.rptr _ _ _ _=>none
 |.vptr cs=>some ([],.vptr cs)
 |.agg cs=>match eN Z cs with|some (ps,ds)=>some (ps,.agg ds)|none=>none
 |.tup cs=>match eN Z cs with|some (ps,ds)=>some (ps,.tup ds)|none=>none
 |.fn f cs=>match eN Z cs with|some (ps,ds)=>some (ps,.fn f ds)|none=>none
 |.own l d=>
  match d,get Z l with
  |.msl n,some (.mat _ _ es)=>some ([es.length=n],.t (.sl es))
  |_,_=>none
def eN(Z:List (Nat×Blk)):List PV->Option (List Prop×List PV)
 |[]=>some ([],[])
 |c::cs=>
  match cz Z c,eN Z cs with
  |some (ps,d),some (qs,ds)=>some (ps++qs,d::ds)
  |_,_=>none
end
mutual
def wb{Z Z':List (Nat×Blk)}(h0:∀l,get Z' l=none):∀{p q:PV} {ps:List Prop},cz Z p=some (ps,q)->aI ps->Frz Z Z' p q
 |.t x,q,ps,h,_=>Ki
 |.nils,q,ps,h,_=>by simp only[cz,ao,bp]at h;simp only[Frz];exact .inl h.2.symm
 |.osl l n,q,ps,h,hc=>by
  simp only[cz]at h;split at h
  .rename_i k es hg;cases h;simp only[Frz];exact .inr ⟨k,es,hg,hc.1,h0 l,rfl⟩
  cases h
 |.bptr l o,q,ps,h,_=>by
  simp only[cz]at h;split at h
  .rename_i cs hg;split at h
   .rename_i ts hts;cases h;have e:=mf hts;subst e;simp only[Frz];exact .inr ⟨ts,hg,h0 l,rfl⟩
   cases h
  cases h
 |.rptr _ _ _ _,q,ps,h,_=>by simp[cz]at h
 |.vptr cs,q,ps,h,_=>Ki
 |.agg cs,q,ps,h,hc=>by
  simp only[cz]at h;split at h
  .rename_i ps' ds hds;cases h;simp only[Frz];exact⟨ds,rfl,lY h0 hds hc⟩
  cases h
 |.tup cs,q,ps,h,hc=>by
  simp only[cz]at h;split at h
  .rename_i ps' ds hds;cases h;simp only[Frz];exact⟨ds,rfl,lY h0 hds hc⟩
  cases h
 |.fn f cs,q,ps,h,hc=>by
  simp only[cz]at h;split at h
  .rename_i ps' ds hds;cases h;simp only[Frz];exact⟨ds,rfl,lY h0 hds hc⟩
  cases h
 |.own l d,q,ps,h,hc=>by
  simp only[cz]at h;split at h
  .rename_i n k q0 es hg;cases h;simp only[Frz];exact .inr ⟨n,k,q0,es,rfl,hg,hc.1,h0 l,rfl⟩
  cases h
def lY{Z Z':List (Nat×Blk)}(h0:∀l,get Z' l=none):∀{cs ds:List PV} {ps:List Prop},eN Z cs=some (ps,ds)->aI ps->aZ Z Z' cs ds
 |[],ds,ps,h,_=>by simp only[eN,ao,bp]at h;simp only[aZ];exact h.2.symm
 |c::cs,ds,ps,h,hc=>by
  simp only[eN]at h;split at h
  .rename_i ps1 d qs ds' h1 h2;cases h;obtain⟨hc1,hc2⟩:=bA.1 hc;simp only[aZ];exact⟨d,ds',rfl,wb h0 h1 hc1,lY h0 h2 hc2⟩
  cases h
end
mutual
def qt:PV->List Nat
 |.osl l _=>[l]
 |.bptr l _=>[l]
 |.rptr l _ _ _=>[l]
 |.agg cs=>gP cs
 |.tup cs=>gP cs
 |.fn _ cs=>gP cs
 |.own l _=>[l]
 |_=>[]
def gP:List PV->List Nat
 |[]=>[]
 |p::ps=>qt p++gP ps
end
mutual
def LG{m:Nat}:∀(p:PV),p.has m=true->m∈qt p
 |.t _,h=>AP
 |.nils,h=>AP
 |.vptr _,h=>AP
 |.osl l n,h=>tP
 |.bptr l n,h=>tP
 |.rptr l _ _ _,h=>tP
 |.agg cs,h=>Az
 |.tup cs,h=>Az
 |.fn _ cs,h=>Az
 |.own l n,h=>tP
def kr{m:Nat}:∀(ps:List PV),PV.hasAny m ps=true->m∈gP ps
 |[],h=>by simp[PV.hasAny]at h
 |p::ps,h=>by
  simp only[PV.hasAny,gz]at h;simp only[gP,cN];rcases h with h|h
  .exact .inl (LG p h)
  exact .inr (kr ps h)
end
def jI(agg:Bool)(c:List U):PV:=bif agg then .agg (c.map .t)else(match c with|[x] =>.t x|_ =>.agg (c.map .t))
def Z0a(T:TS):List (Nat×Nat)->Option (List (Nat×Nat))
 |[]=>some []
 |(q,t)::l=>
  match get T t,Z0a T l with
  |some i,some ps=>some ((q,i.size)::ps)
  |_,_=>none
def BH(T:TS)(t:Nat)(ps:List (Nat×PV))(xs:List Orc):Ev:=
 match get T t with
 |some ⟨_,_,_,some z,.struct fs,_⟩=>
  match Z0a T fs with
  |some pl=>
   match fK pl z ps with
   |some out=>ev0 xs (.agg out)
   |none=>none
  |none=>none
 |some ⟨_,_,_,some z,.arr n e,_⟩=>
  match get T e with
  |some j=>
   match fK ((List.range n).map λi=>(i*j.size,j.size)) z ps with
   |some out=>ev0 xs (.agg out)
   |none=>none
  |none=>none
 |_=>none
def BI(T:TS)(t len:Nat)(ps:List (Nat×PV))(xs:List Orc):Ev:=
 match dm T t with
 |some (_,⟨_,k,_,some z,_,_⟩)=>
  bif Nat.blt 0 k&&Nat.beq z.length k&&Nat.ble (len*k) 16777216 then
   match fK (j2 k len) (rep len z) ps with
   |some out=>
    match ck out,xs with
    |some ts,.lit::xs=>ev0 xs (.t (.sl (chunk k len ts)))
    |some ts,.lab l::xs=>bif Nat.ble 1000 l&&Nat.beq ts.length (len*k)then ev3 [] xs (.osl l len) l (.row k (chunk k len ts))else none
    |_,_=>none
   |none=>none
  else none
 |_=>none
def BJ(T:TS)(t:Nat)(px py:PV)(xs:List Orc):Ev:=
 match dm T t,px,py,xs with
 |some (_,⟨_,k,bytes,some z,_,_⟩),.t (.int _ m),.t (.int _ c),.lab l :: .nat n :: .es es::xs=>
  bif Nat.blt 0 k&&Nat.beq z.length k&&Nat.ble 1000 l then
   match ck z with
   |some zs=>ev3 [0<=m,m<=c,(bytes:Int)*c<=281474976710656,c<=9223372036854775807,m.toNat=n,List.replicate n zs=es] xs (.osl l n) l (.row k es)
   |none=>none
  else none
 |_,_,_,_=>none
def Z4r(T:TS)(Z:List (Nat×Blk))(s i:Nat)(px:PV)(xs:List Orc):Ev:=
 match Z6s T s i with
 |some (q,j)=>
  bif Nat.beq j.size 0 then none else
  match px with
  |.bptr l p=>
   match get Z l with
   |some (.box _)=>ev2 [] xs [l] (.bptr l (p+q))
   |_=>none
  |.rptr l m jj p=>
   match get Z l with
   |some (.row _ es)=>ev2 [es.length=m] xs [l] (.rptr l m jj (p+q))
   |_=>none
  |.vptr cs=>ev0 xs (.vptr (cs.drop q))
  |_=>none
 |none=>none
def Z4s(T:TS)(Z:List (Nat×Blk))(t:Nat)(px py:PV)(xs:List Orc):Ev:=
 match py with
 |.t (.int _ i)=>
  match px with
  |.t (.sl es)=>
   match dm T t,xs with
   |some (_,j),.cs e::xs=>ev1 [∀el,el∈es->el.length=j.size,0<=i,es[i.toNat]?=some e] xs (.vptr e)
   |_,_=>none
  |.osl l m=>
   match dm T t,get Z l,xs with
   |some (_,j),some (.row k es),.nat n::xs=>bif Nat.beq j.size k then ev2 [es.length=m,0<=i,i<m,i.toNat=n] xs [l] (.rptr l m n 0)else none
   |_,_,_=>none
  |.bptr l q=>
   match mg T t,get Z l,xs with
   |some (len,_,j),some (.box _),.nat n::xs=>ev2 [0<=i,i<len,i.toNat=n] xs [l] (.bptr l (q+n*j.size))
   |_,_,_=>none
  |.rptr l m jj q=>
   match mg T t,get Z l,xs with
   |some (len,_,j),some (.row _ els),.nat n::xs=>ev2 [els.length=m,0<=i,i<len,i.toNat=n] xs [l] (.rptr l m jj (q+n*j.size))
   |_,_,_=>none
  |.vptr cs=>
   match mg T t,xs with
   |some (len,_,j),.nat n::xs=>ev1 [0<=i,i<len,i.toNat=n] xs (.vptr (cs.drop (n*j.size)))
   |_,_=>none
  |_=>none
 |_=>none
def BK(T:TS)(t:Nat)(px py:PV)(xs:List Orc):Ev:=
 match py with
 |.t (.int _ i)=>
  match px with
  |.t (.str s)=>
   match(get T t).map (·.k),xs with
   |some TK.str,.byte b::xs=>ev1 [0<=i,s[i.toNat]?=some b] xs (.t (.int .u8 b.toNat))
   |_,_=>none
  |.agg cs=>
   match mg T t,xs with
   |some (len,_,j),.cs c::xs=>ev1 [0<=i,i<len,cG j.agg j.size (i.toNat*j.size) cs=some (jI j.agg c)] xs (jI j.agg c)
   |_,_=>none
  |_=>none
 |_=>none
def uG(T:TS)(Z:List (Nat×Blk))(t:Nat)(px:PV)(xs:List Orc):Ev:=
 match get T t with
 |some i=>
  match px with
  |.bptr l q=>
   match get Z l with
   |some (.box cs)=>
    match cG i.agg i.size q cs with
    |some p=>ev2 [] xs [l] p
    |none=>none
   |_=>none
  |.rptr l m j q=>
   match get Z l,xs with
   |some (.row _ es),.cs e::xs=>
    match cG i.agg i.size q (e.map .t)with
    |some p=>ev2 [es.length=m,es[j]?=some e] xs [l] p
    |none=>none
   |_,_=>none
  |.vptr cs=>
   match cG i.agg i.size 0 (cs.map .t)with
   |some p=>ev0 xs p
   |none=>none
  |_=>none
 |none=>none
def BL(T:TS)(Z:List (Nat×Blk))(t:Nat)(px:PV)(c:List U)(xs:List Orc):Ev:=
 match get T t,px with
 |some i,.bptr l q=>
  match get Z l with
  |some (.box cs)=>ev2 [cG i.agg i.size q cs=some (jI i.agg c)] xs [l] (jI i.agg c)
  |_=>none
 |some i,.vptr cs=>ev1 [cG i.agg i.size 0 (cs.map .t)=some (jI i.agg c)] xs (jI i.agg c)
 |_,_=>none
def qU(Z:List (Nat×Blk)):PV->Option (List Prop×List (List U)×List Nat)
 |.t (.sl es)=>some ([],es,[])
 |.nils=>some ([],[],[])
 |.t (.con (.slice _ 0 _))=>some ([],[],[])
 |.osl l m=>
  match get Z l with
  |some (.row _ es)=>some ([es.length=m],es,[l])
  |_=>none
 |_=>none
def uH:List Nat->Bool
 |[]=>true
 |l::r => !hP r l&&uH r
def Zat:Blk->List Nat
 |.box cs=>gP cs
 |.row _ _=>[]
 |.mat _ _ _=>[]
 |.map _ _=>[]
 |.prow _ _ _ cs=>gP cs
def uI:List (Nat×Blk)->List Nat
 |[]=>[]
 |(_,b)::r=>Zat b++uI r
def hasK(Z:List (Nat×Blk))(l:Nat):Bool:=match get Z l with|some _=>true|none=>false
def LD(σa:List (Nat×Blk))(l:Nat)(b:Blk):Bool:=
 match b,get σa l with
 |.box _,some (.box _)=>true
 |.row k _,some (.row k' _)=>Nat.beq k k'
 |_,_=>false
def uJ(ls:List Nat)(d:Nat)(σa σ1:List (Nat×Blk))(res:PV):Bool:=uH ls&&Nat.ble ls.length 1000&&(σ1.all λx=>match ls[x.1]? with|some _=>LD σa x.1 x.2|none=>Nat.ble 1000 (x.1+d))&&(qt res++uI σ1).all (hasK σ1)
def scB:List (Nat×Blk)->List Prop
 |[]=>[]
 |(_,.box cs)::r=>(PV.scs cs=true)::scB r
 |(_,.row _ es)::r=>(∀el,el∈es->∀x,x∈el->U.scal x=true)::scB r
 |(_,.mat k q _)::r=>(k=1/\q=0)::scB r
 |(_,.map _ _)::r=>False::scB r
 |(_,.prow _ _ _ _)::r=>False::scB r
mutual
def tS(Z:List (Nat×Blk)):PV->List Nat
 |.bptr L _=>match get Z L with|some (.box cs)=>gP cs|_=>[]
 |.agg cs=>kE Z cs
 |.tup cs=>kE Z cs
 |.fn _ cs=>kE Z cs
 |_=>[]
def kE(Z:List (Nat×Blk)):List PV->List Nat
 |[]=>[]
 |p::ps=>tS Z p++kE Z ps
end
mutual
def Zau{Z:List (Nat×Blk)}{m:Nat}:∀(p:PV),p.deep Z m=true->m∈tS Z p
 |.t _,h=>na
 |.nils,h=>na
 |.osl _ _,h=>na
 |.bptr L o,h=>by
  simp only[PV.deep]at h;simp only[tS];cases hg:get Z L with
  |none=>simp[hg]at h
  |some b=>
   cases b with
   |box cs=>simp only[hg]at h;exact kr _ h
   |row k es=>simp[hg]at h
   |mat k q es=>simp[hg]at h
   |map ag es=>simp[hg]at h
   |prow k i es cs=>simp[hg]at h
 |.rptr _ _ _ _,h=>na
 |.vptr _,h=>na
 |.agg cs,h=>Ay
 |.tup cs,h=>Ay
 |.fn _ cs,h=>Ay
 |.own _ _,h=>na
def tT{Z:List (Nat×Blk)}{m:Nat}:∀(ps:List PV),PV.deeps Z m ps=true->m∈kE Z ps
 |[],h=>by simp[PV.deeps]at h
 |p::ps,h=>by
  simp only[PV.deeps,gz]at h;simp only[kE,cN];rcases h with h|h
  .exact .inl (Zau p h)
  exact .inr (tT ps h)
end
def scC(S:Bool)(σ1:List (Nat×Blk))(res:PV):List Prop:=bif S then(res.sc=true)::scB σ1 else[]
def BN(T:TS)(P:Program)(tm:List (Nat×PV))(Z:List (Nat×Blk))(c:Callee)(ps:List PV)(ats:List Nat)(xs:List Orc):Ev:=
 match c with
 |.value fo=>
  match af tm fo,xs with
  |some (.fn f caps),.call res::xs=>
   match eN [] (ps++caps)with
   |some (_,qs)=>bif res.free then ev1 [Fn P f qs res] xs res else none
   |none=>
    match eN Z (ps++caps)with
    |some (cs,qs)=>bif res.scal then ev2 (cs++[Fn P f qs res]) xs (gP (ps++caps)) res else none
    |none=>none
  |some (.fn f caps),.callO S ls d fr res::xs=>
   match di S ls Z (ps++caps),iw ls Z 0 ls with
   |some (cs,qs),some σa=>bif uJ ls d σa (fr++σa) res then some (cs++(scC S (fr++σa) res++[FnG P f σa qs (fr++σa) res]),xs,⟨ls++(gP (ps++caps)++kE Z (ps++caps)),res.ren (bQ ls d),bM (bQ ls d) fr⟩)else none
   |_,_=>none
  |_,_=>none
 |.builtin .len=>
  match ps,ats,xs with
  |[p],[t],.num n::xs=>
   match(get T t).map (·.k),p with
   |some (TK.slice _),.t (.sl es)=>ev1 [(es.length:Int)=n] xs (.t (.int .i64 n))
   |some (TK.slice _),.nils=>ev1 [0=n] xs (.t (.int .i64 n))
   |some (TK.slice _),.osl l m=>
    match get Z l with
    |some (.row _ es)=>ev2 [es.length=m,(m:Int)=n] xs [l] (.t (.int .i64 n))
    |_=>none
   |some (TK.slice _),.own l (.msl m)=>
    match get Z l with
    |some (.mat _ _ es)=>ev2 [es.length=m,(m:Int)=n] xs [l] (.t (.int .i64 n))
    |_=>none
   |some TK.str,.t (.str s)=>ev1 [(s.length:Int)=n] xs (.t (.int .i64 n))
   |_,_=>none
  |_,_,_=>none
 |.builtin .max=>
  match ps with
  |[.t (.int k a),.t (.int _ b)]=>ev0 xs (.t (.int k (maxI a b)))
  |_=>none
 |.builtin .min=>
  match ps with
  |[.t (.int k a),.t (.int _ b)]=>ev0 xs (.t (.int k (minI a b)))
  |_=>none
 |.builtin .append=>
  match ps,ats,xs with
  |[.nils,y],[t,tx],.lab l :: .es es::xs=>
   match dm T t,dm T tx,qU Z y with
   |some (_,⟨_,k,bytes,some z,_,_⟩),some _,some (cs,ys,ls)=>
    bif Nat.blt 0 k&&Nat.beq z.length k&&Nat.ble 1000 l then
     some (cs++[ys=es,∀el,el∈es->el.length=k,es.length<=9223372036854775807,es.length*bytes<=140737488355328],xs,⟨ls,.osl l es.length,[(l,.row k es)]⟩)
    else none
   |_,_,_=>none
  |_,_,_=>none
 |_=>none
def uK:Operand->Bool
 |.const (.slice none 0 0)=>true
 |_=>false
def BO(T:TS)(op:BinOp)(t:Nat)(px:PV)(xs:List Orc):Ev:=
 match dm T t,op,px with
 |some _,.eql,.t (.sl es)=>ev1 [es≠[]] xs (.t (.bool false))
 |some _,.neq,.t (.sl es)=>ev1 [es≠[]] xs (.t (.bool true))
 |some _,.eql,.t (.con (.slice a _ _))=>ev0 xs (.t (.bool a.isNone))
 |some _,.neq,.t (.con (.slice a _ _))=>ev0 xs (.t (.bool (!a.isNone)))
 |_,_,_=>none
def uL:Operand->Bool
 |.const (.pointer none)=>true
 |_=>false
def BP(Z:List (Nat×Blk))(op:BinOp)(px:PV)(xs:List Orc):Ev:=
 match op,px with
 |.eql,.t (.con (.pointer none))=>ev0 xs (.t (.bool true))
 |.neq,.t (.con (.pointer none))=>ev0 xs (.t (.bool false))
 |.eql,.bptr l _=>match get Z l with|some (.box _)=>ev2 [] xs [l] (.t (.bool false))|_=>none
 |.neq,.bptr l _=>match get Z l with|some (.box _)=>ev2 [] xs [l] (.t (.bool true))|_=>none
 |_,_=>none
def BQ(T:TS)(tm:List (Nat×PV))(t:Nat)(px:PV)(lo hi:Option Operand)(xs:List Orc):Ev:=
 match dm T t,px,xs with
 |none,.t (.str s),.cs [.str z]::xs=>
  match(get T t).map (·.k),fp tm 0 lo,fp tm s.length hi with
  |some TK.str,some l,some h=>ev1 [0<=l,l<=h,h<=s.length,(s.take h.toNat).drop l.toNat=z] xs (.t (.str z))
  |_,_,_=>none
 |some (_,j),.t (.sl es),.es es'::xs=>
  match fp tm 0 lo,fp tm es.length hi with
  |some l,some h=>ev1 [∀el,el∈es->el.length=j.size,0<=l,l<=h,h<=es.length,(es.take h.toNat).drop l.toNat=es'] xs (.t (.sl es'))
  |_,_=>none
 |_,_,_=>none
def evOp(P:Program)(T:TS)(o:Oper)(tm:List (Nat×PV))(Z:List (Nat×Blk))(xs:List Orc):Ev:=
 match o.op with
 |.move x=>match af tm x with|some p=>ev0 xs p|none=>none
 |.assign x=>match af tm x with|some p=>ev0 xs p|none=>none
 |.pick c x y=>
  match af tm c,xs with
  |some (.t (.bool e)),.br b::xs=>match af tm (bif b then x else y)with|some p=>ev1 [e=b] xs p|none=>none
  |_,_=>none
 |.binOp op xT x y _=>
  bif uK y then(match af tm x with|some px=>BO T op xT px xs|none=>none)
  else bif uL y then(match af tm x,(get T xT).map (·.k)with|some px,some TK.ptr=>BP Z op px xs|_,_=>none)
  else match af tm x,af tm y with|some px,some py=>uW T op xT px py xs|_,_=>none
 |.unOp op _ x=>
  match op,af tm x with
  |.not,some (.t (.bool b))=>ev0 xs (.t (.bool (!b)))
  |.neg,some (.t (.int k a))=>ev0 xs (.t (.int k (k.wrap (0-a))))
  |.xor,some (.t (.int k a))=>ev0 xs (.t (.int k (bI .xor k (if k.signed then-1 else k.max) a)))
  |_,_=>none
 |.convert s d x=>
  match(get T s).map (·.k),(get T d).map (·.k),af tm x with
  |some (TK.int _),some (TK.int k'),some (.t (.int _ a))=>ev0 xs (.t (.int k' (k'.wrap a)))
  |some TK.str,some TK.str,some (.t (.str a))=>ev0 xs (.t (.str a))
  |some TK.str,some (TK.slice e),some (.t (.str a))=>
   match(get T e).map (·.k),xs with
   |some (TK.int .u8),.es es::xs=>ev1 [ek a=es,a.length<=9223372036854775807] xs (.t (.sl es))
   |_,_=>none
  |some (TK.slice e),some TK.str,some (.t (.sl es))=>
   match(get T e).map (·.k),xs with
   |some (TK.int .u8),.cs [.str s]::xs=>ev1 [ek s=es,s≠[]] xs (.t (.str s))
   |_,_=>none
  |_,_,_=>none
 |.field xT x i=>
  match Z6s T xT i,af tm x with
  |some (q,j),some (.agg cs)=>match cG j.agg j.size q cs with|some p=>ev0 xs p|none=>none
  |_,_=>none
 |.extract x i=>match af tm x with|some (.tup cs)=>(match cs[i]? with|some p=>ev0 xs p|none=>none)|_=>none
 |.nilCheck x=>
  match af tm x with
  |some (.vptr cs)=>ev0 xs (.vptr cs)
  |some (.bptr l q)=>match get Z l with|some (.box _)=>ev2 [] xs [l] (.bptr l q)|_=>none
  |some (.rptr l m i q)=>match get Z l with|some (.row _ es)=>ev2 [es.length=m] xs [l] (.rptr l m i q)|_=>none
  |_=>none
 |.makeFunc (.func f) first caps=>bif Nat.beq first.size 0 then(match eY tm caps.toList with|some ps=>ev0 xs (.fn f ps)|none=>none)else none
 |.build t parts=>match fy tm parts.toList with|some ps=>BH T t ps xs|none=>none
 |.buildSlice t len parts=>match fy tm parts.toList with|some ps=>BI T t len ps xs|none=>none
 |.box _ x=>
  match af tm x,xs with
  |some p,.lab l::xs=>bif (Z3 p).all PV.one&&Nat.ble 1000 l then ev3 [] xs (.bptr l 0) l (.box (Z3 p))else none
  |_,_=>none
 |.alloc t=>
  match(get T t).bind (·.zero),xs with
  |some z,.lab l::xs=>bif Nat.ble 1000 l then ev3 [] xs (.bptr l 0) l (.box z)else none
  |_,_=>none
 |.makeSlice t x y=>match af tm x,af tm y with|some px,some py=>BJ T t px py xs|_,_=>none
 |.fieldAddr s x i=>match af tm x with|some px=>Z4r T Z s i px xs|none=>none
 |.indexAddr t x y=>match af tm x,af tm y with|some px,some py=>Z4s T Z t px py xs|_,_=>none
 |.index t x y=>match af tm x,af tm y with|some px,some py=>BK T t px py xs|_,_=>none
 |.load t x=>
  match af tm x with
  |some px=>
   match xs,o.dst with
   |.cell d c::xs',some d'=>bif Nat.beq d d' then BL T Z t px c xs' else uG T Z t px xs
   |_,_=>uG T Z t px xs
  |none=>none
 |.slice t x none (some y) (some z)=>
  match dm T t,af tm x,af tm y,af tm z with
  |some _,some px,some (.t (.int _ 0)),some (.t (.int _ 0))=>bif uM px then ev0 xs .nils else none
  |_,_,_,_=>none
 |.slice t x lo hi none=>match af tm x with|some px=>BQ T tm t px lo hi xs|none=>none
 |.call c=>match eY tm c.args.toList with|some ps=>BN T P tm Z c.callee ps c.argTypes.toList xs|none=>none
 |_=>none
abbrev Em:=Option (List Prop×List Orc×Stm)
def ninB(ls:List Nat)(d:Nat)(σ1:List (Nat×Blk)):Bool:=σ1.all λx=>match ls[x.1]? with|some _=>true|none => !hP ls (x.1+d)
def BS(P:Program)(tm:List (Nat×PV))(Z:List (Nat×Blk))(fo:Operand)(ZbU:List Operand)(xs:List Orc):Em:=
 match af tm fo,eY tm ZbU,xs with
 |some (.fn f caps),some ps,.callU S ls d σ1 res::xs=>
  match di S ls Z (ps++caps),iv ls Z 0 ls with
  |some (cs,qs),some σa=>
   bif uJ ls d σa σ1 res&&ninB ls d σ1 then
    some (cs++(scC S σ1 res++[FnG P f σa qs σ1 res]),xs,⟨⟨ls++(gP (ps++caps)++kE Z (ps++caps)),res.ren (bQ ls d),bM (bQ ls d) σ1⟩,ls⟩)
   else none
  |_,_=>none
 |_,_,_=>none
def BT(P:Program)(tm:List (Nat×PV))(Z:List (Nat×Blk))(fo:Operand)(ZbU:List Operand)(xs:List Orc):Em:=
 match af tm fo,ZbU,xs with
 |some (.fn f []),[x],.callC L b::xs=>
  match af tm x with
  |some (.osl l m)=>
   match get Z l with
   |some (.row k es)=>bif Nat.ble 1000 L && !Nat.beq L l then some ([es.length=m,iQ P f k b,m*b<=140737488355328],xs,⟨⟨[l],.osl L m,[(L,.row k es)]⟩,[]⟩)else none
   |_=>none
  |_=>none
 |_,_,_=>none
def BU(P:Program)(T:TS)(o:Oper)(tm:List (Nat×PV))(Z:List (Nat×Blk))(xs:List Orc):Em:=
 match o.op with
 |.call c=>
  match c.callee,eY tm c.args.toList,c.argTypes.toList,xs with
  |.value fo,_,_,xs=>match BS P tm Z fo c.args.toList xs with|some r=>some r|none=>BT P tm Z fo c.args.toList xs
  |.builtin .append,some [.osl l m,y],[t,tx],.es es::xs=>
   match dm T t,dm T tx,qU Z y,get Z l with
   |some (_,⟨_,k,bytes,some z,_,_⟩),some _,some (cs,ys,ls),some (.row k' es0)=>
    bif Nat.blt 0 k&&Nat.beq z.length k&&Nat.beq k k' then
     some (cs++[es0.length=m,es0++ys=es,∀el,el∈ys->el.length=k,es.length<=9223372036854775807,es.length*bytes<=140737488355328],xs,⟨⟨l::ls,.osl l es.length,[(l,.row k es)]⟩,[l]⟩)
    else none
   |_,_,_,_=>none
  |.builtin .copy,some [.osl l m,y],[t,tx],.num q :: .es es::xs=>
   match dm T t,dm T tx,qU Z y,get Z l with
   |some (_,⟨_,k,_,some z,_,_⟩),some _,some (cs,ys,ls),some (.row k' es0)=>
    bif Nat.blt 0 k&&Nat.beq z.length k&&Nat.beq k k' then
     some (cs++[es0.length=m,(ys.length:Int)=q,ys.length<=m,∀el,el∈ys->el.length=k,ys++es0.drop ys.length=es],xs,⟨⟨l::ls,.t (.int .i64 q),[(l,.row k es)]⟩,[l]⟩)
    else none
   |_,_,_,_=>none
  |_,_,_,_=>none
 |.store t x y=>
  match o.dst,get T t,af tm x,af tm y with
  |none,some i,some (.bptr l q),some p=>
   match get Z l,xs with
   |some (.box cs),.sp cs'::xs=>bif Nat.beq (Z3 p).length i.size&&(Z3 p).all PV.one then some ([q+i.size<=cs.length,splice cs q (Z3 p)=cs'],xs,⟨⟨[l],.tup [],[(l,.box cs')]⟩,[l]⟩)else none
   |some (.box cs),xs=>bif Nat.beq (Z3 p).length i.size&&(Z3 p).all PV.one&&Nat.ble (q+i.size) cs.length then some ([],xs,⟨⟨[l],.tup [],[(l,.box (splice cs q (Z3 p)))]⟩,[l]⟩)else none
   |_,_=>none
  |none,some i,some (.rptr l m j q),some p=>
   match get Z l,xs,ck (Z3 p)with
   |some (.row k es),.cs e :: .es es'::xs,some ts=>bif Nat.beq ts.length i.size&&Nat.ble (q+i.size) k then some ([es.length=m,es[j]?=some e,es.set j (splice e q ts)=es'],xs,⟨⟨[l],.tup [],[(l,.row k es')]⟩,[l]⟩)else none
   |_,_,_=>none
  |_,_,_,_=>none
 |_=>none
def BV(T:TS)(o:Oper)(tm:List (Nat×PV))(Z:List (Nat×Blk))(xs:List Orc):Em:=
 match o.op with
 |.slice t x (some y) none none=>
  match dm T t,af tm x,af tm y,xs with
  |some (_,j),some (.osl l m),some (.t (.int _ i)),.nat n::xs=>
   match get Z l with
   |some (.row k es)=>bif Nat.beq j.size k then some ([es.length=m,0<=i,i<=m,i.toNat=n],xs,⟨⟨[l],.own l (.tail m n),[]⟩,[]⟩)else none
   |_=>none
  |_,_,_,_=>none
 |.indexAddr t x y=>
  match dm T t,af tm x,af tm y,xs with
  |some (_,j),some (.own l (.msl m)),some (.t (.int _ i)),.nat n::xs=>
   match get Z l with
   |some (.mat 1 0 es)=>bif Nat.beq j.size 1 then some ([es.length=m,0<=i,i<m,i.toNat=n],xs,⟨⟨[l],.own l (.mpt m n 0),[]⟩,[]⟩)else none
   |_=>none
  |some (_,j),some (.own l (.mrow m jj)),some (.t (.int _ i)),.es inner :: .nat n::xs=>
   match get Z l with
   |some (.mat 1 0 es)=>bif Nat.beq j.size 1 then some ([es.length=m,es[jj]?=some [.sl inner],0<=i,i<inner.length,i.toNat=n],xs,⟨⟨[l],.own l (.mel m jj n),[]⟩,[]⟩)else none
   |_=>none
  |_,_,_,_=>none
 |.load t x=>
  match get T t,af tm x with
  |some i,some (.own l (.mpt m j 0))=>
   match get Z l with
   |some (.mat 1 0 es)=>bif !i.agg&&Nat.beq i.size 1 then some ([es.length=m,j<m],xs,⟨⟨[l],.own l (.mrow m j),[]⟩,[]⟩)else none
   |_=>none
  |some i,some (.own l (.mel m j q))=>
   match get Z l,xs with
   |some (.mat 1 0 es),.es inner :: .cs [z]::xs=>bif (!i.agg&&Nat.beq i.size 1)&&z.scal then some ([es.length=m,es[j]?=some [.sl inner],inner[q]?=some [z]],xs,⟨⟨[l],.t z,[]⟩,[]⟩)else none
   |_,_=>none
  |_,_=>none
 |.buildSlice t 1 parts=>
  match dm T t,fy tm parts.toList,xs with
  |some (_,⟨_,1,_,some z,_,_⟩),some [(0,.osl l2 n2)],.lab L::xs=>
   match get Z l2,fK (j2 1 1) (rep 1 z) [(0,.osl l2 n2)]with
   |some (.row 1 es2),some out=>bif Nat.beq z.length 1&&Nat.ble 1000 L && !Nat.beq L l2 then some ([out=[.osl l2 n2],es2.length=n2,SC1 es2],xs,⟨⟨[l2],.own L (.msl 1),[(L,.mat 1 0 [[.sl es2]])]⟩,[l2]⟩)else none
   |_,_=>none
  |_,_,_=>none
 |.buildSlice t 0 parts=>
  match dm T t,fy tm parts.toList,xs with
  |some (_,⟨_,1,_,some z,_,_⟩),some [],.num 0 :: .lab L::xs=>bif Nat.beq z.length 1 then some ([],xs,⟨⟨[],.own L (.msl 0),[(L,.mat 1 0 [])]⟩,[]⟩)else none
  |_,_,_=>none
 |.call c=>
  match c.callee,eY tm c.args.toList,c.argTypes.toList,xs with
  |.builtin .append,some [.own l (.msl m),.own l3 (.msl m3)],[t,tx],.es es::xs=>
   match dm T t,dm T tx,get Z l,get Z l3 with
   |some (_,⟨_,1,bytes,some z,_,_⟩),some _,some (.mat 1 0 es0),some (.mat 1 0 es3)=>
    bif Nat.beq z.length 1&&Nat.blt 0 m3 && !Nat.beq l l3 then
     some ([es0.length=m,es3.length=m3,es0++es3=es,m+m3<=9223372036854775807,(m+m3)*bytes<=140737488355328],xs,⟨⟨[l,l3],.own l (.msl es.length),[(l,.mat 1 0 es)]⟩,[l,l3]⟩)
    else none
   |_,_,_,_=>none
  |_,_,_,_=>none
 |_=>none
def BW(P:Program)(T:TS)(o:Oper)(tm:List (Nat×PV))(Z:List (Nat×Blk))(xs:List Orc):Em:=
 match o.op with
 |.makeMap t none=>
  match(get T t).map (·.k),xs with
  |some (TK.map _ e),.lab L::xs=>match get T e with|some j=>some ([],xs,⟨⟨[],.own L .map,[(L,.map (.v j.agg) [])]⟩,[]⟩)|none=>none
  |_,_=>none
 |.lookup t x y ok=>
  match(get T t).map (·.k),af tm x,af tm y,xs with
  |some (TK.map k e),some (.own l .map),some (.t (.int .i64 n)),.cs ts::xs=>
   match get Z l,(get T k).map (·.k)with
   |some (.map (.v ag) es),some (TK.int .i64)=>
    match iR P ag e,ok,xs with
    |some zs,true,.br b::xs=>some ([mlk es n zs=(ts,b)],xs,⟨⟨[l],.tup [mvP ag ts,.t (.bool b)],[]⟩,[]⟩)
    |some zs,false,xs=>some ([(mlk es n zs).1=ts],xs,⟨⟨[l],mvP ag ts,[]⟩,[]⟩)
    |_,_,_=>none
   |_,_=>none
  |some (TK.map k e),some (.own l .map),some (.t (.int .i64 n)),.lab L :: .es rows::xs=>
   match get Z l,(get T k).map (·.k),ok,eR P e with
   |some (.map (.rows c none) es),some (TK.int .i64),false,some [.nils]=>bif (iR P false e).isSome&&(!Nat.beq L l&&Nat.ble 1000 L)then some ([rlk es n=rows],xs,⟨⟨[l],.osl L rows.length,[(l,.map (.rows c (some n)) es),(L,.row c rows)]⟩,[l]⟩)else none
   |_,_,_,_=>none
  |_,_,_,_=>none
 |.mapUpdate t x y z=>
  match o.dst,(get T t).map (·.k),af tm x,af tm y,af tm z,xs with
  |none,some (TK.map k _),some (.own l .map),some (.t (.int .i64 i)),some (.osl L m),.mp es'::xs=>
   match get Z l,get Z L,(get T k).map (·.k)with
   |some (.map (.rows c (some n)) es),some (.row c2 rows),some (TK.int .i64)=>bif Nat.beq c c2 && !Nat.beq L l then some ([n=i,rows.length=m,cm es i [.sl rows]=es'],xs,⟨⟨[l,L],.tup [],[(l,.map (.rows c none) es')]⟩,[l,L]⟩)else none
   |_,_,_=>none
  |_,_,_,_,_,_=>none
 |.call c=>
  match c.callee,eY tm c.args.toList,c.argTypes.toList,xs with
  |.builtin .len,some [.own l .map],[t],.num n::xs=>
   match(get T t).map (·.k),get Z l with
   |some (TK.map _ _),some (.map (.v _) es)=>some ([(es.length:Int)=n],xs,⟨⟨[l],.t (.int .i64 n),[]⟩,[]⟩)
   |_,_=>none
  |_,_,_,_=>none
 |_=>none
def evPr(T:TS)(o:Oper)(tm:List (Nat×PV))(Z:List (Nat×Blk))(xs:List Orc):Em:=
 match o.op with
 |.nilCheck x=>
  match af tm x with
  |some (.own l (.pp m q))=>match get Z l with|some (.prow _ _ es _)=>some ([es.length=m],xs,⟨⟨[l],.own l (.pp m q),[]⟩,[]⟩)|_=>none
  |_=>none
 |.fieldAddr s x f=>
  match Z6s T s f,af tm x with
  |some (q0,j),some (.own l (.pp m q))=>match get Z l with|some (.prow _ _ es _)=>bif Nat.blt 0 j.size then some ([es.length=m],xs,⟨⟨[l],.own l (.pp m (q+q0)),[]⟩,[]⟩)else none|_=>none
  |_,_=>none
 |.load t x=>
  match get T t,af tm x with
  |some i,some (.own l (.pp m q))=>
   match get Z l with
   |some (.prow _ _ es cs)=>match cG i.agg i.size q cs with|some p=>some ([es.length=m],xs,⟨⟨[l],p,[]⟩,[]⟩)|none=>none
   |_=>none
  |_,_=>none
 |.store t x y=>
  match o.dst,get T t,af tm x,af tm y with
  |none,some i,some (.own l (.pp m q)),some p=>
   match get Z l with
   |some (.prow k i0 es cs)=>bif Nat.beq (Z3 p).length i.size&&(Z3 p).all PV.one&&Nat.ble (q+i.size) cs.length then some ([es.length=m],xs,⟨⟨[l],.tup [],[(l,.prow k i0 es (splice cs q (Z3 p)))]⟩,[l]⟩)else none
   |_=>none
  |_,_,_,_=>none
 |_=>none
def se(P:Program)(T:TS)(o:Oper)(tm:List (Nat×PV))(Z:List (Nat×Blk))(xs:List Orc):Em:=
 match evOp P T o tm Z xs with
 |some (ps,xs,s)=>some (ps,xs,⟨s,[]⟩)
 |none=>
  match BU P T o tm Z xs with
  |some r=>some r
  |none=>
   match BV T o tm Z xs with
   |some r=>some r
   |none=>
    match BW P T o tm Z xs with
    |some r=>some r
    |none=>evPr T o tm Z xs
end Go.PW
namespace Go.PW
open Go.RowKit
section
variable {P:Program} {T:TS} {o:Oper} {tm:List (Nat×PV)} {Z:List (Nat×Blk)} {xs xs':List Orc} {ps:List Prop} {s:Stp}
def fD{qs:List Prop}{need:List Nat}{p:PV}(h:ev2 qs xs need p=some (ps,xs',s)):ps=qs/\xs'=xs/\s=⟨need,p,[]⟩:=by simp only[ev2,ao,bp]at h;exact⟨h.1.symm,h.2.1.symm,h.2.2.symm⟩
def uF{qs:List Prop}{p:PV}{l:Nat}{b:Blk}(h:ev3 qs xs p l b=some (ps,xs',s)):ps=qs/\xs'=xs/\s=⟨[],p,[(l,b)]⟩:=by simp only[ev3,ao,bp]at h;exact⟨h.1.symm,h.2.1.symm,h.2.2.symm⟩
def dP(a b:Nat):Nat.ble a b=true↔a<=b:=by rw[Nat.ble_eq]
def bF{α:Type}{b:Bool}{x:Option α}{y:α}(h:(bif b then x else none)=some y):b=true/\x=some y:=by cases b<;>simp_all
def condNone'{α:Type}{b:Bool}{x:Option α}{y:α}(h:(bif b then none else x)=some y):b=false/\x=some y:=by cases b<;>simp_all
def ZJ(hT:TOK P T){t:Nat}{i:fc}{fs:List (Nat×Nat)}(h:get T t=some i)(hk:i.k = .struct fs){pl:List (Nat×Nat)}(hp:Z0a T fs=some pl):nR P t=some pl:=by
 have:=(hT t i h).k;rw[hk]at this;obtain⟨fs',hu,rfl⟩:=this;simp only[nR,hu];generalize fs'.toList=l at hp;clear hu hk h i;induction l generalizing pl with
 |nil=>simp only[fx,Z0a,ao]at hp;subst hp;rfl
 |cons f l ih=>
  simp only[cu,Z0a]at hp;split at hp
  .rename_i i ps hi hps;cases hp;obtain⟨inf,hinf,hs⟩:=hT.size hi;rw[jZ,ih hps,hinf];simp[hs]
  cases hp
def ZK(hT:TOK P T){t:Nat}{parts:Array (Nat×Operand)}{qs:List (Nat×PV)}(ho:o.op = .build t parts)(hp:fy tm parts.toList=some qs)(h:BH T t qs xs=some (ps,xs',s)):aQ P o tm Z s.need s.p s.news:=by
 unfold BH at h;split at h
 .rename_i z fs _ hi;split at h
  .rename_i pl hpl;split at h
   .rename_i out hf;obtain⟨rfl,rfl,rfl⟩:=cT h;exact El ho ⟨.inl (ZJ hT hi rfl hpl),(hT t _ hi).z z rfl⟩ hp hf
   cases h
  cases h
 .rename_i z n e _ hi;split at h
  .rename_i j hj;split at h
   .rename_i out hf;obtain⟨rfl,rfl,rfl⟩:=cT h;refine El ho ⟨.inr ?_,(hT t _ hi).z z rfl⟩ hp hf;have hu:P.underlying t=some (.array n e):=(hT t _ hi).k;obtain⟨inf,hinf,hs⟩:=hT.size hj;simp[wN,hu,hinf,hs]
   cases h
  cases h
 cases h
def ZL(hT:TOK P T){t len:Nat}{parts:Array (Nat×Operand)}{qs:List (Nat×PV)}(ho:o.op = .buildSlice t len parts)(hp:fy tm parts.toList=some qs)(h:BI T t len qs xs=some (ps,xs',s)):aQ P o tm Z s.need s.p s.news:=by
 unfold BI at h;split at h
 .rename_i e agg k by_ z kk fl he;have hbh:=bF h;clear h;obtain⟨hb,h⟩:=hbh;simp only[aM]at hb;have hE:=ja (z:=z) hT he rfl hb.1.1 hb.1.2;have hsm:=(dP _ _).1 hb.2;split at h
  .rename_i out hf;split at h
   .rename_i ts xs2 hts;obtain⟨rfl,rfl,rfl⟩:=cT h;exact U2 ho hE hp hsm hf hts
   .rename_i ts l xs2 hts;have hbh:=bF h;clear h;obtain⟨hb2,h⟩:=hbh;simp only[aM]at hb2;obtain⟨rfl,rfl,rfl⟩:=uF h;exact U3 l ((dP _ _).1 hb2.1) ho hE hp hsm hf hts ((aW _ _).1 hb2.2)
   cases h
  cases h
 cases h
def ZM(hT:TOK P T){t:Nat}{x y:Operand}{px py:PV}(ho:o.op = .makeSlice t x y)(hx:af tm x=some px)(hy:af tm y=some py)(h:BJ T t px py xs=some (ps,xs',s))(hc:aI ps):aQ P o tm Z s.need s.p s.news:=by
 unfold BJ at h;split at h
 .rename_i e agg k bytes z kk fl _ m _ c l n es xs2 he;have hbh:=bF h;clear h;obtain⟨hb,h⟩:=hbh;simp only[aM]at hb;have hE:=ja (z:=z) hT he rfl hb.1.1 hb.1.2;split at h
  .rename_i zs hzs;obtain⟨rfl,rfl,rfl⟩:=uF h;obtain⟨h1,h2,h3,h4,h5,h6,_⟩:=hc;subst h5;subst h6;exact U4 l ((dP _ _).1 hb.2) ho hE hzs hx hy h1 h2 h3 h4
  cases h
 cases h
def ZN(hT:TOK P T){t i:Nat}{x:Operand}{px:PV}(ho:o.op = .fieldAddr t x i)(hx:af tm x=some px)(h:Z4r T Z t i px xs=some (ps,xs',s))(hc:aI ps):aQ P o tm Z s.need s.p s.news:=by
 unfold Z4r at h;split at h
 .rename_i q j hf;have hbh:=condNone' h;clear h;obtain⟨hb,h⟩:=hbh;have hs:j.size≠0:=λe=>by rw[e]at hb;cases hb
  obtain⟨i0,fs,fT,hi0,hk0,hfs,hj⟩:=Z4q hf;have hfi:=hT.fieldInfo hi0 hk0 hfs hj;split at h
  .split at h
   .rename_i hg;obtain⟨rfl,rfl,rfl⟩:=fD h;exact U5 ho hfi hs hx hg
   cases h
  .split at h
   .rename_i hg;obtain⟨rfl,rfl,rfl⟩:=fD h;exact U6 ho hfi hs hx hg hc.1
   cases h
  .obtain⟨rfl,rfl,rfl⟩:=cT h;exact U7 ho hfi hs hx
  cases h
 cases h
def ZO(hT:TOK P T){t:Nat}{x y:Operand}{px py:PV}(ho:o.op = .indexAddr t x y)(hx:af tm x=some px)(hy:af tm y=some py)(h:Z4s T Z t px py xs=some (ps,xs',s))(hc:aI ps):aQ P o tm Z s.need s.p s.news:=by
 unfold Z4s at h;split at h
 .split at h
  .split at h
   .rename_i e j c xs2 he;obtain⟨rfl,rfl,rfl⟩:=dU h;obtain⟨i0,hi0,hk0,hj⟩:=eB he;exact Vb ho (hT.slInfo hi0 hk0 hj) hx hy hc.1 hc.2.1 hc.2.2.1
   cases h
  .split at h
   .rename_i e j k es n xs2 he hg;have hbh:=bF h;clear h;obtain⟨hb,h⟩:=hbh;have hb:=(aW _ _).1 hb;obtain⟨rfl,rfl,rfl⟩:=fD h;obtain⟨i0,hi0,hk0,hj⟩:=eB he;obtain⟨h1,h2,h3,h4,_⟩:=hc;subst h4;exact Vc ho (hT.slInfo hi0 hk0 hj) hx hy (by rw[hb];exact hg) h1 h2 h3
   cases h
  .split at h
   .rename_i len e j cs n xs2 he hg;obtain⟨rfl,rfl,rfl⟩:=fD h;obtain⟨i0,hi0,hk0,hj⟩:=Z3c he;obtain⟨h2,h3,h4,_⟩:=hc;subst h4;exact U8 ho (hT.arrInfo hi0 hk0 hj) hx hy hg h2 h3
   cases h
  .split at h
   .rename_i len e j k els n xs2 he hg;obtain⟨rfl,rfl,rfl⟩:=fD h;obtain⟨i0,hi0,hk0,hj⟩:=Z3c he;obtain⟨h1,h2,h3,h4,_⟩:=hc;subst h4;exact U9 ho (hT.arrInfo hi0 hk0 hj) hx hy hg h1 h2 h3
   cases h
  .split at h
   .rename_i len e j n xs2 he;obtain⟨rfl,rfl,rfl⟩:=dU h;obtain⟨i0,hi0,hk0,hj⟩:=Z3c he;obtain⟨h2,h3,h4,_⟩:=hc;subst h4;exact Va ho (hT.arrInfo hi0 hk0 hj) hx hy h2 h3
   cases h
  cases h
 cases h
def ZP(hT:TOK P T){t:Nat}{x y:Operand}{px py:PV}(ho:o.op = .index t x y)(hx:af tm x=some px)(hy:af tm y=some py)(h:BK T t px py xs=some (ps,xs',s))(hc:aI ps):aQ P o tm Z s.need s.p s.news:=by
 unfold BK at h;split at h
 .split at h
  .split at h
   .rename_i hk;obtain⟨rfl,rfl,rfl⟩:=dU h;simp only[ca]at hk;obtain⟨i0,hi0,hk⟩:=hk;have hu:=(hT _ _ hi0).k;rw[hk]at hu;exact Ve ho hu hx hy hc.1 hc.2.1
   cases h
  .split at h
   .rename_i len e j c xs2 he;obtain⟨rfl,rfl,rfl⟩:=dU h;obtain⟨i0,hi0,hk0,hj⟩:=Z3c he;have hu:=(hT _ _ hi0).k;rw[hk0]at hu;exact Vd ho hu (hT _ _ hj).ty hx hy hc.1 hc.2.1 hc.2.2.1
   cases h
  cases h
 cases h
def Lz(hT:TOK P T){t:Nat}{x:Operand}{px:PV}(ho:o.op = .load t x)(hx:af tm x=some px)(h:uG T Z t px xs=some (ps,xs',s))(hc:aI ps):aQ P o tm Z s.need s.p s.news:=by
 unfold uG at h;split at h
 .rename_i i hi;have hty:=(hT t i hi).ty;split at h
  .split at h
   .rename_i hg;split at h
    .rename_i p hp;obtain⟨rfl,rfl,rfl⟩:=fD h;exact GT ho hty hx hg hp
    cases h
   cases h
  .split at h
   .rename_i hg;split at h
    .rename_i p hp;obtain⟨rfl,rfl,rfl⟩:=fD h;exact Vf ho hty hx hg hc.1 hc.2.1 hp
    cases h
   cases h
  .split at h
   .rename_i p hp;obtain⟨rfl,rfl,rfl⟩:=cT h;exact GU ho hty hx hp
   cases h
  cases h
 cases h
def ZQ(hT:TOK P T){t:Nat}{x:Operand}{px:PV}{c:List U}(ho:o.op = .load t x)(hx:af tm x=some px)(h:BL T Z t px c xs=some (ps,xs',s))(hc:aI ps):aQ P o tm Z s.need s.p s.news:=by
 unfold BL at h;split at h
 .rename_i i l q hi;split at h
  .rename_i cs hg;obtain⟨rfl,rfl,rfl⟩:=fD h;exact GT ho (hT t i hi).ty hx hg hc.1
  cases h
 .rename_i i cs hi;obtain⟨rfl,rfl,rfl⟩:=dU h;exact GU ho (hT t i hi).ty hx hc.1
 cases h
def gy{c:Call}{ce:Callee}{ZbU:List Operand}{ts:List Nat}(hc:c.callee=ce)(ha:c.args.toList=ZbU)(ht:c.argTypes.toList=ts):c={ callee:=ce,args:=ZbU.toArray,argTypes:=ts.toArray }:=by cases c;subst hc ha ht;simp
def Z3d{tm:List (Nat×PV)}{l:List Operand}{p:PV}(h:eY tm l=some [p]):∃x,l=[x]/\af tm x=some p:=by
 match l,h with
 |[x],h=>
  simp only[eY]at h;split at h
  .rename_i q qs hq hqs;cases h;cases hqs;exact⟨x,rfl,hq⟩
  cases h
 |x::y::l,h=>
  simp only[eY]at h;split at h
  .rename_i q qs hq hqs;cases h;split at hqs
   .cases hqs
   cases hqs
  cases h
def nk{tm:List (Nat×PV)}{l:List Operand}{p q:PV}(h:eY tm l=some [p,q]):∃x y,l=[x,y]/\af tm x=some p/\af tm y=some q:=by
 match l,h with
 |x::l,h=>
  simp only[eY]at h;split at h
  .rename_i r rs hr hrs;cases h;obtain⟨y,rfl,hy⟩:=Z3d hrs;exact⟨x,y,rfl,hr,hy⟩
  cases h
def BM{p:PV}{cs:List Prop}{es:List (List U)}{ls:List Nat}(h:qU Z p=some (cs,es,ls))(hc:aI cs):fO Z p es/\∀m,p.has m=true->m∈ls:=by
 unfold qU at h;split at h
 .cases h;exact⟨.tree _,λm hm=>by simp[PV.has]at hm⟩
 .cases h;exact⟨.nils,λm hm=>by simp[PV.has]at hm⟩
 .cases h;exact⟨.con _ _,λm hm=>by simp[PV.has]at hm⟩
 .split at h
  .rename_i hg;cases h;exact⟨.own _ _ _ _ hg hc.1,λm hm=>by simp only[PV.has,aW]at hm;subst hm;simp⟩
  cases h
 cases h
def LA:∀{ls:List Nat},uH ls=true->∀(i j L:Nat),ls[i]?=some L->ls[j]?=some L->i=j
 |[],_,i,j,L,h,_=>iL
 |l::r,h,i,j,L,h1,h2=>by
  simp only[uH,aM,cY]at h;have hmem:∀{r:List Nat} {L:Nat},L∈r->hP r L=true:=by
   intro r L;induction r with
   |nil=>intro h;cases h
   |cons x r ih=>
    intro h;simp only[hP];cases hb:Nat.beq x L with
    |true=>rfl
    |false=>
     rcases cA.1 h with e|e
     .subst e;simp at hb
     exact ih e
  cases i with
  |zero=>
   cases j with
   |zero=>rfl
   |succ j=>
    simp only[iy,ao]at h1;subst h1;have:=hmem (c7 (by simpa using h2:r[j]?=some l));rw[h.1]at this;cases this
  |succ i=>
   cases j with
   |zero=>
    simp only[iy,ao]at h2;subst h2;have:=hmem (c7 (by simpa using h1:r[i]?=some l));rw[h.1]at this;cases this
   |succ j=>rw[LA h.2 i j L yc yd]
def LB{m l:Nat}{o:Blk}:∀{Z:List (Nat×Blk)},get Z m=some o->o.has l=true->l∈uI Z
 |[],h,_=>dv
 |(j,b)::r,h,hl=>by
  simp only[uI,cN];simp only[PW.get]at h;cases hb:Nat.beq j m with
  |true=>
   simp only[hb,aD,ao]at h;subst h;cases b with
   |box cs=>exact .inl (kr cs hl)
   |row k es=>simp[Blk.has]at hl
   |mat k q es=>simp[Blk.has]at hl
   |map ag es=>simp[Blk.has]at hl
   |prow k i es cs=>exact .inl (kr cs hl)
  |false=>simp only[hb,aB]at h;exact .inr (LB h hl)
def LC{ls:List Nat}{d:Nat}{σa σ1:List (Nat×Blk)}{res:PV}(h:uJ ls d σa σ1 res=true):uD ls d σa σ1 res:=by
 simp only[uJ,aM,bH]at h;obtain⟨⟨⟨h1,h2⟩,h3⟩,h4⟩:=h;refine { nd:=LA h1,len:=(dP _ _).1 h2,box:=λl o hg L hL=>?_,ge:=λl o hg hn=>?_,cl:=λl hl=>?_ }
 .have:=h3 _ (dW hg);simp only[hL]at this;unfold LD at this;split at this
  .rename_i cs cs0 hc0;exact .inl ⟨_,cs0,rfl,hc0⟩
  .rename_i k es k' es0 hc0;obtain rfl:=(aW _ _).1 this;exact .inr ⟨_,_,es0,rfl,hc0⟩
  cases this
 .have:=h3 _ (dW hg);simp only[hn]at this;exact(dP _ _).1 this
 have hk:hasK σ1 l=true:=by
  rcases hl with hl|⟨m,o,hg,hl⟩
  .exact h4 l (cN.2 (.inl (LG res hl)))
  exact h4 l (cN.2 (.inr (LB hg hl)))
 unfold hasK at hk;split at hk
 .exact⟨_,by assumption⟩
 cases hk
def LH:∀{σ1:List (Nat×Blk)},aI (scB σ1)->∀l o,get σ1 l=some o->o.SC
 |[],_,l,o,h=>dv
 |(j,b)::r,hc,l,o,h=>by
  simp only[PW.get]at h;cases hb:Nat.beq j l with
  |true=>
   simp only[hb,aD,ao]at h;subst h;cases b<;>exact hc.1
  |false=>
   simp only[hb,aB]at h;cases b<;>exact LH hc.2 l o h
def LI{S:Bool}{σ1:List (Nat×Blk)}{res:PV}(hc:aI (scC S σ1 res)):S=true->res.sc=true/\∀l o,get σ1 l=some o->o.SC:=by rintro rfl;exact⟨hc.1,LH hc.2⟩
def ZR(hT:TOK P T){c:Call}{qs:List PV}(ho:o.op = .call c)(hq:eY tm c.args.toList=some qs)(h:BN T P tm Z c.callee qs c.argTypes.toList xs=some (ps,xs',s))(hc:aI ps):aQ P o tm Z s.need s.p s.news:=by
 unfold BN at h;split at h
 .rename_i fo hce;have hceq:=gy hce rfl rfl;rw[hceq]at ho;split at h
  .rename_i f caps res xs2 hfo;split at h
   .rename_i cs fs hfz;have hbh:=bF h;clear h;obtain⟨hb,h⟩:=hbh;obtain⟨rfl,rfl,rfl⟩:=dU h;refine ZS hc.1 ho hfo AO (lY (λ_=>rfl) hfz ?_) hb;have:∀{qs fs:List PV} {cs:List Prop},eN [] qs=some (cs,fs)->aI cs:=by
     have hv:(∀p:PV,∀{q:PV} {cs:List Prop},cz [] p=some (cs,q)->cs=[])/\(∀qs:List PV,∀{fs:List PV} {cs:List Prop},eN [] qs=some (cs,fs)->cs=[]):=by
      constructor
      .intro p;refine PV.rec (motive_1:=λp=>∀{q:PV} {cs:List Prop},cz [] p=some (cs,q)->cs=[]) (motive_2:=λqs=>∀{fs:List PV} {cs:List Prop},eN [] qs=some (cs,fs)->cs=[]) ?_ ?_ ?_ ?_ ?_ ?_ ?_ ?_ ?_ ?_ ?_ ?_ p
       .intro x q cs h;simp only[cz,ao,bp]at h;exact h.1.symm
       .intro q cs h;simp only[cz,ao,bp]at h;exact h.1.symm
       .intro l n q cs h;simp[cz,PW.get]at h
       .intro l n q cs h;simp[cz,PW.get]at h
       .intro l n i j q cs h;simp[cz]at h
       .intro ts q cs h;simp only[cz,ao,bp]at h;exact h.1.symm
       .intro cs ih q ps h;simp only[cz]at h;split at h
        .rename_i h2;cases h;exact ih h2
        cases h
       .intro cs ih q ps h;simp only[cz]at h;split at h
        .rename_i h2;cases h;exact ih h2
        cases h
       .intro f cs ih q ps h;simp only[cz]at h;split at h
        .rename_i h2;cases h;exact ih h2
        cases h
       .intro l d q cs h;simp[cz,PW.get]at h
       .intro fs cs h;simp only[eN,ao,bp]at h;exact h.1.symm
       intro p ps ih1 ih2 fs cs h;simp only[eN]at h;split at h
       .rename_i h1 h2;cases h;rw[ih1 h1,ih2 h2];rfl
       cases h
      intro qs;refine PV.rec_1 (motive_1:=λp=>∀{q:PV} {cs:List Prop},cz [] p=some (cs,q)->cs=[]) (motive_2:=λqs=>∀{fs:List PV} {cs:List Prop},eN [] qs=some (cs,fs)->cs=[]) ?_ ?_ ?_ ?_ ?_ ?_ ?_ ?_ ?_ ?_ ?_ ?_ qs
      .intro x q cs h;simp only[cz,ao,bp]at h;exact h.1.symm
      .intro q cs h;simp only[cz,ao,bp]at h;exact h.1.symm
      .intro l n q cs h;simp[cz,PW.get]at h
      .intro l n q cs h;simp[cz,PW.get]at h
      .intro l n i j q cs h;simp[cz]at h
      .intro ts q cs h;simp only[cz,ao,bp]at h;exact h.1.symm
      .intro cs ih q ps h;simp only[cz]at h;split at h
       .rename_i h2;cases h;exact ih h2
       cases h
      .intro cs ih q ps h;simp only[cz]at h;split at h
       .rename_i h2;cases h;exact ih h2
       cases h
      .intro f cs ih q ps h;simp only[cz]at h;split at h
       .rename_i h2;cases h;exact ih h2
       cases h
      .intro l d q cs h;simp[cz,PW.get]at h
      .intro fs cs h;simp only[eN,ao,bp]at h;exact h.1.symm
      intro p ps ih1 ih2 fs cs h;simp only[eN]at h;split at h
      .rename_i h1 h2;cases h;rw[ih1 h1,ih2 h2];rfl
      cases h
     intro qs fs cs h;rw[hv.2 qs h];trivial
    exact this hfz
   split at h
   .rename_i cs fs hfz;have hbh:=bF h;clear h;obtain⟨hb,h⟩:=hbh;obtain⟨rfl,rfl,rfl⟩:=fD h;obtain⟨hc1,hc2⟩:=bA.1 hc;exact ZT hc2.1 ho hfo AO (lY (λ_=>rfl) hfz hc1) (λm hm=>kr _ hm) hb
   cases h
  .rename_i f caps S ls d fr res xs2 hfo;split at h
   .rename_i cs qs' σa hav hpa;have hbh:=bF h;clear h;obtain⟨hb,h⟩:=hbh;cases h;obtain⟨c1,c2⟩:=bA.1 hc;obtain⟨c2,c3⟩:=bA.1 c2;exact Zy c3.1 ho hfo AO hav c1 hpa (LC hb) (LI c2) (λm hm=>by
     rcases hm with hm|hm|hm
     .exact cN.2 (.inl hm)
     .exact cN.2 (.inr (cN.2 (.inl (kr _ hm))))
     exact cN.2 (.inr (cN.2 (.inr (tT _ hm)))))
   cases h
  cases h
 .rename_i hce;split at h
  .rename_i p t n xs2 hat;obtain⟨x,hax,hx⟩:=Z3d hq;have hceq:=gy hce hax hat;rw[hceq]at ho;split at h
   .rename_i e es hk;obtain⟨rfl,rfl,rfl⟩:=dU h;simp only[ca]at hk;obtain⟨i0,hi0,hk⟩:=hk;have hu:=(hT _ _ hi0).k;rw[hk]at hu;have:=P9 (Z:=Z) ho hu hx;rw[hc.1]at this;exact this
   .rename_i e hk;obtain⟨rfl,rfl,rfl⟩:=dU h;simp only[ca]at hk;obtain⟨i0,hi0,hk⟩:=hk;have hu:=(hT _ _ hi0).k;rw[hk]at hu;have:=Qa (Z:=Z) ho hu hx;rw[hc.1]at this;exact this
   .rename_i e l m hk;split at h
    .rename_i k es hg;obtain⟨rfl,rfl,rfl⟩:=fD h;simp only[ca]at hk;obtain⟨i0,hi0,hk⟩:=hk;have hu:=(hT _ _ hi0).k;rw[hk]at hu;have:=Qb ho hu hx hg hc.1;rw[hc.2.1]at this;exact this
    cases h
   .rename_i e l m hk;split at h
    .rename_i k q es hg;obtain⟨rfl,rfl,rfl⟩:=fD h;simp only[ca]at hk;obtain⟨i0,hi0,hk⟩:=hk;have hu:=(hT _ _ hi0).k;rw[hk]at hu;have:=UW ho hu hx hg hc.1;rw[hc.2.1]at this;exact this
    cases h
   .rename_i st hk;obtain⟨rfl,rfl,rfl⟩:=dU h;simp only[ca]at hk;obtain⟨i0,hi0,hk⟩:=hk;have hu:=(hT _ _ hi0).k;rw[hk]at hu;have:=Qc (Z:=Z) ho hu hx;rw[hc.1]at this;exact this
   cases h
  cases h
 .rename_i hce;split at h
  .rename_i k a k' b;obtain⟨x,y',hax,hx,hy⟩:=nk hq;have hceq:=gy hce hax rfl;rw[hceq]at ho;obtain⟨rfl,rfl,rfl⟩:=cT h;exact ZU ho hx hy
  cases h
 .rename_i hce;split at h
  .rename_i k a k' b;obtain⟨x,y',hax,hx,hy⟩:=nk hq;have hceq:=gy hce hax rfl;rw[hceq]at ho;obtain⟨rfl,rfl,rfl⟩:=cT h;exact ZV ho hx hy
  cases h
 .rename_i hce;split at h
  .rename_i y t tx l es xs2 hat;obtain⟨x,y',hax,hx,hy⟩:=nk hq;have hceq:=gy hce hax hat;rw[hceq]at ho;split at h
   .rename_i e k bytes z kk fl ex cs ys ls he hex hsrc;have hbh:=bF h;clear h;obtain⟨hb,h⟩:=hbh;simp only[aM]at hb;have hE:=ja (z:=z) hT he rfl hb.1.1 hb.1.2;simp only[ao,bp]at h;obtain⟨rfl,rfl,rfl⟩:=h;obtain⟨hc1,hc2⟩:=bA.1 hc;obtain⟨h1,h2,h3,h4,_⟩:=hc2;subst h1;obtain⟨hs,hn⟩:=BM hsrc hc1;obtain⟨i1,hi1,hk1,_⟩:=eB hex;have hu1:=(hT _ _ hi1).k;rw[hk1]at hu1;exact ZW l ((dP _ _).1 hb.2) ho hE ⟨_,hu1⟩ hx hy hs hn h2 h3 h4
   cases h
  cases h
 cases h
def ZX{y:Operand}(h:uK y=true):y = .const (.slice none 0 0):=by
 unfold uK at h;split at h
 .rfl
 cases h
def ZY(hT:TOK P T){op:BinOp}{t:Nat}{x:Operand}{px:PV}{yT:TypeId}(ho:o.op = .binOp op t x (.const (.slice none 0 0)) yT)(hx:af tm x=some px)(h:BO T op t px xs=some (ps,xs',s))(hc:aI ps):aQ P o tm Z s.need s.p s.news:=by
 unfold BO at h;split at h
 .rename_i e he;obtain⟨rfl,rfl,rfl⟩:=dU h;obtain⟨i,hi,hk,hj⟩:=eB he;have hu:=(hT _ _ hi).k;rw[hk]at hu;exact LJ hu ho (.inl rfl) hx hc.1
 .rename_i e he;obtain⟨rfl,rfl,rfl⟩:=dU h;obtain⟨i,hi,hk,hj⟩:=eB he;have hu:=(hT _ _ hi).k;rw[hk]at hu;exact LJ hu ho (.inr rfl) hx hc.1
 .rename_i e he;obtain⟨rfl,rfl,rfl⟩:=cT h;obtain⟨i,hi,hk,hj⟩:=eB he;have hu:=(hT _ _ hi).k;rw[hk]at hu;exact LL hu ho (.inl rfl) hx
 .rename_i e he;obtain⟨rfl,rfl,rfl⟩:=cT h;obtain⟨i,hi,hk,hj⟩:=eB he;have hu:=(hT _ _ hi).k;rw[hk]at hu;exact LL hu ho (.inr rfl) hx
 cases h
def ZZ{y:Operand}(h:uL y=true):y = .const (.pointer none):=by
 unfold uL at h;split at h
 .rfl
 cases h
def Zaa{op:BinOp}{t:Nat}{x:Operand}{px:PV}{yT:TypeId}(hu:P.underlying t=some (.pointer (P.pointee t)))(ho:o.op = .binOp op t x (.const (.pointer none)) yT)(hx:af tm x=some px)(h:BP Z op px xs=some (ps,xs',s)):aQ P o tm Z s.need s.p s.news:=by
 unfold BP at h;split at h
 .obtain⟨rfl,rfl,rfl⟩:=cT h;exact LN hu ho (.inl rfl) hx
 .obtain⟨rfl,rfl,rfl⟩:=cT h;exact LN hu ho (.inr rfl) hx
 .split at h
  .rename_i hg;obtain⟨rfl,rfl,rfl⟩:=fD h;exact LO hu ho (.inl rfl) hx hg
  cases h
 .split at h
  .rename_i hg;obtain⟨rfl,rfl,rfl⟩:=fD h;exact LO hu ho (.inr rfl) hx hg
  cases h
 cases h
def Zab(hT:TOK P T){t:Nat}{x:Operand}{lo hi:Option Operand}{px:PV}(ho:o.op = .slice t x lo hi none)(hx:af tm x=some px)(h:BQ T tm t px lo hi xs=some (ps,xs',s))(hc:aI ps):aQ P o tm Z s.need s.p s.news:=by
 unfold BQ at h;split at h
 .rename_i sv z xs2 he;split at h
  .rename_i l hh h3 h1 h2;obtain⟨rfl,rfl,rfl⟩:=dU h;simp only[ca]at h3;obtain⟨i3,hi3,hk3⟩:=h3;have hu3:=(hT _ _ hi3).k;rw[hk3]at hu3;obtain⟨c1,c2,c3,c4,_⟩:=hc;subst c4;exact Zac ho hu3 hx h1 h2 c1 c2 c3
  cases h
 .rename_i e j es es' xs2 he;split at h
  .rename_i l hh h1 h2;obtain⟨rfl,rfl,rfl⟩:=dU h;obtain⟨i,hi,hk,hj⟩:=eB he;obtain⟨c1,c2,c3,c4,c5,_⟩:=hc;subst c5;exact Zad ho (hT.slInfo hi hk hj) hx h1 h2 c1 c2 c3 c4
  cases h
 cases h
def Zae(hT:TOK P T)(h:evOp P T o tm Z xs=some (ps,xs',s))(hc:aI ps):aQ P o tm Z s.need s.p s.news:=by
 unfold evOp at h;split at h
 .rename_i x ho;split at h
  .rename_i p hp;obtain⟨rfl,rfl,rfl⟩:=cT h;exact P1 ho hp
  cases h
 .rename_i x ho;split at h
  .rename_i p hp;obtain⟨rfl,rfl,rfl⟩:=cT h;exact P2 ho hp
  cases h
 .rename_i c x y ho;split at h
  .rename_i e b xs2 he;split at h
   .rename_i p hp;obtain⟨rfl,rfl,rfl⟩:=dU h;have:=hc.1;subst this;exact P3 ho he hp
   cases h
  cases h
 .rename_i op xT x y yT ho;cases hn:uK y with
  |true=>
   rw[ZX hn]at ho;simp only[hn,aD]at h;split at h
   .rename_i px hx;exact ZY hT ho hx h hc
   cases h
  |false=>
   simp only[hn,aB]at h;cases hn2:uL y with
   |true=>
    rw[ZZ hn2]at ho;simp only[hn2,aD]at h;split at h
    .rename_i px hx hk;simp only[ca]at hk;obtain⟨i0,hi0,hk⟩:=hk;have hu:=(hT _ _ hi0).k;rw[hk]at hu;exact Zaa hu ho hx h
    cases h
   |false=>
    simp only[hn2,aB]at h;split at h
    .rename_i px py hx hy;exact MO hT ho hx hy h hc
    cases h
 .rename_i op t x ho;split at h
  .rename_i b hb;obtain⟨rfl,rfl,rfl⟩:=cT h;exact P4 ho hb
  .rename_i k a hb;obtain⟨rfl,rfl,rfl⟩:=cT h;exact P5 ho hb
  .rename_i k a hb;obtain⟨rfl,rfl,rfl⟩:=cT h;exact P6 ho hb
  cases h
 .rename_i sT dT x ho;split at h
  .rename_i k k' k2 a h1 h2 hx;obtain⟨rfl,rfl,rfl⟩:=cT h;simp only[ca]at h1 h2;obtain⟨i1,hi1,hk1⟩:=h1;obtain⟨i2,hi2,hk2⟩:=h2;have hu1:=(hT _ _ hi1).k;have hu2:=(hT _ _ hi2).k;rw[hk1]at hu1;rw[hk2]at hu2;exact P7 ho ⟨_,hu1⟩ hu2 hx
  .rename_i a h1 h2 hx;obtain⟨rfl,rfl,rfl⟩:=cT h;simp only[ca]at h1 h2;obtain⟨i1,hi1,hk1⟩:=h1;obtain⟨i2,hi2,hk2⟩:=h2;have hu1:=(hT _ _ hi1).k;have hu2:=(hT _ _ hi2).k;rw[hk1]at hu1;rw[hk2]at hu2;exact P8 ho hu1 hu2 hx
  .rename_i e a h1 h2 hx;split at h
   .rename_i es xs2 h3;obtain⟨rfl,rfl,rfl⟩:=dU h;simp only[ca]at h1 h2 h3;obtain⟨i1,hi1,hk1⟩:=h1;obtain⟨i2,hi2,hk2⟩:=h2;obtain⟨i3,hi3,hk3⟩:=h3;have hu1:=(hT _ _ hi1).k;have hu2:=(hT _ _ hi2).k;have hu3:=(hT _ _ hi3).k;rw[hk1]at hu1;rw[hk2]at hu2;rw[hk3]at hu3;obtain⟨rfl,hl,_⟩:=hc;exact Zaf ho hu1 hu2 hu3 hx hl
   cases h
  .rename_i e es h1 h2 hx;split at h
   .rename_i s xs2 h3;obtain⟨rfl,rfl,rfl⟩:=dU h;simp only[ca]at h1 h2 h3;obtain⟨i1,hi1,hk1⟩:=h1;obtain⟨i2,hi2,hk2⟩:=h2;obtain⟨i3,hi3,hk3⟩:=h3;have hu1:=(hT _ _ hi1).k;have hu2:=(hT _ _ hi2).k;have hu3:=(hT _ _ hi3).k;rw[hk1]at hu1;rw[hk2]at hu2;rw[hk3]at hu3;obtain⟨rfl,hl,_⟩:=hc;exact Zag ho hu1 hu2 hu3 hx hl
   cases h
  cases h
 .rename_i xT x i ho;split at h
  .rename_i q j cs hf hx;split at h
   .rename_i p hp;obtain⟨rfl,rfl,rfl⟩:=cT h;obtain⟨i0,fs,fT,hi0,hk0,hfs,hj⟩:=Z4q hf;have hu:=(hT _ _ hi0).k;rw[hk0]at hu;obtain⟨fs',hu,rfl⟩:=hu;simp only[fq,ca]at hfs;obtain⟨fl,hfl,he⟩:=hfs;cases he;exact Qd fs' fl ho hu (by simpa using hfl) rfl rfl (hT _ _ hj).ty hx hp
   cases h
  cases h
 .rename_i x i ho;split at h
  .rename_i cs hx;split at h
   .rename_i p hp;obtain⟨rfl,rfl,rfl⟩:=cT h;exact Qe ho hx hp
   cases h
  cases h
 .rename_i x ho;split at h
  .rename_i cs hx;obtain⟨rfl,rfl,rfl⟩:=cT h;exact Qf ho hx trivial
  .rename_i l q hx;split at h
   .rename_i hg;obtain⟨rfl,rfl,rfl⟩:=fD h;exact Zah ho hx hg
   cases h
  .rename_i l m i q hx;split at h
   .rename_i hg;obtain⟨rfl,rfl,rfl⟩:=fD h;exact Zai ho hx hg hc.1
   cases h
  cases h
 .rename_i f first caps ho
  have hbh:=bF h;clear h;obtain⟨hb,h⟩:=hbh;have hb:=(aW _ _).1 hb;have:first = #[]:=Array.size_eq_zero_iff.1 hb
  subst this;split at h
  .rename_i qs hq;obtain⟨rfl,rfl,rfl⟩:=cT h;exact Qg (t:=0) ho (uh hq)
  cases h
 .rename_i t parts ho;split at h
  .rename_i qs hq;exact ZK hT ho hq h
  cases h
 .rename_i t len parts ho;split at h
  .rename_i qs hq;exact ZL hT ho hq h
  cases h
 .rename_i t x ho;split at h
  .rename_i p l xs2 hx;have hbh:=bF h;clear h;obtain⟨hb,h⟩:=hbh;simp only[aM]at hb;obtain⟨rfl,rfl,rfl⟩:=uF h;exact Qj l ((dP _ _).1 hb.2) ho hx hb.1
  cases h
 .rename_i t ho;split at h
  .rename_i z l xs2 hz;have hbh:=bF h;clear h;obtain⟨hb,h⟩:=hbh;obtain⟨rfl,rfl,rfl⟩:=uF h;simp only[c9]at hz;obtain⟨i0,hi0,hz⟩:=hz;exact Qk l ((dP _ _).1 hb) ho ((hT _ _ hi0).z z hz)
  cases h
 .rename_i t x y ho;split at h
  .rename_i px py hx hy;exact ZM hT ho hx hy h hc
  cases h
 .rename_i t x i ho;split at h
  .rename_i px hx;exact ZN hT ho hx h hc
  cases h
 .rename_i t x y ho;split at h
  .rename_i px py hx hy;exact ZO hT ho hx hy h hc
  cases h
 .rename_i t x y ho;split at h
  .rename_i px py hx hy;exact ZP hT ho hx hy h hc
  cases h
 .rename_i t x ho;split at h
  .rename_i px hx;split at h
   .rename_i d c xs2 d' hd;cases hb:Nat.beq d d' with
    |true=>simp only[hb,aD]at h;exact ZQ hT ho hx h hc
    |false=>simp only[hb,aB]at h;exact Lz hT ho hx h hc
   exact Lz hT ho hx h hc
  cases h
 .rename_i t x y z ho;split at h
  .rename_i ej px k1 k2 he hx hy hz;obtain⟨hp,h⟩:=bF h;obtain⟨rfl,rfl,rfl⟩:=cT h;obtain⟨i,hi,hk,hj⟩:=eB he;exact Zaj ho (hT.slInfo hi hk hj) hx hp hy hz
  cases h
 .rename_i t x lo hi ho;split at h
  .rename_i px hx;exact Zab hT ho hx h hc
  cases h
 .rename_i c ho;split at h
  .rename_i qs hq;exact ZR hT ho hq h hc
  cases h
 cases h
def Zak{x:Stm}{c:Call}{fo:Operand}(hce:c.callee = .value fo)(ho:o.op = .call c)(h:BS P tm Z fo c.args.toList xs=some (ps,xs',x))(hc:aI ps):OpF P o tm Z x.s.need x.rm x.s.p x.s.news:=by
 have hceq:=gy hce rfl rfl;rw[hceq]at ho;unfold BS at h;split at h
 .rename_i f caps qs0 S ls d σ1 res xs2 hfo hps;split at h
  .rename_i cs qs σa hav hpa;have hbh:=bF h;clear h;obtain⟨hb,h⟩:=hbh;simp only[aM]at hb;cases h;obtain⟨c1,c2⟩:=bA.1 hc;obtain⟨c2,c3⟩:=bA.1 c2;refine Zx c3.1 ho hfo (by rw[uh hps];rfl) hav c1 hpa (LC hb.1) (LI c2) (λm hm=>?_) (λl o hg hn hmem=>?_)
   .rcases hm with hm|hm|hm
    .exact cN.2 (.inl hm)
    .exact cN.2 (.inr (cN.2 (.inl (kr _ hm))))
    exact cN.2 (.inr (cN.2 (.inr (tT _ hm))))
   have:=bH.1 hb.2 _ (dW hg);simp only[hn,cY]at this;rw[Z8g.2 hmem]at this;cases this
  cases h
 cases h
def Zal{x:Stm}{c:Call}{fo:Operand}(hce:c.callee = .value fo)(ho:o.op = .call c)(h:BT P tm Z fo c.args.toList xs=some (ps,xs',x))(hc:aI ps):OpF P o tm Z x.s.need x.rm x.s.p x.s.news:=by
 unfold BT at h;split at h
 .rename_i f y L b xs2 hfo hax;have hceq:=gy hce hax rfl;rw[hceq]at ho;split at h
  .rename_i l m hy;split at h
   .rename_i k es hg;have hbh:=bF h;clear h;obtain⟨hb,h⟩:=hbh;simp only[aM,dP]at hb;cases h;obtain⟨h1,h2,h3,_⟩:=hc;exact UY h2 ho hfo hy hg h1 h3 (Z6r hb.2) hb.1
   cases h
  cases h
 cases h
def Zam(hT:TOK P T){x:Stm}(h:BU P T o tm Z xs=some (ps,xs',x))(hc:aI ps):OpF P o tm Z x.s.need x.rm x.s.p x.s.news:=by
 unfold BU at h;split at h
 .rename_i c ho;split at h
  .rename_i fo xs2 hce;split at h
   .rename_i h0;cases h;exact Zak hce ho h0 hc
   exact Zal hce ho h hc
  .rename_i l m y t tx es xs2 hce hps hat;obtain⟨x,y',hax,hx,hy⟩:=nk hps;have hceq:=gy hce hax hat;rw[hceq]at ho;split at h
   .rename_i e agg k bytes z kk fl ex cs ys ls k' es0 he hex hsrc hg;have hbh:=bF h;clear h;obtain⟨hb,h⟩:=hbh;simp only[aM,aW]at hb;obtain⟨⟨hb1,hb2⟩,hb3⟩:=hb;subst hb3;have hE:=ja (z:=z) hT he rfl hb1 ((aW _ _).2 hb2);cases h;obtain⟨hc1,hc2⟩:=bA.1 hc;obtain⟨h1,h2,h3,h4,h5,_⟩:=hc2;obtain⟨hs,hn⟩:=BM hsrc hc1;obtain⟨i1,hi1,hk1,_⟩:=eB hex;have hu1:=(hT _ _ hi1).k;rw[hk1]at hu1;subst h2;have hl:(es0++ys).length=m+ys.length:=by rw[bn,h1]
    rw[hl]at h4 h5;show OpF P o tm Z (l::ls) [l] (.osl l (es0++ys).length) [(l,.row k (es0++ys))];rw[hl];refine Zan ho hE ⟨_,hu1⟩ hx hg h1 hy hs (λq hq=>?_) h3 h4 h5;rcases hq with rfl|hq
    .exact s8 ..
    exact cC _ (hn q hq)
   cases h
  .rename_i l m y t tx q es xs2 hce hps hat;obtain⟨x,y',hax,hx,hy⟩:=nk hps;have hceq:=gy hce hax hat;rw[hceq]at ho;split at h
   .rename_i e agg k bytes z kk fl ex cs ys ls k' es0 he hex hsrc hg;have hbh:=bF h;clear h;obtain⟨hb,h⟩:=hbh;simp only[aM,aW]at hb;obtain⟨⟨hb1,hb2⟩,hb3⟩:=hb;subst hb3;have hE:=ja (z:=z) hT he rfl hb1 ((aW _ _).2 hb2);cases h;obtain⟨hc1,hc2⟩:=bA.1 hc;obtain⟨h1,h2,h3,h4,h5,_⟩:=hc2;obtain⟨hs,hn⟩:=BM hsrc hc1;obtain⟨i1,hi1,hk1,_⟩:=eB hex;have hu1:=(hT _ _ hi1).k;rw[hk1]at hu1;subst h5;rw[<- h2];refine Zao ho hE ⟨_,hu1⟩ hx hg h1 hy hs (λq hq=>?_) h4 h3;rcases hq with rfl|hq
    .exact s8 ..
    exact cC _ (hn q hq)
   cases h
  cases h
 .rename_i t x y ho;split at h
  .rename_i i l q p hd hi hx hy;split at h
   .rename_i cs cs' xs2 hg;have hbh:=bF h;clear h;obtain⟨hb,h⟩:=hbh;simp only[aM,aW]at hb;cases h;obtain⟨h1,h2,_⟩:=hc;subst h2;exact GW ho hd (hT _ _ hi).ty hx hy hg hb.1 hb.2 h1
   .rename_i cs hg _;have hbh:=bF h;clear h;obtain⟨hb,h⟩:=hbh;simp only[aM,aW,dP]at hb;cases h;exact GW ho hd (hT _ _ hi).ty hx hy hg hb.1.1 hb.1.2 hb.2
   cases h
  .rename_i i l m j q p hd hi hx hy;split at h
   .rename_i k es e es' xs2 ts hg hts;have hbh:=bF h;clear h;obtain⟨hb,h⟩:=hbh;simp only[aM,aW,dP]at hb;cases h;obtain⟨h1,h2,h3,_⟩:=hc;subst h3;exact Vh ho hd (hT _ _ hi).ty hx hy hg h1 h2 hts hb.1 hb.2
   cases h
  cases h
 cases h
def Zap(hT:TOK P T){x:Stm}(h:BV T o tm Z xs=some (ps,xs',x))(hc:aI ps):OpF P o tm Z x.s.need x.rm x.s.p x.s.news:=by
 unfold BV at h;split at h
 .rename_i t x y ho;split at h
  .rename_i e j l m ki i n xs2 he hx hy;split at h
   .rename_i k es hg;have hbh:=bF h;clear h;obtain⟨hb,h⟩:=hbh;rw[aW]at hb;cases h;obtain⟨h1,h2,h3,h4,_⟩:=hc;subst h4;obtain⟨i0,hi0,hk0,hj⟩:=eB he;exact(Zaq ho (hb▸hT.slInfo hi0 hk0 hj) hx hy hg h1 h2 h3).toF
   cases h
  cases h
 .rename_i t x y ho;split at h
  .rename_i e j l m ki i n xs2 he hx hy;split at h
   .rename_i es hg;have hbh:=bF h;clear h;obtain⟨hb,h⟩:=hbh;rw[aW]at hb;cases h;obtain⟨h1,h2,h3,h4,_⟩:=hc;subst h4;obtain⟨i0,hi0,hk0,hj⟩:=eB he;exact(ZC ho (hb▸hT.slInfo hi0 hk0 hj) hx hy hg h1 h2 h3).toF
   cases h
  .rename_i e j l m jj ki i inner n xs2 he hx hy;split at h
   .rename_i es hg;have hbh:=bF h;clear h;obtain⟨hb,h⟩:=hbh;rw[aW]at hb;cases h;obtain⟨h1,h2,h3,h4,h5,_⟩:=hc;subst h5;obtain⟨i0,hi0,hk0,hj⟩:=eB he;exact(ZE ho (hb▸hT.slInfo hi0 hk0 hj) hx hy hg h1 h2 h3 h4).toF
   cases h
  cases h
 .rename_i t x ho;split at h
  .rename_i i l m j hi hx;split at h
   .rename_i es hg;have hbh:=bF h;clear h;obtain⟨hb,h⟩:=hbh;simp only[aM,cY,aW]at hb;cases h;have hty:=(hT t i hi).ty;rw[hb.1,hb.2]at hty;exact(ZD ho hty hx hg hc.1 hc.2.1).toF
   cases h
  .rename_i i l m j q hi hx;split at h
   .rename_i es inner z xs2 hg;have hbh:=bF h;clear h;obtain⟨hb,h⟩:=hbh;simp only[aM,cY,aW]at hb;cases h;have hty:=(hT t i hi).ty;rw[hb.1.1,hb.1.2]at hty;exact(UX ho hty hx hg hc.1 hc.2.1 hc.2.2.1 hb.2).toF
   cases h
  cases h
 .rename_i t parts ho;split at h
  .rename_i e agg by_ z kk fl l2 n2 L xs2 he hp;split at h
   .rename_i es2 out hg hf;have hbh:=bF h;clear h;obtain⟨hb,h⟩:=hbh;simp only[aM,cY,dP]at hb;cases h;obtain⟨h1,h2,h3,_⟩:=hc;subst h1;exact Zz L hb.1.2 ho (ja (z:=z) hT he rfl rfl hb.1.1) hp hf hg h2 h3 (λe=>by subst e;simp at hb)
   cases h
  cases h
 .rename_i t parts ho;split at h
  .rename_i e agg by_ z kk fl L xs2 he hp;have hbh:=bF h;clear h;obtain⟨hb,h⟩:=hbh;cases h;exact ZF L ho (ja (z:=z) hT he rfl rfl hb) hp
  cases h
 .rename_i c ho;split at h
  .rename_i l m l3 m3 t tx es xs2 hce hps hat;obtain⟨x,y',hax,hx,hy⟩:=nk hps;have hceq:=gy hce hax hat;rw[hceq]at ho;split at h
   .rename_i e agg bytes z kk fl ex es0 es3 he hex hg hg3;have hbh:=bF h;clear h;obtain⟨hb,h⟩:=hbh;simp only[aM,cY,fQ]at hb;cases h;obtain⟨h1,h2,h3,h4,h5,_⟩:=hc;subst h3;obtain⟨i1,hi1,hk1,_⟩:=eB hex;have hu1:=(hT _ _ hi1).k;rw[hk1]at hu1;show OpF P o tm Z [l,l3] [l,l3] (.own l (.msl (es0++es3).length)) [(l,.mat 1 0 (es0++es3))];rw[bn,h1,h2];exact ZA ho (ja (z:=z) hT he rfl rfl hb.1.1) ⟨_,hu1⟩ hx hg h1 hy hg3 h2 hb.1.2 (λe=>by subst e;simp at hb) h4 h5
   cases h
  cases h
 cases h
def mapK{hT:TOK P T}{t k e:Nat}(h:(get T t).map (·.k)=some (.map k e)):P.underlying t=some (.map k e):=J7
def intK{hT:TOK P T}{t:Nat}{q:IntKind}(h:(get T t).map (·.k)=some (.int q)):P.underlying t=some (.int q):=J7
def Zar(hT:TOK P T){x:Stm}(h:BW P T o tm Z xs=some (ps,xs',x))(hc:aI ps):OpF P o tm Z x.s.need x.rm x.s.p x.s.news:=by
 unfold BW at h;split at h
 .rename_i t ho;split at h
  .split at h
   .cases h;exact UQ _ _ ho
   cases h
  cases h
 .rename_i t y z ok ho;split at h
  .rename_i k e l n ts xs2 hk hx hy;split at h
   .rename_i ag es hg hi;split at h
    .rename_i zs b xs3 hz;cases h;have:=UR ho (mapK (hT:=hT) hk) (intK (hT:=hT) hi) hz hx hy hg;rw[hc.1]at this;exact this
    .rename_i zs xs3 hz;cases h;have:=US ho (mapK (hT:=hT) hk) (intK (hT:=hT) hi) hz hx hy hg;rw[hc.1]at this;exact this
    cases h
   cases h
  .rename_i k e l n L rows xs2 hk hx hy;split at h
   .rename_i c es hg hi hz;have hbh:=bF h;clear h;obtain⟨hb,h⟩:=hbh;simp only[aM,cY,dP]at hb;cases h;have hLl:L≠l:=λe=>by subst e;simp at hb
    have:=Uz ho (mapK (hT:=hT) hk) (intK (hT:=hT) hi) hz hb.1 hx hy hLl hb.2.2 hg;rw[hc.1]at this;exact this
   cases h
  cases h
 .rename_i t y z v ho;split at h
  .rename_i k e l i L m es' xs2 hd hk hx hy hz;split at h
   .rename_i c n es c2 rows hg hg2 hi;have hbh:=bF h;clear h;obtain⟨hb,h⟩:=hbh;simp only[aM,cY,aW]at hb;cases h;obtain⟨h1,h2,h3,_⟩:=hc;obtain⟨rfl,hb2⟩:=hb;subst h1;have hLl:L≠l:=λe=>by subst e;simp at hb2
    have:=UA ho hd (mapK (hT:=hT) hk) (intK (hT:=hT) hi) hx hy hz hLl hg hg2 h2;rw[h3]at this;exact this
   cases h
  cases h
 .rename_i c ho;split at h
  .rename_i l t n xs2 hce hps hat;obtain⟨x,hax,hx⟩:=Z3d hps;have hceq:=gy hce hax hat;rw[hceq]at ho;split at h
   .rename_i k e ag es hk hg;cases h;have:=UT ho (mapK (hT:=hT) hk) hx hg;rw[hc.1]at this;exact this
   cases h
  cases h
 cases h
def Zas(hT:TOK P T){x:Stm}(h:evPr T o tm Z xs=some (ps,xs',x))(hc:aI ps):OpF P o tm Z x.s.need x.rm x.s.p x.s.news:=by
 unfold evPr at h;split at h
 .rename_i y ho;split at h
  .rename_i l m q hx;split at h
   .rename_i hg;cases h;exact(Xq ho hx hg hc.1).toF
   cases h
  cases h
 .rename_i s y f ho;split at h
  .rename_i q0 j l m q hf hx;split at h
   .rename_i hg;have hbh:=bF h;clear h;obtain⟨hb,h⟩:=hbh;cases h;have hs:j.size≠0:=λe=>by rw[e]at hb;cases hb
    obtain⟨i0,fs,fT,hi0,hk0,hfs,hj⟩:=Z4q hf;exact(Xp ho (hT.fieldInfo hi0 hk0 hfs hj) hs hx hg hc.1).toF
   cases h
  cases h
 .rename_i t y ho;split at h
  .rename_i i l m q hi hx;split at h
   .rename_i hg;split at h
    .rename_i p hp;cases h;exact(Xr ho (hT _ _ hi).ty hx hg hc.1 hp).toF
    cases h
   cases h
  cases h
 .rename_i t y z ho;split at h
  .rename_i i l m q p hd hi hx hy;split at h
   .rename_i hg;have hbh:=bF h;clear h;obtain⟨hb,h⟩:=hbh;simp only[aM,aW,dP]at hb;cases h;exact Xs ho hd (hT _ _ hi).ty hx hy hg hc.1 hb.1.1 hb.1.2 hb.2
   cases h
  cases h
 cases h
def wq(hT:TOK P T){x:Stm}(h:se P T o tm Z xs=some (ps,xs',x))(hc:aI ps):OpF P o tm Z x.s.need x.rm x.s.p x.s.news:=by
 unfold se at h;split at h
 .rename_i he;cases h;exact(Zae hT he hc).toF
 split at h
 .rename_i hm;cases h;exact Zam hT hm hc
 split at h
 .rename_i hm;cases h;exact Zap hT hm hc
 split at h
 .rename_i hm;cases h;exact Zar hT hm hc
 exact Zas hT h hc
end
end Go.PW
namespace Go.PW
open Go.RowKit
abbrev Es:=Option (List Prop×List Orc×St)
def DT(m:Nat):Nat.beq m m=true:=(aW _ _).2 rfl
mutual
def gZ(mt:Bool)(l:Nat)(es:List (List U)):PV->List Prop×PV
 |.t x=>([],.t x)
 |.nils=>([],.nils)
 |.osl m n=>bif !mt&&Nat.beq m l then([es.length=n],.t (.sl es))else([],.osl m n)
 |.bptr m o=>([],.bptr m o)
 |.rptr m n i o=>([],.rptr m n i o)
 |.vptr cs=>([],.vptr cs)
 |.agg cs=>((fg mt l es cs).1,.agg (fg mt l es cs).2)
 |.tup cs=>((fg mt l es cs).1,.tup (fg mt l es cs).2)
 |.fn f cs=>((fg mt l es cs).1,.fn f (fg mt l es cs).2)
 |.own m (.msl n)=>bif mt&&Nat.beq m l then([es.length=n],.t (.sl es))else([],.own m (.msl n))
 |.own m d=>([],.own m d)
def fg(mt:Bool)(l:Nat)(es:List (List U)):List PV->List Prop×List PV
 |[]=>([],[])
 |c::cs=>((gZ mt l es c).1++(fg mt l es cs).1,(gZ mt l es c).2::(fg mt l es cs).2)
end
def jo(mt:Bool)(l:Nat)(es:List (List U)):List (Nat×PV)->List Prop×List (Nat×PV)
 |[]=>([],[])
 |(i,p)::r=>((gZ mt l es p).1++(jo mt l es r).1,(i,(gZ mt l es p).2)::(jo mt l es r).2)
def en(mt:Bool)(l:Nat)(es:List (List U)):List (Nat×Blk)->List Prop×List (Nat×Blk)
 |[]=>([],[])
 |(m,b)::r=>
  bif Nat.beq m l then en mt l es r else
  match b with
  |.row k es'=>((en mt l es r).1,(m,.row k es')::(en mt l es r).2)
  |.mat k q es'=>((en mt l es r).1,(m,.mat k q es')::(en mt l es r).2)
  |.map ag es'=>((en mt l es r).1,(m,.map ag es')::(en mt l es r).2)
  |.prow k i es' cs=>((fg mt l es cs).1++(en mt l es r).1,(m,.prow k i es' (fg mt l es cs).2)::(en mt l es r).2)
  |.box cs=>((fg mt l es cs).1++(en mt l es r).1,(m,.box (fg mt l es cs).2)::(en mt l es r).2)
mutual
def DU{Z Z':List (Nat×Blk)}{mt:Bool}{l k q0:Nat}{es:List (List U)}(hg:get Z l=some (bif mt then .mat k q0 es else .row k es))(h0:get Z' l=none):∀(p:PV),aI (gZ mt l es p).1->Frz Z Z' p (gZ mt l es p).2
 |.t _,_=>om
 |.nils,_=>om
 |.osl m n,h=>by
  simp only[gZ]at h⊢;cases hb : !mt&&Nat.beq m l with
  |true=>
   simp only[aM,cY,aW]at hb;obtain⟨rfl,rfl⟩:=hb;simp only[DT,gT,gk,aD]at h⊢;simp only[Frz];exact .inr ⟨k,es,hg,h.1,h0,rfl⟩
  |false=>simp only[aB,Frz];exact .inl trivial
 |.bptr _ _,_=>om
 |.rptr _ _ _ _,_=>om
 |.vptr _,_=>om
 |.agg cs,h=>wc
 |.tup cs,h=>wc
 |.fn _ cs,h=>wc
 |.own m (.msl n),h=>by
  simp only[gZ]at h⊢;cases hb:mt&&Nat.beq m l with
  |true=>
   simp only[aM,aW]at hb;obtain⟨rfl,rfl⟩:=hb;simp only[DT,gk,aD]at h⊢;simp only[Frz];exact .inr ⟨n,k,q0,es,rfl,hg,h.1,h0,rfl⟩
  |false=>simp only[aB,Frz];exact .inl trivial
 |.own m (.tail _ _),_=>kZ
 |.own m (.mpt _ _ _),_=>kZ
 |.own m (.mrow _ _),_=>kZ
 |.own m (.mel _ _ _),_=>kZ
 |.own m .map,_=>kZ
 |.own m (.pw _),_=>kZ
 |.own m (.pp _ _),_=>kZ
def r5{Z Z':List (Nat×Blk)}{mt:Bool}{l k q0:Nat}{es:List (List U)}(hg:get Z l=some (bif mt then .mat k q0 es else .row k es))(h0:get Z' l=none):∀(cs:List PV),aI (fg mt l es cs).1->aZ Z Z' cs (fg mt l es cs).2
 |[],_=>by simp[fg,aZ]
 |c::cs,h=>by simp only[fg,aZ]at h⊢;obtain⟨h1,h2⟩:=bA.1 h;exact⟨_,_,rfl,DU hg h0 c h1,r5 hg h0 cs h2⟩
end
def wg{Z Z':List (Nat×Blk)}{mt:Bool}{l k q0:Nat}{es:List (List U)}(hg:get Z l=some (bif mt then .mat k q0 es else .row k es))(h0:get Z' l=none):∀(tm:List (Nat×PV)),aI (jo mt l es tm).1->∀i q,get (jo mt l es tm).2 i=some q->∃p,get tm i=some p/\Frz Z Z' p q
 |[],_,i,q,hq=>by cases hq
 |(j,p)::r,h,i,q,hq=>by
  simp only[jo]at h hq;obtain⟨h1,h2⟩:=bA.1 h;simp only[PW.get]at hq⊢;cases hb:Nat.beq j i with
  |true=>simp only[hb,aD,ao]at hq⊢;subst hq;exact⟨p,rfl,DU hg h0 p h1⟩
  |false=>simp only[hb,aB]at hq⊢;exact wg hg h0 r h2 i q hq
def oo{mt:Bool}{l:Nat}{es:List (List U)}:∀(Z:List (Nat×Blk)),get (en mt l es Z).2 l=none
 |[]=>rfl
 |(m,b)::r=>by
  simp only[en];cases hb:Nat.beq m l with
  |true=>simp only[aD];exact oo r
  |false=>
   simp only[aB];cases b<;>simp only[PW.get,hb,aB]<;>exact oo r
def jW{σ0 σ0':List (Nat×Blk)}{mt:Bool}{l k q0:Nat}{es:List (List U)}(hg:get σ0 l=some (bif mt then .mat k q0 es else .row k es))(h0:get σ0' l=none):∀(Z:List (Nat×Blk)),aI (en mt l es Z).1->∀m o',get (en mt l es Z).2 m=some o'->∃o,get Z m=some o/\bT σ0 σ0' o o'
 |[],_,m,o',ho=>by cases ho
 |(j,b)::r,h,m,o',ho=>by
  simp only[en]at h ho;cases hb:Nat.beq j l with
  |true=>
   simp only[hb,aD]at h ho;have:j=l:=(aW _ _).1 hb;subst this;have hjm:j≠m:=λe=>by subst e;rw[oo]at ho;cases ho
   simp only[PW.get,dJ hjm,aB];exact jW hg h0 r h m o' ho
  |false=>
   simp only[hb,aB]at h ho;cases b with
   |row k' es'=>
    simp only[PW.get]at ho⊢;cases hm:Nat.beq j m with
    |true=>simp only[hm,aD,ao]at ho⊢;subst ho;exact⟨_,rfl,rfl⟩
    |false=>simp only[hm,aB]at ho⊢;exact jW hg h0 r h m o' ho
   |mat k' q' es'=>
    simp only[PW.get]at ho⊢;cases hm:Nat.beq j m with
    |true=>simp only[hm,aD,ao]at ho⊢;subst ho;exact⟨_,rfl,rfl⟩
    |false=>simp only[hm,aB]at ho⊢;exact jW hg h0 r h m o' ho
   |map k' es'=>
    simp only[PW.get]at ho⊢;cases hm:Nat.beq j m with
    |true=>simp only[hm,aD,ao]at ho⊢;subst ho;exact⟨_,rfl,rfl⟩
    |false=>simp only[hm,aB]at ho⊢;exact jW hg h0 r h m o' ho
   |prow k' i' es' cs=>
    obtain⟨h1,h2⟩:=bA.1 h;simp only[PW.get]at ho⊢;cases hm:Nat.beq j m with
    |true=>simp only[hm,aD,ao]at ho⊢;subst ho;exact⟨_,rfl,_,rfl,r5 hg h0 cs h1⟩
    |false=>simp only[hm,aB]at ho⊢;exact jW hg h0 r h2 m o' ho
   |box cs=>
    obtain⟨h1,h2⟩:=bA.1 h;simp only[PW.get]at ho⊢;cases hm:Nat.beq j m with
    |true=>simp only[hm,aD,ao]at ho⊢;subst ho;exact⟨_,rfl,_,rfl,r5 hg h0 cs h1⟩
    |false=>simp only[hm,aB]at ho⊢;exact jW hg h0 r h2 m o' ho
mutual
def vbx(l:Nat)(ts:List U):PV->PV
 |.bptr m o=>bif Nat.beq m l then .vptr (ts.drop o)else .bptr m o
 |.agg cs =>.agg (Z8q l ts cs)
 |.tup cs =>.tup (Z8q l ts cs)
 |.fn f cs =>.fn f (Z8q l ts cs)
 |.t x =>.t x
 |.nils =>.nils
 |.osl m n =>.osl m n
 |.rptr m n i o =>.rptr m n i o
 |.vptr cs =>.vptr cs
 |.own m d =>.own m d
def Z8q(l:Nat)(ts:List U):List PV->List PV
 |[]=>[]
 |c::cs=>vbx l ts c::Z8q l ts cs
end
def r6(l:Nat)(ts:List U):List (Nat×PV)->List (Nat×PV)
 |[]=>[]
 |(i,p)::r=>(i,vbx l ts p)::r6 l ts r
def Z8r(l:Nat)(ts:List U):List (Nat×Blk)->List (Nat×Blk)
 |[]=>[]
 |(m,b)::r=>
  bif Nat.beq m l then Z8r l ts r else
  match b with
  |.box cs=>(m,.box (Z8q l ts cs))::Z8r l ts r
  |.prow k i es cs=>(m,.prow k i es (Z8q l ts cs))::Z8r l ts r
  |b=>(m,b)::Z8r l ts r
mutual
def DV{Z Z':List (Nat×Blk)}{l:Nat}{ts:List U}(hg:get Z l=some (.box (ts.map .t)))(h0:get Z' l=none):∀(p:PV),Frz Z Z' p (vbx l ts p)
 |.t _=>oq
 |.nils=>oq
 |.osl _ _=>oq
 |.bptr m o=>by
  simp only[vbx];cases hb:Nat.beq m l with
  |true=>have:m=l:=(aW _ _).1 hb;subst this;simp only[aD,Frz];exact .inr ⟨ts,hg,h0,rfl⟩
  |false=>simp only[aB,Frz];exact .inl trivial
 |.rptr _ _ _ _=>oq
 |.vptr _=>oq
 |.agg cs=>wh
 |.tup cs=>wh
 |.fn _ cs=>wh
 |.own _ _=>by simp only[vbx,Frz];exact .inl trivial
def r7{Z Z':List (Nat×Blk)}{l:Nat}{ts:List U}(hg:get Z l=some (.box (ts.map .t)))(h0:get Z' l=none):∀(cs:List PV),aZ Z Z' cs (Z8q l ts cs)
 |[]=>by simp[Z8q,aZ]
 |c::cs=>by simp only[Z8q,aZ];exact⟨_,_,rfl,DV hg h0 c,r7 hg h0 cs⟩
end
def DW{Z Z':List (Nat×Blk)}{l:Nat}{ts:List U}(hg:get Z l=some (.box (ts.map .t)))(h0:get Z' l=none):∀(tm:List (Nat×PV)) (i:Nat) (q:PV),get (r6 l ts tm) i=some q->∃p,get tm i=some p/\Frz Z Z' p q
 |[],i,q,hq=>by cases hq
 |(j,p)::r,i,q,hq=>by
  simp only[r6,PW.get]at hq⊢;cases hb:Nat.beq j i with
  |true=>simp only[hb,aD,ao]at hq⊢;subst hq;exact⟨p,rfl,DV hg h0 p⟩
  |false=>simp only[hb,aB]at hq⊢;exact DW hg h0 r i q hq
def Z3e{l:Nat}{ts:List U}:∀(Z:List (Nat×Blk)),get (Z8r l ts Z) l=none
 |[]=>rfl
 |(m,b)::r=>by
  simp only[Z8r];cases hb:Nat.beq m l with
  |true=>simp only[aD];exact Z3e r
  |false=>
   simp only[aB];cases b<;>simp only[PW.get,hb,aB]<;>exact Z3e r
def wi{σ0 σ0':List (Nat×Blk)}{l:Nat}{ts:List U}(hg:get σ0 l=some (.box (ts.map .t)))(h0:get σ0' l=none):∀(Z:List (Nat×Blk)) (m:Nat) (o':Blk),get (Z8r l ts Z) m=some o'->∃o,get Z m=some o/\bT σ0 σ0' o o'
 |[],m,o',ho=>by cases ho
 |(j,b)::r,m,o',ho=>by
  simp only[Z8r]at ho;cases hb:Nat.beq j l with
  |true=>
   simp only[hb,aD]at ho;have:j=l:=(aW _ _).1 hb;subst this;have hjm:j≠m:=λe=>by subst e;rw[Z3e]at ho;cases ho
   simp only[PW.get,dJ hjm,aB];exact wi hg h0 r m o' ho
  |false=>
   simp only[hb,aB]at ho;simp only[PW.get];cases hm:Nat.beq j m with
   |true=>
    cases b with
    |box cs=>simp only[PW.get,hm,aD,ao]at ho⊢;subst ho;exact⟨_,rfl,_,rfl,r7 hg h0 cs⟩
    |row k es=>simp only[PW.get,hm,aD,ao]at ho⊢;subst ho;exact⟨_,rfl,rfl⟩
    |mat k q es=>simp only[PW.get,hm,aD,ao]at ho⊢;subst ho;exact⟨_,rfl,rfl⟩
    |map ag es=>simp only[PW.get,hm,aD,ao]at ho⊢;subst ho;exact⟨_,rfl,rfl⟩
    |prow k i es cs=>simp only[PW.get,hm,aD,ao]at ho⊢;subst ho;exact⟨_,rfl,_,rfl,r7 hg h0 cs⟩
   |false=>
    simp only[aB];refine wi hg h0 r m o' ?_;cases b<;>simpa only[PW.get,hm,aB]using ho
def ft{α:Type}(l:List (Nat×α)):List Nat->Option (List (Nat×α))
 |[]=>some []
 |k::ks=>
  match get l k,ft l ks with
  |some x,some r=>some ((k,x)::r)
  |_,_=>none
def iJ{α:Type}{l:List (Nat×α)}:∀{ks:List Nat} {r:List (Nat×α)},ft l ks=some r->∀i x,get r i=some x->get l i=some x
 |[],r,h,i,x,hx=>by simp only[ft,ao]at h;subst h;cases hx
 |k::ks,r,h,i,x,hx=>by
  simp only[ft]at h;split at h
  .rename_i y r' hy hr;cases h;simp only[PW.get]at hx;cases hb:Nat.beq k i with
   |true=>have:k=i:=(aW _ _).1 hb;subst this;simp only[hb,aD,ao]at hx;subst hx;exact hy
   |false=>simp only[hb,aB]at hx;exact iJ hr i x hx
  cases h
def hH(l:Nat)(tm:List (Nat×PV))(Z:List (Nat×Blk)):Bool:=(tm.all λq => !q.2.has l)&&Z.all λq => !Nat.beq q.1 l && !q.2.has l
def ot{l:Nat}{tm:List (Nat×PV)}{Z:List (Nat×Blk)}(h:hH l tm Z=true):(∀i q,get tm i=some q->q.has l=false)/\(∀m y,get Z m=some y->m≠l/\y.has l=false):=by
 simp only[hH,aM,bH]at h;refine⟨λi q hq=>?_,λm y hy=>?_⟩
 .have:=h.1 _ (dW hq);simpa using this
 have:=h.2 _ (dW hy);simp only[cY]at this;exact⟨λe=>by subst e;have:=this.1;simp at this,this.2⟩
def dp(l n:Nat):List (Nat×PV)->List Prop×List (Nat×PV)
 |[]=>([],[])
 |(i,p)::r=>
  match p with
  |.osl m k=>bif Nat.beq m l then((k=n)::(dp l n r).1,(i,.osl m n)::(dp l n r).2)else((dp l n r).1,(i,.osl m k)::(dp l n r).2)
  |.rptr m k j o=>bif Nat.beq m l then((k=n)::(dp l n r).1,(i,.rptr m n j o)::(dp l n r).2)else((dp l n r).1,(i,.rptr m k j o)::(dp l n r).2)
  |.own m (.msl k)=>bif Nat.beq m l then((k=n)::(dp l n r).1,(i,.own m (.msl n))::(dp l n r).2)else((dp l n r).1,(i,.own m (.msl k))::(dp l n r).2)
  |p=>((dp l n r).1,(i,p)::(dp l n r).2)
def iK{l n:Nat}:∀(tm:List (Nat×PV)),aI (dp l n tm).1->(dp l n tm).2=tm
 |[],_=>rfl
 |(i,p)::r,h=>by
  cases p
  case osl m k=>
   simp only[dp]at h⊢;cases hb:Nat.beq m l with
   |true=>
    simp only[hb,aD]at h⊢;obtain⟨h1,h2⟩:=h;subst h1;rw[iK r h2]
   |false=>
    simp only[hb,aB]at h⊢;rw[iK r h]
  case rptr m k j o=>
   simp only[dp]at h⊢;cases hb:Nat.beq m l with
   |true=>
    simp only[hb,aD]at h⊢;obtain⟨h1,h2⟩:=h;subst h1;rw[iK r h2]
   |false=>
    simp only[hb,aB]at h⊢;rw[iK r h]
  case own m d=>
   cases d
   case msl k=>
    simp only[dp]at h⊢;cases hb:Nat.beq m l with
    |true=>
     simp only[hb,aD]at h⊢;obtain⟨h1,h2⟩:=h;subst h1;rw[iK r h2]
    |false=>
     simp only[hb,aB]at h⊢;rw[iK r h]
   all_goals
    simp only[dp]at h⊢;rw[iK r h]
  all_goals
   simp only[dp]at h⊢;rw[iK r h]
def eo(l n:Nat):List PV->List Prop×List PV
 |[]=>([],[])
 |.osl m k::r=>bif Nat.beq m l then((k=n)::(eo l n r).1,.osl m n::(eo l n r).2)else((eo l n r).1,.osl m k::(eo l n r).2)
 |.own m (.msl k)::r=>bif Nat.beq m l then((k=n)::(eo l n r).1,.own m (.msl n)::(eo l n r).2)else((eo l n r).1,.own m (.msl k)::(eo l n r).2)
 |p::r=>((eo l n r).1,p::(eo l n r).2)
def jX{l n:Nat}:∀(cs:List PV),aI (eo l n cs).1->(eo l n cs).2=cs
 |[],_=>rfl
 |p::r,h=>by
  cases p
  case osl m k=>
   simp only[eo]at h⊢;cases hb:Nat.beq m l with
   |true=>
    simp only[hb,aD]at h⊢;obtain⟨h1,h2⟩:=h;subst h1;rw[jX r h2]
   |false=>
    simp only[hb,aB]at h⊢;rw[jX r h]
  case own m d=>
   cases d
   case msl k=>
    simp only[eo]at h⊢;cases hb:Nat.beq m l with
    |true=>
     simp only[hb,aD]at h⊢;obtain⟨h1,h2⟩:=h;subst h1;rw[jX r h2]
    |false=>
     simp only[hb,aB]at h⊢;rw[jX r h]
   all_goals (simp only[eo]at h⊢;rw[jX r h])
  all_goals
   simp only[eo]at h⊢;rw[jX r h]
def dZ(l n:Nat):List (Nat×Blk)->List Prop×List (Nat×Blk)
 |[]=>([],[])
 |(m,.box cs)::r=>((eo l n cs).1++(dZ l n r).1,(m,.box (eo l n cs).2)::(dZ l n r).2)
 |(m,.row k es)::r=>((dZ l n r).1,(m,.row k es)::(dZ l n r).2)
 |(m,.mat k q es)::r=>((dZ l n r).1,(m,.mat k q es)::(dZ l n r).2)
 |(m,.map ag es)::r=>((dZ l n r).1,(m,.map ag es)::(dZ l n r).2)
 |(m,.prow k i es cs)::r=>((eo l n cs).1++(dZ l n r).1,(m,.prow k i es (eo l n cs).2)::(dZ l n r).2)
def k7{l n:Nat}:∀(Z:List (Nat×Blk)),aI (dZ l n Z).1->(dZ l n Z).2=Z
 |[],_=>rfl
 |(m,b)::r,h=>by
  cases b with
  |box cs=>
   simp only[dZ]at h⊢;obtain⟨h1,h2⟩:=bA.1 h;rw[jX cs h1,k7 r h2]
  |row k es=>
   simp only[dZ]at h⊢;rw[k7 r h]
  |mat k q es=>
   simp only[dZ]at h⊢;rw[k7 r h]
  |map ag es=>
   simp only[dZ]at h⊢;rw[k7 r h]
  |prow k i es cs=>
   simp only[dZ]at h⊢;obtain⟨h1,h2⟩:=bA.1 h;rw[jX cs h1,k7 r h2]
def r8{G:Frm}{β:Nat->Option Nat}{n:Nat}{tm tm':List (Nat×PV)}{Z Z':List (Nat×Blk)}{a:Act}{w:World}(h:aF G β ⟨n,tm,Z⟩ a w)
 (hσ:∀l o',get Z' l=some o'->∃o,get Z l=some o/\(o'=o\/∃cs cs',o = .box cs/\o' = .box cs'/\cs'.length=cs.length/\cs'.all PV.one=true/\∀vs,VRs (ctx G β w Z) cs vs->VRs (ctx G β w Z) cs' vs))
 (ht:∀i q,get tm' i=some q->∃p,get tm i=some p/\∀v,VR (ctx G β w Z) p v->VR (ctx G β w Z) q v):aF G β ⟨n,tm',Z'⟩ a w:=by
 have hO:∀l o' o,(o'=o\/∃cs cs',o = .box cs/\o' = .box cs'/\cs'.length=cs.length/\cs'.all PV.one=true/\∀vs,VRs (ctx G β w Z) cs vs->VRs (ctx G β w Z) cs' vs)->∀b,aA β w l o' b->aA β w l o b:=λl o' o hr b ho=>by
  rcases hr with rfl|⟨cs,cs',rfl,rfl,_⟩
  .exact ho
  exact .inl (aA.flat (o :=.box cs') trivial ho)
 have hI:∀b,(ctx G β w Z).I b->(ctx G β w Z').I b/\(ctx G β w Z').w.heap[b]?=(ctx G β w Z).w.heap[b]?:=λb hb=>⟨⟨hb.1,hb.2.1,λl o hl ho=>by obtain⟨o2,ho2,hr2⟩:=hσ l o hl;exact hb.2.2 l o2 ho2 (hO l o o2 hr2 b ho)⟩,rfl⟩;have hL:∀l,aX (ctx G β w Z) (ctx G β w Z') l:=λl=>by
  refine⟨λk es' hg=>?_,λcs' hg=>?_,λk q es' hg=>?_,λk es' hg=>?_,λk i es' cs' hg=>?_⟩
  .obtain⟨o,ho,h1⟩:=hσ l _ hg;rcases h1 with rfl|⟨cs,cs',_,h2,_⟩
   .exact⟨es',ho,bh _,λ_=>⟨rfl,λ_ _ _ h=>h⟩⟩
   cases h2
  .obtain⟨o,ho,h1⟩:=hσ l _ hg;rcases h1 with rfl|⟨cs,cs',rfl,h2,_⟩
   .exact⟨cs',ho,rfl⟩
   exact⟨cs,ho,rfl⟩
  .obtain⟨o,ho,h1⟩:=hσ l _ hg;rcases h1 with rfl|⟨cs,cs',_,h2,_⟩
   .exact⟨es',ho,bh _,λ_=>⟨rfl,λ_ _=>⟨λ_ h=>h,λ_ _=>rfl⟩⟩⟩
   cases h2
  .obtain⟨o,ho,h1⟩:=hσ l _ hg;rcases h1 with rfl|⟨cs,cs',_,h2,_⟩
   .exact⟨_,es',ho,rfl⟩
   cases h2
  obtain⟨o,ho,h1⟩:=hσ l _ hg;rcases h1 with rfl|⟨cs,cs'',_,h2,_⟩
  .exact⟨es',cs',ho,rfl,rfl,λ_ _ _ h=>h⟩
  cases h2
 exact { defers:=h.defers,sz:=h.sz,base:=h.base,os:=h.os,tape:=h.tape,output:=h.output,old:=h.old,A:=h.A,gl:=h.gl,
         inj:=λl l' o o' b hl hl' hb hb'=>by obtain⟨o1,h1,r1⟩:=hσ l o hl;obtain⟨o2,h2,r2⟩:=hσ l' o' hl';exact h.inj l l' o1 o2 b h1 h2 (hO l o o1 r1 b hb) (hO l' o' o2 r2 b hb'),
         sep:=λl o b hl hb=>by obtain⟨o1,h1,r1⟩:=hσ l o hl;exact h.sep l o1 b h1 (hO l o o1 r1 b hb),
         fix:=λl cs h1 hl=>by
          obtain⟨o,ho,h2⟩:=hσ l _ hl;rcases h2 with rfl|⟨cs0,cs',rfl,_⟩
          .exact h.fix l cs h1 ho
          exact h.fix l cs0 h1 ho,
         row0:=h.row0.step (λm _=>hL m),
         blk:=λl o' hl=>by
          obtain⟨o,ho,h2⟩:=hσ l o' hl;have hb:=h.blk l o ho;rcases h2 with rfl|⟨cs,cs',rfl,rfl,h3,h4,h5⟩
          .exact BR.step hI rfl (λ_ _=>rfl) (λm _=>hL m) hb
          obtain⟨b,vs,f1,f2,f3,f4,f5⟩:=hb;exact⟨b,vs,f1,by rw[h3];exact f2,f3,VRs.step hI _ _ (λm _=>hL m) (h5 vs f4),h4⟩,
         tm:=λi q hq=>by obtain⟨p,hp,hf⟩:=ht i q hq;exact⟨(h.tm i p hp).1,VR.step hI q _ (λm _=>hL m) (hf _ (h.tm i p hp).2)⟩ }
def VRs.set{c:Ctx}{p q:PV}:∀{cs:List PV} {vs:List Value} {j:Nat},cs[j]?=some p->(∀v,VR c p v->VR c q v)->VRs c cs vs->VRs c (cs.set j q) vs
 |[],vs,j,h,_,_=>iL
 |x::cs,vs,0,h,hq,hv=>by simp only[iy,ao]at h;subst h;simp only[List.set_cons_zero,VRs]at hv⊢;obtain⟨v,rest,rfl,hv,hr⟩:=hv;exact⟨v,rest,rfl,hq v hv,hr⟩
 |x::cs,vs,j+1,h,hq,hv=>by simp only[r9,VRs]at hv⊢;obtain⟨v,rest,rfl,hv,hr⟩:=hv;exact⟨v,rest,rfl,hv,VRs.set iC hq hr⟩
def DX{q:PV}(hq:q.one=true):∀{cs:List PV} {j:Nat},cs.all PV.one=true->(cs.set j q).all PV.one=true
 |[],_,h=>h
 |x::cs,0,h=>by simp only[List.set_cons_zero,iZ,aM]at h⊢;exact⟨hq,h.2⟩
 |x::cs,j+1,h=>by simp only[r9,iZ,aM]at h⊢;exact⟨h.1,DX hq h.2⟩
def VR.nilt{c:Ctx}(v:Value)(h:VR c .nils v):VR c (.t (.sl [])) v:=by simp only[VR]at h⊢;obtain⟨a,rfl⟩:=h;simp only[Z6];exact⟨a,0,rfl,by simp,by simp[maxLen],.inl trivial⟩
def VR.nilOwn{c:Ctx}{l k:Nat}(hg:get c.Z l=some (.row k []))(hb:c.β l=none)(v:Value)(h:VR c .nils v):VR c (.osl l 0) v:=by simp only[VR]at h⊢;obtain⟨a,rfl⟩:=h;refine⟨λk' es' hg'=>?_,a,0,0,rfl⟩;rw[hg]at hg';cases hg';exact⟨bh _,λ_=>⟨a,0,rfl,bh _,by simp[maxLen],.inl ⟨rfl,hb⟩⟩⟩
def DY{G:Frm}{β:Nat->Option Nat}{w:World}{tm:List (Nat×PV)}{Z:List (Nat×Blk)}{t:Nat}{p q:PV}(hg:get tm t=some p)(hq:∀v,VR (ctx G β w Z) p v->VR (ctx G β w Z) q v) :
 ∀i r,get (put tm t q) i=some r->∃p,get tm i=some p/\∀v,VR (ctx G β w Z) p v->VR (ctx G β w Z) r v:=λi r hr=>by
 by_cases hi:t=i
 .subst hi;rw[fh]at hr;cases hr;exact⟨p,hg,hq⟩
 rw[fu _ _ hi]at hr;exact⟨r,hr,λ_ h=>h⟩
def DZ{G:Frm}{β:Nat->Option Nat}{w:World}{Z:List (Nat×Blk)}{b j:Nat}{cs:List PV}{p q:PV}(hg:get Z b=some (.box cs))(hj:cs[j]?=some p)(h1:cs.all PV.one=true)(h2:q.one=true)(hq:∀v,VR (ctx G β w Z) p v->VR (ctx G β w Z) q v) :
 ∀l o',get (put Z b (.box (cs.set j q))) l=some o'->∃o,get Z l=some o/\(o'=o\/∃cs cs',o = .box cs/\o' = .box cs'/\cs'.length=cs.length/\cs'.all PV.one=true/\∀vs,VRs (ctx G β w Z) cs vs->VRs (ctx G β w Z) cs' vs):=λl o' ho=>by
 by_cases hi:b=l
 .subst hi;rw[fh]at ho;cases ho;exact⟨_,hg,.inr ⟨cs,_,rfl,rfl,by simp,DX h2 h1,λvs hv=>VRs.set hj hq hv⟩⟩
 rw[fu _ _ hi]at ho;exact⟨o',ho,.inl rfl⟩
def f1(l m:Nat)(j:Nat):Nat:=bif Nat.beq j l then m else j
def ou(f:Nat->Nat):List (Nat×PV)->List (Nat×PV)
 |[]=>[]
 |(i,p)::r=>(i,p.ren f)::ou f r
def D0(f:Nat->Nat):∀tm:List (Nat×PV),ou f tm=tm.map λx=>(x.1,x.2.ren f)
 |[]=>rfl
 |(i,p)::r=>by simp only[ou,cu,D0 f r]
def Wk.relab{st:St}{l m:Nat}(hm:1000<=m)(hf:hH m st.tm st.Z=true):Wk st ⟨st.n,ou (f1 l m) st.tm,bM (f1 l m) st.Z⟩:=by rintro G a w ⟨β,h⟩;obtain⟨g1,g2⟩:=ot hf;rw[D0];exact O8 (n:=st.n) (tm:=st.tm) (Z:=st.Z) h l m hm g1 g2
def Wk.slot{st:St}{t:Nat}{p q:PV}(hg:get st.tm t=some p)(hq:∀c v,VR c p v->VR c q v):Wk st ⟨st.n,put st.tm t q,st.Z⟩:=λ_ _ _ ⟨β,h⟩=>⟨β,r8 (n:=st.n) (tm:=st.tm) (Z:=st.Z) h (λ_ o ho=>⟨o,ho,.inl rfl⟩) (DY hg (hq _))⟩
def D1{G:Frm}{st:St}{β:Nat->Option Nat}{a:Act}{w:World}(h:aF G β st a w){b:Nat}{cs:List PV}(hg:get st.Z b=some (.box cs)):cs.all PV.one=true:=by obtain⟨_,_,_,_,_,_,h⟩:=h.blk b _ hg;exact h
def Wk.cell{st:St}{b j:Nat}{cs:List PV}{p q:PV}(hg:get st.Z b=some (.box cs))(hj:cs[j]?=some p)(h2:q.one=true)(hq:∀c v,VR c p v->VR c q v):Wk st ⟨st.n,st.tm,put st.Z b (.box (cs.set j q))⟩:=λ_ _ _ ⟨β,h⟩=>⟨β,r8 (n:=st.n) (tm:=st.tm) (Z:=st.Z) h (DZ hg hj (D1 h hg) h2 (hq _)) (λ_ q hq=>⟨q,hq,λ_ h=>h⟩)⟩
def Wk.ownc{st:St}{t j l k:Nat}{cs:List PV}(hg:get st.tm t=some (.agg cs))(hj:cs[j]?=some .nils)(hk:0<k)(hl:1000<=l)(hf:hH l st.tm st.Z=true):Wk st ⟨st.n,put st.tm t (.agg (cs.set j (.osl l 0))),(l,.row k [])::st.Z⟩:=by rintro G a w ⟨β,h⟩;obtain⟨g1,g2⟩:=ot hf;have h':=sb (n:=st.n) (tm:=st.tm) (Z:=st.Z) h l k hk hl g1 g2;refine⟨eX β l,r8 h' (λ_ o ho=>⟨o,ho,.inl rfl⟩) (DY hg λv hv=>?_)⟩;simp only[VR]at hv⊢;obtain⟨vs,hv,hs⟩:=hv;exact⟨vs,hv,VRs.set hj (VR.nilOwn (l:=l) (k:=k) fY (by simp[ctx,eX])) hs⟩
def Wk.ownb{st:St}{b j l k:Nat}{cs:List PV}(hg:get st.Z b=some (.box cs))(hj:cs[j]?=some .nils)(hk:0<k)(hl:1000<=l)(hf:hH l st.tm st.Z=true):Wk st ⟨st.n,st.tm,put ((l,.row k [])::st.Z) b (.box (cs.set j (.osl l 0)))⟩:=by rintro G a w ⟨β,h⟩;obtain⟨g1,g2⟩:=ot hf;have h':=sb (n:=st.n) (tm:=st.tm) (Z:=st.Z) h l k hk hl g1 g2;have hbl:b≠l:=(g2 b _ hg).1;exact⟨eX β l,r8 h' (DZ (by simp only[PW.get,dJ (cW hbl),aB];exact hg) hj (D1 h hg) rfl (VR.nilOwn (l:=l) (k:=k) fY (by simp[ctx,eX]))) (λ_ q hq=>⟨q,hq,λ_ h=>h⟩)⟩
def b9:List Orc->St->Es
 |.frz l::xs,st=>
  match get st.Z l with
  |some (.row _ es)=>
   match b9 xs ⟨st.n,(jo false l es st.tm).2,(en false l es st.Z).2⟩ with
   |some (ps,xs',st')=>some ((jo false l es st.tm).1++((en false l es st.Z).1++ps),xs',st')
   |none=>none
  |some (.mat _ _ es)=>
   match b9 xs ⟨st.n,(jo true l es st.tm).2,(en true l es st.Z).2⟩ with
   |some (ps,xs',st')=>some ((jo true l es st.tm).1++((en true l es st.Z).1++ps),xs',st')
   |none=>none
  |some (.box cs)=>match iz cs with|some ts=>b9 xs ⟨st.n,r6 l ts st.tm,Z8r l ts st.Z⟩|none=>none
  |_=>none
 |.relen l::xs,st=>
  match get st.Z l with
  |some (.row _ es)=>
   match b9 xs ⟨st.n,(dp l es.length st.tm).2,(dZ l es.length st.Z).2⟩ with
   |some (ps,xs',st')=>some ((dp l es.length st.tm).1++((dZ l es.length st.Z).1++ps),xs',st')
   |none=>none
  |some (.mat _ _ es)=>
   match b9 xs ⟨st.n,(dp l es.length st.tm).2,(dZ l es.length st.Z).2⟩ with
   |some (ps,xs',st')=>some ((dp l es.length st.tm).1++((dZ l es.length st.Z).1++ps),xs',st')
   |none=>none
  |_=>none
 |.opn l i e::xs,st=>
  match get st.Z l with
  |some (.row k es)=>
   bif Nat.ble 1000 l then
    match jq (opnV l i) st.tm,Z8p l (.prow k i es (e.map .t)) (opnV l i) st.Z with
    |some (q1,tm),some (q2,Z)=>
     match b9 xs ⟨st.n,tm,Z⟩ with
     |some (ps,xs',st')=>some ((es[i]?=some e)::(q1++(q2++ps)),xs',st')
     |none=>none
    |_,_=>none
   else none
  |_=>none
 |.cls l es'::xs,st=>
  match get st.Z l with
  |some (.prow k i es cs)=>
   match iz cs with
   |some ts=>
    bif Nat.ble 1000 l then
     match jq (clsV l i es.length) st.tm,Z8p l (.row k es') (clsV l i es.length) st.Z with
     |some (q1,tm),some (q2,Z)=>
      match b9 xs ⟨st.n,tm,Z⟩ with
      |some (ps,xs',st')=>some ((es.set i ts=es')::(q1++(q2++ps)),xs',st')
      |none=>none
     |_,_=>none
    else none
   |none=>none
  |_=>none
 |.tomr l k::xs,st=>
  match get st.Z l with
  |some (.map (.v _) [])=>bif Nat.blt 0 k then b9 xs ⟨st.n,st.tm,(l,.map (.rows k none) [])::bf [l] st.Z⟩ else none
  |_=>none
 |.frzm l::xs,st=>
  match get st.Z l with
  |some (.map (.rows _ none) es)=>b9 xs ⟨st.n,st.tm,(l,.map (.v false) es)::bf [l] st.Z⟩
  |_=>none
 |.tomat l::xs,st=>
  match get st.Z l with
  |some (.row 1 es)=>
   bif (st.Z.all λq => !q.2.has l)&&jr st.tm then
    match b9 xs ⟨st.n,toM l st.tm,put st.Z l (.mat 1 0 es)⟩ with
    |some (ps,xs',st')=>some ((∀e,e∈es->e=[U.sl []])::ps,xs',st')
    |none=>none
   else none
  |_=>none
 |.pick ks ls::xs,st=>
  match ft st.tm ks,ft st.Z ls with
  |some tm,some Z=>b9 xs ⟨st.n,tm,Z⟩
  |_,_=>none
 |.own t l k::xs,st=>
  match get st.tm t with
  |some .nils=>bif Nat.blt 0 k&&Nat.ble 1000 l&&hH l st.tm st.Z&&Nat.blt t st.n then b9 xs ⟨st.n,put st.tm t (.osl l 0),(l,.row k [])::st.Z⟩ else none
  |_=>none
 |.relab l m::xs,st=>bif Nat.ble 1000 m&&hH m st.tm st.Z then b9 xs ⟨st.n,ou (f1 l m) st.tm,bM (f1 l m) st.Z⟩ else none
 |.nilt t::xs,st=>match get st.tm t with|some .nils=>b9 xs ⟨st.n,put st.tm t (.t (.sl [])),st.Z⟩|_=>none
 |.niltc t j::xs,st=>
  match get st.tm t with
  |some (.agg cs)=>match cs[j]? with|some .nils=>b9 xs ⟨st.n,put st.tm t (.agg (cs.set j (.t (.sl [])))),st.Z⟩|_=>none
  |_=>none
 |.niltb b j::xs,st=>
  match get st.Z b with
  |some (.box cs)=>match cs[j]? with|some .nils=>b9 xs ⟨st.n,st.tm,put st.Z b (.box (cs.set j (.t (.sl []))))⟩|_=>none
  |_=>none
 |.ownc t j l k::xs,st=>
  match get st.tm t with
  |some (.agg cs)=>match cs[j]? with|some .nils=>bif Nat.blt 0 k&&Nat.ble 1000 l&&hH l st.tm st.Z then b9 xs ⟨st.n,put st.tm t (.agg (cs.set j (.osl l 0))),(l,.row k [])::st.Z⟩ else none|_=>none
  |_=>none
 |.ownb b j l k::xs,st=>
  match get st.Z b with
  |some (.box cs)=>match cs[j]? with|some .nils=>bif Nat.blt 0 k&&Nat.ble 1000 l&&hH l st.tm st.Z then b9 xs ⟨st.n,st.tm,put ((l,.row k [])::st.Z) b (.box (cs.set j (.osl l 0)))⟩ else none|_=>none
  |_=>none
 |xs,st=>some ([],xs,st)
def Wk.pick{st:St}{tm:List (Nat×PV)}{Z:List (Nat×Blk)}{ks ls:List Nat}(h1:ft st.tm ks=some tm)(h2:ft st.Z ls=some Z):Wk st ⟨st.n,tm,Z⟩:=λ_ _ _ ⟨β,h⟩=>⟨β,h.sub (bh _) (λi p hp=>⟨iJ h1 i p hp,(h.tm i p (iJ h1 i p hp)).1⟩) (λl o ho=>iJ h2 l o ho)⟩
def Wk.own{st:St}{t l k:Nat}(hg:get st.tm t=some .nils)(hk:0<k)(hl:1000<=l)(hf:hH l st.tm st.Z=true):Wk st ⟨st.n,put st.tm t (.osl l 0),(l,.row k [])::st.Z⟩:=by
 rintro G a w ⟨β,h⟩;obtain⟨f1,f2⟩:=ot hf;have h':=sb (n:=st.n) (tm:=st.tm) (Z:=st.Z) h l k hk hl f1 f2;refine⟨eX β l,?_⟩;have hv:=(h.tm t _ hg);simp only[VR]at hv;obtain⟨hlt,a0,hv⟩:=hv
 exact { defers:=h'.defers,sz:=h'.sz,base:=h'.base,os:=h'.os,tape:=h'.tape,output:=h'.output,old:=h'.old,A:=h'.A,gl:=h'.gl,inj:=h'.inj,sep:=h'.sep,fix:=h'.fix,row0:=h'.row0,blk:=h'.blk,
         tm:=λi p hp=>by
          by_cases hi:t=i
          .subst hi;rw[fh]at hp;cases hp;refine⟨hlt,?_⟩;simp only[VR];refine⟨λk' es' hes'=>?_,a0,0,0,hv⟩;have hgs:get ((l,Blk.row k [])::st.Z) l=some (.row k []):=by simp[PW.get]
           have:some (Blk.row k' es')=some (.row k []):=bD (bE hes') hgs;cases this;exact⟨bh _,λ_=>⟨a0,0,hv,bh _,by simp[maxLen],.inl ⟨rfl,by simp[ctx,eX]⟩⟩⟩
          rw[fu _ _ hi]at hp;exact h'.tm i p hp }
def ea:∀(xs:List Orc) (st:St) {ps:List Prop} {xs':List Orc} {st':St},b9 xs st=some (ps,xs',st')->aI ps->Wk st st'
 |[],st,ps,xs',st',h,_=>by simp only[b9,ao,bp]at h;rw[h.2.2];exact Wk.refl _
 |x::xs,st,ps,xs',st',h,hc=>by
  cases x
  case frz l=>
   simp only[b9]at h;split at h
   .rename_i k es hg;split at h
    .rename_i ps' xs2 st2 h2;cases h;obtain⟨h3,h4⟩:=bA.1 hc;obtain⟨h4,h5⟩:=bA.1 h4;have h0:=oo (mt:=false) (l:=l) (es:=es) st.Z;exact(Wk.frz (jW (mt:=false) (q0:=0) hg h0 st.Z h4) (wg (mt:=false) (q0:=0) hg h0 st.tm h3)).trans (ea xs _ h2 h5)
    cases h
   .rename_i k q0 es hg;split at h
    .rename_i ps' xs2 st2 h2;cases h;obtain⟨h3,h4⟩:=bA.1 hc;obtain⟨h4,h5⟩:=bA.1 h4;have h0:=oo (mt:=true) (l:=l) (es:=es) st.Z;exact(Wk.frz (jW (mt:=true) (k:=k) hg h0 st.Z h4) (wg (mt:=true) (k:=k) hg h0 st.tm h3)).trans (ea xs _ h2 h5)
    cases h
   .rename_i cs hg;split at h
    .rename_i ts hts;have e:=mf hts;subst e;have h0:=Z3e (l:=l) (ts:=ts) st.Z;exact(Wk.frz (wi hg h0 st.Z) (DW hg h0 st.tm)).trans (ea xs _ h hc)
    cases h
   cases h
  case relen l=>
   simp only[b9]at h;split at h
   .rename_i k es hg;split at h
    .rename_i ps' xs2 st2 h2;cases h;obtain⟨h3,h4⟩:=bA.1 hc;obtain⟨h4,h5⟩:=bA.1 h4;have:=ea xs _ h2 h5;rw[iK _ h3,k7 _ h4]at this;exact this
    cases h
   .rename_i k q0 es hg;split at h
    .rename_i ps' xs2 st2 h2;cases h;obtain⟨h3,h4⟩:=bA.1 hc;obtain⟨h4,h5⟩:=bA.1 h4;have:=ea xs _ h2 h5;rw[iK _ h3,k7 _ h4]at this;exact this
    cases h
   cases h
  case opn l i e=>
   simp only[b9]at h;split at h
   .rename_i k es hg;have hbh:=bF h;clear h;obtain⟨hb,h⟩:=hbh;split at h
    .rename_i q1 tm q2 Z h1 h2;split at h
     .rename_i ps' xs2 st2 h3;cases h;obtain⟨c1,c2⟩:=hc;obtain⟨c2,c3⟩:=bA.1 c2;obtain⟨c3,c4⟩:=bA.1 c3;exact(Wk.opn (Nat.le_of_ble_eq_true hb) hg c1 h1 h2 c2 c3).trans (ea xs _ h3 c4)
     cases h
    cases h
   cases h
  case cls l es'=>
   simp only[b9]at h;split at h
   .rename_i k i es cs hg;split at h
    .rename_i ts ht;have hbh:=bF h;clear h;obtain⟨hb,h⟩:=hbh;split at h
     .rename_i q1 tm q2 Z h1 h2;split at h
      .rename_i ps' xs2 st2 h3;cases h;obtain⟨c1,c2⟩:=hc;obtain⟨c2,c3⟩:=bA.1 c2;obtain⟨c3,c4⟩:=bA.1 c3;exact(Wk.cls (Nat.le_of_ble_eq_true hb) hg ht c1 h1 h2 c2 c3).trans (ea xs _ h3 c4)
      cases h
     cases h
    cases h
   cases h
  case tomr l k=>
   simp only[b9]at h;split at h
   .rename_i hg;obtain⟨hb,h⟩:=bF h;rw[fQ]at hb;exact(Wk.tomr hb ⟨_,rfl⟩ hg).trans (ea xs _ h hc)
   cases h
  case frzm l=>
   simp only[b9]at h;split at h
   .rename_i hg;exact(Wk.frzm hg).trans (ea xs _ h hc)
   cases h
  case tomat l=>
   simp only[b9]at h;split at h
   .rename_i es hg;have hbh:=bF h;clear h;obtain⟨hb,h⟩:=hbh;simp only[aM]at hb;split at h
    .rename_i ps' xs2 st2 h2;cases h;exact(Wk.tomat hg hc.1 hb.1 hb.2).trans (ea xs _ h2 hc.2)
    cases h
   cases h
  case pick ks ls=>
   simp only[b9]at h;split at h
   .rename_i tm Z h1 h2;exact(Wk.pick h1 h2).trans (ea xs _ h hc)
   cases h
  case own t l k=>
   simp only[b9]at h;split at h
   .rename_i hg;obtain⟨hb,h⟩:=bF h;simp only[aM,fQ,dP]at hb;exact(Wk.own hg hb.1.1.1 hb.1.1.2 hb.1.2).trans (ea xs _ h hc)
   cases h
  case relab l m=>
   simp only[b9]at h;obtain⟨hb,h⟩:=bF h;simp only[aM,dP]at hb;exact(Wk.relab hb.1 hb.2).trans (ea xs _ h hc)
  case nilt t=>
   simp only[b9]at h;split at h
   .rename_i hg;exact(Wk.slot hg λ_ v hv=>VR.nilt v hv).trans (ea xs _ h hc)
   cases h
  case niltc t j=>
   simp only[b9]at h;split at h
   .rename_i cs hg;split at h
    .rename_i hj;refine(Wk.slot hg λc v hv=>?_).trans (ea xs _ h hc);simp only[VR]at hv⊢;obtain⟨vs,hv,hs⟩:=hv;exact⟨vs,hv,VRs.set hj VR.nilt hs⟩
    cases h
   cases h
  case niltb b j=>
   simp only[b9]at h;split at h
   .rename_i cs hg;split at h
    .rename_i hj;exact(Wk.cell hg hj rfl λ_ v hv=>VR.nilt v hv).trans (ea xs _ h hc)
    cases h
   cases h
  case ownc t j l k=>
   simp only[b9]at h;split at h
   .rename_i cs hg;split at h
    .rename_i hj;obtain⟨hb,h⟩:=bF h;simp only[aM,fQ,dP]at hb;exact(Wk.ownc hg hj hb.1.1 hb.1.2 hb.2).trans (ea xs _ h hc)
    cases h
   cases h
  case ownb b j l k=>
   simp only[b9]at h;split at h
   .rename_i cs hg;split at h
    .rename_i hj;obtain⟨hb,h⟩:=bF h;simp only[aM,fQ,dP]at hb;exact(Wk.ownb hg hj hb.1.1 hb.1.2 hb.2).trans (ea xs _ h hc)
    cases h
   cases h
  all_goals
   simp only[b9,ao,bp]at h;rw[h.2.2];exact Wk.refl _
def wj:Es->Es
 |some (ps,.stop::xs,st)=>some (ps,xs,st)
 |r=>r
def O9{r:Es}{ps:List Prop}{xs:List Orc}{st:St}(h:wj r=some (ps,xs,st)):∃xs',r=some (ps,xs',st):=by
 unfold wj at h;split at h
 .cases h;exact⟨_,rfl⟩
 exact⟨_,h⟩
def evAt(d:Option Nat)(xs:List Orc)(st:St):Es:=
 match xs,d with
 |.ahead i::xs',some j=>bif Nat.beq i j then wj (b9 xs' st)else some ([],xs,st)
 |_,_=>some ([],xs,st)
def D2{d:Option Nat}{xs:List Orc}{st:St}{ps:List Prop}{xs':List Orc}{st':St}(h:evAt d xs st=some (ps,xs',st'))(hc:aI ps):Wk st st':=by
 have triv:∀ys:List Orc,(some ([],ys,st):Es)=some (ps,xs',st')->Wk st st':=λys h=>by cases h;exact Wk.refl _
 unfold evAt at h;split at h
 .rename_i i xs2 j;cases hb:Nat.beq i j with
  |true=>
   simp only[hb,aD]at h;obtain⟨ys,h⟩:=O9 h;exact ea _ _ h hc
  |false=>simp only[hb,aB]at h;exact triv _ h
 exact triv _ h
def wk(T:TS)(o:Oper)(st:St)(xs:List Orc):Es:=
 match o.op with
 |.store t x y=>
  match o.dst,get T t,af st.tm x,af st.tm y with
  |none,some i,some (.bptr l q),some p=>
   match get st.Z l,xs with
   |some (.box cs),.sp cs'::xs=>bif Nat.beq (Z3 p).length i.size&&(Z3 p).all PV.one then some ([q+i.size<=cs.length,splice cs q (Z3 p)=cs'],xs,⟨st.n,st.tm,put st.Z l (.box cs')⟩)else none
   |some (.box cs),xs=>bif Nat.beq (Z3 p).length i.size&&(Z3 p).all PV.one&&Nat.ble (q+i.size) cs.length then some ([],xs,⟨st.n,st.tm,put st.Z l (.box (splice cs q (Z3 p)))⟩)else none
   |_,_=>none
  |none,some i,some (.rptr l m j q),some p=>
   match get st.Z l,xs,ck (Z3 p)with
   |some (.row k es),.cs e :: .es es'::xs,some ts=>bif Nat.beq ts.length i.size&&Nat.ble (q+i.size) k then some ([es.length=m,es[j]?=some e,es.set j (splice e q ts)=es'],xs,⟨st.n,st.tm,put st.Z l (.row k es')⟩)else none
   |_,_,_=>none
  |_,_,_,_=>none
 |.convert s t x=>
  match dm T t,af st.tm x,o.dst with
  |some (_,⟨_,_,_,_,.int .u8,_⟩),some (.osl l m),some d=>
   match get st.Z l with
   |some (.row _ es)=>bif Nat.beq s t&&Nat.blt d st.n then some ([False],xs,⟨st.n,put st.tm d (.osl l m),st.Z⟩)else none
   |_=>none
  |_,_,_=>none
 |_=>none
def wm(T:TS)(o:Oper)(st:St)(xs:List Orc):Es:=
 match o.op with
 |.call c=>
  match c.callee,eY st.tm c.args.toList,c.argTypes.toList,o.dst,xs with
  |.builtin .clear,some [.own l (.tail m i)],[t],none,.es es'::xs=>
   match dm T t,get st.Z l with
   |some (_,⟨_,k,bytes,some z,_,_⟩),some (.row k' es)=>
    match ck z with
    |some zs=>bif Nat.blt 0 k&&Nat.beq z.length k&&Nat.beq k k' then some ([es.length=m,i<=m,es.take i++List.replicate (m-i) zs=es'],xs,⟨st.n,st.tm,put st.Z l (.row k es')⟩)else none
    |none=>none
   |_,_=>none
  |_,_,_,_,_=>none
 |.slice t x none (some y) none=>
  match dm T t,af st.tm x,af st.tm y,o.dst,xs with
  |some (_,j),some (.osl l m),some (.t (.int _ i)),some d,.nat q :: .es es'::xs=>
   match get st.Z l with
   |some (.row k es)=>bif Nat.beq j.size k&&Nat.blt d st.n&&(st.Z.all λq => !q.2.has l)&&jr st.tm&&Nat.ble 1000 l then some ([es.length=m,0<=i,i<=m,i.toNat=q,es.take i.toNat=es'],xs,⟨st.n,put (Z8m l st.tm) d (.osl l q),put st.Z l (.row k es')⟩)else none
   |_=>none
  |_,_,_,_,_=>none
 |.store t x y=>
  match o.dst,get T t,af st.tm x,af st.tm y,xs with
  |none,some i,some (.own l (.mel m j q)),some (.t z),.es inner :: .es es'::xs=>
   match get st.Z l with
   |some (.mat 1 0 es)=>bif !i.agg&&Nat.beq i.size 1&&z.scal then some ([es.length=m,es[j]?=some [.sl inner],q<inner.length,es.set j [.sl (inner.set q [z])]=es'],xs,⟨st.n,st.tm,put st.Z l (.mat 1 0 es')⟩)else none
   |_=>none
  |none,some i,some (.own l (.mpt m j 0)),some (.osl l2 n2),.es es'::xs=>
   match get st.Z l,get st.Z l2 with
   |some (.mat 1 0 es),some (.row 1 es2)=>bif (!i.agg&&Nat.beq i.size 1)&&(!Nat.beq l l2&&((st.Z.all λq=>q.2.mo l)&&jr st.tm))then some ([es.length=m,j<m,es2.length=n2,SC1 es2,es.set j [.sl es2]=es'],xs,⟨st.n,Z29 l st.tm,(l,.mat 1 0 es')::bf [l,l2] st.Z⟩)else none
   |_,_=>none
  |_,_,_,_,_=>none
 |.mapUpdate t x y z=>
  match o.dst,(get T t).map (·.k),af st.tm x,af st.tm y,af st.tm z,xs with
  |none,some (TK.map k _),some (.own l .map),some (.t (.int .i64 i)),some p,.cs ts :: .mp es'::xs=>
   match get st.Z l,(get T k).map (·.k)with
   |some (.map (.v ag) es),some (TK.int .i64)=>some ([p=mvP ag ts,cm es i ts=es'],xs,⟨st.n,st.tm,put st.Z l (.map (.v ag) es')⟩)
   |_,_=>none
  |_,_,_,_,_,_=>none
 |_=>none
def evUp(T:TS)(o:Oper)(st:St)(xs:List Orc):Es:=
 match wk T o st xs with
 |some r=>some r
 |none=>wm T o st xs
section
variable {P:Program} {T:TS} {o:Oper} {xs xs':List Orc} {ps:List Prop}
def Pa(hT:TOK P T){st st':St}(h:wk T o st xs=some (ps,xs',st'))(hc:aI ps):gx P o st st':=by
 obtain⟨n,tm,Z⟩:=st;unfold wk at h;split at h
 .rename_i t x y ho;split at h
  .rename_i i l q p hd hi hx hy;split at h
   .rename_i cs cs' xs2 hg;have hbh:=bF h;clear h;obtain⟨hb,h⟩:=hbh;simp only[aM,aW]at hb;cases h;obtain⟨h1,h2,_⟩:=hc;subst h2;exact D3 ho hd (hT _ _ hi).ty hx hy hg hb.1 hb.2 h1
   .rename_i cs hg _;have hbh:=bF h;clear h;obtain⟨hb,h⟩:=hbh;simp only[aM,aW,dP]at hb;cases h;exact D3 ho hd (hT _ _ hi).ty hx hy hg hb.1.1 hb.1.2 hb.2
   cases h
  .rename_i i l m j q p hd hi hx hy;split at h
   .rename_i k es e es' xs2 ts hg hts;have hbh:=bF h;clear h;obtain⟨hb,h⟩:=hbh;simp only[aM,aW,dP]at hb;cases h;obtain⟨h1,h2,h3,_⟩:=hc;subst h3;exact Pb ho hd (hT _ _ hi).ty hx hy hg h1 h2 hts hb.1 hb.2
   cases h
  cases h
 .rename_i s t x ho;split at h
  .rename_i e agg sz by_ z fl l m d he hx hd;split at h
   .rename_i k es hg;have hbh:=bF h;clear h;obtain⟨hb,h⟩:=hbh;simp only[aM,aW,fQ]at hb;obtain⟨rfl,hb2⟩:=hb;cases h;obtain⟨i,hi,hk,hj⟩:=eB he;have hu:=(hT _ _ hi).k;rw[hk]at hu;have hu2:P.underlying e=some (.int .u8):=(hT _ _ hj).k;exact hc.1.elim
   cases h
  cases h
 cases h
def Pc(hT:TOK P T){st st':St}(h:wm T o st xs=some (ps,xs',st'))(hc:aI ps):gx P o st st':=by
 obtain⟨n,tm,Z⟩:=st;unfold wm at h;split at h
 .rename_i c ho;split at h
  .rename_i l m i t es' xs2 hce hps hat hd;obtain⟨x,hax,hx⟩:=Z3d hps;have hceq:=gy hce hax hat;rw[hceq]at ho;split at h
   .rename_i e agg k bytes z kk fl k' es he hg;split at h
    .rename_i zs hzs;have hbh:=bF h;clear h;obtain⟨hb,h⟩:=hbh;simp only[aM,aW]at hb;obtain⟨⟨hb1,hb2⟩,hb3⟩:=hb;subst hb3;cases h;obtain⟨h1,h2,h3,_⟩:=hc;subst h3;exact Pd ho hd (ja (z:=z) hT he rfl hb1 ((aW _ _).2 hb2)) hzs hx hg h1 h2
    cases h
   cases h
  cases h
 .rename_i t x y ho;split at h
  .rename_i e j l m ki i d q es' xs2 he hx hy hd;split at h
   .rename_i k es hg;have hbh:=bF h;clear h;obtain⟨hb,h⟩:=hbh;simp only[aM,aW,fQ]at hb;obtain⟨⟨⟨⟨hb1,hb2⟩,hb3⟩,hb4⟩,hb5⟩:=hb;cases h;obtain⟨h1,h2,h3,h4,h5,_⟩:=hc;subst h4;subst h5;obtain⟨i0,hi0,hk0,hj⟩:=eB he;exact Pe ho hd hb2 (hb1▸hT.slInfo hi0 hk0 hj) hx hy hg h1 h2 h3 (Nat.le_of_ble_eq_true hb5) hb3 hb4
   cases h
  cases h
 .rename_i t x y ho;split at h
  .rename_i i l m j q z inner es' xs2 hd hi hx hy;split at h
   .rename_i es hg;have hbh:=bF h;clear h;obtain⟨hb,h⟩:=hbh;simp only[aM,cY,aW]at hb;cases h;obtain⟨h1,h2,h3,h4,_⟩:=hc;subst h4;have hty:=(hT t i hi).ty;rw[hb.1.1,hb.1.2]at hty;exact Pf ho hd hty hx hy rfl hb.2 hg h1 h2 h3
   cases h
  .rename_i i l m j l2 n2 es' xs2 hd hi hx hy;split at h
   .rename_i es es2 hg hg2;have hbh:=bF h;clear h;obtain⟨hb,h⟩:=hbh;simp only[aM,cY,aW]at hb;cases h;obtain⟨h1,h2,h3,h4,h5,_⟩:=hc;subst h5;have hty:=(hT t i hi).ty;rw[hb.1.1,hb.1.2]at hty;exact Pg ho hd hty hx hy hg h1 h2 hg2 h3 h4 (Z6r (by rw[hb.2.1];rfl)) hb.2.2.1 hb.2.2.2
   cases h
  cases h
 .rename_i t x y z ho;split at h
  .rename_i k e l i p ts es' xs2 hd hk hx hy hz;split at h
   .rename_i ag es hg hi;cases h;obtain⟨h1,h2,_⟩:=hc;subst h2;exact Ph ho hd (mapK (hT:=hT) hk) (intK (hT:=hT) hi) hx hy hz h1 hg
   cases h
  cases h
 cases h
def Pi(hT:TOK P T){st st':St}(h:evUp T o st xs=some (ps,xs',st'))(hc:aI ps):gx P o st st':=by
 unfold evUp at h;split at h
 .rename_i h0;cases h;exact Pa hT h0 hc
 exact Pc hT h hc
def sd(ops:Array Oper)(tm:List (Nat×PV))(o:Oper)(xs:List Orc):Option (List Prop×List Orc×Bool):=
 match o.guard with
 |none=>some ([],xs,true)
 |some (g,want)=>
  match(ops[g]?).bind (·.dst)with
  |none=>none
  |some d=>
   match get tm d,xs with
   |some (.t (.bool e)),.br b::xs=>some ([e=b],xs,b==want)
   |some (.tup []),xs=>some ([],xs,false)
   |_,_=>none
def k9{ops:Array Oper}{tm:List (Nat×PV)}{r:Bool}(h:sd ops tm o xs=some (ps,xs',r))(hc:aI ps):hN ops tm o=some r:=by
 unfold sd at h;unfold hN;split at h
 .rename_i hg;cases h;rw[hg]
 rename_i g want hg;rw[hg];simp only;split at h
 .cases h
 rename_i d hd;simp only[hd];split at h
 .rename_i e b xs2 he;cases h;have:=hc.1;subst this;simp[he]
 .rename_i he;cases h;simp[he]
 cases h
def ov(rm:List Nat)(tm:List (Nat×PV))(Z:List (Nat×Blk)):List (Nat×Blk)->Bool
 |[]=>true
 |(l,_)::r=>(hP rm l||hH l tm Z)&&ov rm tm Z r
def Z0b{rm:List Nat}{tm:List (Nat×PV)}{Z:List (Nat×Blk)}:∀{news:List (Nat×Blk)},ov rm tm Z news=true->∀l x,(l,x)∈news->l∉rm->(∀i q,get tm i=some q->q.has l=false)/\(∀m y,get Z m=some y->m≠l/\y.has l=false)
 |[],_,l,x,hm,_=>by cases hm
 |(m,y)::r,h,l,x,hm,hr=>by
  simp only[ov,aM,gz]at h;rcases cA.1 hm with hm|hm
  .cases hm;rcases h.1 with h1|h1
   .exact absurd (Z8g.1 h1) hr
   exact ot h1
  exact Z0b h.2 l x hm hr
def dstN(o:Oper):Nat:=match o.dst with|some d=>d|none=>1000000
def wo(P:Program)(T:TS)(ops:Array Oper)(o:Oper)(xs:List Orc)(st:St):Es:=
 match evAt (some (dstN o)) xs st with
 |some (ps0,xs0,st0)=>
  match sd ops st0.tm o xs0 with
  |some (ps1,xs1,true)=>
   match se P T o st0.tm st0.Z xs1 with
   |some (ps2,xs2,x)=>
    match o.dst with
    |some d=>bif Nat.blt d st0.n&&ov x.rm st0.tm st0.Z x.s.news then some (ps0++(ps1++ps2),xs2,⟨st0.n,put st0.tm d x.s.p,x.s.news++bf x.rm st0.Z⟩)else none
    |none=>bif ov x.rm st0.tm st0.Z x.s.news then some (ps0++(ps1++ps2),xs2,⟨st0.n,st0.tm,x.s.news++bf x.rm st0.Z⟩)else none
   |none=>
    match evUp T o st0 xs1 with
    |some (ps2,xs2,st2)=>some (ps0++(ps1++ps2),xs2,st2)
    |none=>none
  |some (ps1,xs1,false)=>
   match o.dst with
   |some d=>bif Nat.blt d st0.n then some (ps0++ps1,xs1,⟨st0.n,put st0.tm d (.tup []),st0.Z⟩)else none
   |none=>some (ps0++ps1,xs1,st0)
  |none=>none
 |none=>none
def Pj(hT:TOK P T){ops:Array Oper}{R:St->Prop}{l:List Oper}{st st':St}(h:wo P T ops o xs st=some (ps,xs',st'))(hc:aI ps)(hk:cy P ops R l st'):cy P ops R (o::l) st:=by
 unfold wo at h;split at h
 .rename_i ps0 xs0 st0 h0;suffices hs:aI ps0/\cy P ops R (o::l) st0 from cy.weaken (D2 h0 hs.1) hs.2
  split at h
  .rename_i ps1 xs1 h1;split at h
   .rename_i ps2 xs2 s h2;split at h
    .rename_i d hd;have hbh:=bF h;clear h;obtain⟨hb,h⟩:=hbh;simp only[aM,fQ]at hb;cases h;obtain⟨c0,c1⟩:=bA.1 hc;obtain⟨c1,c2⟩:=bA.1 c1;refine⟨c0,cy.step (k9 h1 c1) ?_ hk⟩;intro G a w K Q hr hK;refine wq hT h2 c2 G st0.n st0.tm st0.Z a w K Q (λ_ _ _ h=>h) (λ_ _=>rfl) (Z0b hb.2) hr ?_;rintro v w' ⟨β,hβ,hv⟩;exact hK _ _ ⟨β,by rw[hd];exact hβ.put hb.1 hv⟩
    rename_i hd;have hbh:=bF h;clear h;obtain⟨hb,h⟩:=hbh;cases h;obtain⟨c0,c1⟩:=bA.1 hc;obtain⟨c1,c2⟩:=bA.1 c1;refine⟨c0,cy.step (k9 h1 c1) ?_ hk⟩;intro G a w K Q hr hK;refine wq hT h2 c2 G st0.n st0.tm st0.Z a w K Q (λ_ _ _ h=>h) (λ_ _=>rfl) (Z0b hb) hr ?_;rintro v w' ⟨β,hβ,hv⟩;exact hK _ _ ⟨β,by rw[hd];exact hβ⟩
   split at h
   .rename_i ps2 xs2 st2 h2;cases h;obtain⟨c0,c1⟩:=bA.1 hc;obtain⟨c1,c2⟩:=bA.1 c1;exact⟨c0,cy.step (k9 h1 c1) (Pi hT h2 c2) hk⟩
   cases h
  .rename_i ps1 xs1 h1;split at h
   .rename_i d hd;have hbh:=bF h;clear h;obtain⟨hb,h⟩:=hbh;simp only[fQ]at hb;cases h;obtain⟨c0,c1⟩:=bA.1 hc;exact⟨c0,cy.skip hd hb (k9 h1 c1) hk⟩
   rename_i hd;cases h;obtain⟨c0,c1⟩:=bA.1 hc;exact⟨c0,cy.skipNone hd (k9 h1 c1) hk⟩
  cases h
 cases h
def gU(P:Program)(T:TS)(ops:Array Oper):List Oper->List Orc->St->Es
 |[],xs,st=>some ([],xs,st)
 |o::l,xs,st=>
  match wo P T ops o xs st with
  |some (ps,xs1,st1)=>
   match gU P T ops l xs1 st1 with
   |some (qs,xs2,st2)=>some (ps++qs,xs2,st2)
   |none=>none
  |none=>none
def Z8s(hT:TOK P T){ops:Array Oper}{R:St->Prop}:∀(l:List Oper) {xs xs':List Orc} {st st':St} {ps:List Prop},gU P T ops l xs st=some (ps,xs',st')->aI ps->R st'->cy P ops R l st
 |[],xs,xs',st,st',ps,h,_,hr=>by simp only[gU,ao,bp]at h;rw[<- h.2.2]at hr;exact cy.nil hr
 |o::l,xs,xs',st,st',ps,h,hc,hr=>by
  simp only[gU]at h;split at h
  .rename_i ps1 xs1 st1 h1;split at h
   .rename_i qs xs2 st2 h2;cases h;obtain⟨c1,c2⟩:=bA.1 hc;exact Pj hT h1 c1 (Z8s hT l h2 c2 hr)
   cases h
  cases h
structure wt where
 ps:List Prop
 xs:List Orc
 plan:List (Option Stm)
 rest:List Oper
 tm:List (Nat×PV)
 Z:List (Nat×Blk)
def sf(n:Nat):Option Nat->Bool
 |some d=>Nat.blt d n
 |none=>true
def Pk{n:Nat}{d:Option Nat}(h:sf n d=true):∀e,d=some e->e<n:=by rintro e rfl;simpa only[sf,fQ]using h
def hQ(P:Program)(T:TS)(ops:Array Oper)(n:Nat):List Oper->List Orc->List (Nat×PV)->List (Nat×Blk)->wt
 |[],xs,tm,Z=>⟨[],xs,[],[],tm,Z⟩
 |o::l,xs,tm,Z=>
  bif sf n o.dst then
   match sd ops tm o xs with
   |some (ps1,xs1,true)=>
    match se P T o tm Z xs1 with
    |some (ps2,xs2,x)=>
     match hQ P T ops n l xs2 (gA tm o.dst x.s.p) (x.s.news++bf x.rm Z)with
     |⟨ps,xs,plan,rest,tm,Z⟩=>⟨ps1++(ps2++ps),xs,some x::plan,rest,tm,Z⟩
    |none=>⟨[],xs,[],o::l,tm,Z⟩
   |some (ps1,xs1,false)=>
    match hQ P T ops n l xs1 (gA tm o.dst (.tup [])) Z with
    |⟨ps,xs,plan,rest,tm,Z⟩=>⟨ps1++ps,xs,none::plan,rest,tm,Z⟩
   |none=>⟨[],xs,[],o::l,tm,Z⟩
  else⟨[],xs,[],o::l,tm,Z⟩
def wu(hT:TOK P T){ops:Array Oper}{n:Nat}:∀(l:List Oper) (xs:List Orc) (tm:List (Nat×PV)) (Z:List (Nat×Blk)),aI (hQ P T ops n l xs tm Z).ps ->
 ∃pre,l=pre++(hQ P T ops n l xs tm Z).rest/\dQ P ops n pre (hQ P T ops n l xs tm Z).plan tm Z /\
  eF pre (hQ P T ops n l xs tm Z).plan tm=(hQ P T ops n l xs tm Z).tm/\fv (hQ P T ops n l xs tm Z).plan Z=(hQ P T ops n l xs tm Z).Z
 |[],xs,tm,Z,_=>⟨[],rfl,aa,rfl,rfl⟩
 |o::l,xs,tm,Z,hc=>by
  have triv:∀r:wt,r=⟨[],xs,[],o::l,tm,Z⟩->∃pre,o::l=pre++r.rest/\dQ P ops n pre r.plan tm Z/\eF pre r.plan tm=r.tm/\fv r.plan Z=r.Z:=by rintro r rfl;exact⟨[],rfl,aa,rfl,rfl⟩
  rw[hQ]at hc⊢;cases hd:sf n o.dst with
  |false=>exact triv _ rfl
  |true=>
   have hdn:=Pk hd;simp only[hd,aD]at hc⊢;split at hc
   .rename_i ps1 xs1 hg;split at hc
    .rename_i ps2 xs2 s h2;obtain⟨c1,c2⟩:=bA.1 hc;obtain⟨c2,c3⟩:=bA.1 c2;obtain⟨pre,h1,h3,h4,h5⟩:=wu hT l xs2 (gA tm o.dst s.s.p) (s.s.news++bf s.rm Z) c3;refine⟨o::pre,by rw[eP,<- h1],?_,?_,?_⟩
     .simp only[dQ];exact⟨hdn,k9 hg c1,λs' hs'=>by cases hs';exact wq hT h2 c2,h3⟩
     .simp only[eF];exact h4
     simp only[fv];exact h5
    exact triv _ rfl
   .rename_i ps1 xs1 hg;obtain⟨c1,c3⟩:=bA.1 hc;obtain⟨pre,h1,h3,h4,h5⟩:=wu hT l xs1 (gA tm o.dst (.tup [])) Z c3;refine⟨o::pre,by rw[eP,<- h1],?_,?_,?_⟩
    .simp only[dQ];exact⟨hdn,k9 hg c1,(λs' hs'=>by cases hs'),h3⟩
    .simp only[eF];exact h4
    simp only[fv];exact h5
   exact triv _ rfl
def D4(P:Program)(T:TS)(ops:Array Oper)(st:St)(r:wt):Es:=
 bif jY ops r.plan st.tm st.Z then
  match gU P T ops r.rest r.xs ⟨st.n,r.tm,r.Z⟩ with
  |some (qs,xs2,st2)=>some (r.ps++qs,xs2,st2)
  |none=>none
 else none
def wv(P:Program)(T:TS)(id:Nat)(ops:Array Oper)(draw:Bool)(xs:List Orc)(st:St):Es:=
 bif draw then
  match evAt (some id) xs st with
  |some (ps0,xs0,st0)=>
   match D4 P T ops st0 (hQ P T ops st0.n ops.toList xs0 st0.tm st0.Z)with
   |some (ps,xs,st)=>some (ps0++ps,xs,st)
   |none=>none
  |none=>none
 else gU P T ops ops.toList xs st
def Pl(hm:P.follows .mixedOrders=true)(hT:TOK P T){ops:Array Oper}{draw:Bool}{id:Nat}{Q:Exit->St->Prop}{st st':St}(h:wv P T id ops draw xs st=some (ps,xs',st'))(hc:aI ps)(hq:Q .normal st') :
 PW P (.region id ops draw) Q st:=by
 unfold wv at h;cases draw with
 |false=>
  simp only[aB]at h;exact PW.region (Z8s hT _ h hc hq)
 |true=>
  simp only[aD]at h;split at h
  .rename_i ps0 xs0 st0 h0;split at h
   .rename_i ps1 xs1 st1 h1;cases h;obtain⟨c0,c1⟩:=bA.1 hc;refine PW.weaken (D2 h0 c0) ?_;unfold D4 at h1;have hbh:=bF h1;clear h1;obtain⟨hb,h1⟩:=hbh;split at h1
    .rename_i qs xs2 st2 h2;cases h1;obtain⟨c1,c2⟩:=bA.1 c1;obtain⟨pre,e1,e2,e3,e4⟩:=wu hT ops.toList xs0 st0.tm st0.Z c1;exact PW.region_draw hm _ pre _ e1 e2 hb (by rw[e3,e4];exact Z8s hT _ h2 c2 hq)
    cases h1
   cases h
  cases h
end
end Go.PW
namespace Go.PW
open Go.RowKit
inductive Kf where
 |seq (c:Code)
 |blk (id:Nat)
 |loop (c:Code)
 |scp
inductive Cfg where
 |code (c:Code) (K:List Kf)
 |head (c:Code) (K:List Kf)
 |done (e:Exit)
def PWL(P:Program)(c:Code)(Q:Exit->St->Prop)(st:St):Prop:=∀G a w,Rel G st a w->∀b k cs,∃e a' w',(∃st',Q e st'/\Rel G st' a' w')/\Arrives P (lone (b.at a (.code c :: .inLoop c::k)) cs w) b k cs e a' w'
def PW.loopHead{P:Program}{c:Code}{Q:Exit->St->Prop}{st:St}(h:PWL P c Q st):PW P (.loop c) Q st:=by intro G a w hr b k cs;obtain⟨e,a',w',hq,harr⟩:=h G a w hr b k cs;exact⟨e,a',w',hq,.of_steps (.one step_loop) harr⟩
def PWL.round{P:Program}{c:Code}{Q:Exit->St->Prop}{st:St}(h:PW P c (jF (PWL P c Q) Q) st):PWL P c Q st:=by
 intro G a w hr b k cs;obtain⟨e,a₁,w₁,⟨st',hq,hr'⟩,harr⟩:=h G a w hr b (.inLoop c::k) cs;cases e with
 |normal=>
  obtain⟨e₂,a₂,w₂,hq₂,harr₂⟩:=hq G a₁ w₁ hr' b k cs;exact⟨e₂,a₂,w₂,hq₂,.of_steps (Steps.trans harr (.one step_inLoop)) harr₂⟩
 |exit id=>exact⟨_,a₁,w₁,⟨st',hq,hr'⟩,.pass (x :=.inLoop c) rfl (λ_ _ =>.inl aj) harr⟩
 |goto l=>exact⟨_,a₁,w₁,⟨st',hq,hr'⟩,.pass (x :=.inLoop c) rfl (λ_ _ =>.inl aj) harr⟩
 |ret=>exact⟨_,a₁,w₁,⟨st',hq,hr'⟩,.pass (x :=.inLoop c) rfl (λ_ _ =>.inl aj) harr⟩
 |panic ch=>exact⟨_,a₁,w₁,⟨st',hq,hr'⟩,.pass (x :=.inLoop c) rfl (λ_ _ =>.inl aj) harr⟩
 |outgrown=>exact⟨_,a₁,w₁,⟨st',hq,hr'⟩,.pass (x :=.inLoop c) rfl (λ_ _ =>.inl aj) harr⟩
def post(P:Program):List Kf->(Exit->St->Prop)->Exit->St->Prop
 |[],R=>R
 |.seq c::K,R=>jF (PW P c (post P K R)) (post P K R)
 |.blk id::K,R=>nc id (post P K R)
 |.loop c::K,R=>jF (PWL P c (post P K R)) (post P K R)
 |.scp::K,R=>NoGo (post P K R)
def Cfg.holds(P:Program)(R:Exit->St->Prop):Cfg->St->Prop
 |.code c K,st=>PW P c (post P K R) st
 |.head c K,st=>PWL P c (post P K R) st
 |.done e,st=>R e st
def lX(id:Nat):List Kf->Option (List Kf)
 |[]=>none
 |.blk i::K=>bif Nat.beq i id then some K else lX id K
 |_::K=>lX id K
def ug{P:Program}{R:Exit->St->Prop}{id:Nat}{st:St}:∀{K K':List Kf},lX id K=some K'->post P K' R .normal st->post P K R (.exit id) st
 |[],K',h,_=>dv
 |.blk i::K,K',h,hp=>by
  simp only[lX]at h;simp only[post,nc];cases hb:Nat.beq i id with
  |true=>have:i=id:=(aW _ _).1 hb;subst this;simp only[hb,aD,ao]at h;subst h;simpa using hp
  |false=>
   simp only[hb,aB]at h;have hne:¬id=i:=λe=>yp
   simp only[hne,fk];exact ug h hp
 |.seq c::K,K',h,hp=>Km
 |.loop c::K,K',h,hp=>Km
 |.scp::K,K',h,hp=>by simp only[lX]at h;simp only[post,NoGo];exact ug h hp
def ui{P:Program}{R:Exit->St->Prop}{st:St}:∀{K:List Kf},R .ret st->post P K R .ret st
 |[],h=>h
 |.blk i::K,h=>by simp only[post,nc];exact ui h
 |.seq c::K,h=>KS
 |.loop c::K,h=>KS
 |.scp::K,h=>by simp only[post,NoGo];exact ui h
abbrev Er:=Option (List Prop×Cfg×St)
def ahead(ps:List Prop):Er->Er
 |some (qs,g,st)=>some (ps++qs,g,st)
 |none=>none
section
variable {P:Program} {T:TS} {R:Exit->St->Prop}
def XD{c:Code}{Q:Exit->St->Prop}{st st':St}(hw:Wk st st')(h:PWL P c Q st'):PWL P c Q st:=λG a w hr=>h G a w (hw G a w hr)
def dO(R:Exit->St->Prop):Exit->St->Prop:=λe st=>∃st',Wk st st'/\R e st'
def PW.upto{c:Code}{st:St}(h:PW P c (dO R) st):PW P c R st:=by intro G a w hr;refine wp_mono (h G a w hr) ?_;rintro e a' w' ⟨st',⟨st2,hw,hq⟩,hr'⟩;exact⟨st2,hq,hw _ _ _ hr'⟩
def nav:List Nat->Code->List Kf->Option Cfg
 |[],.loop c,K=>some (.head c K)
 |[],c,K=>some (.code c K)
 |d::ds,c,K=>
  match c with
  |.seq a b=>bif Nat.beq d 0 then nav ds a (.seq b::K)else nav ds b K
  |.cond _ a b=>bif Nat.beq d 2 then nav ds a K else nav ds b K
  |.block id body=>nav ds body (.blk id::K)
  |.loop body=>nav ds body (.loop body::K)
  |.scope body=>nav ds body (.scp::K)
  |_=>none
def AX(rs:List RV)(st:St):Option (List Prop×PV):=
 match Z28 st rs with
 |some [p]=>cz st.Z p
 |some ps=>match eN st.Z ps with|some (cs,ds)=>some (cs,.tup ds)|none=>none
 |none=>none
def vn{rs:List RV}{st:St}{ps:List Prop}{res:PV}(h:AX rs st=some (ps,res))(hc:aI ps):jk rs [] res st:=by
 unfold AX at h;split at h
 .rename_i p hp;exact⟨[p],hp,gM.nil _,wb (λ_=>rfl) h hc⟩
 .rename_i qs hn hq;split at h
  .rename_i cs ds hd;cases h;refine⟨qs,hq,gM.nil _,?_⟩;unfold nQ;split
   .rename_i p;exact(hn p rfl).elim
   exact⟨ds,rfl,lY (λ_=>rfl) hd hc⟩
  cases h
 cases h
mutual
def Frz.refl{Z Z':List (Nat×Blk)}:∀p:PV,Frz Z Z' p p
 |.t _=>lW
 |.nils=>lW
 |.osl _ _=>lW
 |.bptr _ _=>lW
 |.rptr _ _ _ _=>lW
 |.vptr _=>lW
 |.agg cs=>AA
 |.tup cs=>AA
 |.fn _ cs=>AA
 |.own _ _=>lW
def aZ.refl{Z Z':List (Nat×Blk)}:∀ps:List PV,aZ Z Z' ps ps
 |[]=>by simp[aZ]
 |p::ps=>by simp only[aZ];exact⟨p,ps,rfl,Frz.refl p,aZ.refl ps⟩
end
def AY(rs:List RV)(ls:List Nat)(st:St):Option (List (Nat×Blk)×PV):=
 match ft st.Z ls,Z28 st rs with
 |some Z',some [p]=>some (Z',p)
 |some Z',some ps=>some (Z',.tup ps)
 |_,_=>none
def XF{rs:List RV}{ls:List Nat}{st:St}{Z':List (Nat×Blk)}{res:PV}(h:AY rs ls st=some (Z',res)):jk rs Z' res st:=by
 have hsub:∀{Z':List (Nat×Blk)},ft st.Z ls=some Z'->gM st.Z Z':=λhp l o ho=>⟨o,iJ hp l o ho,by cases o with
  |row k es=>rfl
  |mat k q es=>rfl
  |map ag es=>rfl
  |prow k i es cs=>exact⟨cs,rfl,aZ.refl cs⟩
  |box cs=>exact⟨cs,rfl,aZ.refl cs⟩⟩
 unfold AY at h;split at h
 .rename_i s2 p hσ hp;simp only[ao,bp]at h;obtain⟨rfl,rfl⟩:=h;exact⟨[p],hp,hsub hσ,Frz.refl p⟩
 .rename_i s2 qs hn hσ hq;simp only[ao,bp]at h;obtain⟨rfl,rfl⟩:=h;refine⟨qs,hq,hsub hσ,?_⟩;unfold nQ;split
  .rename_i p;exact(hn p rfl).elim
  exact⟨qs,rfl,aZ.refl qs⟩
 cases h
end
end Go.PW
namespace Go.PW
open Go.RowKit
def fX{S R:Type}(step:S->Option (S⊕R)):Nat->S->Option R
 |0,_=>none
 |n+1,s=>
  match step s with
  |none=>none
  |some (.inl s')=>fX step n s'
  |some (.inr r)=>some r
def Z8t{S R:Type}{step:S->Option (S⊕R)}:∀{n m:Nat} {s:S} {r:R},n<=m->fX step n s=some r->fX step m s=some r
 |0,m,s,r,_,h=>dv
 |n+1,0,s,r,hl,h=>bP
 |n+1,m+1,s,r,hl,h=>by
  simp only[fX]at h⊢;split at h
  .cases h
  .exact Z8t O h
  exact h
open Classical in
noncomputable def Z8u{S R:Type}(step:S->Option (S⊕R))(s:S):Option R:=if h:∃r,∃n,fX step n s=some r then some (Classical.choose h)else none
def Z8v{S R:Type}{step:S->Option (S⊕R)}{s:S}{r:R}:Z8u step s=some r↔∃n,fX step n s=some r:=by
 unfold Z8u;constructor
 .intro h;split at h
  .rename_i hx;cases h;exact Classical.choose_spec hx
  cases h
 rintro⟨n,hn⟩;have hx:∃r,∃n,fX step n s=some r:=⟨r,n,hn⟩;rw[eE hx];obtain⟨m,hm⟩:=Classical.choose_spec hx;have h1:=Z8t (Nat.le_max_left n m) hn;have h2:=Z8t (Nat.le_max_right n m) hm;rw[<- h2,h1]
def DD{S R:Type}(step:S->Option (S⊕R))(s:S):Z8u step s=match step s with
 |none=>none
 |some (.inl s')=>Z8u step s'
 |some (.inr r)=>some r:=by
 apply Option.ext;intro r;rw[Z8v];constructor
 .rintro ⟨n,hn⟩;cases n with
  |zero=>cases hn
  |succ n=>
   simp only[fX]at hn;split at hn
   .cases hn
   .exact Z8v.2 ⟨n,hn⟩
   exact hn
 intro h;split at h
 .cases h
 .rename_i s' hs;obtain⟨n,hn⟩:=Z8v.1 h;exact⟨n+1,by simp only[fX,hs];exact hn⟩
 rename_i r' hs;exact⟨1,by simp only[fX,hs];exact h⟩
noncomputable def goO{S R:Type}(step:S->Option (S⊕R))(n:Nat):S->Option R⊕S:=Nat.rec (motive:=λ_=>S->Option R⊕S) (λs =>.inr s) (λ_ ih s=>match step s with|none =>.inl none|some (.inl s')=>ih s'|some (.inr r) =>.inl (some r)) n
def DE{S R:Type}{step:S->Option (S⊕R)}:∀(n:Nat) (s:S),(match goO step n s with|.inl o=>o|.inr s'=>Z8u step s')=Z8u step s
 |0,s=>rfl
 |n+1,s=>by
  rw[DD];show(match(match step s with|none=>Sum.inl none|some (.inl s')=>goO step n s'|some (.inr r) =>.inl (some r))with|.inl o=>o|.inr s'=>Z8u step s')=_;cases step s with
  |none=>rfl
  |some y=>
   cases y with
   |inl s'=>exact DE n s'
   |inr r=>rfl
noncomputable def cb{S R:Type}(step:S->Option (S⊕R))(s:S):Option R:=
 match goO step 1000000000000 s with
 |.inl o=>o
 |.inr s'=>Z8u step s'
def vV{S R:Type}(step:S->Option (S⊕R))(s:S):cb step s=Z8u step s:=DE _ s
def OM{S R:Type}{step:S->Option (S⊕R)}{s:S}{r:R}:cb step s=some r↔∃n,fX step n s=some r:=by rw[vV];exact Z8v
def vW{S R:Type}(step:S->Option (S⊕R))(s:S):cb step s=match step s with
 |none=>none
 |some (.inl s')=>cb step s'
 |some (.inr r)=>some r:=by
 rw[vV,DD];cases step s with
 |none=>rfl
 |some y=>cases y with
  |inl s'=>exact(vV step s').symm
  |inr r=>rfl
def jf{S R:Type}{step:S->Option (S⊕R)}{s s':S}(h:step s=some (.inl s')):cb step s=cb step s':=by rw[vW,h]
def fG{S R:Type}{step:S->Option (S⊕R)}{s:S}{r:R}(h:step s=some (.inr r)):cb step s=some r:=by rw[vW,h]
noncomputable def dV{S R:Type}(step:S->Option (S⊕R)):S⊕R->Option R
 |.inl s=>cb step s
 |.inr r=>some r
def idx? {α:Type} (xs:List α) (i:Int):Option α:=if 0<=i then xs[i.toNat]? else none
def app? {α:Type} (bytes:Nat) (xs ys:List α):Option (List α):=if(xs.length+ys.length)*bytes<=140737488355328/\xs.length+ys.length<=9223372036854775807 then some (xs++ys)else none
def ok? (b:Bool):Option Unit:=if b then some ()else none
def DF{α β:Type}(f:α->β)(xs:List α):(((xs.map f).length:Nat):Int)=(xs.length:Int):=by rw[db]
def all_map{α:Type}(f:α->List U)(k:Nat)(h:∀x,(f x).length=k)(xs:List α):∀el,el∈xs.map f->el.length=k:=by intro el hel;obtain⟨x,_,rfl⟩:=gm.1 hel;exact h x
def gX{α:Type}{xs:List α}{i:Int}{x:α}(h:idx? xs i=some x):0<=i:=by
 unfold idx? at h;split at h
 .assumption
 cases h
def kV{α β:Type}{xs:List α}{i:Int}{x:α}(f:α->β)(h:idx? xs i=some x):(xs.map f)[i.toNat]?=some (f x):=by
 unfold idx? at h;split at h
 .simp [h]
 cases h
def jT{α β:Type}{xs:List α}{i:Int}{x:α}(f:α->β)(h:idx? xs i=some x):i<((xs.map f).length:Nat):=by
 unfold idx? at h;split at h
 .have:=(bj.1 h).1;rw[db];omega
 cases h
def DG{α β:Type}{b:Nat}{xs ys zs:List α}(f:α->β)(h:app? b xs ys=some zs):xs.map f++ys.map f=zs.map f:=by
 unfold app? at h;split at h
 .cases h;simp
 cases h
def DH{α β:Type}{b:Nat}{ys zs:List α}(f:α->β)(h:app? b [] ys=some zs):ys.map f=zs.map f:=by simpa using DG f h
def DJ{α β:Type}{b:Nat}{xs ys zs:List α}(f:α->β)(h:app? b xs ys=some zs):(zs.map f).length<=9223372036854775807:=by
 unfold app? at h;split at h
 .cases h;simp;omega
 cases h
def vX{α β:Type}{b:Nat}{xs ys zs:List α}(f:α->β)(h:app? b xs ys=some zs):(zs.map f).length*b<=140737488355328:=by
 unfold app? at h;split at h
 .cases h;simp;omega
 cases h
def ON{b:Bool}{u:Unit}(h:ok? b=some u):b=true:=by
 unfold ok? at h;split at h
 .assumption
 cases h
def OO{p:Prop} [Decidable p] {u:Unit} (h:ok? (decide p)=some u):p:=gj (ON h)
def slice? {α:Type} (xs:List α) (l h:Int):Option (List α):=if 0<=l/\l<=h/\h<=xs.length then some ((xs.take h.toNat).drop l.toNat)else none
def copy? {α:Type} (dst src:List α):Option (List α):=if src.length<=dst.length then some (src++dst.drop src.length)else none
def make? {α:Type} (bytes:Nat) (z:α) (m c:Int):Option (List α):=if 0<=m/\m<=c/\(bytes:Int)*c<=281474976710656/\c<=9223372036854775807 then some (List.replicate m.toNat z)else none
def OP{α:Type}{xs zs:List α}{l h:Int}(e:slice? xs l h=some zs):0<=l:=by
 unfold slice? at e;split at e
 .rename_i c;exact c.1
 cases e
def DK{α:Type}{xs zs:List α}{l h:Int}(e:slice? xs l h=some zs):l<=h:=by
 unfold slice? at e;split at e
 .rename_i c;exact c.2.1
 cases e
def DL{α β:Type}{xs zs:List α}{l h:Int}(f:α->β)(e:slice? xs l h=some zs):h<=((xs.map f).length:Nat):=by
 unfold slice? at e;split at e
 .rename_i c;rw[db];exact c.2.2
 cases e
def DM{α β:Type}{xs zs:List α}{l h:Int}(f:α->β)(e:slice? xs l h=some zs):((xs.map f).take h.toNat).drop l.toNat=zs.map f:=by
 unfold slice? at e;split at e
 .cases e;simp[od,mx]
 cases e
def jU{α:Type}{b:Nat}{z:α}{m c:Int}{zs:List α}(e:make? b z m c=some zs):0<=m/\m<=c/\(b:Int)*c<=281474976710656/\c<=9223372036854775807:=by
 unfold make? at e;split at e
 .assumption
 cases e
def DN{α β:Type}{b:Nat}{z:α}{m c:Int}{zs:List α}(f:α->β)(e:make? b z m c=some zs):m.toNat=(zs.map f).length:=by
 unfold make? at e;split at e
 .cases e;simp
 cases e
def vY{α β:Type}{b:Nat}{z:α}{m c:Int}{zs:List α}(f:α->β)(e:make? b z m c=some zs):List.replicate (zs.map f).length (f z)=zs.map f:=by
 unfold make? at e;split at e
 .cases e;simp
 cases e
def OQ{α β:Type}(f:α->β){xs:List α}(h:xs≠[]):xs.map f≠[]:=iC
def FnG.split0{P:Program}{f:FuncId}{es:List (List U)}{rest:List PV}{res:PV}{Z Z':List (Nat×Blk)}(h1:es≠[]->FnG P f Z (.t (.sl es)::rest) Z' res)(h2:es=[]->∀a c,FnG P f Z (.t (.con (.slice a 0 c))::rest) Z' res):FnG P f Z (.t (.sl es)::rest) Z' res:=by
 by_cases he:es=[]
 .refine⟨(h2 he none 0).1,λA β w vals hl hr=>?_⟩;have hv:=(hr.tm 0 (.t (.sl es)) (by simp[idx,PW.get])).2;subst he;simp only[VR,Z6]at hv;obtain⟨a,cap,hv,_⟩:=hv;refine(h2 rfl a cap).2 A β w vals hl ?_
  exact { defers:=hr.defers,sz:=hr.sz,base:=hr.base,os:=hr.os,tape:=hr.tape,output:=hr.output,old:=hr.old,A:=hr.A,gl:=hr.gl,inj:=hr.inj,sep:=hr.sep,fix:=hr.fix,row0:=hr.row0,blk:=hr.blk,
          tm:=λi p hp=>by
           by_cases hi:i=0
           .subst hi;simp only[idx,PW.get,Nat.beq_eq,aD,ao]at hp;have hp:PV.t (.con (.slice a 0 cap))=p:=by simpa using hp
            subst hp;exact⟨by simp,by simp only[VR,Z6];exact⟨hv,rfl⟩⟩
           refine hr.tm i p ?_;simp only[idx,PW.get,dJ (cW hi),aB]at hp⊢;exact hp }
 exact h1 he
def set? {α:Type} (xs:List α) (i:Int) (x:α):Option (List α):=if 0<=i/\i.toNat<xs.length then some (xs.set i.toNat x)else none
def set2? {α:Type} (z0 xs:List α) (i:Int) (x:α):Option (List α):=if xs.length=z0.length then set? xs i x else none
def kW{α:Type}{z0 z z2:List α}{i:Int}{x:α}(h:set2? z0 z i x=some z2):z.length=z0.length/\set? z i x=some z2:=by
 unfold set2? at h;split at h
 .rename_i e;exact⟨e,h⟩
 cases h
def DO{α β:Type}{z z2:List α}{i:Int}{x':α}(f:α->β)(h:set? z i x'=some z2):(List.map f z2)[i.toNat]?=some (f x'):=by
 unfold set? at h;split at h
 .rename_i c;cases h;simp[c.2]
 cases h
def vZ{α:Type}{z z2:List α}{i:Int}{x x':α}{q:Nat}{ts:List U}(f:α->List U)(h:set? z i x'=some z2)(hs:splice (f x) q ts=f x'):(List.map f z).set i.toNat (splice (f x) q ts)=List.map f z2:=by
 unfold set? at h;split at h
 .cases h;rw[hs,oe]
 cases h
def DP{α β:Type}{z z2:List α}{i:Int}{x':α}(f:α->β)(h:set? z i x'=some z2):(List.map f z).set i.toNat (f x')=List.map f z2:=by
 unfold set? at h;split at h
 .cases h;rw[oe]
 cases h
def kX{α β:Type}{z z2:List α}{i:Int}{x':α}(f:α->β)(h:set? z i x'=some z2):(List.map f z).length=(List.map f z2).length:=by
 unfold set? at h;split at h
 .cases h;simp
 cases h
def jV{α:Type}(f:α->List U)(h:∀x,(f x).all U.scal=true)(z:List α):∀el,el∈List.map f z->∀x,x∈el->U.scal x=true:=by intro el hel x hx;obtain⟨y,_,rfl⟩:=gm.1 hel;exact bH.1 (h y) x hx
def VRs.of_getD{c:Ctx}:∀{args:List PV} {vals:List Value},vals.length=args.length->(∀i p,args[i]?=some p->VR c p (vals.getD i undef))->VRs c args vals
 |[],[],_,_=>by simp[VRs]
 |p::args,v::vals,hl,h=>by simp only[VRs];exact⟨v,vals,rfl,by simpa using h 0 p rfl,VRs.of_getD my (λi q hq=>by simpa using h (i+1) q r4)⟩
 |[],_::_,hl,_=>kY
 |_::_,[],hl,_=>kY
def FnG.ofW{P:Program}{f:FuncId}{args:List PV}{res:PV}(hok:FnOk P f)
 (h:∀(w:World) (vals:List Value),oh w->(∃c:Ctx,VRs c args vals)->Calls P f vals.toArray w λe w'=>∃v,e = .returned v/\w'=w/\∀c,VR c res v):Fn P f args res:=by
 refine⟨hok,λA β w vals hlen hr=>?_⟩;have hv:VRs (ctx (bR β [] A w) β w []) args vals:=VRs.of_getD hlen (λi p hp=>by have:=(hr.tm i p (by rw[mc];simpa using hp)).2;simpa[List.getD_eq_getElem?_getD,Array.getD_eq_getD_getElem?]using this);refine(h w vals hr.glw ⟨_,hv⟩).mono ?_;rintro e w' ⟨v,rfl,rfl,hres⟩;refine⟨v,β,rfl,{ defers:=rfl,sz:=by simp,base:=hr.base,os:=hr.os,tape:=hr.tape,output:=hr.output,old:=hr.old,A:=hr.A,gl:=hr.gl,inj:=hr.inj,sep:=hr.sep,fix:=hr.fix,row0:=hr.row0,blk:=hr.blk,tm:=λi p hp=>?_ }⟩;simp only[PW.get]at hp;cases hb:Nat.beq 0 i with
 |true=>have:0=i:=(aW _ _).1 hb;subst this;simp only[hb,aD,ao]at hp;subst hp;exact⟨by simp,by simpa using hres _⟩
 |false=>simp[hb]at hp
def strings_Contains(s sub:List UInt8):Option Bool:=if s.length<4294967281 then some (Lib.contains s sub)else none
def cB(b:Bool):List U:=[.bool b]
def cI(k:IntKind)(n:Int):List U:=[.int k n]
def cS(s:List UInt8):List U:=[.str s]
def cL{α:Type}(f:α->List U)(xs:List α):List U:=[.sl (xs.map f)]
structure A2 (α:Type) where
 (a0 a1:α)
 deriving DecidableEq,Inhabited
structure A3 (α:Type) where
 (a0 a1 a2:α)
 deriving DecidableEq,Inhabited
structure A5 (α:Type) where
 (a0 a1 a2 a3 a4:α)
 deriving DecidableEq,Inhabited
structure A6 (α:Type) where
 (a0 a1 a2 a3 a4 a5:α)
 deriving DecidableEq,Inhabited
def A2.list{α:Type}(x:A2 α):List α:=[x.a0,x.a1]
def cA3{α:Type}(f:α->List U)(x:A3 α):List U:=f x.a0++(f x.a1++f x.a2)
def A3.list{α:Type}(x:A3 α):List α:=[x.a0,x.a1,x.a2]
def cA5{α:Type}(f:α->List U)(x:A5 α):List U:=f x.a0++(f x.a1++(f x.a2++(f x.a3++f x.a4)))
def A5.list{α:Type}(x:A5 α):List α:=[x.a0,x.a1,x.a2,x.a3,x.a4]
def cA6{α:Type}(f:α->List U)(x:A6 α):List U:=f x.a0++(f x.a1++(f x.a2++(f x.a3++(f x.a4++f x.a5))))
def A6.list{α:Type}(x:A6 α):List α:=[x.a0,x.a1,x.a2,x.a3,x.a4,x.a5]
def OR{k:Nat}{mid:List PV}{p:PV}(pre post:List PV)(h:cG false 1 k mid=some p):cG false 1 (pre.length+k) (pre++(mid++post))=some p:=by simp only[cG,aB]at h⊢;rw[dD O,Nat.add_sub_cancel_left,dx (bj.1 h).1];exact h
def OS{α:Type}{xs:List α}{i:Int}{x:α}(h:idx? xs i=some x):xs[i.toNat]?=some x:=by have:=kV id h;simpa using this
def bytes? (s:List UInt8):Option (List Int):=if s.length<=9223372036854775807 then some (s.map λb=>(b.toNat:Int))else none
def OT{s:List UInt8}{z:List Int}(h:bytes? s=some z):ek s=List.map (cI .u8) z:=by
 unfold bytes? at h;split at h
 .cases h;simp[ek,cI]
 cases h
def OU{s:List UInt8}{z:List Int}(h:bytes? s=some z):s.length<=9223372036854775807:=by
 unfold bytes? at h;split at h
 .rename_i hl;exact hl
 cases h
def shlI(k:IntKind)(a b:Int):Int:=k.wrap (a*2 ^ (min b.toNat k.bits))
def shrI(k:IntKind)(a b:Int):Int:=a.fdiv (2 ^ (min b.toNat k.bits))
def ff(k:IntKind)(a b:Int):Int:=k.wrap (a.tdiv b)
def Ok{S R:Type}(P:Program)(rs:List RV)(sr:R->List (Nat×Blk))(res:R->PV)(cfg:S->Cfg)(stf:S->PW.St)(r:R):S⊕R->Prop
 |.inl s=>(cfg s).holds P (dO (gY rs (sr r) (res r))) (stf s)
 |.inr r'=>r'=r
def OV{S R:Type}{P:Program}{rs:List RV}{sr:R->List (Nat×Blk)}{res:R->PV}{cfg:S->Cfg}{stf:S->PW.St}{r:R}{step:S->Option (S⊕R)}(hstep:∀s y,step s=some y->Ok P rs sr res cfg stf r y->(cfg s).holds P (dO (gY rs (sr r) (res r))) (stf s)){y:S⊕R}
 (h:dV step y=some r):Ok P rs sr res cfg stf r y:=by
 have key:∀(n:Nat) (s:S),fX step n s=some r->(cfg s).holds P (dO (gY rs (sr r) (res r))) (stf s):=by
  intro n;induction n with
  |zero=>intro s h;cases h
  |succ n ih=>
   intro s h;simp only[fX]at h;split at h
   .cases h
   .rename_i s' hs;exact hstep s _ hs (ih s' h)
   rename_i r' hs;cases h;exact hstep s _ hs (show Ok P rs sr res cfg stf r (.inr r)from rfl)
 cases y with
 |inl s=>obtain⟨n,hn⟩:=OM.1 h;exact key n s hn
 |inr r'=>have:some r'=some r:=h;cases this;exact(show Ok P rs sr res cfg stf r (.inr r)from rfl)
section
variable {P:Program} {T:TS} {S R:Type} {rs:List RV} {sr:R->List (Nat×Blk)} {res:R->PV} {cfg:S->Cfg} {stf:S->PW.St} {r:R} {y:S⊕R} {g:Cfg} {st:PW.St} {C:Prop}
end
def rvOK(T:TS):List RV->Bool
 |[]=>true
 |.t _::r=>rvOK T r
 |.c _ t ag sz::r=>(match get T t with|some i=>(i.agg==ag)&&Nat.beq i.size sz|none=>false)&&rvOK T r
def wa{P:Program}{T:TS}(hT:TOK P T):∀(rs:List RV),rvOK T rs=true->∀x t ag sz,RV.c x t ag sz∈rs->TyF P t ag sz
 |[],_,x,t,ag,sz,h=>dv
 |.t i::r,hb,x,t,ag,sz,h=>by
  simp only[rvOK]at hb;rcases cA.1 h with h|h
  .cases h
  exact wa hT r hb x t ag sz h
 |.c x0 t0 ag0 sz0::r,hb,x,t,ag,sz,h=>by
  simp only[rvOK,aM]at hb;rcases cA.1 h with h|h
  .cases h;have h1:=hb.1;split at h1
   .rename_i i hi;simp only[aM,aW,beq_iff_eq]at h1;have:=(hT _ i hi).ty;rw[h1.1,h1.2]at this;exact this
   cases h1
  exact wa hT r hb.2 x t ag sz h
def FnG.of_cfg {P:Program} {T:TS} (hT:TOK P T) {f:FuncId} {args:List PV} {Z Z':List (Nat×Blk)} {res:PV} {fn:Func} {c:Code} (hf:P.funcs[f]? = some fn) (hb:fn.body=some c) (hname:(fn.name == "runtime.NumGoroutine")=false)
 (n:Nat) (hn:fn.ntmps=n) (hna:args.length<=n) (rs:List RV) (hres:fn.results=(rs.map RV.to).toArray) (hrv:rvOK T rs=true) (h:(Cfg.code c []).holds P (dO (gY rs Z' res)) ⟨n,idx 0 args,Z⟩):FnG P f Z args Z' res:=
 FnG.of_pw hf hb hname n hn hna rs hres (wa hT rs hrv) (PW.upto h)
def FnG.frozen{P:Program}{f:FuncId}{args:List PV}{σ1:List (Nat×Blk)}{res q:PV}{C:Prop}(h:FnG P f [] args σ1 res)(c:C)(hq:(cz σ1 res).map (λx=>(aI x.1,x.2))=some (C,q)):Fn P f args q:=by simp only[ca,bp]at hq;obtain⟨⟨cs,p⟩,h1,h2,h3⟩:=hq;simp only at h2 h3;subst h3;exact h.toFn (wb (λ_=>rfl) h1 (by rw[h2];exact c))
def OW{α:Type}(pre l post:List α)(k:Nat)(hk:k<l.length)(p:α):splice (pre++(l++post)) (pre.length+k) [p]=pre++(l.set k p++post):=by unfold splice;rw[List.take_length_add_append,bJ,bU,show pre.length+k+(0+1)=pre.length+(k+1) by omega,List.drop_length_add_append,List.take_append_of_le_length O,List.drop_append_of_le_length O,List.set_eq_take_append_cons_drop,bB hk];simp
def A5.set? {α:Type} (x:A5 α) (i:Int) (v:α):Option (A5 α):=if 0<=i/\i<5 then(match x.list.set i.toNat v with|[a0,a1,a2,a3,a4]=>some ⟨a0,a1,a2,a3,a4⟩|_=>none)else none
def OX{α:Type}(f:α->U){x y:A5 α}{i:Int}{v:α}(pre post:List PV)(h:x.set? i v=some y):(pre.length+i.toNat*1+1<=(pre++((cA5 (λa=>[f a]) x).map PV.t++post)).length)/\splice (pre++((cA5 (λa=>[f a]) x).map PV.t++post)) (pre.length+i.toNat*1) [.t (f v)]=pre++((cA5 (λa=>[f a]) y).map PV.t++post):=by
 unfold A5.set? at h;split at h
 .rename_i hi;have hl:i.toNat<(x.list.map λa=>PV.t (f a)).length:=by simp[A5.list];omega
  have e1:(cA5 (λa=>[f a]) x).map PV.t=x.list.map λa=>PV.t (f a):=rfl;have e2:(cA5 (λa=>[f a]) y).map PV.t=y.list.map λa=>PV.t (f a):=rfl;have hy:y.list=x.list.set i.toNat v:=by
   split at h
   .rename_i heq;cases h;rw[heq];rfl
   cases h
  rw[e1,e2,cP,OW _ _ _ _ hl,hy,oe];refine⟨?_,rfl⟩;rw[bn,bn];omega
 cases h
def OY{α:Type}{x:A5 α}{i:Int}{v:α}(h0:0<=i)(h1:i<5):∃y,x.set? i v=some y/\y.list=x.list.set i.toNat v:=by
 have hl:(x.list.set i.toNat v).length=5:=by simp[A5.list]
 unfold A5.set?;rw[bB ⟨h0,h1⟩];generalize x.list.set i.toNat v=l at hl
 match l,hl with
 |[a0,a1,a2,a3,a4],_=>exact⟨⟨a0,a1,a2,a3,a4⟩,rfl,rfl⟩
def str? (xs:List Int):Option (List UInt8):=if xs≠[]/\∀n,n∈xs->0<=n/\n<256 then some (xs.map λn=>UInt8.ofNat n.toNat)else none
def DQ{xs:List Int}{s:List UInt8}(h:str? xs=some s):ek s=List.map (cI .u8) xs/\s≠[]:=by
 unfold str? at h;split at h
 .rename_i hc;cases h;refine⟨?_,by simpa using hc.1⟩;simp only[ek,List.map_map];refine List.map_congr_left λn hn=>?_;obtain⟨h0,h1⟩:=hc.2 n hn;simp only[Function.comp,cI];have:(UInt8.ofNat n.toNat).toNat=n.toNat:=by simp;omega
  rw[this];congr 1;congr 1;omega
 cases h
def Z3f{xs zs:List UInt8}{l h:Int}(e:slice? xs l h=some zs):0<=l/\l<=h/\h<=(xs.length:Int)/\(xs.take h.toNat).drop l.toNat=zs:=by
 unfold slice? at e;split at e
 .rename_i c;exact⟨c.1,c.2.1,c.2.2,dA e⟩
 cases e
def clr? {α:Type} (xs:List α) (i:Int) (z:α):Option (List α):=if 0<=i/\i<=xs.length then some (xs.take i.toNat++List.replicate (xs.length-i.toNat) z)else none
def DR{α:Type}{xs zs:List α}{i:Int}{z:α}(e:clr? xs i z=some zs):0<=i:=by
 unfold clr? at e;split at e
 .rename_i c;exact c.1
 cases e
def DS{α β:Type}{xs zs:List α}{i:Int}{z:α}(f:α->β)(e:clr? xs i z=some zs):i<=((xs.map f).length:Nat):=by
 unfold clr? at e;split at e
 .rename_i c;rw[db];exact c.2
 cases e
def OZ{α β:Type}{xs zs:List α}{i:Int}{z:α}(f:α->β)(e:clr? xs i z=some zs):(xs.map f).take i.toNat++List.replicate ((xs.map f).length-i.toNat) (f z)=zs.map f:=by
 unfold clr? at e;split at e
 .cases e;simp[mx]
 cases e
def O3{α β:Type}{xs zs:List α}{i:Int}{z:α}(f:α->β)(e:clr? xs i z=some zs):(xs.map f).length=(zs.map f).length:=by
 unfold clr? at e;split at e
 .rename_i c;cases e;simp;omega
 cases e
def O4{α β:Type}{xs zs:List α}{i:Int}(f:α->β)(e:slice? xs 0 i=some zs):i.toNat=(zs.map f).length:=by
 unfold slice? at e;split at e
 .rename_i c;cases e;simp;omega
 cases e
def O5{α β:Type}{xs zs:List α}{i:Int}(f:α->β)(e:slice? xs 0 i=some zs):(xs.map f).take i.toNat=zs.map f:=DM f e
def setM? {α:Type} (xs:List (List α)) (i:Int) (y:List α) (j:Int) (v:α):Option (List (List α)):=some (xs.set i.toNat (y.set j.toNat v))
def O6{α:Type}{xs zs:List (List α)}{i j:Int}{y:List α}{v:α}(f:α->List U)(e:setM? xs i y j v=some zs):(xs.map (cL f)).set i.toNat [.sl ((y.map f).set j.toNat (f v))]=zs.map (cL f):=by cases e;rw[oe];show _=(xs.map (cL f)).set i.toNat [.sl ((y.set j.toNat v).map f)];rw[oe]
def O7{α:Type}{xs zs:List (List α)}{i j:Int}{y:List α}{v:α}(f:α->List U)(e:setM? xs i y j v=some zs):(xs.map (cL f)).length=(zs.map (cL f)).length:=by cases e;simp
end Go.PW
namespace Go.PW
open Go.RowKit
def ke(P:Program):List Field->Nat->Nat->Bool
 |[],off,sY=>Nat.beq off sY
 |f::fs,off,sY=>Nat.beq f.offset off&&ke P fs (off+P.cellsOf f.type) sY
def iS(P:Program):Nat->TypeId->Bool
 |0,_=>false
 |d+1,t=>
  match P.underlying t with
  |some .bool=>true
  |some (.int _)=>true
  |some .string=>true
  |some (.slice e)=>iS P d e&&Nat.blt 0 (P.cellsOf e)
  |some (.struct fs)=>(fs.toList.all λf=>iS P d f.type)&&ke P fs.toList 0 (P.cellsOf t)
  |some (.array n e)=>iS P d e&&Nat.beq (n*P.cellsOf e) (P.cellsOf t)
  |_=>false
def Seq(Q:TypeId->List U->Prop):List TypeId->List U->Prop
 |[],ts=>ts=[]
 |t::l,ts=>∃a b,ts=a++b/\Q t a/\Seq Q l b
def WT(P:Program):Nat->TypeId->List U->Prop
 |0,_,_=>False
 |d+1,t,ts=>
  match P.underlying t with
  |some .bool=>∃b,ts=[.bool b]
  |some (.int k)=>∃n,ts=[.int k n]/\(Lit.int k n).wf=true
  |some .string=>∃s,ts=[.str s]/\(s.length<=maxLen/\s.length<=reachBytes)
  |some (.slice e)=>∃es,ts=[.sl es]/\(es.length<=maxLen/\es.length*P.bytesOf e<=reachBytes)/\∀el∈es,WT P d e el
  |some (.struct fs)=>Seq (WT P d) (fs.toList.map (·.type)) ts
  |some (.array n e)=>Seq (WT P d) (List.replicate n e) ts
  |_=>False
def Rd(w:World):Ctx:=⟨λ_=>none,λb=>b<w.heap.size,w,[]⟩
def Gz{I:Nat->Prop}{w:World}{b k:Nat}{Q:List U->Prop}:∀(n off:Nat),(∀i,i<n->∃ts,ts.length=k/\Z2 I w b ts (off+i*k)/\Q ts)->∃es,es.length=n/\an I w b es off/\∀el∈es,Q el
 |0,off,_=>⟨[],rfl,aa,λ_ h=>by cases h⟩
 |n+1,off,h=>by
  obtain⟨t0,h0,hc,hq⟩:=h 0 O;obtain⟨es,h1,h2,h3⟩:=Gz (I:=I) (w:=w) (b:=b) (k:=k) (Q:=Q) n (off+k) (λi hi=>by obtain⟨ts,g1,g2,g3⟩:=h (i+1) O;exact⟨ts,g1,by rwa[show off+(i+1)*k=off+k+i*k by rw[du,ez];omega]at g2,g3⟩);refine⟨t0::es,by simp[h1],?_,λel hel=>?_⟩
  .simp only[an];exact⟨by simpa using hc,by rw[h0];exact h2⟩
  rcases cA.1 hel with h|h
  .subst h;exact hq
  exact h3 el h
def mapM_mem'{α β:Type}{f:α->Option β}:∀{l:List α} {xs:List β},l.mapM f=some xs->∀a∈l,∃x,f a=some x/\x∈xs
 |[],_,_,a,h=>dv
 |b::l,xs,h,a,ha=>by
  rw[jZ]at h;simp only[bind,c9,pure,ao]at h;obtain⟨y,hy,ys,hys,rfl⟩:=h;rcases cA.1 ha with e|e
  .subst e;exact⟨y,hy,by simp⟩
  obtain⟨x,h1,h2⟩:=mapM_mem' hys a e;exact⟨x,h1,by simp[h2]⟩
section
variable {P:Program} {w:World}
def GA{Q:TypeId->List U->Prop}{cs:List Value}:∀(fs:List Field) (off:Nat),ke P fs off cs.length=true->off<=cs.length ->
 (∀f∈fs,∃ts,VRs (Rd w) (ts.map .t) ((cs.drop f.offset).take (P.cellsOf f.type))/\Q f.type ts)->∃ts:List U,VRs (Rd w) (ts.map .t) (cs.drop off)/\Seq Q (fs.map (·.type)) ts
 |[],off,h,_,_=>by simp only[ke,aW]at h;exact⟨[],by simp[VRs,h],rfl⟩
 |f::fs,off,h,hle,hf=>by
  simp only[ke,aM,aW]at h;obtain⟨h1,h2⟩:=h;obtain⟨a,ha,hq⟩:=hf f aj;rw[h1]at ha;have hle2:off+P.cellsOf f.type<=cs.length:=by
   have:∀(fs:List Field) (o:Nat),ke P fs o cs.length=true->o<=cs.length:=by
    intro fs;induction fs with
    |nil=>intro o h;simp only[ke,aW]at h;omega
    |cons g fs ih=>intro o h;simp only[ke,aM]at h;have:=ih _ h.2;omega
   exact this fs _ h2
  obtain⟨b,hb,hs⟩:=GA (Q:=Q) fs (off+P.cellsOf f.type) h2 hle2 (λg hg=>hf g (cC _ hg));refine⟨a++b,?_,a,b,rfl,hq,hs⟩;rw[gb];have:=ha.append hb;rwa[show(cs.drop off).take (P.cellsOf f.type)++cs.drop (off+P.cellsOf f.type)=cs.drop off by rw[<- hU];exact jN _ _]at this
def GB{Q:TypeId->List U->Prop}{cs:List Value}{e k:Nat}:∀(n off:Nat),off+n*k=cs.length ->
 (∀i,i<n->∃ts,VRs (Rd w) (ts.map .t) ((cs.drop (off+i*k)).take k)/\Q e ts)->∃ts:List U,VRs (Rd w) (ts.map .t) (cs.drop off)/\Seq Q (List.replicate n e) ts
 |0,off,h,_=>⟨[],by simp[VRs,show off=cs.length by omega],rfl⟩
 |n+1,off,h,hf=>by
  have e1:(n+1)*k=n*k+k:=sn
  obtain⟨a,ha,hq⟩:=hf 0 O;rw[sq,cF]at ha;obtain⟨b,hb,hs⟩:=GB (Q:=Q) (cs:=cs) (e:=e) (k:=k) n (off+k) O (λi hi=>by obtain⟨ts,g1,g2⟩:=hf (i+1) O;exact⟨ts,by rwa[show off+(i+1)*k=off+k+i*k by rw[du,ez];omega]at g1,g2⟩);refine⟨a++b,?_,a,b,rfl,hq,hs⟩;rw[gb];have:=ha.append hb;rwa[show(cs.drop off).take k++cs.drop (off+k)=cs.drop off by rw[<- hU];exact jN _ _]at this
def yl{H:Type}{e:TypeId}{d:DataW H}{n:Nat}:∀{ds:List (DataW H)},d∈ds->n∈d.weights P e->n∈DataW.weightsAll P e ds
 |[],h,_=>dv
 |y::ds,h,hn=>by
  simp only[DataW.weightsAll,cN];rcases cA.1 h with h|h
  .subst h;exact .inl hn
  exact .inr (yl h hn)
def yk{H:Type}{t:TypeId}{d:DataW H}{n:Nat}:∀{ts:List TypeId} {ds:List (DataW H)} {i:Nat},ts[i]?=some t->ds[i]?=some d->n∈d.weights P t->n∈DataW.weightsEach P ts ds
 |[],_,_,h,_,_=>iL
 |_::_,[],_,_,h,_=>iL
 |u::ts,y::ds,0,ht,hd,hn=>by simp only[iy,ao]at ht hd;subst ht;subst hd;simp only[DataW.weightsEach,cN];exact .inl hn
 |u::ts,y::ds,i+1,ht,hd,hn=>by simp only[DataW.weightsEach,cN];exact .inr (yk (by simpa using ht) (by simpa using hd) hn)
def sZ{H:Type}{enc:TypeId×Value->H}:∀(D fuel:Nat) (t:TypeId) (cs:List Value) (x:DataW H×List MemPlace),DataW.trod enc P w 0 (λ_=>true) true fuel t cs=some x->iS P D t=true->(∀n∈x.1.weights P t,n<=reachBytes) ->
 ∃ts:List U,VRs (Rd w) (ts.map .t) cs/\WT P D t ts
 |0,_,_,_,_,_,hp,_=>by simp[iS]at hp
 |D+1,fuel,t,cs,x,h,hp,hwt=>by
  unfold iS at hp;unfold WT;cases hu:P.underlying t with
  |none=>simp[hu]at hp
  |some u=>
   simp only[hu]at hp⊢;cases u<;>simp only[fa]at hp
   case bool=>
    obtain⟨b,rfl,_⟩:=DataW.trod_bool hu h;exact⟨[.bool b],by simp[VRs,VR,Z6],b,rfl⟩
   case int k=>
    obtain⟨n,rfl,_,hw⟩:=DataW.trod_int hu h;exact⟨[.int k n],by simp[VRs,VR,Z6],n,rfl,hw⟩
   case string=>
    obtain⟨s,rfl,rfl,hl⟩:=DataW.trod_string hu h;refine⟨[.str s.data.toList],by simp[VRs,VR,Z6],_,rfl,by rw[iF];exact hl,hwt _ (by simp[DataW.weights])⟩
   case slice e=>
    obtain⟨hp1,hp2⟩:=Bool.and_eq_true_iff.1 hp;rw[fQ]at hp2;rcases DataW.trod_slice hu h with⟨rfl,_⟩|⟨a,len,cap,elems,rest,n,_,rfl,rfl,_,hlc,hcm,hel,hE,_⟩
    .refine⟨[.sl []],?_,[],rfl,⟨gS _,by simp⟩,λ_ h=>by cases h⟩;simp only[cu,fx,VRs,VR,Z6];exact⟨_,_,rfl,⟨none,0,rfl,bh _,gS _,.inl trivial⟩,rfl⟩
    by_cases h0:len=0
    .subst h0;refine⟨[.sl []],?_,[],rfl,⟨gS _,by simp⟩,λ_ h=>by cases h⟩;simp only[cu,fx,VRs,VR,Z6];exact⟨_,_,rfl,⟨some a,cap,rfl,hlc,hcm,.inl trivial⟩,rfl⟩
    have hwl:(elems.length+rest.length)*P.bytesOf e<=reachBytes:=hwt _ (by simp[DataW.weights,hu]);have hone:∀i,i<len->∃cs' y,w.cells? 0 (a.add (i*P.cellsOf e)) (P.cellsOf e)=some cs'/\DataW.trod enc P w 0 (λ_=>true) true n e cs'=some y/\∀m∈y.1.weights P e,m<=reachBytes:=by
     intro i hi;have:=hE i hi;have hlt:i<elems.length:=bP
     rw[bC hlt]at this;obtain⟨cs',h1,h2⟩:=c9.1 this;refine⟨cs',_,h1,h2,λm hm=>hwt m ?_⟩;simp only[DataW.weights,hu];exact cC _ (cN.2 (.inl (yl (gm.2 ⟨_,mj hlt,rfl⟩) hm)))
    have hspot:a.spot=none:=by
     obtain⟨cs',y,h1,_,_⟩:=hone 0 O;obtain⟨_,hl,hc⟩:=World.cells?_some h1;have:=hc 0 hp2;rw[bC O]at this;have e0:(a.add (0*P.cellsOf e)).add 0=a:=by simp[Addr.add]
     rw[e0]at this;unfold World.cell? at this;split at this
     .split at this
      .cases this
      rename_i hs;simpa using hs
     cases this
    obtain⟨b,off,spot⟩:=a;simp only at hspot;subst hspot;have hbl:b<w.heap.size:=by obtain⟨cs',y,h1,_,_⟩:=hone 0 O;have:=World.cells?_block h1 hp2;simpa[Addr.add]using this
    obtain⟨es,g1,g2,g3⟩:=Gz (I:=(Rd w).I) (w:=w) (b:=b) (k:=P.cellsOf e) (Q:=WT P D e) len off (λi hi=>by
     obtain⟨cs',y,h1,h2,hy⟩:=hone i hi;obtain⟨ts,ht,hw⟩:=sZ D n e cs' y h2 hp1 hy;obtain⟨_,hl,hc⟩:=World.cells?_some h1;refine⟨ts,by have:=ht.length;simp at this;omega,ic (c:=Rd w) ht (λj v hj=>?_),hw⟩;have hjl:j<P.cellsOf e:=by rw[<- hl];exact(bj.1 hj).1
     have:=hc j hjl;rw[gd,gd]at this;exact this.trans hj)
    refine⟨[.sl es],?_,es,rfl,⟨by omega,cQ (fA _ O) hwl⟩,g3⟩;simp only[cu,fx,VRs,VR,Z6];exact⟨_,_,rfl,⟨some ⟨b,off,none⟩,cap,by rw[g1],by omega,hcm,.inr ⟨b,off,rfl,hbl,g2⟩⟩,rfl⟩
   case struct fs=>
    obtain⟨hp1,hp2⟩:=Bool.and_eq_true_iff.1 hp;obtain⟨xs,n,_,rfl,hl,hlen,hf⟩:=DataW.trod_struct hu h;rw[<- hl]at hp2;have:=GA (Q:=WT P D) fs.toList 0 hp2 (gS _) (λf hfm=>by
     obtain⟨i,hi⟩:=rh.1 hfm;have hi':fs[i]?=some f:=ym
     have hlt:i<xs.length:=by rw[hlen];exact(nU.1 hi').1
     have h2:=hf i f hi';rw[bC hlt]at h2;refine sZ D n f.type _ _ h2 (bH.1 hp1 f hfm) (λm hm=>hwt m ?_);simp only[DataW.weights,hu];exact yk (i:=i) (t:=f.type) (d:=xs[i].1) (by simp[hi]) (by simp[bC hlt]) hm)
    simpa using this
   case array n e=>
    obtain⟨hp1,hp2⟩:=Bool.and_eq_true_iff.1 hp;cases fuel with
    |zero=>simp[DataW.trod]at h
    |succ m=>
     unfold DataW.trod at h;simp only[hu]at h;have harr:cs.length=P.cellsOf t/\∃xs,(List.range n).mapM (λi=>DataW.trod enc P w 0 (λ_=>true) true m e ((cs.drop (i*P.cellsOf e)).take (P.cellsOf e)))=some xs/\x.1 = .agg (xs.map (·.1)):=by
      split at h
      .rename_i hl;simp only[ca]at h;obtain⟨xs,h1,h2⟩:=h;exact⟨hl,xs,h1,by rw[<- h2]⟩
      cases h
     obtain⟨hl,xs,hx,hx1⟩:=harr;have hwx:∀y∈xs,∀k∈y.1.weights P e,k<=reachBytes:=λy hy k hk=>hwt k (by rw[hx1];simp only[DataW.weights,hu];exact yl (gm.2 ⟨y,hy,rfl⟩) hk);have:=GB (w:=w) (Q:=WT P D) (cs:=cs) (e:=e) (k:=P.cellsOf e) n 0 (by rw[hl];have:=(aW _ _).1 hp2;omega) (λi hi=>by obtain⟨y,hy,hym⟩:=mapM_mem' hx i ym;rw[aK];exact sZ D m e _ _ hy hp1 (hwx y hym));simpa using this
end
end Go.PW
namespace Go.PW
open Go.RowKit Go.ChangeShapes Go.WideShapes Go.ChangeAt
def oneT:List U->PV
 |[x] =>.t x
 |_ =>.nils
def Z8w(P:Program)(t:TypeId)(ts:List U):PV:=
 match P.underlying t with
 |some (.struct _) =>.agg (ts.map .t)
 |some (.array _ _) =>.agg (ts.map .t)
 |_=>oneT ts
section
variable {H:Type} {enc:TypeId×Value->H} {P:Program} {w:World}
def UV{D base:Nat}{t:TypeId}{v:Value}{d:DataW H}{p:List MemPlace}(hval:Value.okWide P w .any base t v)(hd:DataW.Trod enc P w 0 (λ_=>true) true t v d p)(hp:iS P D t=true)(hwt:∀n∈d.weights P t,n<=reachBytes) :
 ∃ts,VR (Rd w) (Z8w P t ts) v/\WT P D t ts:=by
 obtain⟨fuel,hd⟩:=hd;obtain⟨ts,hr,hw⟩:=sZ D fuel t _ _ hd hp hwt;refine⟨ts,?_,hw⟩;unfold Z8w;unfold Value.okWide at hval;have one:∀u,v.cells.toList=[u]->(∀cs,v ≠ .agg cs)->u=v:=by intro u hu hne;cases v<;>first|exact absurd rfl (hne _)|(simp[Value.cells]at hu;exact hu.symm)
 have key:(∀cs,v ≠ .agg cs)->(∃x,ts=[x])->VR (Rd w) (oneT ts) v:=by rintro hne ⟨x,rfl⟩;simp only[cu,fx,VRs]at hr;obtain⟨u,rest,he,hv,hrest⟩:=hr;subst hrest;have:=one u he hne;subst this;exact hv
 cases D with
 |zero=>simp[iS]at hp
 |succ D=>
  unfold WT at hw;unfold iS at hp;cases hu:P.underlying t with
  |none=>simp[hu]at hp
  |some u=>
   simp only[hu]at hp hval hw⊢;cases u<;>simp only[fa]at hp hval hw⊢
   case struct fs=>
    obtain⟨cs,rfl,_⟩:=hval;simp only[VR];exact⟨cs.toList,by simp,by simpa[Value.cells]using hr⟩
   case array n e=>
    obtain⟨cs,rfl,_⟩:=hval;simp only[VR];exact⟨cs.toList,by simp,by simpa[Value.cells]using hr⟩
   all_goals
    refine key (λcs e=>?_) ?_
    .subst e;simp[Cell.okWide,Cell.ok,hu]at hval
    first
    |(obtain⟨b,hb⟩:=hw;exact⟨_,hb⟩)
    |(obtain⟨b,hb,_⟩:=hw;exact⟨_,hb⟩)
def D8{f:FuncId}{qs:List PV}{W:World}{args:Array Value}(hgl:oh W)(hf:Fn P f qs (.t (.bool true)))(hv:VRs (Rd W) qs args.toList) :
 Calls P f args W λe W'=>e = .returned (.bool true)/\Below W.heap.size W W':=by
 have:=AV hf (λb=>b<W.heap.size) (λb hb=>hb) (λg k hg=>(hgl g k hg).1) (w:=W) (vals:=args.toList) hgl hv;rw[Array.toArray_toList]at this;refine this.mono ?_;rintro e W' ⟨v,rfl,hr,hs,hb,h1,h2,h3⟩;simp only[VR,Z6]at hr;subst hr;exact⟨rfl,h1,h2,h3,hs,hb⟩
end
end Go.PW
namespace Go.PW
open Go.RowKit
def eS{n:Int}(h0 : -9223372036854775808<=n)(h1:n<9223372036854775808):IntKind.wrap .i64 n=n:=by
 simp only[IntKind.wrap,IntKind.bits,IntKind.signed,gk,kM,fF];rcases Int.lt_or_le n 0 with h|h
 .have:n%(2 ^ 64:Int)=n+2 ^ 64:=by
   rw[<- Int.add_emod_right];exact Int.emod_eq_of_lt O O
  rw[this,bB O];omega
 have:n%(2 ^ 64:Int)=n:=Int.emod_eq_of_lt h O;rw[this,bl O]
def Ck{i n:Nat}(h:i<n)(hn:n<=4611686018427387904):IntKind.wrap .i64 ((i:Int)+1)=((i+1:Nat):Int):=by rw[eS O O];omega
def jb{α:Type}{b:List α}{j:Nat}{x:α}(h:b[j]?=some x):idx? b (j:Int)=some x:=by unfold idx?;rw[bB O];simpa using h
def UU{α:Type}{k:Nat}{a b:List α}(h:(a.length+b.length)*k<=140737488355328)(hk:0<k):app? k a b=some (a++b):=by have:a.length+b.length<=(a.length+b.length)*k:=sW _ hk;unfold app?;rw[bB ⟨h,by omega⟩]
def scan{S R:Type}{step:S->Option (S⊕R)}{st:Nat->S}{bad:R}(n:Nat)(q:Nat->Bool)(h:∀i,i<n->step (st i)=some (bif q i then .inl (st (i+1))else .inr bad)) :
 cb step (st 0)=bif (List.range n).all q then cb step (st n)else some bad:=by
 have key:∀(d i:Nat),i+d=n->cb step (st i)=bif (List.range' i d).all q then cb step (st n)else some bad:=by
  intro d;induction d with
  |zero=>intro i hi;rw[show i=n by omega];rfl
  |succ d ih=>
   intro i hi;rw[vW,h i O,List.range'_succ,iZ];cases hq:q i with
   |true=>simp only[aD,gk];exact ih (i+1) O
   |false=>rfl
 rw[key n 0 O,List.range_eq_range']
def ox(k:IntKind)(x y:Int)(r s:List U):ax (cI k x++r) (cI k y++s)=(decide (x=y)&&ax r s):=by simp only[cI,eP,iD,ax,gE];try rfl
def PE(x y:List UInt8)(r s:List U):ax (cS x++r) (cS y++s)=(decide (x=y)&&ax r s):=by
 simp only[cS,eP,iD,ax,gE];congr 1;by_cases h:x=y
 .subst h;simp
 rw[bY h];exact sX.2 h
def wz{α:Type} [DecidableEq α] {f:α->List U} (hf:∀x y r s,ax (f x++r) (f y++s)=(decide (x=y)&&ax r s)) (x y:α):ax (f x) (f y)=decide (x=y):=by have:=hf x y [] [];simpa[ax]using this
section
variable {P:Program}
def Z7{t:TypeId}{k:IntKind}(hu:P.underlying t=some (.int k))(d:Nat)(ts:List U)(h:WT P d t ts):∃n,ts=cI k n/\(k.min<=n/\n<=k.max):=by
 cases d with
 |zero=>cases h
 |succ d=>
  simp only[WT,hu]at h;obtain⟨n,rfl,h⟩:=h;simp only[Lit.wf,aM,fF]at h;exact⟨n,rfl,h⟩
def eL{t:TypeId}(hu:P.underlying t=some .bool)(d:Nat)(ts:List U)(h:WT P d t ts):∃b,ts=cB b/\True:=by
 cases d with
 |zero=>cases h
 |succ d=>
  simp only[WT,hu]at h;obtain⟨b,rfl⟩:=h;exact⟨b,rfl,aa⟩
def oY{t:TypeId}(hu:P.underlying t=some .string)(d:Nat)(ts:List U)(h:WT P d t ts):∃s,ts=cS s/\s.length<=reachBytes:=by
 cases d with
 |zero=>cases h
 |succ d=>
  simp only[WT,hu]at h;obtain⟨b,rfl,_,h⟩:=h;exact⟨b,rfl,h⟩
def OkL{α:Type}(k:Nat)(ok:α->Prop)(xs:List α):Prop:=xs.length*k<=reachBytes/\∀x,x∈xs->ok x
def dR{α:Type}{f:α->List U}{ok:α->Prop}{t e k:Nat}(hu:P.underlying t=some (.slice e))(hb:P.bytesOf e=k)(he:∀d ts,WT P d e ts->∃x,ts=f x/\ok x)(d:Nat)(ts:List U)(h:WT P d t ts):∃xs,ts=cL f xs/\OkL k ok xs:=by
 cases d with
 |zero=>cases h
 |succ d=>
  simp only[WT,hu]at h;obtain⟨es,rfl,⟨_,h1⟩,h2⟩:=h;have:∀es:List (List U),(∀el∈es,WT P d e el)->∃xs:List α,es=List.map f xs/\∀x∈xs,ok x:=by
   intro es;induction es with
   |nil=>intro _;exact⟨[],rfl,λ_ h=>by cases h⟩
   |cons el es ih=>
    intro h;obtain⟨x,rfl,hx⟩:=he d el (h el aj);obtain⟨xs,rfl,hxs⟩:=ih (λel' hel=>h el' (cC _ hel));exact⟨x::xs,rfl,λy hy=>by
     rcases cA.1 hy with e|e
     .subst e;exact hx
     exact hxs y e⟩
  obtain⟨xs,rfl,hxs⟩:=this es h2;exact⟨xs,rfl,by rw[db,hb]at h1;exact h1,hxs⟩
def OkA3{α:Type}(ok:α->Prop)(x:A3 α):Prop:=ok x.a0/\ok x.a1/\ok x.a2
def OkA5{α:Type}(ok:α->Prop)(x:A5 α):Prop:=ok x.a0/\ok x.a1/\ok x.a2/\ok x.a3/\ok x.a4
def OkA6{α:Type}(ok:α->Prop)(x:A6 α):Prop:=ok x.a0/\ok x.a1/\ok x.a2/\ok x.a3/\ok x.a4/\ok x.a5
def Gw{α:Type}{f:α->List U}{ok:α->Prop}{t e:Nat}(hu:P.underlying t=some (.array 3 e))(he:∀d ts,WT P d e ts->∃x,ts=f x/\ok x)(d:Nat)(ts:List U)(h:WT P d t ts):∃x,ts=cA3 f x/\OkA3 ok x:=by
 cases d with
 |zero=>cases h
 |succ d=>
  simp only[WT,hu,List.replicate,Seq]at h;obtain⟨_,_,rfl,h0,_,_,rfl,h1,_,_,rfl,h2,rfl⟩:=h;obtain⟨x0,rfl,o0⟩:=he d _ h0;obtain⟨x1,rfl,o1⟩:=he d _ h1;obtain⟨x2,rfl,o2⟩:=he d _ h2;exact⟨⟨x0,x1,x2⟩,by simp[cA3],o0,o1,o2⟩
def UB{α:Type}{f:α->List U}{ok:α->Prop}{t e:Nat}(hu:P.underlying t=some (.array 5 e))(he:∀d ts,WT P d e ts->∃x,ts=f x/\ok x)(d:Nat)(ts:List U)(h:WT P d t ts):∃x,ts=cA5 f x/\OkA5 ok x:=by
 cases d with
 |zero=>cases h
 |succ d=>
  simp only[WT,hu,List.replicate,Seq]at h;obtain⟨_,_,rfl,h0,_,_,rfl,h1,_,_,rfl,h2,_,_,rfl,h3,_,_,rfl,h4,rfl⟩:=h;obtain⟨x0,rfl,o0⟩:=he d _ h0;obtain⟨x1,rfl,o1⟩:=he d _ h1;obtain⟨x2,rfl,o2⟩:=he d _ h2;obtain⟨x3,rfl,o3⟩:=he d _ h3;obtain⟨x4,rfl,o4⟩:=he d _ h4;exact⟨⟨x0,x1,x2,x3,x4⟩,by simp[cA5],o0,o1,o2,o3,o4⟩
def Gv{α:Type}{f:α->List U}{ok:α->Prop}{t e:Nat}(hu:P.underlying t=some (.array 6 e))(he:∀d ts,WT P d e ts->∃x,ts=f x/\ok x)(d:Nat)(ts:List U)(h:WT P d t ts):∃x,ts=cA6 f x/\OkA6 ok x:=by
 cases d with
 |zero=>cases h
 |succ d=>
  simp only[WT,hu,List.replicate,Seq]at h;obtain⟨_,_,rfl,h0,_,_,rfl,h1,_,_,rfl,h2,_,_,rfl,h3,_,_,rfl,h4,_,_,rfl,h5,rfl⟩:=h;obtain⟨x0,rfl,o0⟩:=he d _ h0;obtain⟨x1,rfl,o1⟩:=he d _ h1;obtain⟨x2,rfl,o2⟩:=he d _ h2;obtain⟨x3,rfl,o3⟩:=he d _ h3;obtain⟨x4,rfl,o4⟩:=he d _ h4;obtain⟨x5,rfl,o5⟩:=he d _ h5;exact⟨⟨x0,x1,x2,x3,x4,x5⟩,by simp[cA6],o0,o1,o2,o3,o4,o5⟩
def mz{H:Type}{enc:TypeId×Value->H}{w:World}{α:Type}{f:α->List U}{ok:α->Prop}{base D t:Nat}{v:Value}{d:DataW H}{p:List MemPlace}(he:∀d ts,WT P d t ts->∃x,ts=f x/\ok x)(hp:iS P D t=true)
 (hval:Value.okWide P w .any base t v) (hd:DataW.Trod enc P w 0 (λ_=>true) true t v d p) (hwt:∀n∈d.weights P t,n<=reachBytes):∃x,ok x/\VR (Rd w) (Z8w P t (f x)) v:=by
 obtain⟨ts,hv,hw⟩:=UV hval hd hp hwt;obtain⟨x,rfl,hx⟩:=he D ts hw;exact⟨x,hx,hv⟩
def Z3g{t:Nat}{fs:Array Field}(hu:P.underlying t=some (.struct fs))(ts:List U):Z8w P t ts = .agg (ts.map .t):=by simp[Z8w,hu]
def D7{α:Type}{f:α->List U}{t e:Nat}(hu:P.underlying t=some (.slice e))(xs:List α):Z8w P t (cL f xs) = .t (.sl (List.map f xs)):=by simp[Z8w,hu,oneT,cL]
end
def mA{H:Type}{P:Program}{ts:List TypeId}{ds:List (DataW H)}(h:(DataW.weightsEach P ts ds).all (· <= reachBytes)=true){i t:Nat}{d:DataW H}(ht:ts[i]?=some t)(hd:ds[i]?=some d):∀n∈d.weights P t,n<=reachBytes:=by intro n hn;have:=bH.1 h n (yk ht hd hn);simpa using this
end Go.PW
namespace Go.PW
def jc{S R:Type}(step:S->Option (S⊕R))(r:R):dV step (.inr r)=some r:=rfl
def ml{S R:Type}(step:S->Option (S⊕R))(s:S):dV step (.inl s)=cb step s:=rfl
def rf(a b:Int):(a==b)=decide (a=b):=rfl
def WQ(a b:Int):(a != b)=decide (a≠b):=by show(!(decide (a=b)))=_;by_cases h:a=b<;>simp[h]
def Ct(a b:List UInt8):(a==b)=decide (a=b):=by
 by_cases h:a=b
 .subst h;simp
 rw[bY h];exact sX.2 h
def Z8x{S R α:Type}{step:S->Option (S⊕R)}{st:Nat->S}{bad:R}:∀(xs:List α) (p:α->Bool) (_:∀i x,xs[i]?=some x->step (st i)=some (bif p x then .inl (st (i+1))else .inr bad)),
 cb step (st 0)=bif xs.all p then cb step (st xs.length)else some bad
 |[],_,_=>rfl
 |x::xs,p,h=>by
  have h0:=h 0 x rfl;cases hp:p x with
  |false=>
   simp only[hp,aB]at h0;rw[fG h0];simp[hp]
  |true=>
   simp only[hp,aD]at h0;rw[jf h0,Z8x (st:=λi=>st (i+1)) xs p (λi y hy=>h (i+1) y tC)];simp[hp]
def u3{S R α:Type}{step:S->Option (S⊕R)}:∀(xs:List α) (st:Nat->S) (hit:Nat->R) (p:α->Bool) (_:∀i x,xs[i]?=some x->step (st i)=some (bif p x then .inr (hit i)else .inl (st (i+1)))),
 (xs.any p=true/\∃i,i<xs.length/\cb step (st 0)=some (hit i))\/(xs.any p=false/\cb step (st 0)=cb step (st xs.length))
 |[],_,_,_,_ =>.inr ⟨rfl,rfl⟩
 |x::xs,st,hit,p,h=>by
  have h0:=h 0 x rfl;cases hp:p x with
  |true=>
   simp only[hp,aD]at h0;exact .inl ⟨by simp[hp],0,by simp,fG h0⟩
  |false=>
   simp only[hp,aB]at h0;rcases u3 xs (λi=>st (i+1)) (λi=>hit (i+1)) p (λi y hy=>h (i+1) y tC)with⟨h1,i,h2,h3⟩|⟨h1,h2⟩
   .exact .inl ⟨by simp[hp,h1],i+1,by simpa using h2,by rw[jf h0];exact h3⟩
   exact .inr ⟨by simp[hp,h1],by rw[jf h0];exact h2⟩
def sY{S R β:Type}{step:S->Option (S⊕R)}{st:Nat->β->S}{Q:Nat->β->Prop}{post:R->Prop}(n:Nat)
 (h:∀i b,i<n->Q i b->(∃b',step (st i b)=some (.inl (st (i+1) b'))/\Q (i+1) b')\/∃r,step (st i b)=some (.inr r)/\post r)
 (hend:∀b,Q n b->∃r,cb step (st n b)=some r/\post r):∀b,Q 0 b->∃r,cb step (st 0 b)=some r/\post r:=by
 have key:∀d i b,i+d=n->Q i b->∃r,cb step (st i b)=some r/\post r:=by
  intro d;induction d with
  |zero =>
   intro i b hi hq;obtain rfl:i=n:=bP
   exact hend b hq
  |succ d ih=>
   intro i b hi hq;rcases h i b O hq with⟨b',h1,h2⟩|⟨r,h1,h2⟩
   .rw [jf h1];exact ih (i+1) b' O h2
   exact⟨r,fG h1,h2⟩
 exact λb hq=>key n 0 b O hq
section
variable {S:Type} {step:S->Option (S⊕Bool)} {b r:Bool} {k:Option (S⊕Bool)}
def Z6t(h:b=true->k.bind (dV step)=some r):(bif !b then some (.inr false)else k).bind (dV step)=some (b&&r):=by
 cases b
 .rfl
 simpa using h rfl
def Z6u(h:b=true->k.bind (dV step)=some r):(bif b then k else some (.inr false)).bind (dV step)=some (b&&r):=by
 cases b
 .rfl
 simpa using h rfl
def cw(h:b=false->k.bind (dV step)=some r):(bif b then some (.inr false)else k).bind (dV step)=some (!b&&r):=by
 cases b
 .simpa using h rfl
 rfl
end
def M7{a b:Nat}(ha:a<2 ^ 62)(hb:b<2 ^ 62):bI .and .i64 (a:Int) (b:Int)=((a &&& b:Nat):Int):=by have hle:a &&& b<=a:=Nat.and_le_left;unfold bI;show IntKind.wrap .i64 (((BitVec.ofInt 64 (a:Int) &&& BitVec.ofInt 64 (b:Int)).toNat:Nat):Int)=_;rw[BitVec.ofInt_natCast,BitVec.ofInt_natCast,BitVec.toNat_and,BitVec.toNat_ofNat,BitVec.toNat_ofNat,oJ O,oJ O];exact eS O O
def Z0c:Nat->Nat->Nat->Bool
 |0,_,_=>true
 |n+1,a,b=>if a%2=1/\b%2=1 then false else Z0c n (a/2) (b/2)
def K2:∀(n a b:Nat),Z0c n a b=true↔∀i,i<n->¬(a.testBit i=true/\b.testBit i=true)
 |0,a,b=>by simp[Z0c]
 |n+1,a,b=>by
  unfold Z0c;have h0:∀x:Nat,x.testBit 0=true↔x%2=1:=λx=>by simp[Nat.testBit_zero]
  by_cases h:a%2=1/\b%2=1
  .rw [bB h];constructor
   .intro h';cases h'
   intro h';exact absurd ⟨(h0 a).2 h.1,(h0 b).2 h.2⟩ (h' 0 O)
  rw[bl h,K2 n];constructor
  .intro h' i hi;cases i with
   |zero=>rw[h0,h0];exact h
   |succ i=>rw[um,um];exact h' i O
  intro h' i hi;have:=h' (i+1) O;rwa[um,um]at this
def M5{n a b:Nat}(ha:a<2 ^ n):Z0c n a b=decide ((a &&& b:Nat)=0):=by
 rw[kK,K2,fF];constructor
 .intro h;refine Nat.eq_of_testBit_eq λi=>?_;rw[Nat.testBit_and,Nat.zero_testBit];by_cases hi:i<n
  .have:=h i hi;cases h1:a.testBit i<;>cases h2:b.testBit i<;>simp_all
  rw[Nat.testBit_lt_two_pow (dz ha (Nat.pow_le_pow_right aH (Nat.le_of_not_lt hi))),tG]
 intro h i _ ⟨h1,h2⟩;have:(a &&& b).testBit i=true:=by rw[Nat.testBit_and,h1,h2];rfl
 rw[h,Nat.zero_testBit]at this;cases this
def Cw(a:Nat)(h:a<2 ^ 62):ff .i64 (a:Int) 2=((a/2:Nat):Int):=by unfold ff;rw[show(2:Int)=((2:Nat):Int)from rfl,<- Int.ofNat_tdiv];exact eS O O
def Cv(a:Nat):(Int.tmod (a:Int) 2==1)=decide (a%2=1):=by rw[show(2:Int)=((2:Nat):Int)from rfl,<- Int.ofNat_tmod];rw[rf,decide_eq_decide];omega
end Go.PW
namespace Go.PW
def Tot{α:Type}(o:Option α)(Q:α->Prop):Prop:=∃a,o=some a/\Q a
def Tot.mono{α:Type}{o:Option α}{P Q:α->Prop}(h:Tot o P)(f:∀a,P a->Q a):Tot o Q:=by obtain⟨a,h1,h2⟩:=h;exact⟨a,h1,f a h2⟩
def tB{α β:Type}{o:Option α}{k:α->Option β}{P:α->Prop}{Q:β->Prop}(h:Tot o P)(f:∀a,P a->Tot (k a) Q):Tot (o.bind k) Q:=by obtain⟨a,rfl,h2⟩:=h;exact f a h2
def tF{α:Type}{b:Bool}{x y:Option α}{Q:α->Prop}(h:b=true->Tot x Q)(g:b=false->Tot y Q):Tot (bif b then x else y) Q:=by
 cases b
 .exact g rfl
 exact h rfl
def Tot.eq{α:Type}{o:Option α}{a:α}(h:Tot o (λx=>x=a)):o=some a:=by obtain⟨x,h1,rfl⟩:=h;exact h1
def tI{α:Type}{xs:List α}{i:Int}(h0:0<=i)(h1:i<xs.length):Tot (idx? xs i) λx=>x∈xs/\xs[i.toNat]?=some x:=by have h:=bC (show i.toNat<xs.length by omega);refine⟨xs[i.toNat],?_,mj _,h⟩;unfold idx?;rw[bB h0,h]
def tA{α:Type}{k:Nat}{a b:List α}(h:(a.length+b.length)*k<=140737488355328)(hk:0<k):Tot (app? k a b) λz=>z=a++b:=⟨_,UU h hk,rfl⟩
def Tot.some{α:Type}{o:Option α}{Q:α->Prop}(h:Tot o Q):∃a,o=some a:=by obtain⟨a,h,_⟩:=h;exact⟨a,h⟩
def Tot.stop{S R:Type}{step:S->Option (S⊕R)}{s:S}{r:R}{Q:R->Prop}(h:step s = .some (.inr r))(hq:Q r):Tot (cb step s) Q:=⟨r,fG h,hq⟩
abbrev M6:=Nat×Nat×Nat×Nat×Nat×Nat
def lt6(x y:M6):Prop:=x.1<y.1\/(x.1=y.1/\(x.2.1<y.2.1\/(x.2.1=y.2.1/\(x.2.2.1<y.2.2.1\/(x.2.2.1=y.2.2.1/\(x.2.2.2.1<y.2.2.2.1\/(x.2.2.2.1=y.2.2.2.1/\(x.2.2.2.2.1<y.2.2.2.2.1\/(x.2.2.2.2.1=y.2.2.2.2.1/\x.2.2.2.2.2<y.2.2.2.2.2)))))))))
def le6(x y:M6):Prop:=lt6 x y\/(x.1=y.1/\x.2.1=y.2.1/\x.2.2.1=y.2.2.1/\x.2.2.2.1=y.2.2.2.1/\x.2.2.2.2.1=y.2.2.2.2.1/\x.2.2.2.2.2=y.2.2.2.2.2)
def WN{x y z:M6}(h:lt6 x y)(g:le6 y z):lt6 x z:=by unfold le6 lt6 at g;unfold lt6 at *;omega
def WO:WellFounded lt6:=by
 have h:WellFounded (Prod.Lex (λa b:Nat=>a<b) (Prod.Lex (λa b:Nat=>a<b) (Prod.Lex (λa b:Nat=>a<b) (Prod.Lex (λa b:Nat=>a<b) (Prod.Lex (λa b:Nat=>a<b) (λa b:Nat=>a<b)))))):=(Prod.lex ⟨_,Nat.lt_wfRel.wf⟩ (Prod.lex ⟨_,Nat.lt_wfRel.wf⟩ (Prod.lex ⟨_,Nat.lt_wfRel.wf⟩ (Prod.lex ⟨_,Nat.lt_wfRel.wf⟩ (Prod.lex ⟨_,Nat.lt_wfRel.wf⟩ ⟨_,Nat.lt_wfRel.wf⟩))))).wf;refine Subrelation.wf ?_ h;rintro⟨a1,a2,a3,a4,a5,a6⟩ ⟨b1,b2,b3,b4,b5,b6⟩ h;unfold lt6 at h;simp only at h;rcases h with h|⟨rfl,h|⟨rfl,h|⟨rfl,h|⟨rfl,h|⟨rfl,h⟩⟩⟩⟩⟩
 .exact .left _ _ h
 .exact .right _ (.left _ _ h)
 .exact .right _ (.right _ (.left _ _ h))
 .exact .right _ (.right _ (.right _ (.left _ _ h)))
 .exact .right _ (.right _ (.right _ (.right _ (.left _ _ h))))
 exact .right _ (.right _ (.right _ (.right _ (.right _ h))))
def Nx{S R:Type}(Inv:S->Prop)(μ:S->M6)(m:M6)(post:R->Prop):S⊕R->Prop
 |.inl s=>Inv s/\lt6 (μ s) m
 |.inr r=>post r
section
variable {S R:Type} {Inv:S->Prop} {μ:S->M6} {m m':M6} {post:R->Prop}
def tL{s:S}(h:Inv s)(hm:lt6 (μ s) m):Tot (.some (.inl s)) (Nx Inv μ m post):=⟨_,rfl,h,hm⟩
def tR{r:R}(h:post r):Tot (.some (.inr r)) (Nx Inv μ m post):=⟨_,rfl,h⟩
def Tot.join{o:Option (S⊕R)}(h:Tot o (Nx Inv μ m' post))(hm:le6 m' m):Tot o (Nx Inv μ m post):=h.mono λy hy=>by
 cases y with
 |inl s=>exact⟨hy.1,WN hy.2 hm⟩
 |inr r=>exact hy
def Tot.fin{step:S->Option (S⊕R)}{o:Option (S⊕R)}(h0:Tot o (Nx Inv μ m post))(hs:∀s,Inv s->Tot (step s) (Nx Inv μ (μ s) post)):Tot (o.bind (dV step)) post:=by
 have key:∀x:M6,∀s,μ s=x->Inv s->Tot (cb step s) post:=λx=>WO.induction (C:=λx=>∀s,μ s=x->Inv s->Tot (cb step s) post) x (λx ih s hx hi=>by
  subst hx;obtain⟨y,h1,h2⟩:=hs s hi;cases y with
  |inl s'=>rw[jf h1];exact ih _ h2.2 s' rfl h2.1
  |inr r=>exact⟨r,fG h1,h2⟩)
 obtain⟨y,rfl,h2⟩:=h0;cases y with
 |inl s=>exact key _ s rfl h2.1
 |inr r=>exact⟨r,rfl,h2⟩
end
def tD{α:Type}{p:Prop} [Decidable p] {x y:Option α} {Q:α->Prop} (h:p->Tot x Q) (g:¬p->Tot y Q):Tot (bif decide p then x else y) Q:=by
 by_cases hp:p
 .rw [bW hp];exact h hp
 rw[bY hp];exact g hp
def tE{α:Type}{a b:Int}{x y:Option α}{Q:α->Prop}(h:a=b->Tot x Q)(g:a≠b->Tot y Q):Tot (bif (a==b)then x else y) Q:=by rw[rf];exact tD h g
def tN{α:Type}{a b:Int}{x y:Option α}{Q:α->Prop}(h:a≠b->Tot x Q)(g:a=b->Tot y Q):Tot (bif (a != b)then x else y) Q:=by rw[WQ];exact tD h (λe=>g O)
def tO{α:Type}{b:Bool}{x y:Option α}{Q:α->Prop}(h:b=false->Tot x Q)(g:b=true->Tot y Q):Tot (bif !b then x else y) Q:=by
 cases b
 .exact h rfl
 exact g rfl
def tK{p:Prop} [Decidable p] (h:p):Tot (ok? (decide p)) λ_=>p:=⟨(),by rw[bW h];rfl,h⟩
def Tot.slice{α:Type}{xs:List α}{l h:Int}(h0:0<=l)(h1:l<=h)(h2:h<=xs.length):Tot (slice? xs l h) λz=>(z.length:Int)=h-l/\(∀x,x∈z->x∈xs)/\z=(xs.take h.toNat).drop l.toNat:=by
 refine⟨(xs.take h.toNat).drop l.toNat,?_,?_,λx hx=>jz (lC hx),rfl⟩
 .unfold slice?;rw[bB ⟨h0,h1,h2⟩]
 rw[jx,la];omega
def Tot.copy{α:Type}{x y:List α}(h:y.length<=x.length):Tot (copy? x y) λz=>z.length=x.length/\(∀e,e∈z->e∈y\/e∈x)/\z=y++x.drop y.length:=by
 refine⟨y++x.drop y.length,?_,?_,λe he=>?_,rfl⟩
 .unfold copy?;rw[bB h]
 .rw [bn,jx];omega
 rcases cN.1 he with h|h
 .exact .inl h
 exact .inr (lC h)
def Tot.set{α:Type}{z:List α}{i:Int}{x:α}(h0:0<=i)(h1:i<z.length):Tot (set? z i x) λy=>y.length=z.length/\(∀e,e∈y->e=x\/e∈z)/\y=z.set i.toNat x:=by
 refine⟨z.set i.toNat x,?_,pb ..,λe he=>?_,rfl⟩
 .unfold set?;rw[bB ⟨h0,by omega⟩]
 rcases pk he with h|h
 .exact .inr h
 exact .inl h
def Tot.bytes{s:List UInt8}(h:s.length<=9223372036854775807):Tot (bytes? s) λz=>z.length=s.length:=by unfold bytes?;rw[bB h];exact⟨_,rfl,db ..⟩
def Tot.str{xs:List Int}(h:xs≠[])(h2:∀n,n∈xs->0<=n/\n<256):Tot (str? xs) λs=>s.length=xs.length:=by unfold str?;rw[bB ⟨h,h2⟩];exact⟨_,rfl,db ..⟩
def Tot.setA5{α:Type}{x:A5 α}{i:Int}{v:α}(h0:0<=i)(h1:i<5):Tot (x.set? i v) λy=>y.list=x.list.set i.toNat v:=OY h0 h1
def WR(n:Int):(-9223372036854775808<=n->n<9223372036854775808->IntKind.wrap .i64 n=n):=λh1 h2=>eS h1 h2
def WS(n:Int) : -9223372036854775808<=IntKind.wrap .i64 n/\IntKind.wrap .i64 n<9223372036854775808:=by simp only[IntKind.wrap,IntKind.bits,IntKind.signed,gk,kM,fF];have h1:=Int.emod_nonneg n (show(2 ^ 64:Int)≠0 by decide);have h2:=Int.emod_lt_of_pos n (show(0:Int)<2 ^ 64 by decide);split<;>omega
def Ac(n:Int):0<=IntKind.wrap .u64 n/\IntKind.wrap .u64 n<18446744073709551616:=by simp only[IntKind.wrap,IntKind.bits,IntKind.signed];have h1:=Int.emod_nonneg n (show(2 ^ 64:Int)≠0 by decide);have h2:=Int.emod_lt_of_pos n (show(0:Int)<2 ^ 64 by decide);simp only[tG,fa,fk];omega
def WU(n:Int):0<=IntKind.wrap .u8 n/\IntKind.wrap .u8 n<256:=by simp only[IntKind.wrap,IntKind.bits,IntKind.signed];have h1:=Int.emod_nonneg n (show(2 ^ 8:Int)≠0 by decide);have h2:=Int.emod_lt_of_pos n (show(0:Int)<2 ^ 8 by decide);simp only[tG,fa,fk];omega
def SzL{α:Type}(k:Nat)(P:α->Prop)(xs:List α):Prop:=xs.length*k<=140737488351232/\∀x,x∈xs->P x
def SzS(s:List UInt8):Prop:=s.length<=281474976710656
def SzT(s:List UInt8):Prop:=s.length<=562949953421312
def SzS.t{s:List UInt8}(h:SzS s):SzT s:=cQ h aH
def SzS.nil:SzS []:=gS _
def SzT.nil:SzT []:=gS _
def SzN(s:List UInt8):Prop:=s.length<=100
def SzN.t{s:List UInt8}(h:SzN s):SzT s:=cQ h aH
def SzN.s{s:List UInt8}(h:SzN s):SzS s:=cQ h aH
def SzN.nil:SzN []:=gS _
def shl_ne'{i:Int}(h0:0<=i)(h1:i<6):shlI .i64 1 i≠0:=by
 have:i=0\/i=1\/i=2\/i=3\/i=4\/i=5:=bP
 rcases this with h|h|h|h|h|h<;>subst h<;>decide
def tH{s:List UInt8}(h:s.length<=reachBytes):SzS s:=cQ h aH
def WV{s:List UInt8}(h:s.length<=reachBytes):SzT s:=cQ h aH
def dS{α:Type}{k:Nat}{P Q:α->Prop}{xs:List α}(h:OkL k P xs)(f:∀x,P x->Q x):SzL k Q xs:=⟨h.1,λx hx=>f x (h.2 x hx)⟩
def mem_cons'{α:Type}{P:α->Prop}{a:α}{l:List α}(h:P a)(g:∀x,x∈l->P x):∀x,x∈a::l->P x:=λx hx=>by
 rcases cA.1 hx with h'|h'
 .rw [h'];exact h
 exact g x h'
def SzL.nt{k:Nat}{xs:List (List UInt8)}(h:SzL k SzN xs):SzL k SzT xs:=⟨h.1,λx hx=>SzN.t (h.2 x hx)⟩
def SzL.nil{α:Type}{k:Nat}{P:α->Prop}:SzL k P ([]:List α):=⟨by simp,λx h=>by cases h⟩
def SzL.app{α:Type}{k:Nat}{P:α->Prop}{a b z:List α}(h:z=a++b)(hl:z.length*k<=140737488351232)(ha:∀x,x∈a->P x)(hb:∀x,x∈b->P x):SzL k P z:=⟨hl,λx hx=>by
 subst h;rcases cN.1 hx with h|h
 .exact ha x h
 exact hb x h⟩
end Go.PW
namespace Go.PW
def xX{α:Type}{l:List α}{v w:Int}{k:Nat}{x y:α}(h0:0<=v)(hw:w=v+1)(hk:(k:Int)<w)(hy:l[k]?=some y)(hx:l[v.toNat]?=some x):(k:Int)<v\/y=x:=by
 by_cases h:(k:Int)<v
 .exact .inl h
 right;have:k=v.toNat:=bP
 subst this;exact dA (hy.symm.trans hx)
def sM{α:Type}{l:List α}{v w:Int}{x:α}(hx:l[v.toNat]?=some x)(h0:0<=v)(hw:w=v+1):l.take w.toNat=l.take v.toNat++[x]:=by
 have:w.toNat=v.toNat+1:=bP
 rw[this,List.take_add_one,hx];rfl
def DI{α:Type}(b v:List α)(p:α->Bool)(i j:Int):Prop:=v.length=b.length/\0<=i/\i<=j/\v.take i.toNat=(b.take j.toNat).filter p/\v.drop j.toNat=b.drop j.toNat
def DI.at{α:Type}{b v:List α}{p:α->Bool}{i j:Int}{x:α}(h:DI b v p i j)(hx:v[j.toNat]?=some x):b[j.toNat]?=some x:=by
 have:(v.drop j.toNat)[0]?=(b.drop j.toNat)[0]?:=by rw[h.2.2.2.2]
 simpa[jK,hx]using this.symm
def Tot.we{α:Type}{o:Option α}{P:α->Prop}(h:Tot o P):Tot o λa=>P a/\o = .some a:=by obtain⟨a,h1,h2⟩:=h;exact⟨a,h1,h2,h1⟩
end Go.PW
namespace Go.PW
open Go.RowKit
inductive LT (S R:Type):Type 1 where
 |ret (r:R) (ds:List Orc)
 |go (s:S) (ds:List Orc)
 |jn (k:Nat) (s:S) (ds:List Orc) (t:LT S R)
 |br (b:Bool) (t e:LT S R)
 |cs (b:Bool) (t e:LT S R)
 |op {α:Type} (o:Option α) (xs:α->List Orc) (fs gs:α->List Prop) (h:∀x,o=some x->aI (fs x)/\aI (gs x)) (k:α->LT S R)
 |ev (xs:List Orc) (fs:List Prop) (h:aI fs) (t:LT S R)
 |us (ns:List Nat) (t:LT S R)
 |kn (ns:List Nat) (t:LT S R)
 |kg (n:Nat) (t:LT S R)
 |no
def LT.den{S R:Type}:LT S R->Option (S⊕R)
 |.ret r _=>some (.inr r)
 |.go s _=>some (.inl s)
 |.jn _ _ _ t=>t.den
 |.br b t e=>bif b then t.den else e.den
 |.cs b t e=>bif b then t.den else e.den
 |.op o _ _ _ _ k=>o.bind λx=>(k x).den
 |.ev _ _ _ t=>t.den
 |.us _ t=>t.den
 |.kn _ t=>t.den
 |.kg _ t=>t.den
 |.no=>none
inductive E:Type 2 where
 |done
 |fail
 |eq {α:Type} (a b:α) (r:E)
 |teq {α:Type 1} (a b:α) (r:E)
 |two (x y:E)
 |all {α:Type} (k:α->E)
inductive XE:Type 2 where
 |done
 |bad (b:Bool)
 |eq {α:Type} (a:α) (r:XE)
 |teq {α:Type 1} (a:α) (r:XE)
 |two (x y:XE)
 |all {α:Type} (k:α->XE)
noncomputable def E.l(e:E):XE:=E.rec (motive:=λ_=>XE) .done (.bad true) (λa _ _ r =>.eq a r) (λa _ _ r =>.teq a r) (λ_ _ x y =>.two x y) (λ_ k =>.all k) e
noncomputable def E.r(e:E):XE:=E.rec (motive:=λ_=>XE) .done (.bad false) (λ_ b _ r =>.eq b r) (λ_ b _ r =>.teq b r) (λ_ _ x y =>.two x y) (λ_ k =>.all k) e
def E.ok:E->Prop
 |.done=>True
 |.fail=>False
 |.eq a b r=>a=b/\r.ok
 |.teq a b r=>a=b/\r.ok
 |.two x y=>x.ok/\y.ok
 |.all k=>∀x,(k x).ok
def E.sound:∀e:E,e.l=e.r->e.ok
 |.done,_=>trivial
 |.fail,h=>dv
 |.eq a b r,h=>by have h:XE.eq a r.l=XE.eq b r.r:=h;simp only[XE.eq.injEq,heq_eq_eq,true_and]at h;exact⟨h.1,E.sound r h.2⟩
 |.teq a b r,h=>by have h:XE.teq a r.l=XE.teq b r.r:=h;simp only[XE.teq.injEq,heq_eq_eq,true_and]at h;exact⟨h.1,E.sound r h.2⟩
 |.two x y,h=>by have h:XE.two x.l y.l=XE.two x.r y.r:=h;simp only[XE.two.injEq]at h;exact⟨E.sound x h.1,E.sound y h.2⟩
 |.all k,h=>by have h:XE.all (λx=>(k x).l)=XE.all (λx=>(k x).r):=h;simp only[XE.all.injEq,heq_eq_eq,true_and]at h;exact λx=>E.sound (k x) (congrFun h x)
def cds:List Prop->List Prop->(List Prop->E)->E
 |[],fs,k=>k fs
 |p::ps,f::fs,k =>.eq p f (cds ps fs k)
 |_::_,[],_ =>.fail
def kD:∀{ps fs:List Prop} {k:List Prop->E},(cds ps fs k).ok->aI fs->∃fs',aI ps/\aI fs'/\(k fs').ok
 |[],fs,k,h,hf=>⟨fs,aa,hf,h⟩
 |p::ps,f::fs,k,h,hf=>by obtain⟨rfl,h⟩:=h;obtain⟨fs',h1,h2,h3⟩:=kD h hf.2;exact⟨fs',⟨hf.1,h1⟩,h2,h3⟩
 |_::_,[],_,h,_=>h.elim
inductive Sg where
 |cnd (e:Bool) (a b:Code) (K:List Kf)
 |at_ (g:Cfg)
abbrev Esg:=Option (List Prop×List Orc×Sg×St)
def BF(ps:List Prop):Esg->Esg
 |some (qs,xs,g,st)=>some (ps++qs,xs,g,st)
 |none=>none
def eO(P:Program)(T:TS):Nat->Option Code->List Kf->List Orc->Option Nat->St->Esg
 |0,_,_,_,_,_=>none
 |n+1,none,K,xs,sp,st=>
  match K with
  |[]=>some ([],xs,.at_ (.done .normal),st)
  |.seq c::K=>
   match sp,xs with
   |some 0,[]=>some ([],xs,.at_ (.code c K),st)
   |some (k+1),[]=>eO P T n (some c) K xs (some k) st
   |sp,xs=>eO P T n (some c) K xs sp st
  |.blk _::K=>eO P T n none K xs sp st
  |.scp::K=>eO P T n none K xs sp st
  |.loop c::K=>some ([],xs,.at_ (.head c K),st)
 |n+1,some c,K,xs,sp,st=>
  match c with
  |.skip=>eO P T n none K xs sp st
  |.label _=>eO P T n none K xs sp st
  |.region id ops draw=>
   match wv P T id ops draw xs st with
   |some (ps,xs',st')=>BF ps (eO P T n none K xs' sp st')
   |none=>none
  |.seq a b=>eO P T n (some a) (.seq b::K) xs sp st
  |.cond (.tmp t) a b=>
   match get st.tm t with
   |some (.t (.bool e))=>some ([],xs,.cnd e a b K,st)
   |_=>none
  |.cond (.const (.bool v)) a b=>eO P T n (some (bif v then a else b)) K xs sp st
  |.block id body=>eO P T n (some body) (.blk id::K) xs sp st
  |.loop body=>some ([],xs,.at_ (.head body K),st)
  |.scope body=>eO P T n (some body) (.scp::K) xs sp st
  |.exit id=>
   match lX id K with
   |some K'=>eO P T n none K' xs sp st
   |none=>none
  |.ret=>some ([],xs,.at_ (.done .ret),st)
  |_=>none
def seg(P:Program)(T:TS)(g:Cfg)(xs:List Orc)(sp:Option Nat)(st:St):Esg:=
 match g with
 |.code c K=>eO P T 400 (some c) K xs sp st
 |.head c K=>eO P T 400 (some c) (.loop c::K) xs sp st
 |.done _=>none
section
variable {P:Program} {T:TS} {R:Exit->St->Prop}
def ZG{qs ps:List Prop}{xs:List Orc}{r:Esg}{g:Sg}{st:St}(h:BF qs r=some (ps,xs,g,st)):∃ps',ps=qs++ps'/\r=some (ps',xs,g,st):=by
 unfold BF at h;split at h
 .cases h;exact⟨_,rfl,rfl⟩
 cases h
def Sg.holds(P:Program)(R:Exit->St->Prop)(st:St):Sg->Prop
 |.cnd e a b K=>PW P (bif e then a else b) (post P K R) st
 |.at_ g=>g.holds P R st
def gI(hm:P.follows .mixedOrders=true)(hT:TOK P T):∀(n:Nat) (oc:Option Code) (K:List Kf) (xs:List Orc) (sp:Option Nat) (st:St) {xs':List Orc} {st':St} {g:Sg} {ps:List Prop},
 eO P T n oc K xs sp st=some (ps,xs',g,st')->aI ps->g.holds P (dO R) st' ->
  match oc with
  |some c=>PW P c (post P K (dO R)) st
  |none=>post P K (dO R) .normal st
 |0,oc,K,xs,sp,st,xs',st',g,ps,h,_,_=>by simp[eO]at h
 |n+1,none,K,xs,sp,st,xs',st',g,ps,h,hc,hg=>by
  simp only[eO]at h;simp only;split at h
  .cases h;exact hg
  .simp only[post,jF];split at h
   .cases h;exact hg
   .exact gI hm hT n (some _) _ _ _ _ h hc hg
   exact gI hm hT n (some _) _ _ _ _ h hc hg
  .simp only[post,nc];exact gI hm hT n none _ _ _ _ h hc hg
  .simp only[post,NoGo];exact gI hm hT n none _ _ _ _ h hc hg
  cases h;simp only[post,jF];exact hg
 |n+1,some c,K,xs,sp,st,xs',st',g,ps,h,hc,hg=>by
  simp only[eO]at h;simp only;split at h
  .exact PW.skip (gI hm hT n none _ _ _ _ h hc hg)
  .exact PW.label (gI hm hT n none _ _ _ _ h hc hg)
  .split at h
   .rename_i ps1 xs1 st1 h1;obtain⟨ps2,rfl,h2⟩:=ZG h;obtain⟨c1,c2⟩:=bA.1 hc;exact Pl hm hT h1 c1 (gI hm hT n none _ _ _ _ h2 c2 hg)
   cases h
  .exact PW.seq Au
  .split at h
   .rename_i e he;cases h;have hg:PW P (bif e then _ else _) (post P K (dO R)) st:=hg;refine PW.cond rfl he (λhb=>?_) (λhb=>?_)
    .subst hb;exact hg
    subst hb;exact hg
   cases h
  .rename_i v a b;have:=gI hm hT n (some _) _ _ _ _ h hc hg;exact PW.condConst (λhb=>by subst hb;exact this) (λhb=>by subst hb;exact this)
  .exact PW.block Au
  .cases h;exact PW.loopHead hg
  .exact PW.scope Au
  .split at h
   .rename_i K' hu;exact PW.exit (ug hu (gI hm hT n none _ _ _ _ h hc hg))
   cases h
  .cases h;obtain⟨s2,hw2,hr⟩:=hg;exact PW.ret (ui ⟨s2,hw2,hr⟩)
  cases h
def uE(hm:P.follows .mixedOrders=true)(hT:TOK P T){g:Cfg}{xs xs':List Orc}{sp:Option Nat}{st st':St}{z:Sg}{ps:List Prop}(h:seg P T g xs sp st=some (ps,xs',z,st'))(hc:aI ps)(hg:z.holds P (dO R) st'):g.holds P (dO R) st:=by
 unfold seg at h;split at h
 .exact gI hm hT _ (some _) _ _ _ _ h hc hg
 .have:=gI hm hT _ (some _) _ _ _ _ h hc hg;exact PWL.round (by simpa only[post]using this)
 cases h
def Cfg.weaken{g:Cfg}{st st':St}(hw:Wk st st')(h:g.holds P (dO R) st'):g.holds P (dO R) st:=by
 cases g with
 |code c K=>exact PW.weaken hw h
 |head c K=>exact XD hw h
 |done e=>obtain⟨s,h1,h2⟩:=h;exact⟨s,hw.trans h1,h2⟩
end
structure LF (S R:Type) where
 f:Nat
 rs:List RV
 own:Bool
 dirs:S->List Nat
 stf:S->PW.St
 sr:R->List (Nat×Blk)
 res:R->PV
 body:S->LT S R
section
variable {S R:Type}
def fe(P:Program)(f:Nat):Code:=((P.funcs[f]?).bind (·.body)).getD .skip
def LF.cfg(F:LF S R)(P:Program)(s:S):Cfg:=(nav (F.dirs s) (fe P F.f) []).getD (.done .normal)
noncomputable def LF.step(F:LF S R)(s:S):Option (S⊕R):=(F.body s).den
noncomputable def LF.run(F:LF S R)(t:LT S R):Option R:=t.den.bind (dV F.step)
def Z8y{α:Type}:List (Nat×α)->List Nat
 |[]=>[]
 |(k,_)::r=>k::Z8y r
def kgo(P:Program)(T:TS)(kn:List (Bool×Bool)):List Nat->Cfg->List Orc->List Prop->PW.St->(Cfg->List Orc->List Prop->PW.St->E)->E
 |[],g,xs,fs,st,k=>k g xs fs st
 |n::ns,g,xs,fs,st,k=>
  match seg P T g xs none st with
  |some (ps,xs',.cnd c a b K,st')=>cds ps fs λfs'=>
   match n with
   |0=>bif c then kgo P T kn ns (.code a K) xs' fs' st' k else kgo P T kn ns (.code b K) xs' fs' st' k
   |i+1=>
    match kn[i]? with
    |some (d,v) =>.eq c d (bif v then kgo P T kn ns (.code a K) xs' fs' st' k else kgo P T kn ns (.code b K) xs' fs' st' k)
    |none =>.fail
  |_ =>.fail
def endE(P:Program)(T:TS)(sp:Option Nat)(g:Cfg)(xs:List Orc)(fs:List Prop)(st:PW.St)(ds:List Orc)(g1:Cfg)(st1:PW.St)(rest:E):E:=
 match seg P T g xs sp st with
 |some (ps,[],.at_ g',st')=>cds ps fs λfs'=>
  match ft st'.tm (Z8y st1.tm)with
  |some tm=>
   match b9 ds ⟨st'.n,tm,st'.Z⟩ with
   |some (qs,[],st2)=>cds qs fs' λ_=>
    match ft st2.tm (Z8y st1.tm),ft st2.Z (Z8y st1.Z)with
    |some tm2,some Z =>.eq (g',st2.n,tm2,Z) (g1,st1.n,st1.tm,st1.Z) rest
    |_,_ =>.fail
   |_ =>.fail
  |none =>.fail
 |_ =>.fail
def BG:Exit->Bool
 |.ret=>true
 |.normal=>true
 |_=>false
def retE(P:Program)(T:TS)(F:LF S R)(g:Cfg)(xs:List Orc)(fs:List Prop)(st:PW.St)(ds:List Orc)(r:R):E:=
 match seg P T g xs none st with
 |some (ps,[],.at_ (.done e),st')=>bif BG e then cds ps fs λfs'=>
  match b9 ds st' with
  |some (qs,[],st2)=>cds qs fs' λfs2=>
   bif F.own then
    match AY F.rs (Z8y (F.sr r)) st2 with
    |some (Z,p) =>.eq (Z,p) (F.sr r,F.res r) .done
    |none =>.fail
   else
    match AX F.rs st2 with
    |some (q2,p)=>cds q2 fs2 λ_ =>.eq (([]:List (Nat×Blk)),p) (F.sr r,F.res r) .done
    |none =>.fail
  |_ =>.fail
  else .fail
 |_ =>.fail
def brE(P:Program)(T:TS)(g:Cfg)(xs:List Orc)(fs:List Prop)(st:PW.St)(b:Bool)(x y:Cfg->List Orc->List Prop->PW.St->E):E:=
 match seg P T g xs none st with
 |some (ps,xs',.cnd c A B K,st')=>cds ps fs λfs' =>.eq c b (.two (x (.code A K) xs' fs' st') (y (.code B K) xs' fs' st'))
 |_ =>.fail
structure Kn where
 bs:List (Bool×Bool)
 gs:List Prop
structure Kn.OK (k:Kn):Prop where
 b:∀p∈k.bs,p.1=p.2
 g:∀p∈k.gs,p
def Lv:∀{ps:List Prop},aI ps->∀p∈ps,p
 |p::ps,h,q,hq=>by
  rcases cA.1 hq with rfl|hq
  .exact h.1
  exact Lv h.2 q hq
def qS(gs:List Prop):List Nat->Option (List Prop)
 |[]=>some []
 |n::ns=>
  match gs[n]?,qS gs ns with
  |some p,some ps=>some (p::ps)
  |_,_=>none
def Lw{gs:List Prop}(h:∀p∈gs,p):∀{ns:List Nat} {ps:List Prop},qS gs ns=some ps->aI ps
 |[],ps,hp=>by cases hp;trivial
 |n::ns,ps,hp=>by
  simp only[qS]at hp;split at hp
  .rename_i p qs h1 h2;cases hp;exact⟨h p (c7 h1),Lw h h2⟩
  cases hp
def Kn.OK.br{k:Kn}(h:k.OK)(b:Bool):(Kn.mk (k.bs++[(b,b)]) k.gs).OK:=⟨λp hp=>by
 rcases cN.1 hp with hp|hp
 .exact h.b p hp
 rw[kG.1 hp],h.g⟩
def Kn.OK.op{k:Kn}(h:k.OK){gs:List Prop}(hg:aI gs):(Kn.mk k.bs (k.gs++gs)).OK:=⟨h.b,λp hp=>by
 rcases cN.1 hp with hp|hp
 .exact h.g p hp
 exact Lv hg p hp⟩
noncomputable def chk(P:Program)(T:TS)(F:LF S R)(t:LT S R):Cfg->List Orc->List Prop->Kn->PW.St->E:=
 LT.rec (motive:=λ_=>Cfg->List Orc->List Prop->Kn->PW.St->E)
  (λr ds g xs fs _ st=>retE P T F g xs fs st ds r)
  (λs ds g xs fs _ st=>endE P T none g xs fs st ds (F.cfg P s) (F.stf s) .done)
  (λk s ds t _ g xs fs _ st=>endE P T (some k) g xs fs st ds (F.cfg P s) (F.stf s) (.teq t (F.body s) .done))
  (λb _ _ x y g xs fs kn st=>brE P T g xs fs st b (λg xs fs st=>x g xs fs ⟨kn.bs++[(b,true)],kn.gs⟩ st) (λg xs fs st=>y g xs fs ⟨kn.bs++[(b,false)],kn.gs⟩ st))
  (λb _ _ x y g xs fs kn st =>.two (x g xs fs ⟨kn.bs++[(b,true)],kn.gs⟩ st) (y g xs fs ⟨kn.bs++[(b,false)],kn.gs⟩ st))
  (λ_ X Fs Gs _ _ k g xs fs kn st =>.all λx=>k x g (xs++X x) (fs++Fs x) ⟨kn.bs,kn.gs++Gs x⟩ st)
  (λX Fs _ _ k g xs fs kn st=>k g (xs++X) (fs++Fs) kn st)
  (λns _ k g xs fs kn st=>match qS kn.gs ns with|some qs=>k g xs (fs++qs) kn st|none =>.fail)
  (λns _ k g xs fs kn st=>kgo P T kn.bs ns g xs fs st λg xs fs st=>k g xs fs kn st)
  (λn _ k g xs fs kn st=>match kn.bs[n]? with|some (d,v)=>k g (xs++[.br v]) (fs++[d=v]) kn st|none =>.fail)
  (λ_ _ _ _ _ =>.done)
  t
section
variable {P:Program} {T:TS} {Q:Exit->PW.St->Prop}
def qT(hm:P.follows .mixedOrders=true)(hT:TOK P T){kn:List (Bool×Bool)}(hk:∀p∈kn,p.1=p.2){k:Cfg->List Orc->List Prop->PW.St->E}(H:∀g xs fs st,(k g xs fs st).ok->aI fs->g.holds P (dO Q) st) :
 ∀(ns:List Nat) (g:Cfg) (xs:List Orc) (fs:List Prop) (st:PW.St),(kgo P T kn ns g xs fs st k).ok->aI fs->g.holds P (dO Q) st
 |[],g,xs,fs,st,h,hf=>H g xs fs st h hf
 |n::ns,g,xs,fs,st,h,hf=>by
  simp only[kgo]at h;split at h
  .rename_i ps xs' c a b K st' hs;obtain⟨fs',h1,h2,h3⟩:=kD h hf;refine uE hm hT hs h1 ?_;show PW P (bif c then a else b) (post P K (dO Q)) st';split at h3
   .cases c with
    |true=>exact qT hm hT hk H ns _ _ _ _ h3 h2
    |false=>exact qT hm hT hk H ns _ _ _ _ h3 h2
   split at h3
   .rename_i d v hd;obtain⟨rfl,h3⟩:=h3;have:c=v:=hk _ (c7 hd);subst this;cases c with
    |true=>exact qT hm hT hk H ns _ _ _ _ h3 h2
    |false=>exact qT hm hT hk H ns _ _ _ _ h3 h2
   exact h3.elim
  exact h.elim
def Lx(hm:P.follows .mixedOrders=true)(hT:TOK P T){sp:Option Nat}{g g1:Cfg}{xs:List Orc}{fs:List Prop}{st st1:PW.St}{ds:List Orc}{rest:E}(h:(endE P T sp g xs fs st ds g1 st1 rest).ok)(hf:aI fs):(g1.holds P (dO Q) st1->g.holds P (dO Q) st)/\rest.ok:=by
 unfold endE at h;split at h
 .rename_i ps g' st' hs;obtain⟨fs',h1,h2,h3⟩:=kD h hf;split at h3
  .rename_i tm ht;split at h3
   .rename_i qs st2 hd;obtain⟨fs2,h4,_,h5⟩:=kD h3 h2;split at h5
    .rename_i tm2 Z ht2 hσ;obtain⟨h6,h7⟩:=h5;refine⟨λhg=>uE hm hT hs h1 (show g'.holds P (dO Q) st' from ?_),h7⟩;simp only[bp]at h6;obtain⟨rfl,e1,e2,e3⟩:=h6;have hp:ft st'.Z (Z8y st'.Z)=ft st'.Z (Z8y st'.Z):=rfl;have w1:Wk st' ⟨st'.n,tm,st'.Z⟩:=λ_ _ _ ⟨β,h⟩=>⟨β,h.sub (bh _) (λi p hp=>⟨iJ ht i p hp,(h.tm i p (iJ ht i p hp)).1⟩) (λl o ho=>ho)⟩;have w2:=ea _ _ hd h4;have w3:Wk st2 ⟨st2.n,tm2,Z⟩:=λ_ _ _ ⟨β,h⟩=>⟨β,h.sub (bh _) (λi p hp=>⟨iJ ht2 i p hp,(h.tm i p (iJ ht2 i p hp)).1⟩) (λl o ho=>iJ hσ l o ho)⟩;have e:(⟨st2.n,tm2,Z⟩:PW.St)=st1:=by rw[e1,e2,e3]
     exact Cfg.weaken ((w1.trans w2).trans w3) (e▸hg)
    exact h5.elim
   exact h3.elim
  exact h3.elim
 exact h.elim
def ZH(hm:P.follows .mixedOrders=true)(hT:TOK P T){F:LF S R}{g:Cfg}{xs:List Orc}{fs:List Prop}{st:PW.St}{ds:List Orc}{r:R}(h:(retE P T F g xs fs st ds r).ok)(hf:aI fs):g.holds P (dO (gY F.rs (F.sr r) (F.res r))) st:=by
 unfold retE at h;split at h
 .rename_i ps e st' hs;have he:BG e=true:=by cases hb:BG e with|true=>rfl|false=>rw[hb]at h;exact h.elim
  rw[he,aD]at h;have hR:∀st2,jk F.rs (F.sr r) (F.res r) st2->gY F.rs (F.sr r) (F.res r) e st2:=λst2 h=>by cases e<;>first|exact h|cases he
  obtain⟨fs',h1,h2,h3⟩:=kD h hf;split at h3
  .rename_i qs st2 hd;obtain⟨fs2,h4,h6,h5⟩:=kD h3 h2;refine uE hm hT hs h1 (show dO (gY F.rs (F.sr r) (F.res r)) e st' from ?_);refine⟨st2,ea _ _ hd h4,hR st2 ?_⟩;cases ho:F.own with
   |true=>
    simp only[ho,aD]at h5;split at h5
    .rename_i Z p hr;have:=XF hr;obtain⟨h7,_⟩:=h5;simp only[bp]at h7;rw[h7.1,h7.2]at this;exact this
    exact h5.elim
   |false=>
    simp only[ho,aB]at h5;split at h5
    .rename_i q2 p hr;obtain⟨_,h7,_,h8⟩:=kD h5 h6;have:=vn hr h7;obtain⟨h9,_⟩:=h8;simp only[bp]at h9;rw[h9.1,h9.2]at this;exact this
    exact h5.elim
  exact h3.elim
 exact h.elim
def ZI{ps:List Prop}{p:Prop}(h:aI ps)(hp:p):aI (ps++[p]):=bA.2 ⟨h,hp,aa⟩
def Ly(hm:P.follows .mixedOrders=true)(hT:TOK P T)(F:LF S R)(J:∀s,(chk P T F (F.body s) (F.cfg P s) [] [] ⟨[],[]⟩ (F.stf s)).ok){r:R} :
 ∀(t:LT S R) (g:Cfg) (xs:List Orc) (fs:List Prop) (kn:Kn) (st:PW.St) (y:S⊕R),(chk P T F t g xs fs kn st).ok->aI fs->kn.OK->t.den=some y ->
  Ok P F.rs F.sr F.res (F.cfg P) F.stf r y->g.holds P (dO (gY F.rs (F.sr r) (F.res r))) st:=by
 intro t;induction t with
 |ret r' ds=>
  intro g xs fs kn st y h hf hk hd hy;cases hd;have hy:r'=r:=hy;subst hy;exact ZH hm hT h hf
 |go s ds=>
  intro g xs fs kn st y h hf hk hd hy;cases hd;exact(Lx hm hT h hf).1 hy
 |jn k s ds t ih=>
  intro g xs fs kn st y h hf hk hd hy;have h2:=Lx (Q:=gY F.rs (F.sr r) (F.res r)) hm hT h hf;refine h2.1 (ih _ [] [] ⟨[],[]⟩ _ y ?_ trivial ⟨(λ_ hp=>nomatch hp),(λ_ hp=>nomatch hp)⟩ hd hy);rw[h2.2.1];exact J s
 |br b t e ih1 ih2=>
  intro g xs fs kn st y h hf hk hd hy;have h:(brE P T g xs fs st b (λg xs fs st=>chk P T F t g xs fs ⟨kn.bs++[(b,true)],kn.gs⟩ st) (λg xs fs st=>chk P T F e g xs fs ⟨kn.bs++[(b,false)],kn.gs⟩ st)).ok:=h;unfold brE at h;split at h
  .rename_i ps xs' c A B K st' hs;obtain⟨fs',h1,h2,h3⟩:=kD h hf;obtain⟨rfl,h4,h5⟩:=h3;refine uE hm hT hs h1 ?_;show PW P (bif c then A else B) (post P K _) st';cases c with
   |true=>exact ih1 (.code A K) xs' fs' _ st' y h4 h2 (hk.br true) hd hy
   |false=>exact ih2 (.code B K) xs' fs' _ st' y h5 h2 (hk.br false) hd hy
  exact h.elim
 |cs b t e ih1 ih2=>
  intro g xs fs kn st y h hf hk hd hy;have h:(chk P T F t g xs fs ⟨kn.bs++[(b,true)],kn.gs⟩ st).ok/\(chk P T F e g xs fs ⟨kn.bs++[(b,false)],kn.gs⟩ st).ok:=h;cases b with
  |true=>exact ih1 g xs fs _ st y h.1 hf (hk.br true) hd hy
  |false=>exact ih2 g xs fs _ st y h.2 hf (hk.br false) hd hy
 |op o X Fs Gs hx k ih=>
  intro g xs fs kn st y h hf hk hd hy;have h:∀x,(chk P T F (k x) g (xs++X x) (fs++Fs x) ⟨kn.bs,kn.gs++Gs x⟩ st).ok:=h;cases o with
  |none=>cases hd
  |some x=>exact ih x g _ _ _ st y (h x) (bA.2 ⟨hf,(hx x rfl).1⟩) (hk.op (hx x rfl).2) hd hy
 |ev X Fs hx t ih=>
  intro g xs fs kn st y h hf hk hd hy;exact ih g _ _ kn st y h (bA.2 ⟨hf,hx⟩) hk hd hy
 |us ns t ih=>
  intro g xs fs kn st y h hf hk hd hy;have h:E.ok (match qS kn.gs ns with|some qs=>chk P T F t g xs (fs++qs) kn st|none =>.fail):=h;split at h
  .rename_i qs hq;exact ih g _ _ kn st y h (bA.2 ⟨hf,Lw hk.g hq⟩) hk hd hy
  exact h.elim
 |kn ns t ih=>
  intro g xs fs kn st y h hf hk hd hy;exact qT hm hT hk.b (λg xs fs st h hf=>ih g xs fs kn st y h hf hk hd hy) ns g xs fs st h hf
 |kg n t ih=>
  intro g xs fs kn st y h hf hk hd hy;have h:E.ok (match kn.bs[n]? with|some (d,v)=>chk P T F t g (xs++[Orc.br v]) (fs++[d=v]) kn st|none =>.fail):=h;split at h
  .rename_i d v hv;exact ih g _ _ kn st y h (ZI hf (hk.b _ (c7 hv))) hk hd hy
  exact h.elim
 |no=>
  intro g xs fs kn st y h hf hk hd hy;cases hd
end
end
end Go.PW
