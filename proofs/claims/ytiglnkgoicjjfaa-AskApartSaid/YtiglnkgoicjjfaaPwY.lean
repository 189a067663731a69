import Derived.Test.YtiglnkgoicjjfaaPwLt
import Derived.Lib.IndexMore
import Derived.ProofKit
import GoSem.ClaimJoined
import Derived.KernelRfl
set_option linter.all false
namespace Go.PW
open Go.RowKit
inductive TK where
 | bool
 | int (k:IntKind)
 | str
 | slice (e:Nat)
 | struct (fs:List (Nat×Nat))
 | arr (n e:Nat)
 | map (k e:Nat)
 | ptr
 | other
structure Zeu where
 agg:Bool
 size:Nat
 bytes:Nat
 zero:Option (List PV)
 k:TK
 flat:Option (Nat×List LK)
abbrev TS:=List (Nat×Zeu)
def Zyb(P:Program)(t:Nat):TK->Prop
 | .bool=>P.underlying t=some .bool
 | .int k=>P.underlying t=some (.int k)
 | .str=>P.underlying t=some .string
 | .slice e=>P.underlying t=some (.slice e)
 | .struct fs=>∃ fs',P.underlying t=some (.struct fs')/\fs'.toList.map (fun f=>(f.offset,f.type))=fs
 | .arr n e=>P.underlying t=some (.array n e)
 | .map k e=>P.underlying t=some (.map k e)
 | .ptr=>P.underlying t=some (.pointer (P.pointee t))
 | .other=>True
structure Zlg (P:Program) (t:Nat) (i:Zeu):Prop where
 ty:TyF P t i.agg i.size
 by_:(P.info? t).map (fun i=>(i.size,i.bytes))=some (i.size,i.bytes)
 z:∀ z,i.zero=some z->Za8 P t=some z
 k:Zyb P t i.k
 fl:∀ d ks,i.flat=some (d,ks)->d<=10000/\Zck P d t=some ks/\i.agg=true/\P.eqGuardType P.depth t=false
def TOK(P:Program)(T:TS):Prop:=∀ t i,get T t=some i->Zlg P t i
def Z0w(P:Program):TS->Prop
 | []=>True
 | (t,i)::T=>Zlg P t i/\Z0w P T
theorem TOK.of_all{P:Program}:∀ {T:TS},Z0w P T->TOK P T
 | [],_,t,i,h=>by cases h
 | (u,j)::T,hall,t,i,h=>by
  simp only [get] at h
  cases hb:Nat.beq u t with
  | true=>
   have:u=t:=(Ze _ _).1 hb
   subst this
   simp only [hb,cond_true,Option.some.injEq] at h
   subst h
   exact hall.1
  | false=>simp only [hb,cond_false] at h;exact TOK.of_all hall.2 t i h
inductive Orc where
 | br (b:Bool)
 | cs (c:List Za)
 | es (e:List (List Za))
 | num (n:Int)
 | lab (l:Nat)
 | call (r:PV)
 | nat (n:Nat)
 | byte (b:UInt8)
 | lit
 | frz (l:Nat)
 | pick (ks ls:List Nat)
 | own (t l k:Nat)
 | ahead (d:Nat)
 | relen (l:Nat)
 | cell (d:Nat) (c:List Za)
 | stop
 | callO (S:Bool) (ls:List Nat) (d:Nat) (fr:List (Nat×Blk)) (r:PV)
 | callU (S:Bool) (ls:List Nat) (d:Nat) (s1:List (Nat×Blk)) (r:PV)
 | relab (l m:Nat)
 | ownc (t j l k:Nat)
 | ownb (b j l k:Nat)
 | nilt (t:Nat)
 | niltc (t j:Nat)
 | niltb (b j:Nat)
 | stopAt (k:Nat)
 | sp (cs:List PV)
 | mp (es:List (Int×List Za))
 | tomat (l:Nat)
 | tomr (l k:Nat)
 | frzm (l:Nat)
 | callC (l b:Nat)
 | opn (l i:Nat) (e:List Za)
 | cls (l:Nat) (es:List (List Za))
 | regn (l:Nat)
 | absr (r l:Nat)
 | regh (l:Nat)
 | regf (l:Nat)
 | torx (r l:Nat)
abbrev Ev:=Option (List Prop×List Orc×Stp)
def ev0(xs:List Orc)(p:PV):Ev:=some ([],xs,⟨[],p,[]⟩)
def ev1(ps:List Prop)(xs:List Orc)(p:PV):Ev:=some (ps,xs,⟨[],p,[]⟩)
def Zl7(a b:IntKind):Bool:=decide (a=b)
def Zuu(op:BinOp)(k k':IntKind)(a b:Int)(xs:List Orc):Ev:=
 match op with
 | .shl=>ev1 [¬ b < 0] xs (.t (.int k (k.wrap (a*2 ^ (min b.toNat k.bits)))))
 | .shr=>ev1 [¬ b < 0] xs (.t (.int k (a.fdiv (2 ^ (min b.toNat k.bits)))))
 | .quo=>bif Zl7 k k' then ev1 [b≠0] xs (.t (.int k (k.wrap (a.tdiv b)))) else none
 | .rem=>bif Zl7 k k' then ev1 [b≠0] xs (.t (.int k (a.tmod b))) else none
 | _=>bif Zl7 k k' then
  match Zk7 op k a b with
  | some r=>ev0 xs (.t r)
  | none=>none
  else none
def Zuv(T:TS)(op:BinOp)(xT:Nat)(px py:PV)(xs:List Orc):Ev:=
 match px,py with
 | .t (.int k a),.t (.int k' b)=>Zuu op k k' a b xs
 | .t (.str a),.t (.str b)=>
  match op with
  | .add=>ev1 [a.length+b.length<=9223372036854775807] xs (.t (.str (a++b)))
  | _=>
   match Zra op a b with
   | some r=>ev0 xs (.t r)
   | none=>none
 | .t (.bool a),.t (.bool b)=>
  match (get T xT).map (·.k),op with
  | some TK.bool,.eql=>ev0 xs (.t (.bool (a==b)))
  | some TK.bool,.neq=>ev0 xs (.t (.bool (!(a==b))))
  | _,_=>none
 | .agg as,.agg bs=>
  match Zdv as,Zdv bs,(get T xT).bind (·.flat) with
  | some as,some bs,some (_,ks)=>
   bif fits ks as&&fits ks bs then
    match Zxa op (Zae as bs) with
    | some r=>ev0 xs (.t (.bool r))
    | none=>none
   else none
  | _,_,_=>none
 | _,_=>none
section
variable {P:Program} {T:TS} {o:Oper} {tm:List (Nat×PV)} {σ:List (Nat×Blk)} {xs xs':List Orc} {ps:List Prop} {s:Stp}
theorem Zaf{p:PV}(h:ev0 xs p=some (ps,xs',s)):ps=[]/\xs'=xs/\s=⟨[],p,[]⟩:=by
 simp only [ev0,Option.some.injEq,Prod.mk.injEq] at h
 exact⟨h.1.symm,h.2.1.symm,h.2.2.symm⟩
theorem Zat{qs:List Prop}{p:PV}(h:ev1 qs xs p=some (ps,xs',s)):ps=qs/\xs'=xs/\s=⟨[],p,[]⟩:=by
 simp only [ev1,Option.some.injEq,Prod.mk.injEq] at h
 exact⟨h.1.symm,h.2.1.symm,h.2.2.symm⟩
theorem Zyc{op:BinOp}{xT yT:TypeId}{x y:Operand}{k k':IntKind}{a b:Int}(ho:o.op = .binOp op xT x y yT)(hx:Zb tm x=some (.t (.int k a)))(hy:Zb tm y=some (.t (.int k' b)))
 (h:Zuu op k k' a b xs=some (ps,xs',s)) (hc:Zo ps):Zr P o tm σ s.need s.p s.news:=by
 unfold Zuu at h
 split at h
 .obtain⟨rfl,rfl,rfl⟩:=Zat h
  exact Zrc ho hx hy (by simp [Zny,hc.1])
 .obtain⟨rfl,rfl,rfl⟩:=Zat h
  exact Zrc ho hx hy (by simp [Zny,hc.1])
 .cases hk:Zl7 k k' with
  | false=>simp [hk] at h
  | true=>
   simp only [hk,cond_true] at h
   have:k=k':=of_decide_eq_true hk
   subst this
   obtain⟨rfl,rfl,rfl⟩:=Zat h
   exact Zrb ho hx hy (by have:=hc.1;simp [Zk7,this])
 .cases hk:Zl7 k k' with
  | false=>simp [hk] at h
  | true=>
   simp only [hk,cond_true] at h
   have:k=k':=of_decide_eq_true hk
   subst this
   obtain⟨rfl,rfl,rfl⟩:=Zat h
   exact Zrb ho hx hy (by have:=hc.1;simp [Zk7,this])
 .cases hk:Zl7 k k' with
  | false=>simp [hk] at h
  | true=>
   simp only [hk,cond_true] at h
   have:k=k':=of_decide_eq_true hk
   subst this
   split at h
   .rename_i r hr
    obtain⟨rfl,rfl,rfl⟩:=Zaf h
    exact Zrb ho hx hy hr
   .cases h
theorem Zyd(hT:TOK P T){op:BinOp}{xT yT:TypeId}{x y:Operand}{px py:PV}(ho:o.op = .binOp op xT x y yT)(hx:Zb tm x=some px)(hy:Zb tm y=some py)
 (h:Zuv T op xT px py xs=some (ps,xs',s)) (hc:Zo ps):Zr P o tm σ s.need s.p s.news:=by
 unfold Zuv at h
 split at h
 .exact Zyc ho hx hy h hc
 .split at h
  .obtain⟨rfl,rfl,rfl⟩:=Zat h
   exact Zvq ho hx hy hc.1
  .split at h
   .rename_i r hr
    obtain⟨rfl,rfl,rfl⟩:=Zaf h
    exact Z0g ho hx hy hr
   .cases h
 .split at h
  .rename_i hk
   obtain⟨rfl,rfl,rfl⟩:=Zaf h
   simp only [Option.map_eq_some_iff] at hk
   obtain⟨i,hi,hik⟩:=hk
   have:=(hT _ _ hi).k
   rw [hik] at this
   exact Zpx ho this hx hy (.inl ⟨rfl,rfl⟩)
  .rename_i hk
   obtain⟨rfl,rfl,rfl⟩:=Zaf h
   simp only [Option.map_eq_some_iff] at hk
   obtain⟨i,hi,hik⟩:=hk
   have:=(hT _ _ hi).k
   rw [hik] at this
   exact Zpx ho this hx hy (.inr ⟨rfl,rfl⟩)
  .cases h
 .split at h
  .rename_i as bs d ks ha hb hf
   cases hfit:(fits ks as&&fits ks bs) with
   | false=>simp [hfit] at h
   | true=>
    simp only [hfit,cond_true] at h
    simp only [Bool.and_eq_true] at hfit
    split at h
    .rename_i r hr
     obtain⟨rfl,rfl,rfl⟩:=Zaf h
     simp only [Option.bind_eq_some_iff] at hf
     obtain⟨i,hi,hf⟩:=hf
     have hok:=hT _ _ hi
     obtain⟨hd,hfl,hag,hgt⟩:=hok.fl _ _ hf
     have e1:=Zel ha
     have e2:=Zel hb
     subst e1;subst e2
     obtain⟨dd,hu,hdr⟩:=hok.ty.und
     exact Zxb d ks ho hd hfl ⟨dd,hu,by rw [hdr];exact hag⟩ hgt hx hy hfit.1 hfit.2 hr
    .cases h
  .cases h
 .cases h
theorem TOK.size{t:Nat}{i:Zeu}(hT:TOK P T)(h:get T t=some i):∃ inf,P.info? t=some inf/\inf.size=i.size:=(hT t i h).ty.info
theorem TOK.fieldInfo{t f q:Nat}{i j:Zeu}{fs:List (Nat×Nat)}{fT:Nat}(hT:TOK P T)(h:get T t=some i)(hk:i.k = .struct fs)(hf:fs[f]?=some (q,fT))(hj:get T fT=some j):PW.fieldInfo P t f=some (q,j.size):=by
 have:=(hT t i h).k
 rw [hk] at this
 obtain⟨fs',hu,hfs⟩:=this
 subst hfs
 simp only [List.getElem?_map,Option.map_eq_some_iff] at hf
 obtain⟨fl,hfl,he⟩:=hf
 cases he
 obtain⟨inf,hi,hs⟩:=hT.size hj
 simp only [PW.fieldInfo,hu]
 have:fs'[f]?=some fl:=by simpa using hfl
 simp [this,hi,hs]
theorem TOK.arrInfo{t n e:Nat}{i j:Zeu}(hT:TOK P T)(h:get T t=some i)(hk:i.k = .arr n e)(hj:get T e=some j):PW.arrInfo P t=some (n,j.size):=by
 have:=(hT t i h).k
 rw [hk] at this
 obtain⟨inf,hi,hs⟩:=hT.size hj
 have hu:P.underlying t=some (.array n e):=this
 simp [PW.arrInfo,hu,hi,hs]
theorem TOK.slInfo{t e:Nat}{i j:Zeu}(hT:TOK P T)(h:get T t=some i)(hk:i.k = .slice e)(hj:get T e=some j):PW.slInfo P t=some j.size:=by
 have:=(hT t i h).k
 rw [hk] at this
 obtain⟨inf,hi,hs⟩:=hT.size hj
 have hu:P.underlying t=some (.slice e):=this
 simp [PW.slInfo,hu,hi,hs]
def Zak(T:TS)(t:Nat):Option (Nat×Zeu):=
 match get T t with
 | some ⟨_,_,_,_,.slice e,_⟩=>(get T e).map fun j=>(e,j)
 | _=>none
theorem Zaa{t e:Nat}{j:Zeu}(h:Zak T t=some (e,j)):∃ i,get T t=some i/\i.k = .slice e/\get T e=some j:=by
 unfold Zak at h
 split at h
 .rename_i hi
  simp only [Option.map_eq_some_iff] at h
  obtain⟨j',hj,he⟩:=h
  cases he
  exact⟨_,hi,rfl,hj⟩
 .cases h
def Zl8(T:TS)(t:Nat):Option (Nat×Nat×Zeu):=
 match get T t with
 | some ⟨_,_,_,_,.arr n e,_⟩=>(get T e).map fun j=>(n,e,j)
 | _=>none
theorem Zi5{t n e:Nat}{j:Zeu}(h:Zl8 T t=some (n,e,j)):∃ i,get T t=some i/\i.k = .arr n e/\get T e=some j:=by
 unfold Zl8 at h
 split at h
 .rename_i hi
  simp only [Option.map_eq_some_iff] at h
  obtain⟨j',hj,he⟩:=h
  cases he
  exact⟨_,hi,rfl,hj⟩
 .cases h
def Zh8(T:TS)(t f:Nat):Option (Nat×Zeu):=
 match get T t with
 | some ⟨_,_,_,_,.struct fs,_⟩=>(fs[f]?).bind fun x=>(get T x.2).map fun j=>(x.1,j)
 | _=>none
theorem Zex{t f q:Nat}{j:Zeu}(h:Zh8 T t f=some (q,j)):∃ i fs fT,get T t=some i/\i.k = .struct fs/\fs[f]?=some (q,fT)/\get T fT=some j:=by
 unfold Zh8 at h
 split at h
 .rename_i hi
  simp only [Option.bind_eq_some_iff,Option.map_eq_some_iff] at h
  obtain⟨⟨x1,x2⟩,hx,j',hj,he⟩:=h
  cases he
  exact⟨_,_,_,hi,rfl,hx,hj⟩
 .cases h
theorem Zeo{t e:Nat}{j:Zeu}{z:List PV}(hT:TOK P T)(h:Zak T t=some (e,j))(hz:j.zero=some z)(hpos:Nat.blt 0 j.size=true)(hl:Nat.beq z.length j.size=true):ElF P t e j.size j.bytes z:=by
 obtain⟨i,hi,hk,hj⟩:=Zaa h
 have h1:=(hT t i hi).k
 rw [hk] at h1
 exact { und:=h1,info:=(hT e j hj).by_,z:=(hT e j hj).z z hz,pos:=(by rw [Nat.blt_eq] at hpos;exact hpos),len:=(Ze _ _).1 hl }
end
end Go.PW
namespace Go.PW
open Go.RowKit
def ev2(ps:List Prop)(xs:List Orc)(need:List Nat)(p:PV):Ev:=some (ps,xs,⟨need,p,[]⟩)
def ev3(ps:List Prop)(xs:List Orc)(p:PV)(l:Nat)(b:Blk):Ev:=some (ps,xs,⟨[],p,[(l,b)]⟩)
def Zcl(tm:List (Nat×PV)):List Operand->Option (List PV)
 | []=>some []
 | x::l=>
  match Zb tm x,Zcl tm l with
  | some p,some ps=>some (p::ps)
  | _,_=>none
theorem Zep{tm:List (Nat×PV)}:∀ {l:List Operand} {ps:List PV},Zcl tm l=some ps->l.mapM (Zb tm)=some ps
 | [],ps,h=>by simp only [Zcl,Option.some.injEq] at h;subst h;rfl
 | x::l,ps,h=>by
  simp only [Zcl] at h
  split at h
  .rename_i p qs hp hq
   cases h
   rw [List.mapM_cons,hp,Zep hq];rfl
  .cases h
mutual
def Zax(σ:List (Nat×Blk)):PV->Option (List Prop×PV)
 | .t x=>some ([],.t x)
 | .nils=>some ([],.t (.sl []))
 | .osl l n=>
  match get σ l with
  | some (.row _ es)=>some ([es.length=n],.t (.sl es))
  | _=>none
 | .bptr l o=>
  match get σ l with
  | some (.box cs)=>match Zdv cs with | some ts=>some ([],.vptr (ts.drop o)) | none=>none
  | _=>none
 | .rptr _ _ _ _=>none
 | .vptr cs=>some ([],.vptr cs)
 | .agg cs=>match Zcm σ cs with | some (ps,ds)=>some (ps,.agg ds) | none=>none
 | .tup cs=>match Zcm σ cs with | some (ps,ds)=>some (ps,.tup ds) | none=>none
 | .fn f cs=>match Zcm σ cs with | some (ps,ds)=>some (ps,.fn f ds) | none=>none
 | .own l d=>
  match d,get σ l with
  | .msl n,some (.mat _ _ es)=>some ([es.length=n],.t (.sl es))
  | _,_=>none
def Zcm(σ:List (Nat×Blk)):List PV->Option (List Prop×List PV)
 | []=>some ([],[])
 | c::cs=>
  match Zax σ c,Zcm σ cs with
  | some (ps,d),some (qs,ds)=>some (ps++qs,d::ds)
  | _,_=>none
end
mutual
theorem Zpe{σ σ':List (Nat×Blk)}(h0:∀ l,get σ' l=none):∀ {p q:PV} {ps:List Prop},Zax σ p=some (ps,q)->Zo ps->Frz σ σ' p q
 | .t x,q,ps,h,_=>by simp only [Zax,Option.some.injEq,Prod.mk.injEq] at h;simp only [Frz];exact h.2.symm
 | .nils,q,ps,h,_=>by simp only [Zax,Option.some.injEq,Prod.mk.injEq] at h;simp only [Frz];exact .inl h.2.symm
 | .osl l n,q,ps,h,hc=>by
  simp only [Zax] at h
  split at h
  .rename_i k es hg
   cases h
   simp only [Frz]
   exact .inr ⟨k,es,hg,hc.1,h0 l,rfl⟩
  .cases h
 | .bptr l o,q,ps,h,_=>by
  simp only [Zax] at h
  split at h
  .rename_i cs hg
   split at h
   .rename_i ts hts
    cases h
    have e:=Zel hts
    subst e
    simp only [Frz]
    exact .inr ⟨ts,hg,h0 l,rfl⟩
   .cases h
  .cases h
 | .rptr _ _ _ _,q,ps,h,_=>by simp [Zax] at h
 | .vptr cs,q,ps,h,_=>by simp only [Zax,Option.some.injEq,Prod.mk.injEq] at h;simp only [Frz];exact h.2.symm
 | .agg cs,q,ps,h,hc=>by
  simp only [Zax] at h
  split at h
  .rename_i ps' ds hds
   cases h
   simp only [Frz]
   exact⟨ds,rfl,Zfb h0 hds hc⟩
  .cases h
 | .tup cs,q,ps,h,hc=>by
  simp only [Zax] at h
  split at h
  .rename_i ps' ds hds
   cases h
   simp only [Frz]
   exact⟨ds,rfl,Zfb h0 hds hc⟩
  .cases h
 | .fn f cs,q,ps,h,hc=>by
  simp only [Zax] at h
  split at h
  .rename_i ps' ds hds
   cases h
   simp only [Frz]
   exact⟨ds,rfl,Zfb h0 hds hc⟩
  .cases h
 | .own l d,q,ps,h,hc=>by
  simp only [Zax] at h
  split at h
  .rename_i n k q0 es hg
   cases h
   simp only [Frz]
   exact .inr ⟨n,k,q0,es,rfl,hg,hc.1,h0 l,rfl⟩
  .cases h
theorem Zfb{σ σ':List (Nat×Blk)}(h0:∀ l,get σ' l=none):∀ {cs ds:List PV} {ps:List Prop},Zcm σ cs=some (ps,ds)->Zo ps->Zx σ σ' cs ds
 | [],ds,ps,h,_=>by simp only [Zcm,Option.some.injEq,Prod.mk.injEq] at h;simp only [Zx];exact h.2.symm
 | c::cs,ds,ps,h,hc=>by
  simp only [Zcm] at h
  split at h
  .rename_i ps1 d qs ds' h1 h2
   cases h
   obtain⟨hc1,hc2⟩:=Zf.1 hc
   simp only [Zx]
   exact⟨d,ds',rfl,Zpe h0 h1 hc1,Zfb h0 h2 hc2⟩
  .cases h
end
mutual
def Zfy:PV->List Nat
 | .osl l _=>[l]
 | .bptr l _=>[l]
 | .rptr l _ _ _=>[l]
 | .agg cs=>Zdl cs
 | .tup cs=>Zdl cs
 | .fn _ cs=>Zdl cs
 | .own l _=>[l]
 | _=>[]
def Zdl:List PV->List Nat
 | []=>[]
 | p::ps=>Zfy p++Zdl ps
end
mutual
theorem Zm8{m:Nat}:∀ (p:PV),p.has m=true->m∈Zfy p
 | .t _,h=>by simp [PV.has] at h
 | .nils,h=>by simp [PV.has] at h
 | .vptr _,h=>by simp [PV.has] at h
 | .osl l n,h=>by simp only [PV.has,Ze] at h;subst h;simp [Zfy]
 | .bptr l n,h=>by simp only [PV.has,Ze] at h;subst h;simp [Zfy]
 | .rptr l _ _ _,h=>by simp only [PV.has,Ze] at h;subst h;simp [Zfy]
 | .agg cs,h=>by simp only [Zfy];exact Zcg cs (by simpa [PV.has] using h)
 | .tup cs,h=>by simp only [Zfy];exact Zcg cs (by simpa [PV.has] using h)
 | .fn _ cs,h=>by simp only [Zfy];exact Zcg cs (by simpa [PV.has] using h)
 | .own l n,h=>by simp only [PV.has,Ze] at h;subst h;simp [Zfy]
theorem Zcg{m:Nat}:∀ (ps:List PV),PV.hasAny m ps=true->m∈Zdl ps
 | [],h=>by simp [PV.hasAny] at h
 | p::ps,h=>by
  simp only [PV.hasAny,Bool.or_eq_true] at h
  simp only [Zdl,List.mem_append]
  rcases h with h | h
  .exact .inl (Zm8 p h)
  .exact .inr (Zcg ps h)
end
def Zff(agg:Bool)(c:List Za):PV:=bif agg then .agg (c.map .t) else (match c with | [x] => .t x | _ => .agg (c.map .t))
def Zii(T:TS):List (Nat×Nat)->Option (List (Nat×Nat))
 | []=>some []
 | (q,t)::l=>
  match get T t,Zii T l with
  | some i,some ps=>some ((q,i.size)::ps)
  | _,_=>none
def Zpf(T:TS)(t:Nat)(ps:List (Nat×PV))(xs:List Orc):Ev:=
 match get T t with
 | some ⟨_,_,_,some z,.struct fs,_⟩=>
  match Zii T fs with
  | some pl=>
   match Zcd pl z ps with
   | some out=>ev0 xs (.agg out)
   | none=>none
  | none=>none
 | some ⟨_,_,_,some z,.arr n e,_⟩=>
  match get T e with
  | some j=>
   match Zcd ((List.range n).map fun i=>(i*j.size,j.size)) z ps with
   | some out=>ev0 xs (.agg out)
   | none=>none
  | none=>none
 | _=>none
def Zuw(T:TS)(t len:Nat)(ps:List (Nat×PV))(xs:List Orc):Ev:=
 match Zak T t with
 | some (_,⟨_,k,_,some z,_,_⟩)=>
  bif Nat.blt 0 k&&Nat.beq z.length k&&Nat.ble (len*k) 16777216 then
   match Zcd (Zcf k len) (rep len z) ps with
   | some out=>
    match Zaw out,xs with
    | some ts,.lit::xs=>ev0 xs (.t (.sl (chunk k len ts)))
    | some ts,.lab l::xs=>bif Nat.ble 1000 l&&Nat.beq ts.length (len*k) then ev3 [] xs (.osl l len) l (.row k (chunk k len ts)) else none
    | _,_=>none
   | none=>none
  else none
 | _=>none
def Zr5(T:TS)(t:Nat)(px py:PV)(xs:List Orc):Ev:=
 match Zak T t,px,py,xs with
 | some (_,⟨_,k,bytes,some z,_,_⟩),.t (.int _ m),.t (.int _ c),.lab l :: .nat n :: .es es::xs=>
  bif Nat.blt 0 k&&Nat.beq z.length k&&Nat.ble 1000 l then
   match Zaw z with
   | some zs=>ev3 [0<=m,m<=c,(bytes:Int)*c<=281474976710656,c<=9223372036854775807,m.toNat=n,List.replicate n zs=es] xs (.osl l n) l (.row k es)
   | none=>none
  else none
 | _,_,_,_=>none
def Zjd(T:TS)(σ:List (Nat×Blk))(s i:Nat)(px:PV)(xs:List Orc):Ev:=
 match Zh8 T s i with
 | some (q,j)=>
  bif Nat.beq j.size 0 then none else
  match px with
  | .bptr l p=>
   match get σ l with
   | some (.box _)=>ev2 [] xs [l] (.bptr l (p+q))
   | _=>none
  | .rptr l m jj p=>
   match get σ l with
   | some (.row _ es)=>ev2 [es.length=m] xs [l] (.rptr l m jj (p+q))
   | _=>none
  | .vptr cs=>ev0 xs (.vptr (cs.drop q))
  | _=>none
 | none=>none
def Zje(T:TS)(σ:List (Nat×Blk))(t:Nat)(px py:PV)(xs:List Orc):Ev:=
 match py with
 | .t (.int _ i)=>
  match px with
  | .t (.sl es)=>
   match Zak T t,xs with
   | some (_,j),.cs e::xs=>ev1 [∀ el,el∈es->el.length=j.size,0<=i,es[i.toNat]?=some e] xs (.vptr e)
   | _,_=>none
  | .osl l m=>
   match Zak T t,get σ l,xs with
   | some (_,j),some (.row k es),.nat n::xs=>bif Nat.beq j.size k then ev2 [es.length=m,0<=i,i < m,i.toNat=n] xs [l] (.rptr l m n 0) else none
   | _,_,_=>none
  | .bptr l q=>
   match Zl8 T t,get σ l,xs with
   | some (len,_,j),some (.box _),.nat n::xs=>ev2 [0<=i,i < len,i.toNat=n] xs [l] (.bptr l (q+n*j.size))
   | _,_,_=>none
  | .rptr l m jj q=>
   match Zl8 T t,get σ l,xs with
   | some (len,_,j),some (.row _ els),.nat n::xs=>ev2 [els.length=m,0<=i,i < len,i.toNat=n] xs [l] (.rptr l m jj (q+n*j.size))
   | _,_,_=>none
  | .vptr cs=>
   match Zl8 T t,xs with
   | some (len,_,j),.nat n::xs=>ev1 [0<=i,i < len,i.toNat=n] xs (.vptr (cs.drop (n*j.size)))
   | _,_=>none
  | _=>none
 | _=>none
def Zpg(T:TS)(t:Nat)(px py:PV)(xs:List Orc):Ev:=
 match py with
 | .t (.int _ i)=>
  match px with
  | .t (.str s)=>
   match (get T t).map (·.k),xs with
   | some TK.str,.byte b::xs=>ev1 [0<=i,s[i.toNat]?=some b] xs (.t (.int .u8 b.toNat))
   | _,_=>none
  | .agg cs=>
   match Zl8 T t,xs with
   | some (len,_,j),.cs c::xs=>ev1 [0<=i,i < len,Zar j.agg j.size (i.toNat*j.size) cs=some (Zff j.agg c)] xs (Zff j.agg c)
   | _,_=>none
  | _=>none
 | _=>none
def Zoe(T:TS)(σ:List (Nat×Blk))(t:Nat)(px:PV)(xs:List Orc):Ev:=
 match get T t with
 | some i=>
  match px with
  | .bptr l q=>
   match get σ l with
   | some (.box cs)=>
    match Zar i.agg i.size q cs with
    | some p=>ev2 [] xs [l] p
    | none=>none
   | _=>none
  | .rptr l m j q=>
   match get σ l,xs with
   | some (.row _ es),.cs e::xs=>
    match Zar i.agg i.size q (e.map .t) with
    | some p=>ev2 [es.length=m,es[j]?=some e] xs [l] p
    | none=>none
   | _,_=>none
  | .vptr cs=>
   match Zar i.agg i.size 0 (cs.map .t) with
   | some p=>ev0 xs p
   | none=>none
  | _=>none
 | none=>none
def Zm9(T:TS)(σ:List (Nat×Blk))(t:Nat)(px:PV)(c:List Za)(xs:List Orc):Ev:=
 match get T t,px with
 | some i,.bptr l q=>
  match get σ l with
  | some (.box cs)=>ev2 [Zar i.agg i.size q cs=some (Zff i.agg c)] xs [l] (Zff i.agg c)
  | _=>none
 | some i,.vptr cs=>ev1 [Zar i.agg i.size 0 (cs.map .t)=some (Zff i.agg c)] xs (Zff i.agg c)
 | _,_=>none
def Zof(σ:List (Nat×Blk)):PV->Option (List Prop×List (List Za)×List Nat)
 | .t (.sl es)=>some ([],es,[])
 | .nils=>some ([],[],[])
 | .t (.con (.slice _ 0 _))=>some ([],[],[])
 | .osl l m=>
  match get σ l with
  | some (.row _ es)=>some ([es.length=m],es,[l])
  | _=>none
 | _=>none
def Zog:List Nat->Bool
 | []=>true
 | l::r => !Zib r l&&Zog r
def Zzb:Blk->List Nat
 | .box cs=>Zdl cs
 | .row _ _=>[]
 | .mat _ _ _=>[]
 | .map _ _=>[]
 | .prow _ _ _ cs=>Zdl cs
 | .reg _=>[]
 | .xrow _ _ r _=>[r]
def Zqy:List (Nat×Blk)->List Nat
 | []=>[]
 | (_,b)::r=>Zzb b++Zqy r
def Zye(σ:List (Nat×Blk))(l:Nat):Bool:=match get σ l with | some _=>true | none=>false
def Zwm(σa:List (Nat×Blk))(l:Nat)(b:Blk):Bool:=
 match b,get σa l with
 | .box _,some (.box _)=>true
 | .row k _,some (.row k' _)=>Nat.beq k k'
 | _,_=>false
def Zoh(ls:List Nat)(d:Nat)(σa σ1:List (Nat×Blk))(res:PV):Bool:=
 Zog ls&&Nat.ble ls.length 1000&&(σ1.all fun x=>match ls[x.1]? with | some _=>Zwm σa x.1 x.2 | none=>Nat.ble 1000 (x.1+d))&&(Zfy res++Zqy σ1).all (Zye σ1)
def scB:List (Nat×Blk)->List Prop
 | []=>[]
 | (_,.box cs)::r=>(PV.scs cs=true)::scB r
 | (_,.row _ es)::r=>(∀ el,el∈es->∀ x,x∈el->Za.scal x=true)::scB r
 | (_,.mat k q _)::r=>(k=1/\q=0)::scB r
 | (_,.map _ _)::r=>False::scB r
 | (_,.prow _ _ _ _)::r=>False::scB r
 | (_,.reg _)::r=>True::scB r
 | (_,.xrow _ _ _ _)::r=>False::scB r
mutual
def Zl9(σ:List (Nat×Blk)):PV->List Nat
 | .bptr L _=>match get σ L with | some (.box cs)=>Zdl cs | _=>[]
 | .agg cs=>Zha σ cs
 | .tup cs=>Zha σ cs
 | .fn _ cs=>Zha σ cs
 | _=>[]
def Zha(σ:List (Nat×Blk)):List PV->List Nat
 | []=>[]
 | p::ps=>Zl9 σ p++Zha σ ps
end
mutual
theorem Zyf{σ:List (Nat×Blk)}{m:Nat}:∀ (p:PV),p.deep σ m=true->m∈Zl9 σ p
 | .t _,h=>by simp [PV.deep] at h
 | .nils,h=>by simp [PV.deep] at h
 | .osl _ _,h=>by simp [PV.deep] at h
 | .bptr L o,h=>by
  simp only [PV.deep] at h
  simp only [Zl9]
  cases hg:get σ L with
  | none=>simp [hg] at h
  | some b=>
   cases b with
   | box cs=>simp only [hg] at h;exact Zcg _ h
   | row k es=>simp [hg] at h
   | mat k q es=>simp [hg] at h
   | map ag es=>simp [hg] at h
   | prow k i es cs=>simp [hg] at h
   | reg h0=>simp [hg] at h
   | xrow k i r es=>simp [hg] at h
 | .rptr _ _ _ _,h=>by simp [PV.deep] at h
 | .vptr _,h=>by simp [PV.deep] at h
 | .agg cs,h=>by simp only [Zl9];exact Zfg cs (by simpa [PV.deep] using h)
 | .tup cs,h=>by simp only [Zl9];exact Zfg cs (by simpa [PV.deep] using h)
 | .fn _ cs,h=>by simp only [Zl9];exact Zfg cs (by simpa [PV.deep] using h)
 | .own _ _,h=>by simp [PV.deep] at h
theorem Zfg{σ:List (Nat×Blk)}{m:Nat}:∀ (ps:List PV),PV.deeps σ m ps=true->m∈Zha σ ps
 | [],h=>by simp [PV.deeps] at h
 | p::ps,h=>by
  simp only [PV.deeps,Bool.or_eq_true] at h
  simp only [Zha,List.mem_append]
  rcases h with h | h
  .exact .inl (Zyf p h)
  .exact .inr (Zfg ps h)
end
def scC(S:Bool)(σ1:List (Nat×Blk))(res:PV):List Prop:=bif S then (res.sc=true)::scB σ1 else []
def Zr6(T:TS)(P:Program)(tm:List (Nat×PV))(σ:List (Nat×Blk))(c:Callee)(ps:List PV)(ats:List Nat)(xs:List Orc):Ev:=
 match c with
 | .value fo=>
  match Zb tm fo,xs with
  | some (.fn f caps),.call res::xs=>
   match Zcm [] (ps++caps) with
   | some (_,qs)=>bif res.free then ev1 [Fn P f qs res] xs res else none
   | none=>
    match Zcm σ (ps++caps) with
    | some (cs,qs)=>bif res.scal then ev2 (cs++[Fn P f qs res]) xs (Zdl (ps++caps)) res else none
    | none=>none
  | some (.fn f caps),.callO S ls d fr res::xs=>
   match Zbd S ls σ (ps++caps),Zft ls σ 0 ls with
   | some (cs,qs),some σa=>bif Zoh ls d σa (fr++σa) res then some (cs++(scC S (fr++σa) res++[FnG P f σa qs (fr++σa) res]),xs,⟨ls++(Zdl (ps++caps)++Zha σ (ps++caps)),res.ren (Zad ls d),Zaj (Zad ls d) fr⟩) else none
   | _,_=>none
  | _,_=>none
 | .builtin .len=>
  match ps,ats,xs with
  | [p],[t],.num n::xs=>
   match (get T t).map (·.k),p with
   | some (TK.slice _),.t (.sl es)=>ev1 [(es.length:Int)=n] xs (.t (.int .i64 n))
   | some (TK.slice _),.nils=>ev1 [0=n] xs (.t (.int .i64 n))
   | some (TK.slice _),.osl l m=>
    match get σ l with
    | some (.row _ es)=>ev2 [es.length=m,(m:Int)=n] xs [l] (.t (.int .i64 n))
    | _=>none
   | some (TK.slice _),.own l (.msl m)=>
    match get σ l with
    | some (.mat _ _ es)=>ev2 [es.length=m,(m:Int)=n] xs [l] (.t (.int .i64 n))
    | _=>none
   | some TK.str,.t (.str s)=>ev1 [(s.length:Int)=n] xs (.t (.int .i64 n))
   | _,_=>none
  | _,_,_=>none
 | .builtin .max=>
  match ps with
  | [.t (.int k a),.t (.int _ b)]=>ev0 xs (.t (.int k (Zrq a b)))
  | _=>none
 | .builtin .min=>
  match ps with
  | [.t (.int k a),.t (.int _ b)]=>ev0 xs (.t (.int k (Zrr a b)))
  | _=>none
 | .builtin .append=>
  match ps,ats,xs with
  | [.nils,y],[t,tx],.lab l :: .es es::xs=>
   match Zak T t,Zak T tx,Zof σ y with
   | some (_,⟨_,k,bytes,some z,_,_⟩),some _,some (cs,ys,ls)=>
    bif Nat.blt 0 k&&Nat.beq z.length k&&Nat.ble 1000 l then
     some (cs++[ys=es,∀ el,el∈es->el.length=k,es.length<=9223372036854775807,es.length*bytes<=140737488355328],xs,⟨ls,.osl l es.length,[(l,.row k es)]⟩)
    else none
   | _,_,_=>none
  | _,_,_=>none
 | _=>none
def Zma:Operand->Bool
 | .const (.slice none 0 0)=>true
 | _=>false
def Zux(T:TS)(op:BinOp)(t:Nat)(px:PV)(xs:List Orc):Ev:=
 match Zak T t,op,px with
 | some _,.eql,.t (.sl es)=>ev1 [es≠[]] xs (.t (.bool false))
 | some _,.neq,.t (.sl es)=>ev1 [es≠[]] xs (.t (.bool true))
 | some _,.eql,.t (.con (.slice a _ _))=>ev0 xs (.t (.bool a.isNone))
 | some _,.neq,.t (.con (.slice a _ _))=>ev0 xs (.t (.bool (!a.isNone)))
 | _,_,_=>none
def Zmb:Operand->Bool
 | .const (.pointer none)=>true
 | _=>false
def Zr7(σ:List (Nat×Blk))(op:BinOp)(px:PV)(xs:List Orc):Ev:=
 match op,px with
 | .eql,.t (.con (.pointer none))=>ev0 xs (.t (.bool true))
 | .neq,.t (.con (.pointer none))=>ev0 xs (.t (.bool false))
 | .eql,.bptr l _=>match get σ l with | some (.box _)=>ev2 [] xs [l] (.t (.bool false)) | _=>none
 | .neq,.bptr l _=>match get σ l with | some (.box _)=>ev2 [] xs [l] (.t (.bool true)) | _=>none
 | _,_=>none
def Zph(T:TS)(tm:List (Nat×PV))(t:Nat)(px:PV)(lo hi:Option Operand)(xs:List Orc):Ev:=
 match Zak T t,px,xs with
 | none,.t (.str s),.cs [.str z]::xs=>
  match (get T t).map (·.k),Zet tm 0 lo,Zet tm s.length hi with
  | some TK.str,some l,some h=>ev1 [0<=l,l<=h,h<=s.length,(s.take h.toNat).drop l.toNat=z] xs (.t (.str z))
  | _,_,_=>none
 | some (_,j),.t (.sl es),.es es'::xs=>
  match Zet tm 0 lo,Zet tm es.length hi with
  | some l,some h=>ev1 [∀ el,el∈es->el.length=j.size,0<=l,l<=h,h<=es.length,(es.take h.toNat).drop l.toNat=es'] xs (.t (.sl es'))
  | _,_=>none
 | _,_,_=>none
def Zyg(P:Program)(T:TS)(o:Oper)(tm:List (Nat×PV))(σ:List (Nat×Blk))(xs:List Orc):Ev:=
 match o.op with
 | .move x=>match Zb tm x with | some p=>ev0 xs p | none=>none
 | .assign x=>match Zb tm x with | some p=>ev0 xs p | none=>none
 | .pick c x y=>
  match Zb tm c,xs with
  | some (.t (.bool e)),.br b::xs=>match Zb tm (bif b then x else y) with | some p=>ev1 [e=b] xs p | none=>none
  | _,_=>none
 | .binOp op xT x y _=>
  bif Zma y then (match Zb tm x with | some px=>Zux T op xT px xs | none=>none)
  else bif Zmb y then (match Zb tm x,(get T xT).map (·.k) with | some px,some TK.ptr=>Zr7 σ op px xs | _,_=>none)
  else match Zb tm x,Zb tm y with | some px,some py=>Zuv T op xT px py xs | _,_=>none
 | .unOp op _ x=>
  match op,Zb tm x with
  | .not,some (.t (.bool b))=>ev0 xs (.t (.bool (!b)))
  | .neg,some (.t (.int k a))=>ev0 xs (.t (.int k (k.wrap (0 - a))))
  | .xor,some (.t (.int k a))=>ev0 xs (.t (.int k (Zhx .xor k (if k.signed then -1 else k.max) a)))
  | _,_=>none
 | .convert s d x=>
  match (get T s).map (·.k),(get T d).map (·.k),Zb tm x with
  | some (TK.int _),some (TK.int k'),some (.t (.int _ a))=>ev0 xs (.t (.int k' (k'.wrap a)))
  | some TK.str,some TK.str,some (.t (.str a))=>ev0 xs (.t (.str a))
  | some TK.str,some (TK.slice e),some (.t (.str a))=>
   match (get T e).map (·.k),xs with
   | some (TK.int .u8),.es es::xs=>ev1 [Zb3 a=es,a.length<=9223372036854775807] xs (.t (.sl es))
   | _,_=>none
  | some (TK.slice e),some TK.str,some (.t (.sl es))=>
   match (get T e).map (·.k),xs with
   | some (TK.int .u8),.cs [.str s]::xs=>ev1 [Zb3 s=es,s≠[]] xs (.t (.str s))
   | _,_=>none
  | _,_,_=>none
 | .field xT x i=>
  match Zh8 T xT i,Zb tm x with
  | some (q,j),some (.agg cs)=>match Zar j.agg j.size q cs with | some p=>ev0 xs p | none=>none
  | _,_=>none
 | .extract x i=>match Zb tm x with | some (.tup cs)=>(match cs[i]? with | some p=>ev0 xs p | none=>none) | _=>none
 | .nilCheck x=>
  match Zb tm x with
  | some (.vptr cs)=>ev0 xs (.vptr cs)
  | some (.bptr l q)=>match get σ l with | some (.box _)=>ev2 [] xs [l] (.bptr l q) | _=>none
  | some (.rptr l m i q)=>match get σ l with | some (.row _ es)=>ev2 [es.length=m] xs [l] (.rptr l m i q) | _=>none
  | _=>none
 | .makeFunc (.func f) first caps=>bif Nat.beq first.size 0 then (match Zcl tm caps.toList with | some ps=>ev0 xs (.fn f ps) | none=>none) else none
 | .build t parts=>match Zbj tm parts.toList with | some ps=>Zpf T t ps xs | none=>none
 | .buildSlice t len parts=>match Zbj tm parts.toList with | some ps=>Zuw T t len ps xs | none=>none
 | .box _ x=>
  match Zb tm x,xs with
  | some p,.lab l::xs=>bif (Zi p).all PV.one&&Nat.ble 1000 l then ev3 [] xs (.bptr l 0) l (.box (Zi p)) else none
  | _,_=>none
 | .alloc t=>
  match (get T t).bind (·.zero),xs with
  | some z,.lab l::xs=>bif Nat.ble 1000 l then ev3 [] xs (.bptr l 0) l (.box z) else none
  | _,_=>none
 | .makeSlice t x y=>match Zb tm x,Zb tm y with | some px,some py=>Zr5 T t px py xs | _,_=>none
 | .fieldAddr s x i=>match Zb tm x with | some px=>Zjd T σ s i px xs | none=>none
 | .indexAddr t x y=>match Zb tm x,Zb tm y with | some px,some py=>Zje T σ t px py xs | _,_=>none
 | .index t x y=>match Zb tm x,Zb tm y with | some px,some py=>Zpg T t px py xs | _,_=>none
 | .load t x=>
  match Zb tm x with
  | some px=>
   match xs,o.dst with
   | .cell d c::xs',some d'=>bif Nat.beq d d' then Zm9 T σ t px c xs' else Zoe T σ t px xs
   | _,_=>Zoe T σ t px xs
  | none=>none
 | .slice t x none (some y) (some z)=>
  match Zak T t,Zb tm x,Zb tm y,Zb tm z with
  | some _,some px,some (.t (.int _ 0)),some (.t (.int _ 0))=>bif Zqv px then ev0 xs .nils else none
  | _,_,_,_=>none
 | .slice t x lo hi none=>match Zb tm x with | some px=>Zph T tm t px lo hi xs | none=>none
 | .call c=>match Zcl tm c.args.toList with | some ps=>Zr6 T P tm σ c.callee ps c.argTypes.toList xs | none=>none
 | _=>none
abbrev Em:=Option (List Prop×List Orc×Stm)
def Z1a(ls:List Nat)(d:Nat)(σ1:List (Nat×Blk)):Bool:=σ1.all fun x=>match ls[x.1]? with | some _=>true | none => !Zib ls (x.1+d)
def Zpi(P:Program)(tm:List (Nat×PV))(σ:List (Nat×Blk))(fo:Operand)(as:List Operand)(xs:List Orc):Em:=
 match Zb tm fo,Zcl tm as,xs with
 | some (.fn f caps),some ps,.callU S ls d σ1 res::xs=>
  match Zbd S ls σ (ps++caps),Zfs ls σ 0 ls with
  | some (cs,qs),some σa=>
   bif Zoh ls d σa σ1 res&&Z1a ls d σ1 then
    some (cs++(scC S σ1 res++[FnG P f σa qs σ1 res]),xs,⟨⟨ls++(Zdl (ps++caps)++Zha σ (ps++caps)),res.ren (Zad ls d),Zaj (Zad ls d) σ1⟩,ls⟩)
   else none
  | _,_=>none
 | _,_,_=>none
def Zpj(P:Program)(tm:List (Nat×PV))(σ:List (Nat×Blk))(fo:Operand)(as:List Operand)(xs:List Orc):Em:=
 match Zb tm fo,as,xs with
 | some (.fn f []),[x],.callC L b::xs=>
  match Zb tm x with
  | some (.osl l m)=>
   match get σ l with
   | some (.row k es)=>bif Nat.ble 1000 L && !Nat.beq L l then some ([es.length=m,Zjp P f k b,m*b<=140737488355328],xs,⟨⟨[l],.osl L m,[(L,.row k es)]⟩,[]⟩) else none
   | _=>none
  | _=>none
 | _,_,_=>none
def Zuy(P:Program)(T:TS)(o:Oper)(tm:List (Nat×PV))(σ:List (Nat×Blk))(xs:List Orc):Em:=
 match o.op with
 | .call c=>
  match c.callee,Zcl tm c.args.toList,c.argTypes.toList,xs with
  | .value fo,_,_,xs=>match Zpi P tm σ fo c.args.toList xs with | some r=>some r | none=>Zpj P tm σ fo c.args.toList xs
  | .builtin .append,some [.osl l m,y],[t,tx],.es es::xs=>
   match Zak T t,Zak T tx,Zof σ y,get σ l with
   | some (_,⟨_,k,bytes,some z,_,_⟩),some _,some (cs,ys,ls),some (.row k' es0)=>
    bif Nat.blt 0 k&&Nat.beq z.length k&&Nat.beq k k' then
     some (cs++[es0.length=m,es0++ys=es,∀ el,el∈ys->el.length=k,es.length<=9223372036854775807,es.length*bytes<=140737488355328],xs,⟨⟨l::ls,.osl l es.length,[(l,.row k es)]⟩,[l]⟩)
    else none
   | _,_,_,_=>none
  | .builtin .copy,some [.osl l m,y],[t,tx],.num q :: .es es::xs=>
   match Zak T t,Zak T tx,Zof σ y,get σ l with
   | some (_,⟨_,k,_,some z,_,_⟩),some _,some (cs,ys,ls),some (.row k' es0)=>
    bif Nat.blt 0 k&&Nat.beq z.length k&&Nat.beq k k' then
     some (cs++[es0.length=m,(ys.length:Int)=q,ys.length<=m,∀ el,el∈ys->el.length=k,ys++es0.drop ys.length=es],xs,⟨⟨l::ls,.t (.int .i64 q),[(l,.row k es)]⟩,[l]⟩)
    else none
   | _,_,_,_=>none
  | _,_,_,_=>none
 | .store t x y=>
  match o.dst,get T t,Zb tm x,Zb tm y with
  | none,some i,some (.bptr l q),some p=>
   match get σ l,xs with
   | some (.box cs),.sp cs'::xs=>
    bif Nat.beq (Zi p).length i.size&&(Zi p).all PV.one then some ([q+i.size<=cs.length,splice cs q (Zi p)=cs'],xs,⟨⟨[l],.tup [],[(l,.box cs')]⟩,[l]⟩) else none
   | some (.box cs),xs=>
    bif Nat.beq (Zi p).length i.size&&(Zi p).all PV.one&&Nat.ble (q+i.size) cs.length then some ([],xs,⟨⟨[l],.tup [],[(l,.box (splice cs q (Zi p)))]⟩,[l]⟩) else none
   | _,_=>none
  | none,some i,some (.rptr l m j q),some p=>
   match get σ l,xs,Zaw (Zi p) with
   | some (.row k es),.cs e :: .es es'::xs,some ts=>
    bif Nat.beq ts.length i.size&&Nat.ble (q+i.size) k then some ([es.length=m,es[j]?=some e,es.set j (splice e q ts)=es'],xs,⟨⟨[l],.tup [],[(l,.row k es')]⟩,[l]⟩) else none
   | _,_,_=>none
  | _,_,_,_=>none
 | _=>none
def Zuz(T:TS)(o:Oper)(tm:List (Nat×PV))(σ:List (Nat×Blk))(xs:List Orc):Em:=
 match o.op with
 | .slice t x (some y) none none=>
  match Zak T t,Zb tm x,Zb tm y,xs with
  | some (_,j),some (.osl l m),some (.t (.int _ i)),.nat n::xs=>
   match get σ l with
   | some (.row k es)=>bif Nat.beq j.size k then some ([es.length=m,0<=i,i<=m,i.toNat=n],xs,⟨⟨[l],.own l (.tail m n),[]⟩,[]⟩) else none
   | _=>none
  | _,_,_,_=>none
 | .indexAddr t x y=>
  match Zak T t,Zb tm x,Zb tm y,xs with
  | some (_,j),some (.own l (.msl m)),some (.t (.int _ i)),.nat n::xs=>
   match get σ l with
   | some (.mat 1 0 es)=>bif Nat.beq j.size 1 then some ([es.length=m,0<=i,i < m,i.toNat=n],xs,⟨⟨[l],.own l (.mpt m n 0),[]⟩,[]⟩) else none
   | _=>none
  | some (_,j),some (.own l (.mrow m jj)),some (.t (.int _ i)),.es inner :: .nat n::xs=>
   match get σ l with
   | some (.mat 1 0 es)=>bif Nat.beq j.size 1 then some ([es.length=m,es[jj]?=some [.sl inner],0<=i,i < inner.length,i.toNat=n],xs,⟨⟨[l],.own l (.mel m jj n),[]⟩,[]⟩) else none
   | _=>none
  | _,_,_,_=>none
 | .load t x=>
  match get T t,Zb tm x with
  | some i,some (.own l (.mpt m j 0))=>
   match get σ l with
   | some (.mat 1 0 es)=>bif !i.agg&&Nat.beq i.size 1 then some ([es.length=m,j < m],xs,⟨⟨[l],.own l (.mrow m j),[]⟩,[]⟩) else none
   | _=>none
  | some i,some (.own l (.mel m j q))=>
   match get σ l,xs with
   | some (.mat 1 0 es),.es inner :: .cs [z]::xs=>bif (!i.agg&&Nat.beq i.size 1)&&z.scal then some ([es.length=m,es[j]?=some [.sl inner],inner[q]?=some [z]],xs,⟨⟨[l],.t z,[]⟩,[]⟩) else none
   | _,_=>none
  | _,_=>none
 | .buildSlice t 1 parts=>
  match Zak T t,Zbj tm parts.toList,xs with
  | some (_,⟨_,1,_,some z,_,_⟩),some [(0,.osl l2 n2)],.lab L::xs=>
   match get σ l2,Zcd (Zcf 1 1) (rep 1 z) [(0,.osl l2 n2)] with
   | some (.row 1 es2),some out=>bif Nat.beq z.length 1&&Nat.ble 1000 L && !Nat.beq L l2 then some ([out=[.osl l2 n2],es2.length=n2,SC1 es2],xs,⟨⟨[l2],.own L (.msl 1),[(L,.mat 1 0 [[.sl es2]])]⟩,[l2]⟩) else none
   | _,_=>none
  | _,_,_=>none
 | .buildSlice t 0 parts=>
  match Zak T t,Zbj tm parts.toList,xs with
  | some (_,⟨_,1,_,some z,_,_⟩),some [],.num 0 :: .lab L::xs=>bif Nat.beq z.length 1 then some ([],xs,⟨⟨[],.own L (.msl 0),[(L,.mat 1 0 [])]⟩,[]⟩) else none
  | _,_,_=>none
 | .call c=>
  match c.callee,Zcl tm c.args.toList,c.argTypes.toList,xs with
  | .builtin .append,some [.own l (.msl m),.own l3 (.msl m3)],[t,tx],.es es::xs=>
   match Zak T t,Zak T tx,get σ l,get σ l3 with
   | some (_,⟨_,1,bytes,some z,_,_⟩),some _,some (.mat 1 0 es0),some (.mat 1 0 es3)=>
    bif Nat.beq z.length 1&&Nat.blt 0 m3 && !Nat.beq l l3 then
     some ([es0.length=m,es3.length=m3,es0++es3=es,m+m3<=9223372036854775807,(m+m3)*bytes<=140737488355328],xs,⟨⟨[l,l3],.own l (.msl es.length),[(l,.mat 1 0 es)]⟩,[l,l3]⟩)
    else none
   | _,_,_,_=>none
  | _,_,_,_=>none
 | _=>none
def Zu0(P:Program)(T:TS)(o:Oper)(tm:List (Nat×PV))(σ:List (Nat×Blk))(xs:List Orc):Em:=
 match o.op with
 | .makeMap t none=>
  match (get T t).map (·.k),xs with
  | some (TK.map _ e),.lab L::xs=>match get T e with | some j=>some ([],xs,⟨⟨[],.own L .map,[(L,.map (.v j.agg) [])]⟩,[]⟩) | none=>none
  | _,_=>none
 | .lookup t x y ok=>
  match (get T t).map (·.k),Zb tm x,Zb tm y,xs with
  | some (TK.map k e),some (.own l .map),some (.t (.int .i64 n)),.cs ts::xs=>
   match get σ l,(get T k).map (·.k) with
   | some (.map (.v ag) es),some (TK.int .i64)=>
    match Zg3 P ag e,ok,xs with
    | some zs,true,.br b::xs=>some ([mlk es n zs=(ts,b)],xs,⟨⟨[l],.tup [mvP ag ts,.t (.bool b)],[]⟩,[]⟩)
    | some zs,false,xs=>some ([(mlk es n zs).1=ts],xs,⟨⟨[l],mvP ag ts,[]⟩,[]⟩)
    | _,_,_=>none
   | _,_=>none
  | some (TK.map k e),some (.own l .map),some (.t (.int .i64 n)),.lab L :: .es rows::xs=>
   match get σ l,(get T k).map (·.k),ok,Za8 P e with
   | some (.map (.rows c none) es),some (TK.int .i64),false,some [.nils]=>bif (Zg3 P false e).isSome&&(!Nat.beq L l&&Nat.ble 1000 L) then some ([rlk es n=rows],xs,⟨⟨[l],.osl L rows.length,[(l,.map (.rows c (some n)) es),(L,.row c rows)]⟩,[l]⟩) else none
   | _,_,_,_=>none
  | _,_,_,_=>none
 | .mapUpdate t x y z=>
  match o.dst,(get T t).map (·.k),Zb tm x,Zb tm y,Zb tm z,xs with
  | none,some (TK.map k _),some (.own l .map),some (.t (.int .i64 i)),some (.osl L m),.mp es'::xs=>
   match get σ l,get σ L,(get T k).map (·.k) with
   | some (.map (.rows c (some n)) es),some (.row c2 rows),some (TK.int .i64)=>bif Nat.beq c c2 && !Nat.beq L l then some ([n=i,rows.length=m,Zbo es i [.sl rows]=es'],xs,⟨⟨[l,L],.tup [],[(l,.map (.rows c none) es')]⟩,[l,L]⟩) else none
   | _,_,_=>none
  | _,_,_,_,_,_=>none
 | .call c=>
  match c.callee,Zcl tm c.args.toList,c.argTypes.toList,xs with
  | .builtin .len,some [.own l .map],[t],.num n::xs=>
   match (get T t).map (·.k),get σ l with
   | some (TK.map _ _),some (.map (.v _) es)=>some ([(es.length:Int)=n],xs,⟨⟨[l],.t (.int .i64 n),[]⟩,[]⟩)
   | _,_=>none
  | _,_,_,_=>none
 | _=>none
def Zyh(T:TS)(o:Oper)(tm:List (Nat×PV))(σ:List (Nat×Blk))(xs:List Orc):Em:=
 match o.op with
 | .nilCheck x=>
  match Zb tm x with
  | some (.own l (.pp m q))=>match get σ l with | some (.prow _ _ es _)=>some ([es.length=m],xs,⟨⟨[l],.own l (.pp m q),[]⟩,[]⟩) | _=>none
  | _=>none
 | .fieldAddr s x f=>
  match Zh8 T s f,Zb tm x with
  | some (q0,j),some (.own l (.pp m q))=>match get σ l with | some (.prow _ _ es _)=>bif Nat.blt 0 j.size then some ([es.length=m],xs,⟨⟨[l],.own l (.pp m (q+q0)),[]⟩,[]⟩) else none | _=>none
  | _,_=>none
 | .load t x=>
  match get T t,Zb tm x with
  | some i,some (.own l (.pp m q))=>
   match get σ l with
   | some (.prow _ _ es cs)=>match Zar i.agg i.size q cs with | some p=>some ([es.length=m],xs,⟨⟨[l],p,[]⟩,[]⟩) | none=>none
   | _=>none
  | _,_=>none
 | .store t x y=>
  match o.dst,get T t,Zb tm x,Zb tm y with
  | none,some i,some (.own l (.pp m q)),some p=>
   match get σ l with
   | some (.prow k i0 es cs)=>
    bif Nat.beq (Zi p).length i.size&&(Zi p).all PV.one&&Nat.ble (q+i.size) cs.length then some ([es.length=m],xs,⟨⟨[l],.tup [],[(l,.prow k i0 es (splice cs q (Zi p)))]⟩,[l]⟩) else none
   | _=>none
  | _,_,_,_=>none
 | _=>none
def Zu1(T:TS)(o:Oper)(tm:List (Nat×PV))(σ:List (Nat×Blk))(xs:List Orc):Em:=
 match o.op with
 | .nilCheck x=>
  match Zb tm x with
  | some (.own l (.rp cs))=>match get σ l with | some (.reg _)=>some ([],xs,⟨⟨[l],.own l (.rp cs),[]⟩,[]⟩) | _=>none
  | some (.own l (.xp m j q))=>match get σ l with | some (.xrow _ _ _ es)=>some ([es.length=m],xs,⟨⟨[l],.own l (.xp m j q),[]⟩,[]⟩) | _=>none
  | _=>none
 | .fieldAddr s x f=>
  match Zh8 T s f,Zb tm x with
  | some (q0,j),some (.own l (.rp cs))=>match get σ l with | some (.reg _)=>bif Nat.blt 0 j.size then some ([],xs,⟨⟨[l],.own l (.rp (cs.drop q0)),[]⟩,[]⟩) else none | _=>none
  | some (q0,j),some (.own l (.xp m jj q))=>match get σ l with | some (.xrow _ _ _ es)=>bif Nat.blt 0 j.size then some ([es.length=m],xs,⟨⟨[l],.own l (.xp m jj (q+q0)),[]⟩,[]⟩) else none | _=>none
  | _,_=>none
 | .indexAddr t x y=>
  match Zak T t,Zb tm x,Zb tm y,xs with
  | some (_,j),some (.own l (.rg (.sl es))),some (.t (.int _ i)),.cs e::xs=>
   match get σ l with
   | some (.reg _)=>some ([∀ el,el∈es->el.length=j.size,0<=i,es[i.toNat]?=some e],xs,⟨⟨[l],.own l (.rp e),[]⟩,[]⟩)
   | _=>none
  | some (_,j),some (.own l (.xw m)),some (.t (.int _ i)),.nat n::xs=>
   match get σ l with
   | some (.xrow k _ _ es)=>bif Nat.beq j.size k then some ([es.length=m,0<=i,i < m,i.toNat=n],xs,⟨⟨[l],.own l (.xp m n 0),[]⟩,[]⟩) else none
   | _=>none
  | _,_,_,_=>none
 | .load t x=>
  match get T t,Zb tm x with
  | some i,some (.own l (.rp cs))=>
   match get σ l with
   | some (.reg h)=>match Zar i.agg i.size 0 (cs.map (rgL h l)) with | some p=>some ([],xs,⟨⟨[l],p,[]⟩,[]⟩) | none=>none
   | _=>none
  | some i,some (.own l (.xp m j q))=>
   match get σ l,xs with
   | some (.xrow _ i0 _ es),.cs e::xs=>match Zar i.agg i.size q (e.map .t) with | some p=>some ([es.length=m,i0<=j,es[j]?=some e],xs,⟨⟨[l],p,[]⟩,[]⟩) | none=>none
   | _,_=>none
  | _,_=>none
 | .unOp op _ x=>
  match op,Zb tm x with
  | .not,some (.own l (.rg (.bool b)))=>match get σ l with | some (.reg true)=>some ([],xs,⟨⟨[l],.own l (.rg (.bool b)),[]⟩,[]⟩) | _=>none
  | _,_=>none
 | .binOp op _ x y _=>
  match op,Zb tm x,Zb tm y with
  | .add,some (.own l (.rg (.int k i))),some (.t (.int k2 _))=>
   bif decide (k=k2) then match get σ l with | some (.reg true)=>some ([],xs,⟨⟨[l],.own l (.rg (.int k i)),[]⟩,[]⟩) | _=>none else none
  | _,_,_=>none
 | .store t x y=>
  match o.dst,get T t,Zb tm x,Zb tm y with
  | none,some i,some (.own l (.rp (c0::cs))),some p=>
   match get σ l,Zoa σ p with
   | some (.reg true),some z=>bif Zjq c0 z&&(!i.agg&&Nat.beq i.size 1) then some ([],xs,⟨⟨l::Zfy p,.tup [],[]⟩,[]⟩) else none
   | _,_=>none
  | none,some i,some (.own l (.xp m j q)),some (.osl r2 n2)=>
   match get σ l,get σ r2,xs with
   | some (.xrow k i0 r es),some (.row _ es2),.cs e :: .es es' :: .nat i1::xs=>
    match get σ r,Zfa r (splice (e.map .t) q [.own r (.rg (.sl es2))]) with
    | some (.reg false),some ts=>
     bif (!i.agg&&Nat.beq i.size 1&&Nat.ble (q+1) k)&&(Nat.ble 1000 r && !Nat.beq r r2&&(!Nat.beq l r && !Nat.beq l r2)) then
      some ([es.length=m,i0=j,es[i0]?=some e,es2.length=n2,∀ el,el∈es2->∀ x,x∈el->Za.scal x=true,es.set i0 ts=es',i0+1=i1],xs,⟨⟨[l,r,r2],.tup [],[(l,.xrow k i1 r es'),(r,.reg false)]⟩,[l,r,r2]⟩) else none
    | _,_=>none
   | _,_,_=>none
  | none,some i,some (.own l (.xp m j q)),some p=>
   match get σ l,xs with
   | some (.xrow k i0 r es),.cs e :: .es es' :: .nat i1::xs=>
    match Zfa r (splice (e.map .t) q (Zi p)) with
    | some ts=>
     bif Nat.beq (Zi p).length i.size&&(Zi p).all PV.one&&Nat.ble (q+i.size) k then
      some ([es.length=m,i0=j,es[i0]?=some e,es.set i0 ts=es',i0+1=i1],xs,⟨⟨[l],.tup [],[(l,.xrow k i1 r es')]⟩,[l]⟩) else none
    | none=>none
   | _,_=>none
  | _,_,_,_=>none
 | .call c=>
  match c.callee,Zcl tm c.args.toList,c.argTypes.toList,xs with
  | .builtin .len,some [.own l (.rg (.sl es))],[t],.num n::xs=>
   match (get T t).map (·.k),get σ l with
   | some (TK.slice _),some (.reg _)=>some ([(es.length:Int)=n],xs,⟨⟨[l],.t (.int .i64 n),[]⟩,[]⟩)
   | _,_=>none
  | .builtin .len,some [.own l (.xw m)],[t],.num n::xs=>
   match (get T t).map (·.k),get σ l with
   | some (TK.slice _),some (.xrow _ _ _ es)=>some ([es.length=m,(m:Int)=n],xs,⟨⟨[l],.t (.int .i64 n),[]⟩,[]⟩)
   | _,_=>none
  | .builtin .append,some [.nils,.own l2 (.xw m2)],[t,tx],.lab L :: .es es'::xs=>
   match Zak T t,Zak T tx,get σ l2 with
   | some (_,⟨_,k,bytes,some z,_,_⟩),some _,some (.xrow k2 i2 r es)=>
    bif Nat.blt 0 k&&Nat.beq z.length k&&(Nat.beq k k2&&Nat.ble 1000 L && !Nat.beq L r) then
     some ([i2=es.length,es.length=m2,es=es',es'.length<=9223372036854775807,es'.length*bytes<=140737488355328],xs,⟨⟨[l2],.own L (.xw es'.length),[(L,.xrow k es'.length r es')]⟩,[]⟩)
    else none
   | _,_,_=>none
  | .builtin .append,some [.own l (.xw m),.own l2 (.xw m2)],[t,tx],.es es'::xs=>
   match Zak T t,Zak T tx,get σ l,get σ l2 with
   | some (_,⟨_,k,bytes,some z,_,_⟩),some _,some (.xrow k1 i1 r es0),some (.xrow k2 i2 r2 es)=>
    bif Nat.beq r r2 then
    bif Nat.blt 0 k&&Nat.beq z.length k&&(Nat.beq k k1&&Nat.beq k k2) then
     some ([es0.length=m,i1=m,i2=es.length,es.length=m2,es0++es=es',es'.length<=9223372036854775807,es'.length*bytes<=140737488355328],xs,⟨⟨[l,l2],.own l (.xw es'.length),[(l,.xrow k es'.length r es')]⟩,[l]⟩)
    else none
    else
    match get σ r,get σ r2 with
    | some (.reg false),some (.reg false)=>
     bif Nat.blt 0 k&&Nat.beq z.length k&&(Nat.beq k k1&&Nat.beq k k2)&&(Nat.ble 1000 r && !Nat.beq r r2&&(!Nat.beq l r && !Nat.beq l r2)) then
      some ([es0.length=m,i1=m,i2=es.length,es.length=m2,es0++es=es',es'.length<=9223372036854775807,es'.length*bytes<=140737488355328],xs,⟨⟨[l,l2,r,r2],.own l (.xw es'.length),[(l,.xrow k es'.length r es'),(r,.reg false)]⟩,[l,r,r2]⟩)
     else none
    | _,_=>none
   | _,_,_,_=>none
  | _,_,_,_=>none
 | .buildSlice t len parts=>
  match Zak T t,Zbj tm parts.toList,xs with
  | some (_,⟨_,k,_,some z,_,_⟩),some ps,.nat r :: .lab L::xs=>
   bif Nat.blt 0 k&&Nat.beq z.length k&&Nat.ble (len*k) 16777216 then
    match Zcd (Zcf k len) (rep len z) ps with
    | some out=>
     match Zfa r out with
     | some ts=>bif Nat.ble 1000 L && !Nat.beq L r&&Nat.beq ts.length (len*k) then some ([],xs,⟨⟨[],.own L (.xw len),[(L,.xrow k len r (chunk k len ts))]⟩,[]⟩) else none
     | none=>none
    | none=>none
   else none
  | _,_,_=>none
 | _=>none
def Zqz(P:Program)(T:TS)(o:Oper)(tm:List (Nat×PV))(σ:List (Nat×Blk))(xs:List Orc):Em:=
 match Zyg P T o tm σ xs with
 | some (ps,xs,s)=>some (ps,xs,⟨s,[]⟩)
 | none=>
  match Zuy P T o tm σ xs with
  | some r=>some r
  | none=>
   match Zuz T o tm σ xs with
   | some r=>some r
   | none=>
    match Zu0 P T o tm σ xs with
    | some r=>some r
    | none=>
     match Zyh T o tm σ xs with
     | some r=>some r
     | none=>Zu1 T o tm σ xs
end Go.PW
namespace Go.PW
open Go.RowKit
section
variable {P:Program} {T:TS} {o:Oper} {tm:List (Nat×PV)} {σ:List (Nat×Blk)} {xs xs':List Orc} {ps:List Prop} {s:Stp}
theorem Zbx{qs:List Prop}{need:List Nat}{p:PV}(h:ev2 qs xs need p=some (ps,xs',s)):ps=qs/\xs'=xs/\s=⟨need,p,[]⟩:=by
 simp only [ev2,Option.some.injEq,Prod.mk.injEq] at h
 exact⟨h.1.symm,h.2.1.symm,h.2.2.symm⟩
theorem Zmc{qs:List Prop}{p:PV}{l:Nat}{b:Blk}(h:ev3 qs xs p l b=some (ps,xs',s)):ps=qs/\xs'=xs/\s=⟨[],p,[(l,b)]⟩:=by
 simp only [ev3,Option.some.injEq,Prod.mk.injEq] at h
 exact⟨h.1.symm,h.2.1.symm,h.2.2.symm⟩
theorem Zag(a b:Nat):Nat.ble a b=true↔a<=b:=by rw [Nat.ble_eq]
theorem Zn{α:Type}{b:Bool}{x:Option α}{y:α}(h:(bif b then x else none)=some y):b=true/\x=some y:=by cases b<;>simp_all
theorem condNone'{α:Type}{b:Bool}{x:Option α}{y:α}(h:(bif b then none else x)=some y):b=false/\x=some y:=by cases b<;>simp_all
theorem Zoi(hT:TOK P T){t:Nat}{i:Zeu}{fs:List (Nat×Nat)}(h:get T t=some i)(hk:i.k = .struct fs){pl:List (Nat×Nat)}(hp:Zii T fs=some pl):Zfp P t=some pl:=by
 have:=(hT t i h).k
 rw [hk] at this
 obtain⟨fs',hu,rfl⟩:=this
 simp only [Zfp,hu]
 generalize fs'.toList=l at hp
 clear hu hk h i
 induction l generalizing pl with
 | nil=>simp only [List.map_nil,Zii,Option.some.injEq] at hp;subst hp;rfl
 | cons f l ih=>
  simp only [List.map_cons,Zii] at hp
  split at hp
  .rename_i i ps hi hps
   cases hp
   obtain⟨inf,hinf,hs⟩:=hT.size hi
   rw [List.mapM_cons,ih hps,hinf]
   simp [hs]
  .cases hp
theorem Zu2(hT:TOK P T){t:Nat}{parts:Array (Nat×Operand)}{qs:List (Nat×PV)}(ho:o.op = .build t parts)(hp:Zbj tm parts.toList=some qs)(h:Zpf T t qs xs=some (ps,xs',s)):Zr P o tm σ s.need s.p s.news:=by
 unfold Zpf at h
 split at h
 .rename_i z fs _ hi
  split at h
  .rename_i pl hpl
   split at h
   .rename_i out hf
    obtain⟨rfl,rfl,rfl⟩:=Zaf h
    exact Zrd ho ⟨.inl (Zoi hT hi rfl hpl),(hT t _ hi).z z rfl⟩ hp hf
   .cases h
  .cases h
 .rename_i z n e _ hi
  split at h
  .rename_i j hj
   split at h
   .rename_i out hf
    obtain⟨rfl,rfl,rfl⟩:=Zaf h
    refine Zrd ho ⟨.inr ?_,(hT t _ hi).z z rfl⟩ hp hf
    have hu:P.underlying t=some (.array n e):=(hT t _ hi).k
    obtain⟨inf,hinf,hs⟩:=hT.size hj
    simp [Zk8,hu,hinf,hs]
   .cases h
  .cases h
 .cases h
theorem Zyi(hT:TOK P T){t len:Nat}{parts:Array (Nat×Operand)}{qs:List (Nat×PV)}(ho:o.op = .buildSlice t len parts)(hp:Zbj tm parts.toList=some qs)(h:Zuw T t len qs xs=some (ps,xs',s)):Zr P o tm σ s.need s.p s.news:=by
 unfold Zuw at h
 split at h
 .rename_i e agg k by_ z kk fl he
  have hbh:=Zn h;clear h;obtain⟨hb,h⟩:=hbh
  simp only [Bool.and_eq_true] at hb
  have hE:=Zeo (z:=z) hT he rfl hb.1.1 hb.1.2
  have hsm:=(Zag _ _).1 hb.2
  split at h
  .rename_i out hf
   split at h
   .rename_i ts xs2 hts
    obtain⟨rfl,rfl,rfl⟩:=Zaf h
    exact Zzi ho hE hp hsm hf hts
   .rename_i ts l xs2 hts
    have hbh:=Zn h;clear h;obtain⟨hb2,h⟩:=hbh
    simp only [Bool.and_eq_true] at hb2
    obtain⟨rfl,rfl,rfl⟩:=Zmc h
    exact Z0l l ((Zag _ _).1 hb2.1) ho hE hp hsm hf hts ((Ze _ _).1 hb2.2)
   .cases h
  .cases h
 .cases h
theorem Zwn(hT:TOK P T){t:Nat}{x y:Operand}{px py:PV}(ho:o.op = .makeSlice t x y)(hx:Zb tm x=some px)(hy:Zb tm y=some py)(h:Zr5 T t px py xs=some (ps,xs',s))(hc:Zo ps):Zr P o tm σ s.need s.p s.news:=by
 unfold Zr5 at h
 split at h
 .rename_i e agg k bytes z kk fl _ m _ c l n es xs2 he
  have hbh:=Zn h;clear h;obtain⟨hb,h⟩:=hbh
  simp only [Bool.and_eq_true] at hb
  have hE:=Zeo (z:=z) hT he rfl hb.1.1 hb.1.2
  split at h
  .rename_i zs hzs
   obtain⟨rfl,rfl,rfl⟩:=Zmc h
   obtain⟨h1,h2,h3,h4,h5,h6,_⟩:=hc
   subst h5
   subst h6
   exact Zzj l ((Zag _ _).1 hb.2) ho hE hzs hx hy h1 h2 h3 h4
  .cases h
 .cases h
theorem Zpk(hT:TOK P T){t i:Nat}{x:Operand}{px:PV}(ho:o.op = .fieldAddr t x i)(hx:Zb tm x=some px)(h:Zjd T σ t i px xs=some (ps,xs',s))(hc:Zo ps):Zr P o tm σ s.need s.p s.news:=by
 unfold Zjd at h
 split at h
 .rename_i q j hf
  have hbh:=condNone' h;clear h;obtain⟨hb,h⟩:=hbh
  have hs:j.size≠0:=fun e=>by rw [e] at hb;cases hb
  obtain⟨i0,fs,fT,hi0,hk0,hfs,hj⟩:=Zex hf
  have hfi:=hT.fieldInfo hi0 hk0 hfs hj
  split at h
  .split at h
   .rename_i hg
    obtain⟨rfl,rfl,rfl⟩:=Zbx h
    exact Zvu ho hfi hs hx hg
   .cases h
  .split at h
   .rename_i hg
    obtain⟨rfl,rfl,rfl⟩:=Zbx h
    exact Zvv ho hfi hs hx hg hc.1
   .cases h
  .obtain⟨rfl,rfl,rfl⟩:=Zaf h
   exact Zvw ho hfi hs hx
  .cases h
 .cases h
theorem Zpl(hT:TOK P T){t:Nat}{x y:Operand}{px py:PV}(ho:o.op = .indexAddr t x y)(hx:Zb tm x=some px)(hy:Zb tm y=some py)(h:Zje T σ t px py xs=some (ps,xs',s))(hc:Zo ps):Zr P o tm σ s.need s.p s.news:=by
 unfold Zje at h
 split at h
 .split at h
  .split at h
   .rename_i e j c xs2 he
    obtain⟨rfl,rfl,rfl⟩:=Zat h
    obtain⟨i0,hi0,hk0,hj⟩:=Zaa he
    exact Zvy ho (hT.slInfo hi0 hk0 hj) hx hy hc.1 hc.2.1 hc.2.2.1
   .cases h
  .split at h
   .rename_i e j k es n xs2 he hg
    have hbh:=Zn h;clear h;obtain⟨hb,h⟩:=hbh
    have hb:=(Ze _ _).1 hb
    obtain⟨rfl,rfl,rfl⟩:=Zbx h
    obtain⟨i0,hi0,hk0,hj⟩:=Zaa he
    obtain⟨h1,h2,h3,h4,_⟩:=hc
    subst h4
    exact Zvz ho (hT.slInfo hi0 hk0 hj) hx hy (by rw [hb];exact hg) h1 h2 h3
   .cases h
  .split at h
   .rename_i len e j cs n xs2 he hg
    obtain⟨rfl,rfl,rfl⟩:=Zbx h
    obtain⟨i0,hi0,hk0,hj⟩:=Zi5 he
    obtain⟨h2,h3,h4,_⟩:=hc
    subst h4
    exact Zvx ho (hT.arrInfo hi0 hk0 hj) hx hy hg h2 h3
   .cases h
  .split at h
   .rename_i len e j k els n xs2 he hg
    obtain⟨rfl,rfl,rfl⟩:=Zbx h
    obtain⟨i0,hi0,hk0,hj⟩:=Zi5 he
    obtain⟨h1,h2,h3,h4,_⟩:=hc
    subst h4
    exact Zuf ho (hT.arrInfo hi0 hk0 hj) hx hy hg h1 h2 h3
   .cases h
  .split at h
   .rename_i len e j n xs2 he
    obtain⟨rfl,rfl,rfl⟩:=Zat h
    obtain⟨i0,hi0,hk0,hj⟩:=Zi5 he
    obtain⟨h2,h3,h4,_⟩:=hc
    subst h4
    exact Zug ho (hT.arrInfo hi0 hk0 hj) hx hy h2 h3
   .cases h
  .cases h
 .cases h
theorem Zu3(hT:TOK P T){t:Nat}{x y:Operand}{px py:PV}(ho:o.op = .index t x y)(hx:Zb tm x=some px)(hy:Zb tm y=some py)(h:Zpg T t px py xs=some (ps,xs',s))(hc:Zo ps):Zr P o tm σ s.need s.p s.news:=by
 unfold Zpg at h
 split at h
 .split at h
  .split at h
   .rename_i hk
    obtain⟨rfl,rfl,rfl⟩:=Zat h
    simp only [Option.map_eq_some_iff] at hk
    obtain⟨i0,hi0,hk⟩:=hk
    have hu:=(hT _ _ hi0).k
    rw [hk] at hu
    exact Zta ho hu hx hy hc.1 hc.2.1
   .cases h
  .split at h
   .rename_i len e j c xs2 he
    obtain⟨rfl,rfl,rfl⟩:=Zat h
    obtain⟨i0,hi0,hk0,hj⟩:=Zi5 he
    have hu:=(hT _ _ hi0).k
    rw [hk0] at hu
    exact Zs9 ho hu (hT _ _ hj).ty hx hy hc.1 hc.2.1 hc.2.2.1
   .cases h
  .cases h
 .cases h
theorem Zqa(hT:TOK P T){t:Nat}{x:Operand}{px:PV}(ho:o.op = .load t x)(hx:Zb tm x=some px)(h:Zoe T σ t px xs=some (ps,xs',s))(hc:Zo ps):Zr P o tm σ s.need s.p s.news:=by
 unfold Zoe at h
 split at h
 .rename_i i hi
  have hty:=(hT t i hi).ty
  split at h
  .split at h
   .rename_i hg
    split at h
    .rename_i p hp
     obtain⟨rfl,rfl,rfl⟩:=Zbx h
     exact Zrf ho hty hx hg hp
    .cases h
   .cases h
  .split at h
   .rename_i hg
    split at h
    .rename_i p hp
     obtain⟨rfl,rfl,rfl⟩:=Zbx h
     exact Zxf ho hty hx hg hc.1 hc.2.1 hp
    .cases h
   .cases h
  .split at h
   .rename_i p hp
    obtain⟨rfl,rfl,rfl⟩:=Zaf h
    exact Zrg ho hty hx hp
   .cases h
  .cases h
 .cases h
theorem Ztk(hT:TOK P T){t:Nat}{x:Operand}{px:PV}{c:List Za}(ho:o.op = .load t x)(hx:Zb tm x=some px)(h:Zm9 T σ t px c xs=some (ps,xs',s))(hc:Zo ps):Zr P o tm σ s.need s.p s.news:=by
 unfold Zm9 at h
 split at h
 .rename_i i l q hi
  split at h
  .rename_i cs hg
   obtain⟨rfl,rfl,rfl⟩:=Zbx h
   exact Zrf ho (hT t i hi).ty hx hg hc.1
  .cases h
 .rename_i i cs hi
  obtain⟨rfl,rfl,rfl⟩:=Zat h
  exact Zrg ho (hT t i hi).ty hx hc.1
 .cases h
theorem Zbt{c:Call}{ce:Callee}{as:List Operand}{ts:List Nat}(hc:c.callee=ce)(ha:c.args.toList=as)(ht:c.argTypes.toList=ts):c={ callee:=ce,args:=as.toArray,argTypes:=ts.toArray }:=by
 cases c
 subst hc ha ht
 simp
theorem Zfh{tm:List (Nat×PV)}{l:List Operand}{p:PV}(h:Zcl tm l=some [p]):∃ x,l=[x]/\Zb tm x=some p:=by
 match l,h with
 | [x],h=>
  simp only [Zcl] at h
  split at h
  .rename_i q qs hq hqs
   cases h
   cases hqs
   exact⟨x,rfl,hq⟩
  .cases h
 | x::y::l,h=>
  simp only [Zcl] at h
  split at h
  .rename_i q qs hq hqs
   cases h
   split at hqs
   .cases hqs
   .cases hqs
  .cases h
theorem Zdb{tm:List (Nat×PV)}{l:List Operand}{p q:PV}(h:Zcl tm l=some [p,q]):∃ x y,l=[x,y]/\Zb tm x=some p/\Zb tm y=some q:=by
 match l,h with
 | x::l,h=>
  simp only [Zcl] at h
  split at h
  .rename_i r rs hr hrs
   cases h
   obtain⟨y,rfl,hy⟩:=Zfh hrs
   exact⟨x,y,rfl,hr,hy⟩
  .cases h
theorem Zna{p:PV}{cs:List Prop}{es:List (List Za)}{ls:List Nat}(h:Zof σ p=some (cs,es,ls))(hc:Zo cs):Zfq σ p es/\∀ m,p.has m=true->m∈ls:=by
 unfold Zof at h
 split at h
 .cases h;exact⟨.tree _,fun m hm=>by simp [PV.has] at hm⟩
 .cases h;exact⟨.nils,fun m hm=>by simp [PV.has] at hm⟩
 .cases h;exact⟨.con _ _,fun m hm=>by simp [PV.has] at hm⟩
 .split at h
  .rename_i hg
   cases h
   exact⟨.own _ _ _ _ hg hc.1,fun m hm=>by simp only [PV.has,Ze] at hm;subst hm;simp⟩
  .cases h
 .cases h
theorem Zqb:∀ {ls:List Nat},Zog ls=true->∀ (i j L:Nat),ls[i]?=some L->ls[j]?=some L->i=j
 | [],_,i,j,L,h,_=>by simp at h
 | l::r,h,i,j,L,h1,h2=>by
  simp only [Zog,Bool.and_eq_true,Bool.not_eq_true'] at h
  have hmem:∀ {r:List Nat} {L:Nat},L∈r->Zib r L=true:=by
   intro r L
   induction r with
   | nil=>intro h;cases h
   | cons x r ih=>
    intro h
    simp only [Zib]
    cases hb:Nat.beq x L with
    | true=>rfl
    | false=>
     rcases List.mem_cons.1 h with e | e
     .subst e;simp at hb
     .exact ih e
  cases i with
  | zero=>
   cases j with
   | zero=>rfl
   | succ j=>
    simp only [List.getElem?_cons_zero,Option.some.injEq] at h1
    subst h1
    have:=hmem (List.mem_of_getElem? (by simpa using h2:r[j]?=some l))
    rw [h.1] at this;cases this
  | succ i=>
   cases j with
   | zero=>
    simp only [List.getElem?_cons_zero,Option.some.injEq] at h2
    subst h2
    have:=hmem (List.mem_of_getElem? (by simpa using h1:r[i]?=some l))
    rw [h.1] at this;cases this
   | succ j=>rw [Zqb h.2 i j L (by simpa using h1) (by simpa using h2)]
theorem Zr8{m l:Nat}{o:Blk}:∀ {σ:List (Nat×Blk)},get σ m=some o->o.has l=true->l∈Zqy σ
 | [],h,_=>by cases h
 | (j,b)::r,h,hl=>by
  simp only [Zqy,List.mem_append]
  simp only [PW.get] at h
  cases hb:Nat.beq j m with
  | true=>
   simp only [hb,cond_true,Option.some.injEq] at h
   subst h
   cases b with
   | box cs=>exact .inl (Zcg cs hl)
   | row k es=>simp [Blk.has] at hl
   | mat k q es=>simp [Blk.has] at hl
   | map ag es=>simp [Blk.has] at hl
   | prow k i es cs=>exact .inl (Zcg cs hl)
   | reg h0=>simp [Blk.has] at hl
   | xrow k i r0 es=>simp only [Blk.has,Ze] at hl;subst hl;simp [Zzb]
  | false=>simp only [hb,cond_false] at h;exact .inr (Zr8 h hl)
theorem Zqc{ls:List Nat}{d:Nat}{σa σ1:List (Nat×Blk)}{res:PV}(h:Zoh ls d σa σ1 res=true):Zqx ls d σa σ1 res:=by
 simp only [Zoh,Bool.and_eq_true,List.all_eq_true] at h
 obtain⟨⟨⟨h1,h2⟩,h3⟩,h4⟩:=h
 refine { nd:=Zqb h1,len:=(Zag _ _).1 h2,box:=fun l o hg L hL=>?_,ge:=fun l o hg hn=>?_,cl:=fun l hl=>?_ }
 .have:=h3 _ (Zbe hg)
  simp only [hL] at this
  unfold Zwm at this
  split at this
  .rename_i cs cs0 hc0
   exact .inl ⟨_,cs0,rfl,hc0⟩
  .rename_i k es k' es0 hc0
   obtain rfl:=(Ze _ _).1 this
   exact .inr ⟨_,_,es0,rfl,hc0⟩
  .cases this
 .have:=h3 _ (Zbe hg)
  simp only [hn] at this
  exact (Zag _ _).1 this
 .have hk:Zye σ1 l=true:=by
   rcases hl with hl | ⟨m,o,hg,hl⟩
   .exact h4 l (List.mem_append.2 (.inl (Zm8 res hl)))
   .exact h4 l (List.mem_append.2 (.inr (Zr8 hg hl)))
  unfold Zye at hk
  split at hk
  .exact⟨_,by assumption⟩
  .cases hk
theorem Zwo:∀ {σ1:List (Nat×Blk)},Zo (scB σ1)->∀ l o,get σ1 l=some o->o.SC
 | [],_,l,o,h=>by cases h
 | (j,b)::r,hc,l,o,h=>by
  simp only [PW.get] at h
  cases hb:Nat.beq j l with
  | true=>
   simp only [hb,cond_true,Option.some.injEq] at h
   subst h
   cases b<;>exact hc.1
  | false=>
   simp only [hb,cond_false] at h
   cases b<;>exact Zwo hc.2 l o h
theorem Zwp{S:Bool}{σ1:List (Nat×Blk)}{res:PV}(hc:Zo (scC S σ1 res)):S=true->res.sc=true/\∀ l o,get σ1 l=some o->o.SC:=by
 rintro rfl
 exact⟨hc.1,Zwo hc.2⟩
theorem Zwq(hT:TOK P T){c:Call}{qs:List PV}(ho:o.op = .call c)(hq:Zcl tm c.args.toList=some qs)(h:Zr6 T P tm σ c.callee qs c.argTypes.toList xs=some (ps,xs',s))(hc:Zo ps):Zr P o tm σ s.need s.p s.news:=by
 unfold Zr6 at h
 split at h
 .rename_i fo hce
  have hceq:=Zbt hce rfl rfl
  rw [hceq] at ho
  split at h
  .rename_i f caps res xs2 hfo
   split at h
   .rename_i cs fs hfz
    have hbh:=Zn h;clear h;obtain⟨hb,h⟩:=hbh
    obtain⟨rfl,rfl,rfl⟩:=Zat h
    refine Zxl hc.1 ho hfo (by rw [Zep hq];rfl) (Zfb (fun _=>rfl) hfz ?_) hb
    have:∀ {qs fs:List PV} {cs:List Prop},Zcm [] qs=some (cs,fs)->Zo cs:=by
     have hv:(∀ p:PV,∀ {q:PV} {cs:List Prop},Zax [] p=some (cs,q)->cs=[])/\(∀ qs:List PV,∀ {fs:List PV} {cs:List Prop},Zcm [] qs=some (cs,fs)->cs=[]):=by
      constructor
      .intro p
       refine PV.rec (motive_1:=fun p=>∀ {q:PV} {cs:List Prop},Zax [] p=some (cs,q)->cs=[]) (motive_2:=fun qs=>∀ {fs:List PV} {cs:List Prop},Zcm [] qs=some (cs,fs)->cs=[]) ?_ ?_ ?_ ?_ ?_ ?_ ?_ ?_ ?_ ?_ ?_ ?_ p
       .intro x q cs h;simp only [Zax,Option.some.injEq,Prod.mk.injEq] at h;exact h.1.symm
       .intro q cs h;simp only [Zax,Option.some.injEq,Prod.mk.injEq] at h;exact h.1.symm
       .intro l n q cs h;simp [Zax,PW.get] at h
       .intro l n q cs h;simp [Zax,PW.get] at h
       .intro l n i j q cs h;simp [Zax] at h
       .intro ts q cs h;simp only [Zax,Option.some.injEq,Prod.mk.injEq] at h;exact h.1.symm
       .intro cs ih q ps h;simp only [Zax] at h;split at h
        .rename_i h2;cases h;exact ih h2
        .cases h
       .intro cs ih q ps h;simp only [Zax] at h;split at h
        .rename_i h2;cases h;exact ih h2
        .cases h
       .intro f cs ih q ps h;simp only [Zax] at h;split at h
        .rename_i h2;cases h;exact ih h2
        .cases h
       .intro l d q cs h;simp [Zax,PW.get] at h
       .intro fs cs h;simp only [Zcm,Option.some.injEq,Prod.mk.injEq] at h;exact h.1.symm
       .intro p ps ih1 ih2 fs cs h;simp only [Zcm] at h;split at h
        .rename_i h1 h2;cases h;rw [ih1 h1,ih2 h2];rfl
        .cases h
      .intro qs
       refine PV.rec_1 (motive_1:=fun p=>∀ {q:PV} {cs:List Prop},Zax [] p=some (cs,q)->cs=[]) (motive_2:=fun qs=>∀ {fs:List PV} {cs:List Prop},Zcm [] qs=some (cs,fs)->cs=[]) ?_ ?_ ?_ ?_ ?_ ?_ ?_ ?_ ?_ ?_ ?_ ?_ qs
       .intro x q cs h;simp only [Zax,Option.some.injEq,Prod.mk.injEq] at h;exact h.1.symm
       .intro q cs h;simp only [Zax,Option.some.injEq,Prod.mk.injEq] at h;exact h.1.symm
       .intro l n q cs h;simp [Zax,PW.get] at h
       .intro l n q cs h;simp [Zax,PW.get] at h
       .intro l n i j q cs h;simp [Zax] at h
       .intro ts q cs h;simp only [Zax,Option.some.injEq,Prod.mk.injEq] at h;exact h.1.symm
       .intro cs ih q ps h;simp only [Zax] at h;split at h
        .rename_i h2;cases h;exact ih h2
        .cases h
       .intro cs ih q ps h;simp only [Zax] at h;split at h
        .rename_i h2;cases h;exact ih h2
        .cases h
       .intro f cs ih q ps h;simp only [Zax] at h;split at h
        .rename_i h2;cases h;exact ih h2
        .cases h
       .intro l d q cs h;simp [Zax,PW.get] at h
       .intro fs cs h;simp only [Zcm,Option.some.injEq,Prod.mk.injEq] at h;exact h.1.symm
       .intro p ps ih1 ih2 fs cs h;simp only [Zcm] at h;split at h
        .rename_i h1 h2;cases h;rw [ih1 h1,ih2 h2];rfl
        .cases h
     intro qs fs cs h
     rw [hv.2 qs h];trivial
    exact this hfz
   .split at h
    .rename_i cs fs hfz
     have hbh:=Zn h;clear h;obtain⟨hb,h⟩:=hbh
     obtain⟨rfl,rfl,rfl⟩:=Zbx h
     obtain⟨hc1,hc2⟩:=Zf.1 hc
     exact Zxk hc2.1 ho hfo (by rw [Zep hq];rfl) (Zfb (fun _=>rfl) hfz hc1) (fun m hm=>Zcg _ hm) hb
    .cases h
  .rename_i f caps S ls d fr res xs2 hfo
   split at h
   .rename_i cs qs' σa hav hpa
    have hbh:=Zn h;clear h;obtain⟨hb,h⟩:=hbh
    cases h
    obtain⟨c1,c2⟩:=Zf.1 hc
    obtain⟨c2,c3⟩:=Zf.1 c2
    exact Zxt c3.1 ho hfo (by rw [Zep hq];rfl) hav c1 hpa (Zqc hb) (Zwp c2) (fun m hm=>by
     rcases hm with hm | hm | hm
     .exact List.mem_append.2 (.inl hm)
     .exact List.mem_append.2 (.inr (List.mem_append.2 (.inl (Zcg _ hm))))
     .exact List.mem_append.2 (.inr (List.mem_append.2 (.inr (Zfg _ hm)))))
   .cases h
  .cases h
 .rename_i hce
  split at h
  .rename_i p t n xs2 hat
   obtain⟨x,hax,hx⟩:=Zfh hq
   have hceq:=Zbt hce hax hat
   rw [hceq] at ho
   split at h
   .rename_i e es hk
    obtain⟨rfl,rfl,rfl⟩:=Zat h
    simp only [Option.map_eq_some_iff] at hk
    obtain⟨i0,hi0,hk⟩:=hk
    have hu:=(hT _ _ hi0).k
    rw [hk] at hu
    have:=Z0j (σ:=σ) ho hu hx
    rw [hc.1] at this
    exact this
   .rename_i e hk
    obtain⟨rfl,rfl,rfl⟩:=Zat h
    simp only [Option.map_eq_some_iff] at hk
    obtain⟨i0,hi0,hk⟩:=hk
    have hu:=(hT _ _ hi0).k
    rw [hk] at hu
    have:=Zvr (σ:=σ) ho hu hx
    rw [hc.1] at this
    exact this
   .rename_i e l m hk
    split at h
    .rename_i k es hg
     obtain⟨rfl,rfl,rfl⟩:=Zbx h
     simp only [Option.map_eq_some_iff] at hk
     obtain⟨i0,hi0,hk⟩:=hk
     have hu:=(hT _ _ hi0).k
     rw [hk] at hu
     have:=Zvs ho hu hx hg hc.1
     rw [hc.2.1] at this
     exact this
    .cases h
   .rename_i e l m hk
    split at h
    .rename_i k q es hg
     obtain⟨rfl,rfl,rfl⟩:=Zbx h
     simp only [Option.map_eq_some_iff] at hk
     obtain⟨i0,hi0,hk⟩:=hk
     have hu:=(hT _ _ hi0).k
     rw [hk] at hu
     have:=Zwb ho hu hx hg hc.1
     rw [hc.2.1] at this
     exact this
    .cases h
   .rename_i st hk
    obtain⟨rfl,rfl,rfl⟩:=Zat h
    simp only [Option.map_eq_some_iff] at hk
    obtain⟨i0,hi0,hk⟩:=hk
    have hu:=(hT _ _ hi0).k
    rw [hk] at hu
    have:=Zvt (σ:=σ) ho hu hx
    rw [hc.1] at this
    exact this
   .cases h
  .cases h
 .rename_i hce
  split at h
  .rename_i k a k' b
   obtain⟨x,y',hax,hx,hy⟩:=Zdb hq
   have hceq:=Zbt hce hax rfl
   rw [hceq] at ho
   obtain⟨rfl,rfl,rfl⟩:=Zaf h
   exact Z0n ho hx hy
  .cases h
 .rename_i hce
  split at h
  .rename_i k a k' b
   obtain⟨x,y',hax,hx,hy⟩:=Zdb hq
   have hceq:=Zbt hce hax rfl
   rw [hceq] at ho
   obtain⟨rfl,rfl,rfl⟩:=Zaf h
   exact Z0o ho hx hy
  .cases h
 .rename_i hce
  split at h
  .rename_i y t tx l es xs2 hat
   obtain⟨x,y',hax,hx,hy⟩:=Zdb hq
   have hceq:=Zbt hce hax hat
   rw [hceq] at ho
   split at h
   .rename_i e k bytes z kk fl ex cs ys ls he hex hsrc
    have hbh:=Zn h;clear h;obtain⟨hb,h⟩:=hbh
    simp only [Bool.and_eq_true] at hb
    have hE:=Zeo (z:=z) hT he rfl hb.1.1 hb.1.2
    simp only [Option.some.injEq,Prod.mk.injEq] at h
    obtain⟨rfl,rfl,rfl⟩:=h
    obtain⟨hc1,hc2⟩:=Zf.1 hc
    obtain⟨h1,h2,h3,h4,_⟩:=hc2
    subst h1
    obtain⟨hs,hn⟩:=Zna hsrc hc1
    obtain⟨i1,hi1,hk1,_⟩:=Zaa hex
    have hu1:=(hT _ _ hi1).k
    rw [hk1] at hu1
    exact Zri l ((Zag _ _).1 hb.2) ho hE ⟨_,hu1⟩ hx hy hs hn h2 h3 h4
   .cases h
  .cases h
 .cases h
theorem Zu4{y:Operand}(h:Zma y=true):y = .const (.slice none 0 0):=by
 unfold Zma at h
 split at h
 .rfl
 .cases h
theorem Zyj(hT:TOK P T){op:BinOp}{t:Nat}{x:Operand}{px:PV}{yT:TypeId}(ho:o.op = .binOp op t x (.const (.slice none 0 0)) yT)(hx:Zb tm x=some px)(h:Zux T op t px xs=some (ps,xs',s))(hc:Zo ps):Zr P o tm σ s.need s.p s.news:=by
 unfold Zux at h
 split at h
 .rename_i e he
  obtain⟨rfl,rfl,rfl⟩:=Zat h
  obtain⟨i,hi,hk,hj⟩:=Zaa he
  have hu:=(hT _ _ hi).k
  rw [hk] at hu
  exact Ztp hu ho (.inl rfl) hx hc.1
 .rename_i e he
  obtain⟨rfl,rfl,rfl⟩:=Zat h
  obtain⟨i,hi,hk,hj⟩:=Zaa he
  have hu:=(hT _ _ hi).k
  rw [hk] at hu
  exact Ztp hu ho (.inr rfl) hx hc.1
 .rename_i e he
  obtain⟨rfl,rfl,rfl⟩:=Zaf h
  obtain⟨i,hi,hk,hj⟩:=Zaa he
  have hu:=(hT _ _ hi).k
  rw [hk] at hu
  exact Ztq hu ho (.inl rfl) hx
 .rename_i e he
  obtain⟨rfl,rfl,rfl⟩:=Zaf h
  obtain⟨i,hi,hk,hj⟩:=Zaa he
  have hu:=(hT _ _ hi).k
  rw [hk] at hu
  exact Ztq hu ho (.inr rfl) hx
 .cases h
theorem Zu5{y:Operand}(h:Zmb y=true):y = .const (.pointer none):=by
 unfold Zmb at h
 split at h
 .rfl
 .cases h
theorem Zwr{op:BinOp}{t:Nat}{x:Operand}{px:PV}{yT:TypeId}(hu:P.underlying t=some (.pointer (P.pointee t)))(ho:o.op = .binOp op t x (.const (.pointer none)) yT)(hx:Zb tm x=some px)(h:Zr7 σ op px xs=some (ps,xs',s)):Zr P o tm σ s.need s.p s.news:=by
 unfold Zr7 at h
 split at h
 .obtain⟨rfl,rfl,rfl⟩:=Zaf h;exact Zrm hu ho (.inl rfl) hx
 .obtain⟨rfl,rfl,rfl⟩:=Zaf h;exact Zrm hu ho (.inr rfl) hx
 .split at h
  .rename_i hg;obtain⟨rfl,rfl,rfl⟩:=Zbx h;exact Zrn hu ho (.inl rfl) hx hg
  .cases h
 .split at h
  .rename_i hg;obtain⟨rfl,rfl,rfl⟩:=Zbx h;exact Zrn hu ho (.inr rfl) hx hg
  .cases h
 .cases h
theorem Zu6(hT:TOK P T){t:Nat}{x:Operand}{lo hi:Option Operand}{px:PV}(ho:o.op = .slice t x lo hi none)(hx:Zb tm x=some px)(h:Zph T tm t px lo hi xs=some (ps,xs',s))(hc:Zo ps):Zr P o tm σ s.need s.p s.news:=by
 unfold Zph at h
 split at h
 .rename_i sv z xs2 he
  split at h
  .rename_i l hh h3 h1 h2
   obtain⟨rfl,rfl,rfl⟩:=Zat h
   simp only [Option.map_eq_some_iff] at h3
   obtain⟨i3,hi3,hk3⟩:=h3
   have hu3:=(hT _ _ hi3).k
   rw [hk3] at hu3
   obtain⟨c1,c2,c3,c4,_⟩:=hc
   subst c4
   exact Zv3 ho hu3 hx h1 h2 c1 c2 c3
  .cases h
 .rename_i e j es es' xs2 he
  split at h
  .rename_i l hh h1 h2
   obtain⟨rfl,rfl,rfl⟩:=Zat h
   obtain⟨i,hi,hk,hj⟩:=Zaa he
   obtain⟨c1,c2,c3,c4,c5,_⟩:=hc
   subst c5
   exact Zv2 ho (hT.slInfo hi hk hj) hx h1 h2 c1 c2 c3 c4
  .cases h
 .cases h
theorem Zz0(hT:TOK P T)(h:Zyg P T o tm σ xs=some (ps,xs',s))(hc:Zo ps):Zr P o tm σ s.need s.p s.news:=by
 unfold Zyg at h
 split at h
 .rename_i x ho
  split at h
  .rename_i p hp;obtain⟨rfl,rfl,rfl⟩:=Zaf h;exact Zzg ho hp
  .cases h
 .rename_i x ho
  split at h
  .rename_i p hp;obtain⟨rfl,rfl,rfl⟩:=Zaf h;exact Zvp ho hp
  .cases h
 .rename_i c x y ho
  split at h
  .rename_i e b xs2 he
   split at h
   .rename_i p hp
    obtain⟨rfl,rfl,rfl⟩:=Zat h
    have:=hc.1
    subst this
    exact Zzh ho he hp
   .cases h
  .cases h
 .rename_i op xT x y yT ho
  cases hn:Zma y with
  | true=>
   rw [Zu4 hn] at ho
   simp only [hn,cond_true] at h
   split at h
   .rename_i px hx;exact Zyj hT ho hx h hc
   .cases h
  | false=>
   simp only [hn,cond_false] at h
   cases hn2:Zmb y with
   | true=>
    rw [Zu5 hn2] at ho
    simp only [hn2,cond_true] at h
    split at h
    .rename_i px hx hk
     simp only [Option.map_eq_some_iff] at hk
     obtain⟨i0,hi0,hk⟩:=hk
     have hu:=(hT _ _ hi0).k
     rw [hk] at hu
     exact Zwr hu ho hx h
    .cases h
   | false=>
    simp only [hn2,cond_false] at h
    split at h
    .rename_i px py hx hy;exact Zyd hT ho hx hy h hc
    .cases h
 .rename_i op t x ho
  split at h
  .rename_i b hb;obtain⟨rfl,rfl,rfl⟩:=Zaf h;exact Z0h ho hb
  .rename_i k a hb;obtain⟨rfl,rfl,rfl⟩:=Zaf h;exact Z0i ho hb
  .rename_i k a hb;obtain⟨rfl,rfl,rfl⟩:=Zaf h;exact Zxc ho hb
  .cases h
 .rename_i sT dT x ho
  split at h
  .rename_i k k' k2 a h1 h2 hx
   obtain⟨rfl,rfl,rfl⟩:=Zaf h
   simp only [Option.map_eq_some_iff] at h1 h2
   obtain⟨i1,hi1,hk1⟩:=h1
   obtain⟨i2,hi2,hk2⟩:=h2
   have hu1:=(hT _ _ hi1).k
   have hu2:=(hT _ _ hi2).k
   rw [hk1] at hu1
   rw [hk2] at hu2
   exact Zuc ho ⟨_,hu1⟩ hu2 hx
  .rename_i a h1 h2 hx
   obtain⟨rfl,rfl,rfl⟩:=Zaf h
   simp only [Option.map_eq_some_iff] at h1 h2
   obtain⟨i1,hi1,hk1⟩:=h1
   obtain⟨i2,hi2,hk2⟩:=h2
   have hu1:=(hT _ _ hi1).k
   have hu2:=(hT _ _ hi2).k
   rw [hk1] at hu1
   rw [hk2] at hu2
   exact Zud ho hu1 hu2 hx
  .rename_i e a h1 h2 hx
   split at h
   .rename_i es xs2 h3
    obtain⟨rfl,rfl,rfl⟩:=Zat h
    simp only [Option.map_eq_some_iff] at h1 h2 h3
    obtain⟨i1,hi1,hk1⟩:=h1
    obtain⟨i2,hi2,hk2⟩:=h2
    obtain⟨i3,hi3,hk3⟩:=h3
    have hu1:=(hT _ _ hi1).k
    have hu2:=(hT _ _ hi2).k
    have hu3:=(hT _ _ hi3).k
    rw [hk1] at hu1
    rw [hk2] at hu2
    rw [hk3] at hu3
    obtain⟨rfl,hl,_⟩:=hc
    exact Zxn ho hu1 hu2 hu3 hx hl
   .cases h
  .rename_i e es h1 h2 hx
   split at h
   .rename_i s xs2 h3
    obtain⟨rfl,rfl,rfl⟩:=Zat h
    simp only [Option.map_eq_some_iff] at h1 h2 h3
    obtain⟨i1,hi1,hk1⟩:=h1
    obtain⟨i2,hi2,hk2⟩:=h2
    obtain⟨i3,hi3,hk3⟩:=h3
    have hu1:=(hT _ _ hi1).k
    have hu2:=(hT _ _ hi2).k
    have hu3:=(hT _ _ hi3).k
    rw [hk1] at hu1
    rw [hk2] at hu2
    rw [hk3] at hu3
    obtain⟨rfl,hl,_⟩:=hc
    exact Zxo ho hu1 hu2 hu3 hx hl
   .cases h
  .cases h
 .rename_i xT x i ho
  split at h
  .rename_i q j cs hf hx
   split at h
   .rename_i p hp
    obtain⟨rfl,rfl,rfl⟩:=Zaf h
    obtain⟨i0,fs,fT,hi0,hk0,hfs,hj⟩:=Zex hf
    have hu:=(hT _ _ hi0).k
    rw [hk0] at hu
    obtain⟨fs',hu,rfl⟩:=hu
    simp only [List.getElem?_map,Option.map_eq_some_iff] at hfs
    obtain⟨fl,hfl,he⟩:=hfs
    cases he
    exact Zxd fs' fl ho hu (by simpa using hfl) rfl rfl (hT _ _ hj).ty hx hp
   .cases h
  .cases h
 .rename_i x i ho
  split at h
  .rename_i cs hx
   split at h
   .rename_i p hp;obtain⟨rfl,rfl,rfl⟩:=Zaf h;exact Zue ho hx hp
   .cases h
  .cases h
 .rename_i x ho
  split at h
  .rename_i cs hx;obtain⟨rfl,rfl,rfl⟩:=Zaf h;exact Zs6 ho hx trivial
  .rename_i l q hx
   split at h
   .rename_i hg;obtain⟨rfl,rfl,rfl⟩:=Zbx h;exact Zro ho hx hg
   .cases h
  .rename_i l m i q hx
   split at h
   .rename_i hg;obtain⟨rfl,rfl,rfl⟩:=Zbx h;exact Zrp ho hx hg hc.1
   .cases h
  .cases h
 .rename_i f first caps ho
  have hbh:=Zn h;clear h;obtain⟨hb,h⟩:=hbh
  have hb:=(Ze _ _).1 hb
  have:first = #[]:=Array.size_eq_zero_iff.1 hb
  subst this
  split at h
  .rename_i qs hq;obtain⟨rfl,rfl,rfl⟩:=Zaf h;exact Zs7 (t:=0) ho (Zep hq)
  .cases h
 .rename_i t parts ho
  split at h
  .rename_i qs hq;exact Zu2 hT ho hq h
  .cases h
 .rename_i t len parts ho
  split at h
  .rename_i qs hq;exact Zyi hT ho hq h
  .cases h
 .rename_i t x ho
  split at h
  .rename_i p l xs2 hx
   have hbh:=Zn h;clear h;obtain⟨hb,h⟩:=hbh
   simp only [Bool.and_eq_true] at hb
   obtain⟨rfl,rfl,rfl⟩:=Zmc h
   exact Z0k l ((Zag _ _).1 hb.2) ho hx hb.1
  .cases h
 .rename_i t ho
  split at h
  .rename_i z l xs2 hz
   have hbh:=Zn h;clear h;obtain⟨hb,h⟩:=hbh
   obtain⟨rfl,rfl,rfl⟩:=Zmc h
   simp only [Option.bind_eq_some_iff] at hz
   obtain⟨i0,hi0,hz⟩:=hz
   exact Zxe l ((Zag _ _).1 hb) ho ((hT _ _ hi0).z z hz)
  .cases h
 .rename_i t x y ho
  split at h
  .rename_i px py hx hy;exact Zwn hT ho hx hy h hc
  .cases h
 .rename_i t x i ho
  split at h
  .rename_i px hx;exact Zpk hT ho hx h hc
  .cases h
 .rename_i t x y ho
  split at h
  .rename_i px py hx hy;exact Zpl hT ho hx hy h hc
  .cases h
 .rename_i t x y ho
  split at h
  .rename_i px py hx hy;exact Zu3 hT ho hx hy h hc
  .cases h
 .rename_i t x ho
  split at h
  .rename_i px hx
   split at h
   .rename_i d c xs2 d' hd
    cases hb:Nat.beq d d' with
    | true=>simp only [hb,cond_true] at h;exact Ztk hT ho hx h hc
    | false=>simp only [hb,cond_false] at h;exact Zqa hT ho hx h hc
   .exact Zqa hT ho hx h hc
  .cases h
 .rename_i t x y z ho
  split at h
  .rename_i ej px k1 k2 he hx hy hz
   obtain⟨hp,h⟩:=Zn h
   obtain⟨rfl,rfl,rfl⟩:=Zaf h
   obtain⟨i,hi,hk,hj⟩:=Zaa he
   exact Zuk ho (hT.slInfo hi hk hj) hx hp hy hz
  .cases h
 .rename_i t x lo hi ho
  split at h
  .rename_i px hx;exact Zu6 hT ho hx h hc
  .cases h
 .rename_i c ho
  split at h
  .rename_i qs hq;exact Zwq hT ho hq h hc
  .cases h
 .cases h
theorem Zu7{x:Stm}{c:Call}{fo:Operand}(hce:c.callee = .value fo)(ho:o.op = .call c)(h:Zpi P tm σ fo c.args.toList xs=some (ps,xs',x))(hc:Zo ps):OpF P o tm σ x.s.need x.rm x.s.p x.s.news:=by
 have hceq:=Zbt hce rfl rfl
 rw [hceq] at ho
 unfold Zpi at h
 split at h
 .rename_i f caps qs0 S ls d σ1 res xs2 hfo hps
  split at h
  .rename_i cs qs σa hav hpa
   have hbh:=Zn h;clear h;obtain⟨hb,h⟩:=hbh
   simp only [Bool.and_eq_true] at hb
   cases h
   obtain⟨c1,c2⟩:=Zf.1 hc
   obtain⟨c2,c3⟩:=Zf.1 c2
   refine Z0p c3.1 ho hfo (by rw [Zep hps];rfl) hav c1 hpa (Zqc hb.1) (Zwp c2) (fun m hm=>?_) (fun l o hg hn hmem=>?_)
   .rcases hm with hm | hm | hm
    .exact List.mem_append.2 (.inl hm)
    .exact List.mem_append.2 (.inr (List.mem_append.2 (.inl (Zcg _ hm))))
    .exact List.mem_append.2 (.inr (List.mem_append.2 (.inr (Zfg _ hm))))
   .have:=List.all_eq_true.1 hb.2 _ (Zbe hg)
    simp only [hn,Bool.not_eq_true'] at this
    rw [Zj3.2 hmem] at this;cases this
  .cases h
 .cases h
theorem Zu8{x:Stm}{c:Call}{fo:Operand}(hce:c.callee = .value fo)(ho:o.op = .call c)(h:Zpj P tm σ fo c.args.toList xs=some (ps,xs',x))(hc:Zo ps):OpF P o tm σ x.s.need x.rm x.s.p x.s.news:=by
 unfold Zpj at h
 split at h
 .rename_i f y L b xs2 hfo hax
  have hceq:=Zbt hce hax rfl
  rw [hceq] at ho
  split at h
  .rename_i l m hy
   split at h
   .rename_i k es hg
    have hbh:=Zn h;clear h;obtain⟨hb,h⟩:=hbh
    simp only [Bool.and_eq_true,Zag] at hb
    cases h
    obtain⟨h1,h2,h3,_⟩:=hc
    exact Zzp h2 ho hfo hy hg h1 h3 (Zfv hb.2) hb.1
   .cases h
  .cases h
 .cases h
theorem Zyk(hT:TOK P T){x:Stm}(h:Zuy P T o tm σ xs=some (ps,xs',x))(hc:Zo ps):OpF P o tm σ x.s.need x.rm x.s.p x.s.news:=by
 unfold Zuy at h
 split at h
 .rename_i c ho
  split at h
  .rename_i fo xs2 hce
   split at h
   .rename_i h0;cases h;exact Zu7 hce ho h0 hc
   .exact Zu8 hce ho h hc
  .rename_i l m y t tx es xs2 hce hps hat
   obtain⟨x,y',hax,hx,hy⟩:=Zdb hps
   have hceq:=Zbt hce hax hat
   rw [hceq] at ho
   split at h
   .rename_i e agg k bytes z kk fl ex cs ys ls k' es0 he hex hsrc hg
    have hbh:=Zn h;clear h;obtain⟨hb,h⟩:=hbh
    simp only [Bool.and_eq_true,Ze] at hb
    obtain⟨⟨hb1,hb2⟩,hb3⟩:=hb
    subst hb3
    have hE:=Zeo (z:=z) hT he rfl hb1 ((Ze _ _).2 hb2)
    cases h
    obtain⟨hc1,hc2⟩:=Zf.1 hc
    obtain⟨h1,h2,h3,h4,h5,_⟩:=hc2
    obtain⟨hs,hn⟩:=Zna hsrc hc1
    obtain⟨i1,hi1,hk1,_⟩:=Zaa hex
    have hu1:=(hT _ _ hi1).k
    rw [hk1] at hu1
    subst h2
    have hl:(es0++ys).length=m+ys.length:=by rw [List.length_append,h1]
    rw [hl] at h4 h5
    show OpF P o tm σ (l::ls) [l] (.osl l (es0++ys).length) [(l,.row k (es0++ys))]
    rw [hl]
    refine Zxh ho hE ⟨_,hu1⟩ hx hg h1 hy hs (fun q hq=>?_) h3 h4 h5
    rcases hq with rfl | hq
    .exact List.mem_cons_self ..
    .exact List.mem_cons_of_mem _ (hn q hq)
   .cases h
  .rename_i l m y t tx q es xs2 hce hps hat
   obtain⟨x,y',hax,hx,hy⟩:=Zdb hps
   have hceq:=Zbt hce hax hat
   rw [hceq] at ho
   split at h
   .rename_i e agg k bytes z kk fl ex cs ys ls k' es0 he hex hsrc hg
    have hbh:=Zn h;clear h;obtain⟨hb,h⟩:=hbh
    simp only [Bool.and_eq_true,Ze] at hb
    obtain⟨⟨hb1,hb2⟩,hb3⟩:=hb
    subst hb3
    have hE:=Zeo (z:=z) hT he rfl hb1 ((Ze _ _).2 hb2)
    cases h
    obtain⟨hc1,hc2⟩:=Zf.1 hc
    obtain⟨h1,h2,h3,h4,h5,_⟩:=hc2
    obtain⟨hs,hn⟩:=Zna hsrc hc1
    obtain⟨i1,hi1,hk1,_⟩:=Zaa hex
    have hu1:=(hT _ _ hi1).k
    rw [hk1] at hu1
    subst h5
    rw [<- h2]
    refine Z0m ho hE ⟨_,hu1⟩ hx hg h1 hy hs (fun q hq=>?_) h4 h3
    rcases hq with rfl | hq
    .exact List.mem_cons_self ..
    .exact List.mem_cons_of_mem _ (hn q hq)
   .cases h
  .cases h
 .rename_i t x y ho
  split at h
  .rename_i i l q p hd hi hx hy
   split at h
   .rename_i cs cs' xs2 hg
    have hbh:=Zn h;clear h;obtain⟨hb,h⟩:=hbh
    simp only [Bool.and_eq_true,Ze] at hb
    cases h
    obtain⟨h1,h2,_⟩:=hc
    subst h2
    exact Zrh ho hd (hT _ _ hi).ty hx hy hg hb.1 hb.2 h1
   .rename_i cs hg _
    have hbh:=Zn h;clear h;obtain⟨hb,h⟩:=hbh
    simp only [Bool.and_eq_true,Ze,Zag] at hb
    cases h
    exact Zrh ho hd (hT _ _ hi).ty hx hy hg hb.1.1 hb.1.2 hb.2
   .cases h
  .rename_i i l m j q p hd hi hx hy
   split at h
   .rename_i k es e es' xs2 ts hg hts
    have hbh:=Zn h;clear h;obtain⟨hb,h⟩:=hbh
    simp only [Bool.and_eq_true,Ze,Zag] at hb
    cases h
    obtain⟨h1,h2,h3,_⟩:=hc
    subst h3
    exact Zxg ho hd (hT _ _ hi).ty hx hy hg h1 h2 hts hb.1 hb.2
   .cases h
  .cases h
 .cases h
theorem Zyl(hT:TOK P T){x:Stm}(h:Zuz T o tm σ xs=some (ps,xs',x))(hc:Zo ps):OpF P o tm σ x.s.need x.rm x.s.p x.s.news:=by
 unfold Zuz at h
 split at h
 .rename_i t x y ho
  split at h
  .rename_i e j l m ki i n xs2 he hx hy
   split at h
   .rename_i k es hg
    have hbh:=Zn h;clear h;obtain⟨hb,h⟩:=hbh
    rw [Ze] at hb
    cases h
    obtain⟨h1,h2,h3,h4,_⟩:=hc
    subst h4
    obtain⟨i0,hi0,hk0,hj⟩:=Zaa he
    exact (Zzn ho (hb▸hT.slInfo hi0 hk0 hj) hx hy hg h1 h2 h3).toF
   .cases h
  .cases h
 .rename_i t x y ho
  split at h
  .rename_i e j l m ki i n xs2 he hx hy
   split at h
   .rename_i es hg
    have hbh:=Zn h;clear h;obtain⟨hb,h⟩:=hbh
    rw [Ze] at hb
    cases h
    obtain⟨h1,h2,h3,h4,_⟩:=hc
    subst h4
    obtain⟨i0,hi0,hk0,hj⟩:=Zaa he
    exact (Zv7 ho (hb▸hT.slInfo hi0 hk0 hj) hx hy hg h1 h2 h3).toF
   .cases h
  .rename_i e j l m jj ki i inner n xs2 he hx hy
   split at h
   .rename_i es hg
    have hbh:=Zn h;clear h;obtain⟨hb,h⟩:=hbh
    rw [Ze] at hb
    cases h
    obtain⟨h1,h2,h3,h4,h5,_⟩:=hc
    subst h5
    obtain⟨i0,hi0,hk0,hj⟩:=Zaa he
    exact (Zum ho (hb▸hT.slInfo hi0 hk0 hj) hx hy hg h1 h2 h3 h4).toF
   .cases h
  .cases h
 .rename_i t x ho
  split at h
  .rename_i i l m j hi hx
   split at h
   .rename_i es hg
    have hbh:=Zn h;clear h;obtain⟨hb,h⟩:=hbh
    simp only [Bool.and_eq_true,Bool.not_eq_true',Ze] at hb
    cases h
    have hty:=(hT t i hi).ty
    rw [hb.1,hb.2] at hty
    exact (Zxw ho hty hx hg hc.1 hc.2.1).toF
   .cases h
  .rename_i i l m j q hi hx
   split at h
   .rename_i es inner z xs2 hg
    have hbh:=Zn h;clear h;obtain⟨hb,h⟩:=hbh
    simp only [Bool.and_eq_true,Bool.not_eq_true',Ze] at hb
    cases h
    have hty:=(hT t i hi).ty
    rw [hb.1.1,hb.1.2] at hty
    exact (Zun ho hty hx hg hc.1 hc.2.1 hc.2.2.1 hb.2).toF
   .cases h
  .cases h
 .rename_i t parts ho
  split at h
  .rename_i e agg by_ z kk fl l2 n2 L xs2 he hp
   split at h
   .rename_i es2 out hg hf
    have hbh:=Zn h;clear h;obtain⟨hb,h⟩:=hbh
    simp only [Bool.and_eq_true,Bool.not_eq_true',Zag] at hb
    cases h
    obtain⟨h1,h2,h3,_⟩:=hc
    subst h1
    exact Zzo L hb.1.2 ho (Zeo (z:=z) hT he rfl rfl hb.1.1) hp hf hg h2 h3 (fun e=>by subst e;simp at hb)
   .cases h
  .cases h
 .rename_i t parts ho
  split at h
  .rename_i e agg by_ z kk fl L xs2 he hp
   have hbh:=Zn h;clear h;obtain⟨hb,h⟩:=hbh
   cases h
   exact Zxx L ho (Zeo (z:=z) hT he rfl rfl hb) hp
  .cases h
 .rename_i c ho
  split at h
  .rename_i l m l3 m3 t tx es xs2 hce hps hat
   obtain⟨x,y',hax,hx,hy⟩:=Zdb hps
   have hceq:=Zbt hce hax hat
   rw [hceq] at ho
   split at h
   .rename_i e agg bytes z kk fl ex es0 es3 he hex hg hg3
    have hbh:=Zn h;clear h;obtain⟨hb,h⟩:=hbh
    simp only [Bool.and_eq_true,Bool.not_eq_true',Nat.blt_eq] at hb
    cases h
    obtain⟨h1,h2,h3,h4,h5,_⟩:=hc
    subst h3
    obtain⟨i1,hi1,hk1,_⟩:=Zaa hex
    have hu1:=(hT _ _ hi1).k
    rw [hk1] at hu1
    show OpF P o tm σ [l,l3] [l,l3] (.own l (.msl (es0++es3).length)) [(l,.mat 1 0 (es0++es3))]
    rw [List.length_append,h1,h2]
    exact Z0r ho (Zeo (z:=z) hT he rfl rfl hb.1.1) ⟨_,hu1⟩ hx hg h1 hy hg3 h2 hb.1.2 (fun e=>by subst e;simp at hb) h4 h5
   .cases h
  .cases h
 .cases h
theorem Zpm{hT:TOK P T}{t k e:Nat}(h:(get T t).map (·.k)=some (.map k e)):P.underlying t=some (.map k e):=by
 obtain⟨i,h1,h2⟩:=Option.map_eq_some_iff.1 h
 have:=(hT _ _ h1).k
 rw [h2] at this
 exact this
theorem Zr9{hT:TOK P T}{t:Nat}{q:IntKind}(h:(get T t).map (·.k)=some (.int q)):P.underlying t=some (.int q):=by
 obtain⟨i,h1,h2⟩:=Option.map_eq_some_iff.1 h
 have:=(hT _ _ h1).k
 rw [h2] at this
 exact this
theorem Zym(hT:TOK P T){x:Stm}(h:Zu0 P T o tm σ xs=some (ps,xs',x))(hc:Zo ps):OpF P o tm σ x.s.need x.rm x.s.p x.s.news:=by
 unfold Zu0 at h
 split at h
 .rename_i t ho
  split at h
  .split at h
   .cases h;exact Zv8 _ _ ho
   .cases h
  .cases h
 .rename_i t y z ok ho
  split at h
  .rename_i k e l n ts xs2 hk hx hy
   split at h
   .rename_i ag es hg hi
    split at h
    .rename_i zs b xs3 hz
     cases h
     have:=Zv9 ho (Zpm (hT:=hT) hk) (Zr9 (hT:=hT) hi) hz hx hy hg
     rw [hc.1] at this
     exact this
    .rename_i zs xs3 hz
     cases h
     have:=Zwa ho (Zpm (hT:=hT) hk) (Zr9 (hT:=hT) hi) hz hx hy hg
     rw [hc.1] at this
     exact this
    .cases h
   .cases h
  .rename_i k e l n L rows xs2 hk hx hy
   split at h
   .rename_i c es hg hi hz
    have hbh:=Zn h;clear h;obtain⟨hb,h⟩:=hbh
    simp only [Bool.and_eq_true,Bool.not_eq_true',Zag] at hb
    cases h
    have hLl:L≠l:=fun e=>by subst e;simp at hb
    have:=Zwd ho (Zpm (hT:=hT) hk) (Zr9 (hT:=hT) hi) hz hb.1 hx hy hLl hb.2.2 hg
    rw [hc.1] at this
    exact this
   .cases h
  .cases h
 .rename_i t y z v ho
  split at h
  .rename_i k e l i L m es' xs2 hd hk hx hy hz
   split at h
   .rename_i c n es c2 rows hg hg2 hi
    have hbh:=Zn h;clear h;obtain⟨hb,h⟩:=hbh
    simp only [Bool.and_eq_true,Bool.not_eq_true',Ze] at hb
    cases h
    obtain⟨h1,h2,h3,_⟩:=hc
    obtain⟨rfl,hb2⟩:=hb
    subst h1
    have hLl:L≠l:=fun e=>by subst e;simp at hb2
    have:=Zwe ho hd (Zpm (hT:=hT) hk) (Zr9 (hT:=hT) hi) hx hy hz hLl hg hg2 h2
    rw [h3] at this
    exact this
   .cases h
  .cases h
 .rename_i c ho
  split at h
  .rename_i l t n xs2 hce hps hat
   obtain⟨x,hax,hx⟩:=Zfh hps
   have hceq:=Zbt hce hax hat
   rw [hceq] at ho
   split at h
   .rename_i k e ag es hk hg
    cases h
    have:=Z0s ho (Zpm (hT:=hT) hk) hx hg
    rw [hc.1] at this
    exact this
   .cases h
  .cases h
 .cases h
theorem Zz1(hT:TOK P T){x:Stm}(h:Zyh T o tm σ xs=some (ps,xs',x))(hc:Zo ps):OpF P o tm σ x.s.need x.rm x.s.p x.s.news:=by
 unfold Zyh at h
 split at h
 .rename_i y ho
  split at h
  .rename_i l m q hx
   split at h
   .rename_i hg;cases h;exact (Zrx ho hx hg hc.1).toF
   .cases h
  .cases h
 .rename_i s y f ho
  split at h
  .rename_i q0 j l m q hf hx
   split at h
   .rename_i hg
    have hbh:=Zn h;clear h;obtain⟨hb,h⟩:=hbh
    cases h
    have hs:j.size≠0:=fun e=>by rw [e] at hb;cases hb
    obtain⟨i0,fs,fT,hi0,hk0,hfs,hj⟩:=Zex hf
    exact (Zwc ho (hT.fieldInfo hi0 hk0 hfs hj) hs hx hg hc.1).toF
   .cases h
  .cases h
 .rename_i t y ho
  split at h
  .rename_i i l m q hi hx
   split at h
   .rename_i hg
    split at h
    .rename_i p hp;cases h;exact (Zx2 ho (hT _ _ hi).ty hx hg hc.1 hp).toF
    .cases h
   .cases h
  .cases h
 .rename_i t y z ho
  split at h
  .rename_i i l m q p hd hi hx hy
   split at h
   .rename_i hg
    have hbh:=Zn h;clear h;obtain⟨hb,h⟩:=hbh
    simp only [Bool.and_eq_true,Ze,Zag] at hb
    cases h
    exact Zx3 ho hd (hT _ _ hi).ty hx hy hg hc.1 hb.1.1 hb.1.2 hb.2
   .cases h
  .cases h
 .cases h
theorem Zyn(hT:TOK P T){x:Stm}(h:Zu1 T o tm σ xs=some (ps,xs',x))(hc:Zo ps):OpF P o tm σ x.s.need x.rm x.s.p x.s.news:=by
 unfold Zu1 at h
 split at h
 .rename_i y ho
  split at h
  .rename_i l cs hx
   split at h
   .rename_i hg;cases h;exact (Zr1 ho hx hg).toF
   .cases h
  .rename_i l m j q hx
   split at h
   .rename_i hg;cases h;exact (Zr4 ho hx hg hc.1).toF
   .cases h
  .cases h
 .rename_i s y f ho
  split at h
  .rename_i q0 j l cs hf hx
   split at h
   .rename_i hg
    have hbh:=Zn h;clear h;obtain⟨hb,h⟩:=hbh
    cases h
    have hs:j.size≠0:=fun e=>by rw [e] at hb;cases hb
    obtain⟨i0,fs,fT,hi0,hk0,hfs,hj⟩:=Zex hf
    exact (Zwg ho (hT.fieldInfo hi0 hk0 hfs hj) hs hx hg).toF
   .cases h
  .rename_i q0 j l m jj q hf hx
   split at h
   .rename_i hg
    have hbh:=Zn h;clear h;obtain⟨hb,h⟩:=hbh
    cases h
    have hs:j.size≠0:=fun e=>by rw [e] at hb;cases hb
    obtain⟨i0,fs,fT,hi0,hk0,hfs,hj⟩:=Zex hf
    exact (Zwj ho (hT.fieldInfo hi0 hk0 hfs hj) hs hx hg hc.1).toF
   .cases h
  .cases h
 .rename_i t y z ho
  split at h
  .rename_i e j l es ki i e0 xs2 he hx hy
   split at h
   .rename_i hg
    cases h
    obtain⟨h1,h2,h3,_⟩:=hc
    obtain⟨i0,hi0,hk0,hj⟩:=Zaa he
    exact (Zwf ho (hT.slInfo hi0 hk0 hj) hx hy hg h1 h2 h3).toF
   .cases h
  .rename_i e j l m ki i n xs2 he hx hy
   split at h
   .rename_i k i1 r es hg
    have hbh:=Zn h;clear h;obtain⟨hb,h⟩:=hbh
    cases h
    obtain⟨h1,h2,h3,h4,_⟩:=hc
    obtain⟨i0,hi0,hk0,hj⟩:=Zaa he
    have hsl:=hT.slInfo hi0 hk0 hj
    rw [(Ze _ _).1 hb] at hsl
    subst h4
    exact (Zwi ho hsl hx hy hg h1 h2 h3).toF
   .cases h
  .cases h
 .rename_i t y ho
  split at h
  .rename_i i l cs hi hx
   split at h
   .rename_i hh hg
    split at h
    .rename_i p hp;cases h;exact (Zx6 ho (hT _ _ hi).ty hx hg hp).toF
    .cases h
   .cases h
  .rename_i i l m j q hi hx
   split at h
   .rename_i k i0 r es e xs2 hg
    split at h
    .rename_i p hp
     cases h
     obtain⟨h1,h2,h3,_⟩:=hc
     exact (Zx8 ho (hT _ _ hi).ty hx hg h1 h2 h3 hp).toF
    .cases h
   .cases h
  .cases h
 .rename_i op t y ho
  split at h
  .rename_i l b hx
   split at h
   .rename_i hg;cases h;exact (Zzr ho hx hg).toF
   .cases h
  .cases h
 .rename_i op t y z t2 ho
  split at h
  .rename_i l k i k2 j hx hy
   by_cases hk:k=k2
   .subst hk
    rw [decide_eq_true rfl,cond_true] at h
    split at h
    .rename_i hg;cases h;exact (Zzs ho hx hy hg).toF
    .cases h
   .rw [decide_eq_false hk,cond_false] at h;cases h
  .cases h
 .rename_i t y z ho
  split at h
  .rename_i i l c0 cs p hd hi hx hy
   split at h
   .rename_i z hg hz
    have hbh:=Zn h;clear h;obtain⟨hb,h⟩:=hbh
    simp only [Bool.and_eq_true,Ze,Bool.not_eq_true'] at hb
    cases h
    have hty:=(hT _ _ hi).ty
    rw [hb.2.1,hb.2.2] at hty
    exact Zx7 (by simp) (fun m hm=>List.mem_cons_of_mem _ (Zm8 p hm)) ho hd hty hx hy hg hz hb.1
   .cases h
  .rename_i i l m j q r2 n2 hd hi hx hy
   split at h
   .rename_i k i0 r es k2 es2 e es' i1 xs2 hg hg2
    split at h
    .rename_i ts hgr hts
     have hbh:=Zn h;clear h;obtain⟨hb,h⟩:=hbh
     simp only [Bool.and_eq_true,Ze,Zag,Bool.not_eq_true'] at hb
     cases h
     obtain⟨h1,h2,h3,h4,h5,h6,h7,_⟩:=hc
     subst h2;subst h6;subst h7
     have hty:=(hT _ _ hi).ty
     rw [hb.1.1.1,hb.1.1.2] at hty
     have nb:∀ {a b:Nat},Nat.beq a b=false->a≠b:=fun h e=>by subst e;simp at h
     exact Zwk hb.2.1.1 (nb hb.2.1.2) (nb hb.2.2.1) (nb hb.2.2.2) ho hd hty hx hy hg hgr hg2 h1 h3 h4 h5 hb.1.2 hts
    .cases h
   .cases h
  .rename_i i l m j q p _ hd hi hx hy
   split at h
   .rename_i k i0 r es e es' i1 xs2 hg
    split at h
    .rename_i ts hts
     have hbh:=Zn h;clear h;obtain⟨hb,h⟩:=hbh
     simp only [Bool.and_eq_true,Ze,Zag] at hb
     cases h
     obtain⟨h1,h2,h3,h4,h5,_⟩:=hc
     subst h2;subst h4;subst h5
     exact Zx9 ho hd (hT _ _ hi).ty hx hy hg h1 h3 hb.1.1 hb.1.2 hb.2 hts
    .cases h
   .cases h
  .cases h
 .rename_i c ho
  split at h
  .rename_i l es t n xs2 hce hps hat
   obtain⟨y,hax,hy⟩:=Zfh hps
   have hceq:=Zbt hce hax hat
   rw [hceq] at ho
   split at h
   .rename_i e hh hk hg
    cases h
    obtain⟨h1,_⟩:=hc
    subst h1
    simp only [Option.map_eq_some_iff] at hk
    obtain⟨i0,hi0,hk⟩:=hk
    have hu:=(hT _ _ hi0).k
    rw [hk] at hu
    exact (Zzq ho hu hy hg).toF
   .cases h
  .rename_i l m t n xs2 hce hps hat
   obtain⟨y,hax,hy⟩:=Zfh hps
   have hceq:=Zbt hce hax hat
   rw [hceq] at ho
   split at h
   .rename_i e k i r es hk hg
    cases h
    obtain⟨h1,h2,_⟩:=hc
    subst h2
    simp only [Option.map_eq_some_iff] at hk
    obtain⟨i0,hi0,hk⟩:=hk
    have hu:=(hT _ _ hi0).k
    rw [hk] at hu
    exact (Zzw ho hu hy hg h1).toF
   .cases h
  .rename_i l2 m2 t tx L es' xs2 hce hps hat
   obtain⟨y,z,hax,hy,hz⟩:=Zdb hps
   have hceq:=Zbt hce hax hat
   rw [hceq] at ho
   split at h
   .rename_i e agg k bytes z0 kk fl ex k2 i2 r es he hex hg
    have hbh:=Zn h;clear h;obtain⟨hb,h⟩:=hbh
    simp only [Bool.and_eq_true] at hb
    cases h
    obtain⟨h1,h2,h3,h4,h5,_⟩:=hc
    subst h3;subst h1;subst h2
    have hE:=Zeo (z:=z0) hT he rfl hb.1.1 hb.1.2
    obtain⟨i1,hi1,hk1,_⟩:=Zaa hex
    have hu1:=(hT _ _ hi1).k
    rw [hk1] at hu1
    have hkk:=(Ze _ _).1 hb.2.1.1
    subst hkk
    exact (Zql (need:=[l2]) L ((Zag _ _).1 hb.2.1.2) (Zfv hb.2.2) ho hE ⟨_,hu1⟩ hy hz hg (by simp) h4 h5).toF
   .cases h
  .rename_i l m l2 m2 t tx es' xs2 hce hps hat
   obtain⟨y,z,hax,hy,hz⟩:=Zdb hps
   have hceq:=Zbt hce hax hat
   rw [hceq] at ho
   split at h
   .rename_i e agg k bytes z0 kk fl ex k1 i1 r es0 k2 i2 r2 es he hex hg hg2
    obtain⟨i3,hi3,hk3,_⟩:=Zaa hex
    have hu1:=(hT _ _ hi3).k
    rw [hk3] at hu1
    cases hrr:Nat.beq r r2 with
    | true=>
     simp only [hrr,cond_true] at h
     have hbh:=Zn h;clear h;obtain⟨hb,h⟩:=hbh
     simp only [Bool.and_eq_true] at hb
     cases h
     obtain⟨h1,h2,h3,h4,h5,h6,h7,_⟩:=hc
     have hE:=Zeo (z:=z0) hT he rfl hb.1.1 hb.1.2
     have e1:=(Ze _ _).1 hb.2.1
     have e2:=(Ze _ _).1 hb.2.2
     have e3:=(Ze _ _).1 hrr
     subst e1;subst e2;subst e3;subst h5;subst h3;subst h4;subst h2
     have hl:(es0++es).length=i1+es.length:=by rw [List.length_append,h1]
     rw [hl] at h6 h7
     show OpF P o tm σ [l,l2] [l] (.own l (.xw (es0++es).length)) [(l,.xrow k (es0++es).length r (es0++es))]
     rw [hl]
     exact Zwl ho hE ⟨_,hu1⟩ hy hg h1 hz hg2 (by simp) (by simp) h6 h7
    | false=>
     simp only [hrr,cond_false] at h
     split at h
     .rename_i hgr hgr2
      have hbh:=Zn h;clear h;obtain⟨hb,h⟩:=hbh
      simp only [Bool.and_eq_true,Zag,Bool.not_eq_true'] at hb
      cases h
      obtain⟨h1,h2,h3,h4,h5,h6,h7,_⟩:=hc
      have hE:=Zeo (z:=z0) hT he rfl hb.1.1.1 hb.1.1.2
      have e1:=(Ze _ _).1 hb.1.2.1
      have e2:=(Ze _ _).1 hb.1.2.2
      have nb:∀ {a b:Nat},Nat.beq a b=false->a≠b:=fun h e=>by subst e;simp at h
      subst e1;subst e2;subst h5;subst h3;subst h4;subst h2
      have hl:(es0++es).length=i1+es.length:=by rw [List.length_append,h1]
      rw [hl] at h6 h7
      show OpF P o tm σ [l,l2,r,r2] [l,r,r2] (.own l (.xw (es0++es).length)) [(l,.xrow k (es0++es).length r (es0++es)),(r,.reg false)]
      rw [hl]
      exact Zut hb.2.1.1 (nb hrr) (nb hb.2.2.1) (nb hb.2.2.2) ho hE ⟨_,hu1⟩ hy hg h1 hz hg2 hgr hgr2 h6 h7
     .cases h
   .cases h
  .cases h
 .rename_i t len parts ho
  split at h
  .rename_i e agg k bytes z kk fl ps r L xs2 he hp
   have hbh:=Zn h;clear h;obtain⟨hb,h⟩:=hbh
   simp only [Bool.and_eq_true] at hb
   have hE:=Zeo (z:=z) hT he rfl hb.1.1 hb.1.2
   split at h
   .rename_i out hf
    split at h
    .rename_i ts hts
     have hbh:=Zn h;clear h;obtain⟨hb2,h⟩:=hbh
     simp only [Bool.and_eq_true] at hb2
     cases h
     exact (Zzy (need:=[]) L ((Zag _ _).1 hb2.1.1) (Zfv hb2.1.2) ho hE hp ((Zag _ _).1 hb.2) hf hts ((Ze _ _).1 hb2.2)).toF
    .cases h
   .cases h
  .cases h
 .cases h
theorem Znb(hT:TOK P T){x:Stm}(h:Zqz P T o tm σ xs=some (ps,xs',x))(hc:Zo ps):OpF P o tm σ x.s.need x.rm x.s.p x.s.news:=by
 unfold Zqz at h
 split at h
 .rename_i he
  cases h
  exact (Zz0 hT he hc).toF
 .split at h
  .rename_i hm;cases h;exact Zyk hT hm hc
  .split at h
   .rename_i hm;cases h;exact Zyl hT hm hc
   .split at h
    .rename_i hm;cases h;exact Zym hT hm hc
    .split at h
     .rename_i hm;cases h;exact Zz1 hT hm hc
     .exact Zyn hT h hc
end
end Go.PW
namespace Go.PW
open Go.RowKit
abbrev Es:=Option (List Prop×List Orc×St)
theorem Zsa(m:Nat):Nat.beq m m=true:=(Ze _ _).2 rfl
mutual
def Zby(mt:Bool)(l:Nat)(es:List (List Za)):PV->List Prop×PV
 | .t x=>([],.t x)
 | .nils=>([],.nils)
 | .osl m n=>bif !mt&&Nat.beq m l then ([es.length=n],.t (.sl es)) else ([],.osl m n)
 | .bptr m o=>([],.bptr m o)
 | .rptr m n i o=>([],.rptr m n i o)
 | .vptr cs=>([],.vptr cs)
 | .agg cs=>((Zc0 mt l es cs).1,.agg (Zc0 mt l es cs).2)
 | .tup cs=>((Zc0 mt l es cs).1,.tup (Zc0 mt l es cs).2)
 | .fn f cs=>((Zc0 mt l es cs).1,.fn f (Zc0 mt l es cs).2)
 | .own m (.msl n)=>bif mt&&Nat.beq m l then ([es.length=n],.t (.sl es)) else ([],.own m (.msl n))
 | .own m d=>([],.own m d)
def Zc0(mt:Bool)(l:Nat)(es:List (List Za)):List PV->List Prop×List PV
 | []=>([],[])
 | c::cs=>((Zby mt l es c).1++(Zc0 mt l es cs).1,(Zby mt l es c).2::(Zc0 mt l es cs).2)
end
def Zfz(mt:Bool)(l:Nat)(es:List (List Za)):List (Nat×PV)->List Prop×List (Nat×PV)
 | []=>([],[])
 | (i,p)::r=>((Zby mt l es p).1++(Zfz mt l es r).1,(i,(Zby mt l es p).2)::(Zfz mt l es r).2)
def Zbn(mt:Bool)(l:Nat)(es:List (List Za)):List (Nat×Blk)->List Prop×List (Nat×Blk)
 | []=>([],[])
 | (m,b)::r=>
  bif Nat.beq m l then Zbn mt l es r else
  match b with
  | .row k es'=>((Zbn mt l es r).1,(m,.row k es')::(Zbn mt l es r).2)
  | .mat k q es'=>((Zbn mt l es r).1,(m,.mat k q es')::(Zbn mt l es r).2)
  | .map ag es'=>((Zbn mt l es r).1,(m,.map ag es')::(Zbn mt l es r).2)
  | .reg h=>((Zbn mt l es r).1,(m,.reg h)::(Zbn mt l es r).2)
  | .xrow k i q es'=>((Zbn mt l es r).1,(m,.xrow k i q es')::(Zbn mt l es r).2)
  | .prow k i es' cs=>((Zc0 mt l es cs).1++(Zbn mt l es r).1,(m,.prow k i es' (Zc0 mt l es cs).2)::(Zbn mt l es r).2)
  | .box cs=>((Zc0 mt l es cs).1++(Zbn mt l es r).1,(m,.box (Zc0 mt l es cs).2)::(Zbn mt l es r).2)
mutual
theorem Ztz{σ σ':List (Nat×Blk)}{mt:Bool}{l k q0:Nat}{es:List (List Za)}(hg:get σ l=some (bif mt then .mat k q0 es else .row k es))(h0:get σ' l=none):∀ (p:PV),Zo (Zby mt l es p).1->Frz σ σ' p (Zby mt l es p).2
 | .t _,_=>by simp [Zby,Frz]
 | .nils,_=>by simp [Zby,Frz]
 | .osl m n,h=>by
  simp only [Zby] at h⊢
  cases hb : !mt&&Nat.beq m l with
  | true=>
   simp only [Bool.and_eq_true,Bool.not_eq_true',Ze] at hb
   obtain⟨rfl,rfl⟩:=hb
   simp only [Zsa,Bool.not_false,Bool.true_and,cond_true] at h⊢
   simp only [Frz]
   exact .inr ⟨k,es,hg,h.1,h0,rfl⟩
  | false=>simp only [cond_false,Frz];exact .inl trivial
 | .bptr _ _,_=>by simp [Zby,Frz]
 | .rptr _ _ _ _,_=>by simp [Zby,Frz]
 | .vptr _,_=>by simp [Zby,Frz]
 | .agg cs,h=>by simp only [Zby,Frz] at h⊢;exact⟨_,rfl,Zgq hg h0 cs h⟩
 | .tup cs,h=>by simp only [Zby,Frz] at h⊢;exact⟨_,rfl,Zgq hg h0 cs h⟩
 | .fn _ cs,h=>by simp only [Zby,Frz] at h⊢;exact⟨_,rfl,Zgq hg h0 cs h⟩
 | .own m (.msl n),h=>by
  simp only [Zby] at h⊢
  cases hb:mt&&Nat.beq m l with
  | true=>
   simp only [Bool.and_eq_true,Ze] at hb
   obtain⟨rfl,rfl⟩:=hb
   simp only [Zsa,Bool.true_and,cond_true] at h⊢
   simp only [Frz]
   exact .inr ⟨n,k,q0,es,rfl,hg,h.1,h0,rfl⟩
  | false=>simp only [cond_false,Frz];exact .inl trivial
 | .own m (.tail _ _),_=>by simp only [Zby,Frz];exact .inl trivial
 | .own m (.mpt _ _ _),_=>by simp only [Zby,Frz];exact .inl trivial
 | .own m (.mrow _ _),_=>by simp only [Zby,Frz];exact .inl trivial
 | .own m (.mel _ _ _),_=>by simp only [Zby,Frz];exact .inl trivial
 | .own m .map,_=>by simp only [Zby,Frz];exact .inl trivial
 | .own m (.pw _),_=>by simp only [Zby,Frz];exact .inl trivial
 | .own m (.pp _ _),_=>by simp only [Zby,Frz];exact .inl trivial
 | .own m (.rg _),_=>by simp only [Zby,Frz];exact .inl trivial
 | .own m (.rp _),_=>by simp only [Zby,Frz];exact .inl trivial
 | .own m (.xw _),_=>by simp only [Zby,Frz];exact .inl trivial
 | .own m (.xp _ _ _),_=>by simp only [Zby,Frz];exact .inl trivial
theorem Zgq{σ σ':List (Nat×Blk)}{mt:Bool}{l k q0:Nat}{es:List (List Za)}(hg:get σ l=some (bif mt then .mat k q0 es else .row k es))(h0:get σ' l=none):∀ (cs:List PV),Zo (Zc0 mt l es cs).1->Zx σ σ' cs (Zc0 mt l es cs).2
 | [],_=>by simp [Zc0,Zx]
 | c::cs,h=>by
  simp only [Zc0,Zx] at h⊢
  obtain⟨h1,h2⟩:=Zf.1 h
  exact⟨_,_,rfl,Ztz hg h0 c h1,Zgq hg h0 cs h2⟩
end
theorem Zlh{σ σ':List (Nat×Blk)}{mt:Bool}{l k q0:Nat}{es:List (List Za)}(hg:get σ l=some (bif mt then .mat k q0 es else .row k es))(h0:get σ' l=none):∀ (tm:List (Nat×PV)),Zo (Zfz mt l es tm).1->∀ i q,get (Zfz mt l es tm).2 i=some q->∃ p,get tm i=some p/\Frz σ σ' p q
 | [],_,i,q,hq=>by cases hq
 | (j,p)::r,h,i,q,hq=>by
  simp only [Zfz] at h hq
  obtain⟨h1,h2⟩:=Zf.1 h
  simp only [PW.get] at hq⊢
  cases hb:Nat.beq j i with
  | true=>simp only [hb,cond_true,Option.some.injEq] at hq⊢;subst hq;exact⟨p,rfl,Ztz hg h0 p h1⟩
  | false=>simp only [hb,cond_false] at hq⊢;exact Zlh hg h0 r h2 i q hq
theorem Zf0{mt:Bool}{l:Nat}{es:List (List Za)}:∀ (σ:List (Nat×Blk)),get (Zbn mt l es σ).2 l=none
 | []=>rfl
 | (m,b)::r=>by
  simp only [Zbn]
  cases hb:Nat.beq m l with
  | true=>simp only [cond_true];exact Zf0 r
  | false=>
   simp only [cond_false]
   cases b<;>simp only [PW.get,hb,cond_false]<;>exact Zf0 r
theorem Zcy{σ0 σ0':List (Nat×Blk)}{mt:Bool}{l k q0:Nat}{es:List (List Za)}(hg:get σ0 l=some (bif mt then .mat k q0 es else .row k es))(h0:get σ0' l=none):∀ (σ:List (Nat×Blk)),Zo (Zbn mt l es σ).1->∀ m o',get (Zbn mt l es σ).2 m=some o'->∃ o,get σ m=some o/\Z0 σ0 σ0' o o'
 | [],_,m,o',ho=>by cases ho
 | (j,b)::r,h,m,o',ho=>by
  simp only [Zbn] at h ho
  cases hb:Nat.beq j l with
  | true=>
   simp only [hb,cond_true] at h ho
   have:j=l:=(Ze _ _).1 hb
   subst this
   have hjm:j≠m:=fun e=>by subst e;rw [Zf0] at ho;cases ho
   simp only [PW.get,Zai hjm,cond_false]
   exact Zcy hg h0 r h m o' ho
  | false=>
   simp only [hb,cond_false] at h ho
   cases b with
   | row k' es'=>
    simp only [PW.get] at ho⊢
    cases hm:Nat.beq j m with
    | true=>simp only [hm,cond_true,Option.some.injEq] at ho⊢;subst ho;exact⟨_,rfl,rfl⟩
    | false=>simp only [hm,cond_false] at ho⊢;exact Zcy hg h0 r h m o' ho
   | mat k' q' es'=>
    simp only [PW.get] at ho⊢
    cases hm:Nat.beq j m with
    | true=>simp only [hm,cond_true,Option.some.injEq] at ho⊢;subst ho;exact⟨_,rfl,rfl⟩
    | false=>simp only [hm,cond_false] at ho⊢;exact Zcy hg h0 r h m o' ho
   | reg h'=>
    simp only [PW.get] at ho⊢
    cases hm:Nat.beq j m with
    | true=>simp only [hm,cond_true,Option.some.injEq] at ho⊢;subst ho;exact⟨_,rfl,rfl⟩
    | false=>simp only [hm,cond_false] at ho⊢;exact Zcy hg h0 r h m o' ho
   | xrow k' i' q' es'=>
    simp only [PW.get] at ho⊢
    cases hm:Nat.beq j m with
    | true=>simp only [hm,cond_true,Option.some.injEq] at ho⊢;subst ho;exact⟨_,rfl,rfl⟩
    | false=>simp only [hm,cond_false] at ho⊢;exact Zcy hg h0 r h m o' ho
   | map k' es'=>
    simp only [PW.get] at ho⊢
    cases hm:Nat.beq j m with
    | true=>simp only [hm,cond_true,Option.some.injEq] at ho⊢;subst ho;exact⟨_,rfl,rfl⟩
    | false=>simp only [hm,cond_false] at ho⊢;exact Zcy hg h0 r h m o' ho
   | prow k' i' es' cs=>
    obtain⟨h1,h2⟩:=Zf.1 h
    simp only [PW.get] at ho⊢
    cases hm:Nat.beq j m with
    | true=>simp only [hm,cond_true,Option.some.injEq] at ho⊢;subst ho;exact⟨_,rfl,_,rfl,Zgq hg h0 cs h1⟩
    | false=>simp only [hm,cond_false] at ho⊢;exact Zcy hg h0 r h2 m o' ho
   | box cs=>
    obtain⟨h1,h2⟩:=Zf.1 h
    simp only [PW.get] at ho⊢
    cases hm:Nat.beq j m with
    | true=>simp only [hm,cond_true,Option.some.injEq] at ho⊢;subst ho;exact⟨_,rfl,_,rfl,Zgq hg h0 cs h1⟩
    | false=>simp only [hm,cond_false] at ho⊢;exact Zcy hg h0 r h2 m o' ho
mutual
def vbx(l:Nat)(ts:List Za):PV->PV
 | .bptr m o=>bif Nat.beq m l then .vptr (ts.drop o) else .bptr m o
 | .agg cs => .agg (Zke l ts cs)
 | .tup cs => .tup (Zke l ts cs)
 | .fn f cs => .fn f (Zke l ts cs)
 | .t x => .t x
 | .nils => .nils
 | .osl m n => .osl m n
 | .rptr m n i o => .rptr m n i o
 | .vptr cs => .vptr cs
 | .own m d => .own m d
def Zke(l:Nat)(ts:List Za):List PV->List PV
 | []=>[]
 | c::cs=>vbx l ts c::Zke l ts cs
end
def Zq0(l:Nat)(ts:List Za):List (Nat×PV)->List (Nat×PV)
 | []=>[]
 | (i,p)::r=>(i,vbx l ts p)::Zq0 l ts r
def Zkf(l:Nat)(ts:List Za):List (Nat×Blk)->List (Nat×Blk)
 | []=>[]
 | (m,b)::r=>
  bif Nat.beq m l then Zkf l ts r else
  match b with
  | .box cs=>(m,.box (Zke l ts cs))::Zkf l ts r
  | .prow k i es cs=>(m,.prow k i es (Zke l ts cs))::Zkf l ts r
  | b=>(m,b)::Zkf l ts r
mutual
theorem Zws{σ σ':List (Nat×Blk)}{l:Nat}{ts:List Za}(hg:get σ l=some (.box (ts.map .t)))(h0:get σ' l=none):∀ (p:PV),Frz σ σ' p (vbx l ts p)
 | .t _=>by simp [vbx,Frz]
 | .nils=>by simp [vbx,Frz]
 | .osl _ _=>by simp [vbx,Frz]
 | .bptr m o=>by
  simp only [vbx]
  cases hb:Nat.beq m l with
  | true=>
   have:m=l:=(Ze _ _).1 hb
   subst this
   simp only [cond_true,Frz]
   exact .inr ⟨ts,hg,h0,rfl⟩
  | false=>simp only [cond_false,Frz];exact .inl trivial
 | .rptr _ _ _ _=>by simp [vbx,Frz]
 | .vptr _=>by simp [vbx,Frz]
 | .agg cs=>by simp only [vbx,Frz];exact⟨_,rfl,Zh9 hg h0 cs⟩
 | .tup cs=>by simp only [vbx,Frz];exact⟨_,rfl,Zh9 hg h0 cs⟩
 | .fn _ cs=>by simp only [vbx,Frz];exact⟨_,rfl,Zh9 hg h0 cs⟩
 | .own _ _=>by simp only [vbx,Frz];exact .inl trivial
theorem Zh9{σ σ':List (Nat×Blk)}{l:Nat}{ts:List Za}(hg:get σ l=some (.box (ts.map .t)))(h0:get σ' l=none):∀ (cs:List PV),Zx σ σ' cs (Zke l ts cs)
 | []=>by simp [Zke,Zx]
 | c::cs=>by simp only [Zke,Zx];exact⟨_,_,rfl,Zws hg h0 c,Zh9 hg h0 cs⟩
end
theorem Zsb{σ σ':List (Nat×Blk)}{l:Nat}{ts:List Za}(hg:get σ l=some (.box (ts.map .t)))(h0:get σ' l=none):∀ (tm:List (Nat×PV)) (i:Nat) (q:PV),get (Zq0 l ts tm) i=some q->∃ p,get tm i=some p/\Frz σ σ' p q
 | [],i,q,hq=>by cases hq
 | (j,p)::r,i,q,hq=>by
  simp only [Zq0,PW.get] at hq⊢
  cases hb:Nat.beq j i with
  | true=>simp only [hb,cond_true,Option.some.injEq] at hq⊢;subst hq;exact⟨p,rfl,Zws hg h0 p⟩
  | false=>simp only [hb,cond_false] at hq⊢;exact Zsb hg h0 r i q hq
theorem Zi6{l:Nat}{ts:List Za}:∀ (σ:List (Nat×Blk)),get (Zkf l ts σ) l=none
 | []=>rfl
 | (m,b)::r=>by
  simp only [Zkf]
  cases hb:Nat.beq m l with
  | true=>simp only [cond_true];exact Zi6 r
  | false=>
   simp only [cond_false]
   cases b<;>simp only [PW.get,hb,cond_false]<;>exact Zi6 r
theorem Zpn{σ0 σ0':List (Nat×Blk)}{l:Nat}{ts:List Za}(hg:get σ0 l=some (.box (ts.map .t)))(h0:get σ0' l=none):∀ (σ:List (Nat×Blk)) (m:Nat) (o':Blk),get (Zkf l ts σ) m=some o'->∃ o,get σ m=some o/\Z0 σ0 σ0' o o'
 | [],m,o',ho=>by cases ho
 | (j,b)::r,m,o',ho=>by
  simp only [Zkf] at ho
  cases hb:Nat.beq j l with
  | true=>
   simp only [hb,cond_true] at ho
   have:j=l:=(Ze _ _).1 hb
   subst this
   have hjm:j≠m:=fun e=>by subst e;rw [Zi6] at ho;cases ho
   simp only [PW.get,Zai hjm,cond_false]
   exact Zpn hg h0 r m o' ho
  | false=>
   simp only [hb,cond_false] at ho
   simp only [PW.get]
   cases hm:Nat.beq j m with
   | true=>
    cases b with
    | box cs=>simp only [PW.get,hm,cond_true,Option.some.injEq] at ho⊢;subst ho;exact⟨_,rfl,_,rfl,Zh9 hg h0 cs⟩
    | row k es=>simp only [PW.get,hm,cond_true,Option.some.injEq] at ho⊢;subst ho;exact⟨_,rfl,rfl⟩
    | mat k q es=>simp only [PW.get,hm,cond_true,Option.some.injEq] at ho⊢;subst ho;exact⟨_,rfl,rfl⟩
    | map ag es=>simp only [PW.get,hm,cond_true,Option.some.injEq] at ho⊢;subst ho;exact⟨_,rfl,rfl⟩
    | reg h'=>simp only [PW.get,hm,cond_true,Option.some.injEq] at ho⊢;subst ho;exact⟨_,rfl,rfl⟩
    | xrow k i q es=>simp only [PW.get,hm,cond_true,Option.some.injEq] at ho⊢;subst ho;exact⟨_,rfl,rfl⟩
    | prow k i es cs=>simp only [PW.get,hm,cond_true,Option.some.injEq] at ho⊢;subst ho;exact⟨_,rfl,_,rfl,Zh9 hg h0 cs⟩
   | false=>
    simp only [cond_false]
    refine Zpn hg h0 r m o' ?_
    cases b<;>simpa only [PW.get,hm,cond_false] using ho
def Zdj{α:Type}(l:List (Nat×α)):List Nat->Option (List (Nat×α))
 | []=>some []
 | k::ks=>
  match get l k,Zdj l ks with
  | some x,some r=>some ((k,x)::r)
  | _,_=>none
theorem Zch{α:Type}{l:List (Nat×α)}:∀ {ks:List Nat} {r:List (Nat×α)},Zdj l ks=some r->∀ i x,get r i=some x->get l i=some x
 | [],r,h,i,x,hx=>by simp only [Zdj,Option.some.injEq] at h;subst h;cases hx
 | k::ks,r,h,i,x,hx=>by
  simp only [Zdj] at h
  split at h
  .rename_i y r' hy hr
   cases h
   simp only [PW.get] at hx
   cases hb:Nat.beq k i with
   | true=>have:k=i:=(Ze _ _).1 hb;subst this;simp only [hb,cond_true,Option.some.injEq] at hx;subst hx;exact hy
   | false=>simp only [hb,cond_false] at hx;exact Zch hr i x hx
  .cases h
def Zdm(l:Nat)(tm:List (Nat×PV))(σ:List (Nat×Blk)):Bool:=(tm.all fun q => !q.2.has l)&&σ.all fun q => !Nat.beq q.1 l && !q.2.has l
theorem Zfi{l:Nat}{tm:List (Nat×PV)}{σ:List (Nat×Blk)}(h:Zdm l tm σ=true):(∀ i q,get tm i=some q->q.has l=false)/\(∀ m y,get σ m=some y->m≠l/\y.has l=false):=by
 simp only [Zdm,Bool.and_eq_true,List.all_eq_true] at h
 refine⟨fun i q hq=>?_,fun m y hy=>?_⟩
 .have:=h.1 _ (Zbe hq);simpa using this
 .have:=h.2 _ (Zbe hy)
  simp only [Bool.not_eq_true'] at this
  exact⟨fun e=>by subst e;have:=this.1;simp at this,this.2⟩
def Z7(l n:Nat):List (Nat×PV)->List Prop×List (Nat×PV)
 | []=>([],[])
 | (i,p)::r=>
  match p with
  | .osl m k=>bif Nat.beq m l then ((k=n)::(Z7 l n r).1,(i,.osl m n)::(Z7 l n r).2) else ((Z7 l n r).1,(i,.osl m k)::(Z7 l n r).2)
  | .rptr m k j o=>bif Nat.beq m l then ((k=n)::(Z7 l n r).1,(i,.rptr m n j o)::(Z7 l n r).2) else ((Z7 l n r).1,(i,.rptr m k j o)::(Z7 l n r).2)
  | .own m (.msl k)=>bif Nat.beq m l then ((k=n)::(Z7 l n r).1,(i,.own m (.msl n))::(Z7 l n r).2) else ((Z7 l n r).1,(i,.own m (.msl k))::(Z7 l n r).2)
  | .own m (.xw k)=>bif Nat.beq m l then ((k=n)::(Z7 l n r).1,(i,.own m (.xw n))::(Z7 l n r).2) else ((Z7 l n r).1,(i,.own m (.xw k))::(Z7 l n r).2)
  | .own m (.xp k j o)=>bif Nat.beq m l then ((k=n)::(Z7 l n r).1,(i,.own m (.xp n j o))::(Z7 l n r).2) else ((Z7 l n r).1,(i,.own m (.xp k j o))::(Z7 l n r).2)
  | p=>((Z7 l n r).1,(i,p)::(Z7 l n r).2)
theorem Zaq{l n:Nat}:∀ (tm:List (Nat×PV)),Zo (Z7 l n tm).1->(Z7 l n tm).2=tm
 | [],_=>rfl
 | (i,p)::r,h=>by
  cases p
  case osl m k=>
   simp only [Z7] at h⊢
   cases hb:Nat.beq m l with
   | true=>
    simp only [hb,cond_true] at h⊢
    obtain⟨h1,h2⟩:=h
    subst h1
    rw [Zaq r h2]
   | false=>
    simp only [hb,cond_false] at h⊢
    rw [Zaq r h]
  case rptr m k j o=>
   simp only [Z7] at h⊢
   cases hb:Nat.beq m l with
   | true=>
    simp only [hb,cond_true] at h⊢
    obtain⟨h1,h2⟩:=h
    subst h1
    rw [Zaq r h2]
   | false=>
    simp only [hb,cond_false] at h⊢
    rw [Zaq r h]
  case own m d=>
   cases d
   case msl k=>
    simp only [Z7] at h⊢
    cases hb:Nat.beq m l with
    | true=>
     simp only [hb,cond_true] at h⊢
     obtain⟨h1,h2⟩:=h
     subst h1
     rw [Zaq r h2]
    | false=>
     simp only [hb,cond_false] at h⊢
     rw [Zaq r h]
   case xw k=>
    simp only [Z7] at h⊢
    cases hb:Nat.beq m l with
    | true=>
     simp only [hb,cond_true] at h⊢
     obtain⟨h1,h2⟩:=h
     subst h1
     rw [Zaq r h2]
    | false=>
     simp only [hb,cond_false] at h⊢
     rw [Zaq r h]
   case xp k j o=>
    simp only [Z7] at h⊢
    cases hb:Nat.beq m l with
    | true=>
     simp only [hb,cond_true] at h⊢
     obtain⟨h1,h2⟩:=h
     subst h1
     rw [Zaq r h2]
    | false=>
     simp only [hb,cond_false] at h⊢
     rw [Zaq r h]
   all_goals
    simp only [Z7] at h⊢
    rw [Zaq r h]
  all_goals
   simp only [Z7] at h⊢
   rw [Zaq r h]
def Zal(l n:Nat):List PV->List Prop×List PV
 | []=>([],[])
 | .osl m k::r=>bif Nat.beq m l then ((k=n)::(Zal l n r).1,.osl m n::(Zal l n r).2) else ((Zal l n r).1,.osl m k::(Zal l n r).2)
 | .own m (.msl k)::r=>bif Nat.beq m l then ((k=n)::(Zal l n r).1,.own m (.msl n)::(Zal l n r).2) else ((Zal l n r).1,.own m (.msl k)::(Zal l n r).2)
 | .own m (.xw k)::r=>bif Nat.beq m l then ((k=n)::(Zal l n r).1,.own m (.xw n)::(Zal l n r).2) else ((Zal l n r).1,.own m (.xw k)::(Zal l n r).2)
 | p::r=>((Zal l n r).1,p::(Zal l n r).2)
theorem Zb1{l n:Nat}:∀ (cs:List PV),Zo (Zal l n cs).1->(Zal l n cs).2=cs
 | [],_=>rfl
 | p::r,h=>by
  cases p
  case osl m k=>
   simp only [Zal] at h⊢
   cases hb:Nat.beq m l with
   | true=>
    simp only [hb,cond_true] at h⊢
    obtain⟨h1,h2⟩:=h
    subst h1
    rw [Zb1 r h2]
   | false=>
    simp only [hb,cond_false] at h⊢
    rw [Zb1 r h]
  case own m d=>
   cases d
   case msl k=>
    simp only [Zal] at h⊢
    cases hb:Nat.beq m l with
    | true=>
     simp only [hb,cond_true] at h⊢
     obtain⟨h1,h2⟩:=h
     subst h1
     rw [Zb1 r h2]
    | false=>
     simp only [hb,cond_false] at h⊢
     rw [Zb1 r h]
   case xw k=>
    simp only [Zal] at h⊢
    cases hb:Nat.beq m l with
    | true=>
     simp only [hb,cond_true] at h⊢
     obtain⟨h1,h2⟩:=h
     subst h1
     rw [Zb1 r h2]
    | false=>
     simp only [hb,cond_false] at h⊢
     rw [Zb1 r h]
   all_goals (simp only [Zal] at h⊢;rw [Zb1 r h])
  all_goals
   simp only [Zal] at h⊢
   rw [Zb1 r h]
def Zao(l n:Nat):List (Nat×Blk)->List Prop×List (Nat×Blk)
 | []=>([],[])
 | (m,.box cs)::r=>((Zal l n cs).1++(Zao l n r).1,(m,.box (Zal l n cs).2)::(Zao l n r).2)
 | (m,.row k es)::r=>((Zao l n r).1,(m,.row k es)::(Zao l n r).2)
 | (m,.mat k q es)::r=>((Zao l n r).1,(m,.mat k q es)::(Zao l n r).2)
 | (m,.map ag es)::r=>((Zao l n r).1,(m,.map ag es)::(Zao l n r).2)
 | (m,.reg h)::r=>((Zao l n r).1,(m,.reg h)::(Zao l n r).2)
 | (m,.xrow k i q es)::r=>((Zao l n r).1,(m,.xrow k i q es)::(Zao l n r).2)
 | (m,.prow k i es cs)::r=>((Zal l n cs).1++(Zao l n r).1,(m,.prow k i es (Zal l n cs).2)::(Zao l n r).2)
theorem Zci{l n:Nat}:∀ (σ:List (Nat×Blk)),Zo (Zao l n σ).1->(Zao l n σ).2=σ
 | [],_=>rfl
 | (m,b)::r,h=>by
  cases b with
  | box cs=>
   simp only [Zao] at h⊢
   obtain⟨h1,h2⟩:=Zf.1 h
   rw [Zb1 cs h1,Zci r h2]
  | row k es=>
   simp only [Zao] at h⊢
   rw [Zci r h]
  | mat k q es=>
   simp only [Zao] at h⊢
   rw [Zci r h]
  | map ag es=>
   simp only [Zao] at h⊢
   rw [Zci r h]
  | reg h'=>
   simp only [Zao] at h⊢
   rw [Zci r h]
  | xrow k i q es=>
   simp only [Zao] at h⊢
   rw [Zci r h]
  | prow k i es cs=>
   simp only [Zao] at h⊢
   obtain⟨h1,h2⟩:=Zf.1 h
   rw [Zb1 cs h1,Zci r h2]
theorem Zoj{G:Frm}{β:Nat->Option Nat}{n:Nat}{tm tm':List (Nat×PV)}{σ σ':List (Nat×Blk)}{a:Act}{w:World}(h:Zq G β ⟨n,tm,σ⟩ a w)
 (hσ:∀ l o',get σ' l=some o'->∃ o,get σ l=some o/\(o'=o\/∃ cs cs',o = .box cs/\o' = .box cs'/\cs'.length=cs.length/\cs'.all PV.one=true/\∀ vs,VRs (ctx G β w σ) cs vs->VRs (ctx G β w σ) cs' vs))
 (ht:∀ i q,get tm' i=some q->∃ p,get tm i=some p/\∀ v,VR (ctx G β w σ) p v->VR (ctx G β w σ) q v):Zq G β ⟨n,tm',σ'⟩ a w:=by
 have hO:∀ l o' o,(o'=o\/∃ cs cs',o = .box cs/\o' = .box cs'/\cs'.length=cs.length/\cs'.all PV.one=true/\∀ vs,VRs (ctx G β w σ) cs vs->VRs (ctx G β w σ) cs' vs)->∀ b,Zj β w l o' b->Zj β w l o b:=fun l o' o hr b ho=>by
  rcases hr with rfl | ⟨cs,cs',rfl,rfl,_⟩
  .exact ho
  .exact .inl (Zj.flat (o := .box cs') trivial ho)
 have hI:∀ b,(ctx G β w σ).I b->(ctx G β w σ').I b/\(ctx G β w σ').w.heap[b]?=(ctx G β w σ).w.heap[b]?:=fun b hb=>⟨⟨hb.1,hb.2.1,fun l o hl ho=>by obtain⟨o2,ho2,hr2⟩:=hσ l o hl;exact hb.2.2 l o2 ho2 (hO l o o2 hr2 b ho)⟩,rfl⟩
 have hL:∀ l,Zm (ctx G β w σ) (ctx G β w σ') l:=fun l=>by
  refine⟨fun k es' hg=>?_,fun cs' hg=>?_,fun k q es' hg=>?_,fun k es' hg=>?_,fun k i es' cs' hg=>?_,fun h' hg=>?_,fun k i q es' hg=>?_⟩
  .obtain⟨o,ho,h1⟩:=hσ l _ hg
   rcases h1 with rfl | ⟨cs,cs',_,h2,_⟩
   .exact⟨es',ho,Nat.le_refl _,fun _=>⟨rfl,fun _ _ _ h=>h⟩⟩
   .cases h2
  .obtain⟨o,ho,h1⟩:=hσ l _ hg
   rcases h1 with rfl | ⟨cs,cs',rfl,h2,_⟩
   .exact⟨cs',ho,rfl⟩
   .exact⟨cs,ho,rfl⟩
  .obtain⟨o,ho,h1⟩:=hσ l _ hg
   rcases h1 with rfl | ⟨cs,cs',_,h2,_⟩
   .exact⟨es',ho,Nat.le_refl _,fun _=>⟨rfl,fun _ _=>⟨fun _ h=>h,fun _ _=>rfl⟩⟩⟩
   .cases h2
  .obtain⟨o,ho,h1⟩:=hσ l _ hg
   rcases h1 with rfl | ⟨cs,cs',_,h2,_⟩
   .exact⟨_,es',ho,rfl⟩
   .cases h2
  .obtain⟨o,ho,h1⟩:=hσ l _ hg
   rcases h1 with rfl | ⟨cs,cs'',_,h2,_⟩
   .exact⟨es',cs',ho,rfl,rfl,fun _ _ _ h=>h⟩
   .cases h2
  .obtain⟨o,ho,h1⟩:=hσ l _ hg
   rcases h1 with rfl | ⟨cs,cs',_,h2,_⟩
   .exact⟨ho,fun n hn=>⟨n,hn,fun _ hb=>⟨hb,ShB.same rfl⟩⟩⟩
   .cases h2
  .obtain⟨o,ho,h1⟩:=hσ l _ hg
   rcases h1 with rfl | ⟨cs,cs',_,h2,_⟩
   .exact⟨i,es',ho,Nat.le_refl _,fun _=>⟨rfl,fun _ _ _ h=>h⟩⟩
   .cases h2
 exact { defers := h.defers, sz := h.sz, base := h.base, os := h.os, tape := h.tape, output := h.output, old := h.old, A := h.A, gl := h.gl,
         inj:=fun l l' o o' b hl hl' hb hb'=>by
          obtain⟨o1,h1,r1⟩:=hσ l o hl
          obtain⟨o2,h2,r2⟩:=hσ l' o' hl'
          exact h.inj l l' o1 o2 b h1 h2 (hO l o o1 r1 b hb) (hO l' o' o2 r2 b hb'),
         sep:=fun l o b hl hb=>by obtain⟨o1,h1,r1⟩:=hσ l o hl;exact h.sep l o1 b h1 (hO l o o1 r1 b hb),
         fix:=fun l cs h1 hl=>by
          obtain⟨o,ho,h2⟩:=hσ l _ hl
          rcases h2 with rfl | ⟨cs0,cs',rfl,_⟩
          .exact h.fix l cs h1 ho
          .exact h.fix l cs0 h1 ho,
         row0:=h.row0.step (fun m _=>hL m),
         blk:=fun l o' hl=>by
          obtain⟨o,ho,h2⟩:=hσ l o' hl
          have hb:=h.blk l o ho
          rcases h2 with rfl | ⟨cs,cs',rfl,rfl,h3,h4,h5⟩
          .exact BR.step hI rfl (fun _ _=>rfl) (fun m _=>hL m) hb
          .obtain⟨b,vs,f1,f2,f3,f4,f5⟩:=hb
           exact⟨b,vs,f1,by rw [h3];exact f2,f3,VRs.step hI _ _ (fun m _=>hL m) (h5 vs f4),h4⟩,
         tm:=fun i q hq=>by
          obtain⟨p,hp,hf⟩:=ht i q hq
          exact⟨(h.tm i p hp).1,VR.step hI q _ (fun m _=>hL m) (hf _ (h.tm i p hp).2)⟩ }
theorem VRs.set{c:Ctx}{p q:PV}:∀ {cs:List PV} {vs:List Value} {j:Nat},cs[j]?=some p->(∀ v,VR c p v->VR c q v)->VRs c cs vs->VRs c (cs.set j q) vs
 | [],vs,j,h,_,_=>by simp at h
 | x::cs,vs,0,h,hq,hv=>by
  simp only [List.getElem?_cons_zero,Option.some.injEq] at h
  subst h
  simp only [List.set_cons_zero,VRs] at hv⊢
  obtain⟨v,rest,rfl,hv,hr⟩:=hv
  exact⟨v,rest,rfl,hq v hv,hr⟩
 | x::cs,vs,j+1,h,hq,hv=>by
  simp only [List.set_cons_succ,VRs] at hv⊢
  obtain⟨v,rest,rfl,hv,hr⟩:=hv
  exact⟨v,rest,rfl,hv,VRs.set (by simpa using h) hq hr⟩
theorem Zt0{q:PV}(hq:q.one=true):∀ {cs:List PV} {j:Nat},cs.all PV.one=true->(cs.set j q).all PV.one=true
 | [],_,h=>h
 | x::cs,0,h=>by simp only [List.set_cons_zero,List.all_cons,Bool.and_eq_true] at h⊢;exact⟨hq,h.2⟩
 | x::cs,j+1,h=>by simp only [List.set_cons_succ,List.all_cons,Bool.and_eq_true] at h⊢;exact⟨h.1,Zt0 hq h.2⟩
theorem VR.nilt{c:Ctx}(v:Value)(h:VR c .nils v):VR c (.t (.sl [])) v:=by
 simp only [VR] at h⊢
 obtain⟨a,rfl⟩:=h
 simp only [Zg]
 exact⟨a,0,rfl,by simp,by simp [maxLen],.inl trivial⟩
theorem VR.nilOwn{c:Ctx}{l k:Nat}(hg:get c.σ l=some (.row k []))(hb:c.β l=none)(v:Value)(h:VR c .nils v):VR c (.osl l 0) v:=by
 simp only [VR] at h⊢
 obtain⟨a,rfl⟩:=h
 refine⟨fun k' es' hg'=>?_,a,0,0,rfl⟩
 rw [hg] at hg'
 cases hg'
 exact⟨Nat.le_refl _,fun _=>⟨a,0,rfl,Nat.le_refl _,by simp [maxLen],.inl ⟨rfl,hb⟩⟩⟩
theorem Zok{G:Frm}{β:Nat->Option Nat}{w:World}{tm:List (Nat×PV)}{σ:List (Nat×Blk)}{t:Nat}{p q:PV}(hg:get tm t=some p)(hq:∀ v,VR (ctx G β w σ) p v->VR (ctx G β w σ) q v) :
 ∀ i r,get (put tm t q) i=some r->∃ p,get tm i=some p/\∀ v,VR (ctx G β w σ) p v->VR (ctx G β w σ) r v:=fun i r hr=>by
 by_cases hi:t=i
 .subst hi
  rw [Z4] at hr
  cases hr
  exact⟨p,hg,hq⟩
 .rw [Z8 _ _ hi] at hr
  exact⟨r,hr,fun _ h=>h⟩
theorem Zol{G:Frm}{β:Nat->Option Nat}{w:World}{σ:List (Nat×Blk)}{b j:Nat}{cs:List PV}{p q:PV}(hg:get σ b=some (.box cs))(hj:cs[j]?=some p)(h1:cs.all PV.one=true)(h2:q.one=true)(hq:∀ v,VR (ctx G β w σ) p v->VR (ctx G β w σ) q v) :
 ∀ l o',get (put σ b (.box (cs.set j q))) l=some o'->∃ o,get σ l=some o/\(o'=o\/∃ cs cs',o = .box cs/\o' = .box cs'/\cs'.length=cs.length/\cs'.all PV.one=true/\∀ vs,VRs (ctx G β w σ) cs vs->VRs (ctx G β w σ) cs' vs):=fun l o' ho=>by
 by_cases hi:b=l
 .subst hi
  rw [Z4] at ho
  cases ho
  exact⟨_,hg,.inr ⟨cs,_,rfl,rfl,by simp,Zt0 h2 h1,fun vs hv=>VRs.set hj hq hv⟩⟩
 .rw [Z8 _ _ hi] at ho
  exact⟨o',ho,.inl rfl⟩
def f1(l m:Nat)(j:Nat):Nat:=bif Nat.beq j l then m else j
def Zom(f:Nat->Nat):List (Nat×PV)->List (Nat×PV)
 | []=>[]
 | (i,p)::r=>(i,p.ren f)::Zom f r
theorem Zsc(f:Nat->Nat):∀ tm:List (Nat×PV),Zom f tm=tm.map fun x=>(x.1,x.2.ren f)
 | []=>rfl
 | (i,p)::r=>by simp only [Zom,List.map_cons,Zsc f r]
theorem Wk.relab{st:St}{l m:Nat}(hm:1000<=m)(hf:Zdm m st.tm st.σ=true):Wk st ⟨st.n,Zom (f1 l m) st.tm,Zaj (f1 l m) st.σ⟩:=by
 rintro G a w ⟨β,h⟩
 obtain⟨g1,g2⟩:=Zfi hf
 rw [Zsc]
 exact Z0q (n:=st.n) (tm:=st.tm) (σ:=st.σ) h l m hm g1 g2
theorem Wk.slot{st:St}{t:Nat}{p q:PV}(hg:get st.tm t=some p)(hq:∀ c v,VR c p v->VR c q v):Wk st ⟨st.n,put st.tm t q,st.σ⟩:=
 fun _ _ _ ⟨β,h⟩=>⟨β,Zoj (n:=st.n) (tm:=st.tm) (σ:=st.σ) h (fun _ o ho=>⟨o,ho,.inl rfl⟩) (Zok hg (hq _))⟩
theorem Zt1{G:Frm}{st:St}{β:Nat->Option Nat}{a:Act}{w:World}(h:Zq G β st a w){b:Nat}{cs:List PV}(hg:get st.σ b=some (.box cs)):cs.all PV.one=true:=by
 obtain⟨_,_,_,_,_,_,h⟩:=h.blk b _ hg
 exact h
theorem Wk.cell{st:St}{b j:Nat}{cs:List PV}{p q:PV}(hg:get st.σ b=some (.box cs))(hj:cs[j]?=some p)(h2:q.one=true)(hq:∀ c v,VR c p v->VR c q v):Wk st ⟨st.n,st.tm,put st.σ b (.box (cs.set j q))⟩:=
 fun _ _ _ ⟨β,h⟩=>⟨β,Zoj (n:=st.n) (tm:=st.tm) (σ:=st.σ) h (Zol hg hj (Zt1 h hg) h2 (hq _)) (fun _ q hq=>⟨q,hq,fun _ h=>h⟩)⟩
theorem Wk.ownc{st:St}{t j l k:Nat}{cs:List PV}(hg:get st.tm t=some (.agg cs))(hj:cs[j]?=some .nils)(hk:0 < k)(hl:1000<=l)(hf:Zdm l st.tm st.σ=true):Wk st ⟨st.n,put st.tm t (.agg (cs.set j (.osl l 0))),(l,.row k [])::st.σ⟩:=by
 rintro G a w ⟨β,h⟩
 obtain⟨g1,g2⟩:=Zfi hf
 have h':=Zn0 (n:=st.n) (tm:=st.tm) (σ:=st.σ) h l k hk hl g1 g2
 refine⟨Zd8 β l,Zoj h' (fun _ o ho=>⟨o,ho,.inl rfl⟩) (Zok hg fun v hv=>?_)⟩
 simp only [VR] at hv⊢
 obtain⟨vs,hv,hs⟩:=hv
 exact⟨vs,hv,VRs.set hj (VR.nilOwn (l:=l) (k:=k) (by simp [ctx,PW.get]) (by simp [ctx,Zd8])) hs⟩
theorem Wk.ownb{st:St}{b j l k:Nat}{cs:List PV}(hg:get st.σ b=some (.box cs))(hj:cs[j]?=some .nils)(hk:0 < k)(hl:1000<=l)(hf:Zdm l st.tm st.σ=true):Wk st ⟨st.n,st.tm,put ((l,.row k [])::st.σ) b (.box (cs.set j (.osl l 0)))⟩:=by
 rintro G a w ⟨β,h⟩
 obtain⟨g1,g2⟩:=Zfi hf
 have h':=Zn0 (n:=st.n) (tm:=st.tm) (σ:=st.σ) h l k hk hl g1 g2
 have hbl:b≠l:=(g2 b _ hg).1
 exact⟨Zd8 β l,Zoj h' (Zol (by simp only [PW.get,Zai (Ne.symm hbl),cond_false];exact hg) hj (Zt1 h hg) rfl (VR.nilOwn (l:=l) (k:=k) (by simp [ctx,PW.get]) (by simp [ctx,Zd8]))) (fun _ q hq=>⟨q,hq,fun _ h=>h⟩)⟩
def Zz:List Orc->St->Es
 | .frz l::xs,st=>
  match get st.σ l with
  | some (.row _ es)=>
   match Zz xs ⟨st.n,(Zfz false l es st.tm).2,(Zbn false l es st.σ).2⟩ with
   | some (ps,xs',st')=>some ((Zfz false l es st.tm).1++((Zbn false l es st.σ).1++ps),xs',st')
   | none=>none
  | some (.mat _ _ es)=>
   match Zz xs ⟨st.n,(Zfz true l es st.tm).2,(Zbn true l es st.σ).2⟩ with
   | some (ps,xs',st')=>some ((Zfz true l es st.tm).1++((Zbn true l es st.σ).1++ps),xs',st')
   | none=>none
  | some (.box cs)=>match Zdv cs with | some ts=>Zz xs ⟨st.n,Zq0 l ts st.tm,Zkf l ts st.σ⟩ | none=>none
  | _=>none
 | .relen l::xs,st=>
  match get st.σ l with
  | some (.row _ es)=>
   match Zz xs ⟨st.n,(Z7 l es.length st.tm).2,(Zao l es.length st.σ).2⟩ with
   | some (ps,xs',st')=>some ((Z7 l es.length st.tm).1++((Zao l es.length st.σ).1++ps),xs',st')
   | none=>none
  | some (.mat _ _ es)=>
   match Zz xs ⟨st.n,(Z7 l es.length st.tm).2,(Zao l es.length st.σ).2⟩ with
   | some (ps,xs',st')=>some ((Z7 l es.length st.tm).1++((Zao l es.length st.σ).1++ps),xs',st')
   | none=>none
  | some (.xrow _ _ _ es)=>
   match Zz xs ⟨st.n,(Z7 l es.length st.tm).2,(Zao l es.length st.σ).2⟩ with
   | some (ps,xs',st')=>some ((Z7 l es.length st.tm).1++((Zao l es.length st.σ).1++ps),xs',st')
   | none=>none
  | _=>none
 | .opn l i e::xs,st=>
  match get st.σ l with
  | some (.row k es)=>
   bif Nat.ble 1000 l then
    match Zfw (Zm4 l i) st.tm,Zih l (.prow k i es (e.map .t)) (Zm4 l i) st.σ with
    | some (q1,tm),some (q2,σ)=>
     match Zz xs ⟨st.n,tm,σ⟩ with
     | some (ps,xs',st')=>some ((es[i]?=some e)::(q1++(q2++ps)),xs',st')
     | none=>none
    | _,_=>none
   else none
  | _=>none
 | .cls l es'::xs,st=>
  match get st.σ l with
  | some (.prow k i es cs)=>
   match Zdv cs with
   | some ts=>
    bif Nat.ble 1000 l then
     match Zfw (Zld l i es.length) st.tm,Zih l (.row k es') (Zld l i es.length) st.σ with
     | some (q1,tm),some (q2,σ)=>
      match Zz xs ⟨st.n,tm,σ⟩ with
      | some (ps,xs',st')=>some ((es.set i ts=es')::(q1++(q2++ps)),xs',st')
      | none=>none
     | _,_=>none
    else none
   | none=>none
  | _=>none
 | .regn l::xs,st=>bif Nat.ble 1000 l&&Zdm l st.tm st.σ then Zz xs ⟨st.n,st.tm,(l,.reg false)::st.σ⟩ else none
 | .absr r l::xs,st=>
  bif Nat.ble 1000 l && !Nat.beq l r then
   match get st.σ l,get st.σ r with
   | some (.reg false),some (.row _ es)=>
    match Zhp 0 r l es st.σ with
    | some (q2,σ)=>
     match Zz xs ⟨st.n,(Zb0 0 r l es st.tm).2,σ⟩ with
     | some (ps,xs',st')=>some ((∀ el,el∈es->∀ x,x∈el->Za.scal x=true)::((Zb0 0 r l es st.tm).1++(q2++ps)),xs',st')
     | none=>none
    | none=>none
   | some (.reg false),some (.xrow _ i q es)=>
    match Zhp 1 r l es st.σ with
    | some (q2,σ)=>
     bif Nat.beq q l then
      match Zz xs ⟨st.n,(Zb0 1 r l es st.tm).2,σ⟩ with
      | some (ps,xs',st')=>some ((es.length<=i)::((Zb0 1 r l es st.tm).1++(q2++ps)),xs',st')
      | none=>none
     else none
    | none=>none
   | some (.reg false),some (.reg false)=>
    match Zhp 2 r l [] st.σ with
    | some (q2,σ)=>
     match Zz xs ⟨st.n,(Zb0 2 r l [] st.tm).2,σ⟩ with
     | some (ps,xs',st')=>some ((Zb0 2 r l [] st.tm).1++(q2++ps),xs',st')
     | none=>none
    | none=>none
   | _,_=>none
  else none
 | .regf l::xs,st=>
  match get st.σ l,Zhp 3 l 0 [] st.σ with
  | some (.reg false),some (q2,σ)=>
   match Zz xs ⟨st.n,(Zb0 3 l 0 [] st.tm).2,σ⟩ with
   | some (ps,xs',st')=>some ((Zb0 3 l 0 [] st.tm).1++(q2++ps),xs',st')
   | none=>none
  | _,_=>none
 | .regh l::xs,st=>
  bif Nat.ble 1000 l then
   match get st.σ l,Zpd l st.σ with
   | some (.reg false),some σ=>Zz xs ⟨st.n,st.tm,σ⟩
   | _,_=>none
  else none
 | .torx r l::xs,st=>
  bif Nat.ble 1000 r then
   match get st.σ r with
   | some (.row k es)=>
    match Zfw (fun p=>(Zkd r p).map fun q=>([],q)) st.tm,Zih r (.xrow k 0 l es) (fun p=>(Zkd r p).map fun q=>([],q)) st.σ with
    | some (q1,tm),some (q2,σ)=>
     match Zz xs ⟨st.n,tm,σ⟩ with
     | some (ps,xs',st')=>some (q1++(q2++ps),xs',st')
     | none=>none
    | _,_=>none
   | _=>none
  else none
 | .tomr l k::xs,st=>
  match get st.σ l with
  | some (.map (.v _) [])=>bif Nat.blt 0 k then Zz xs ⟨st.n,st.tm,(l,.map (.rows k none) [])::Zw [l] st.σ⟩ else none
  | _=>none
 | .frzm l::xs,st=>
  match get st.σ l with
  | some (.map (.rows _ none) es)=>Zz xs ⟨st.n,st.tm,(l,.map (.v false) es)::Zw [l] st.σ⟩
  | _=>none
 | .tomat l::xs,st=>
  match get st.σ l with
  | some (.row 1 es)=>
   bif (st.σ.all fun q => !q.2.has l)&&Zhy st.tm then
    match Zz xs ⟨st.n,toM l st.tm,put st.σ l (.mat 1 0 es)⟩ with
    | some (ps,xs',st')=>some ((∀ e,e∈es->e=[Za.sl []])::ps,xs',st')
    | none=>none
   else none
  | _=>none
 | .pick ks ls::xs,st=>
  match Zdj st.tm ks,Zdj st.σ ls with
  | some tm,some σ=>Zz xs ⟨st.n,tm,σ⟩
  | _,_=>none
 | .own t l k::xs,st=>
  match get st.tm t with
  | some .nils=>bif Nat.blt 0 k&&Nat.ble 1000 l&&Zdm l st.tm st.σ&&Nat.blt t st.n then Zz xs ⟨st.n,put st.tm t (.osl l 0),(l,.row k [])::st.σ⟩ else none
  | _=>none
 | .relab l m::xs,st=>bif Nat.ble 1000 m&&Zdm m st.tm st.σ then Zz xs ⟨st.n,Zom (f1 l m) st.tm,Zaj (f1 l m) st.σ⟩ else none
 | .nilt t::xs,st=>match get st.tm t with | some .nils=>Zz xs ⟨st.n,put st.tm t (.t (.sl [])),st.σ⟩ | _=>none
 | .niltc t j::xs,st=>
  match get st.tm t with
  | some (.agg cs)=>match cs[j]? with | some .nils=>Zz xs ⟨st.n,put st.tm t (.agg (cs.set j (.t (.sl [])))),st.σ⟩ | _=>none
  | _=>none
 | .niltb b j::xs,st=>
  match get st.σ b with
  | some (.box cs)=>match cs[j]? with | some .nils=>Zz xs ⟨st.n,st.tm,put st.σ b (.box (cs.set j (.t (.sl []))))⟩ | _=>none
  | _=>none
 | .ownc t j l k::xs,st=>
  match get st.tm t with
  | some (.agg cs)=>match cs[j]? with | some .nils=>bif Nat.blt 0 k&&Nat.ble 1000 l&&Zdm l st.tm st.σ then Zz xs ⟨st.n,put st.tm t (.agg (cs.set j (.osl l 0))),(l,.row k [])::st.σ⟩ else none | _=>none
  | _=>none
 | .ownb b j l k::xs,st=>
  match get st.σ b with
  | some (.box cs)=>match cs[j]? with | some .nils=>bif Nat.blt 0 k&&Nat.ble 1000 l&&Zdm l st.tm st.σ then Zz xs ⟨st.n,st.tm,put ((l,.row k [])::st.σ) b (.box (cs.set j (.osl l 0)))⟩ else none | _=>none
  | _=>none
 | xs,st=>some ([],xs,st)
theorem Wk.pick{st:St}{tm:List (Nat×PV)}{σ:List (Nat×Blk)}{ks ls:List Nat}(h1:Zdj st.tm ks=some tm)(h2:Zdj st.σ ls=some σ):Wk st ⟨st.n,tm,σ⟩:=
 fun _ _ _ ⟨β,h⟩=>⟨β,h.sub (Nat.le_refl _) (fun i p hp=>⟨Zch h1 i p hp,(h.tm i p (Zch h1 i p hp)).1⟩) (fun l o ho=>Zch h2 l o ho)⟩
theorem Wk.own{st:St}{t l k:Nat}(hg:get st.tm t=some .nils)(hk:0 < k)(hl:1000<=l)(hf:Zdm l st.tm st.σ=true):Wk st ⟨st.n,put st.tm t (.osl l 0),(l,.row k [])::st.σ⟩:=by
 rintro G a w ⟨β,h⟩
 obtain⟨f1,f2⟩:=Zfi hf
 have h':=Zn0 (n:=st.n) (tm:=st.tm) (σ:=st.σ) h l k hk hl f1 f2
 refine⟨Zd8 β l,?_⟩
 have hv:=(h.tm t _ hg)
 simp only [VR] at hv
 obtain⟨hlt,a0,hv⟩:=hv
 exact { defers := h'.defers, sz := h'.sz, base := h'.base, os := h'.os, tape := h'.tape, output := h'.output, old := h'.old, A := h'.A, gl := h'.gl, inj := h'.inj, sep := h'.sep, fix := h'.fix, row0 := h'.row0, blk := h'.blk,
         tm:=fun i p hp=>by
          by_cases hi:t=i
          .subst hi
           rw [Z4] at hp
           cases hp
           refine⟨hlt,?_⟩
           simp only [VR]
           refine⟨fun k' es' hes'=>?_,a0,0,0,hv⟩
           have hgs:get ((l,Blk.row k [])::st.σ) l=some (.row k []):=by simp [PW.get]
           have:some (Blk.row k' es')=some (.row k []):=Eq.trans (Eq.symm hes') hgs
           cases this
           exact⟨Nat.le_refl _,fun _=>⟨a0,0,hv,Nat.le_refl _,by simp [maxLen],.inl ⟨rfl,by simp [ctx,Zd8]⟩⟩⟩
          .rw [Z8 _ _ hi] at hp
           exact h'.tm i p hp }
theorem Z6:∀ (xs:List Orc) (st:St) {ps:List Prop} {xs':List Orc} {st':St},Zz xs st=some (ps,xs',st')->Zo ps->Wk st st'
 | [],st,ps,xs',st',h,_=>by simp only [Zz,Option.some.injEq,Prod.mk.injEq] at h;rw [h.2.2];exact Wk.refl _
 | x::xs,st,ps,xs',st',h,hc=>by
  cases x
  case frz l=>
   simp only [Zz] at h
   split at h
   .rename_i k es hg
    split at h
    .rename_i ps' xs2 st2 h2
     cases h
     obtain⟨h3,h4⟩:=Zf.1 hc
     obtain⟨h4,h5⟩:=Zf.1 h4
     have h0:=Zf0 (mt:=false) (l:=l) (es:=es) st.σ
     exact (Wk.frz (Zcy (mt:=false) (q0:=0) hg h0 st.σ h4) (Zlh (mt:=false) (q0:=0) hg h0 st.tm h3)).trans (Z6 xs _ h2 h5)
    .cases h
   .rename_i k q0 es hg
    split at h
    .rename_i ps' xs2 st2 h2
     cases h
     obtain⟨h3,h4⟩:=Zf.1 hc
     obtain⟨h4,h5⟩:=Zf.1 h4
     have h0:=Zf0 (mt:=true) (l:=l) (es:=es) st.σ
     exact (Wk.frz (Zcy (mt:=true) (k:=k) hg h0 st.σ h4) (Zlh (mt:=true) (k:=k) hg h0 st.tm h3)).trans (Z6 xs _ h2 h5)
    .cases h
   .rename_i cs hg
    split at h
    .rename_i ts hts
     have e:=Zel hts
     subst e
     have h0:=Zi6 (l:=l) (ts:=ts) st.σ
     exact (Wk.frz (Zpn hg h0 st.σ) (Zsb hg h0 st.tm)).trans (Z6 xs _ h hc)
    .cases h
   .cases h
  case relen l=>
   simp only [Zz] at h
   split at h
   .rename_i k es hg
    split at h
    .rename_i ps' xs2 st2 h2
     cases h
     obtain⟨h3,h4⟩:=Zf.1 hc
     obtain⟨h4,h5⟩:=Zf.1 h4
     have:=Z6 xs _ h2 h5
     rw [Zaq _ h3,Zci _ h4] at this
     exact this
    .cases h
   .rename_i k q0 es hg
    split at h
    .rename_i ps' xs2 st2 h2
     cases h
     obtain⟨h3,h4⟩:=Zf.1 hc
     obtain⟨h4,h5⟩:=Zf.1 h4
     have:=Z6 xs _ h2 h5
     rw [Zaq _ h3,Zci _ h4] at this
     exact this
    .cases h
   .rename_i k i0 r0 es hg
    split at h
    .rename_i ps' xs2 st2 h2
     cases h
     obtain⟨h3,h4⟩:=Zf.1 hc
     obtain⟨h4,h5⟩:=Zf.1 h4
     have:=Z6 xs _ h2 h5
     rw [Zaq _ h3,Zci _ h4] at this
     exact this
    .cases h
   .cases h
  case regn l=>
   simp only [Zz] at h
   have hbh:=Zn h;clear h;obtain⟨hb,h⟩:=hbh
   simp only [Bool.and_eq_true] at hb
   obtain⟨g1,g2⟩:=Zfi hb.2
   exact (Wk.newReg (Nat.le_of_ble_eq_true hb.1) g1 g2).trans (Z6 xs _ h hc)
  case absr r l=>
   simp only [Zz] at h
   have hbh:=Zn h;clear h;obtain⟨hb,h⟩:=hbh
   simp only [Bool.and_eq_true] at hb
   have hl0:=Nat.le_of_ble_eq_true hb.1
   have hlr:=Zfv hb.2
   split at h
   .rename_i k es hl hr
    split at h
    .rename_i q2 σ h1
     split at h
     .rename_i ps' xs2 st2 h2
      cases h
      obtain⟨c1,c2⟩:=hc
      obtain⟨c2,c3⟩:=Zf.1 c2
      obtain⟨c3,c4⟩:=Zf.1 c3
      exact (Wk.absRow hl0 hlr hl hr c1 h1 c3 c2).trans (Z6 xs _ h2 c4)
     .cases h
    .cases h
   .rename_i k i q es hl hr
    split at h
    .rename_i q2 σ h1
     have hbh:=Zn h;clear h;obtain⟨hq,h⟩:=hbh
     split at h
     .rename_i ps' xs2 st2 h2
      cases h
      obtain⟨c1,c2⟩:=hc
      obtain⟨c2,c3⟩:=Zf.1 c2
      obtain⟨c3,c4⟩:=Zf.1 c3
      have hq:=(Ze _ _).1 hq
      subst hq
      exact (Wk.absX hl0 hlr hl hr c1 h1 c3 c2).trans (Z6 xs _ h2 c4)
     .cases h
    .cases h
   .rename_i hl hr
    split at h
    .rename_i q2 σ h1
     split at h
     .rename_i ps' xs2 st2 h2
      cases h
      obtain⟨c2,c3⟩:=Zf.1 hc
      obtain⟨c3,c4⟩:=Zf.1 c3
      exact (Wk.absG hl0 hlr hl hr h1 c3 c2).trans (Z6 xs _ h2 c4)
     .cases h
    .cases h
   .cases h
  case regf l=>
   simp only [Zz] at h
   split at h
   .rename_i q2 σ hg hs
    split at h
    .rename_i ps' xs2 st2 h2
     cases h
     obtain⟨c2,c3⟩:=Zf.1 hc
     obtain⟨c3,c4⟩:=Zf.1 c3
     exact (Wk.dropG hg hs c3 c2).trans (Z6 xs _ h2 c4)
    .cases h
   .cases h
  case regh l=>
   simp only [Zz] at h
   have hbh:=Zn h;clear h;obtain⟨hb,h⟩:=hbh
   split at h
   .rename_i σ hg hs
    exact (Wk.toH (Nat.le_of_ble_eq_true hb) hg hs).trans (Z6 xs _ h hc)
   .cases h
  case torx r l=>
   simp only [Zz] at h
   have hbh:=Zn h;clear h;obtain⟨hb,h⟩:=hbh
   split at h
   .rename_i k es hg
    split at h
    .rename_i q1 tm q2 σ h1 h2
     split at h
     .rename_i ps' xs2 st2 h3
      cases h
      obtain⟨c2,c3⟩:=Zf.1 hc
      obtain⟨c3,c4⟩:=Zf.1 c3
      exact (Wk.toX (Nat.le_of_ble_eq_true hb) hg h1 h2 c2 c3).trans (Z6 xs _ h3 c4)
     .cases h
    .cases h
   .cases h
  case opn l i e=>
   simp only [Zz] at h
   split at h
   .rename_i k es hg
    have hbh:=Zn h;clear h;obtain⟨hb,h⟩:=hbh
    split at h
    .rename_i q1 tm q2 σ h1 h2
     split at h
     .rename_i ps' xs2 st2 h3
      cases h
      obtain⟨c1,c2⟩:=hc
      obtain⟨c2,c3⟩:=Zf.1 c2
      obtain⟨c3,c4⟩:=Zf.1 c3
      exact (Wk.opn (Nat.le_of_ble_eq_true hb) hg c1 h1 h2 c2 c3).trans (Z6 xs _ h3 c4)
     .cases h
    .cases h
   .cases h
  case cls l es'=>
   simp only [Zz] at h
   split at h
   .rename_i k i es cs hg
    split at h
    .rename_i ts ht
     have hbh:=Zn h;clear h;obtain⟨hb,h⟩:=hbh
     split at h
     .rename_i q1 tm q2 σ h1 h2
      split at h
      .rename_i ps' xs2 st2 h3
       cases h
       obtain⟨c1,c2⟩:=hc
       obtain⟨c2,c3⟩:=Zf.1 c2
       obtain⟨c3,c4⟩:=Zf.1 c3
       exact (Wk.cls (Nat.le_of_ble_eq_true hb) hg ht c1 h1 h2 c2 c3).trans (Z6 xs _ h3 c4)
      .cases h
     .cases h
    .cases h
   .cases h
  case tomr l k=>
   simp only [Zz] at h
   split at h
   .rename_i hg
    obtain⟨hb,h⟩:=Zn h
    rw [Nat.blt_eq] at hb
    exact (Wk.tomr hb ⟨_,rfl⟩ hg).trans (Z6 xs _ h hc)
   .cases h
  case frzm l=>
   simp only [Zz] at h
   split at h
   .rename_i hg
    exact (Wk.frzm hg).trans (Z6 xs _ h hc)
   .cases h
  case tomat l=>
   simp only [Zz] at h
   split at h
   .rename_i es hg
    have hbh:=Zn h;clear h;obtain⟨hb,h⟩:=hbh
    simp only [Bool.and_eq_true] at hb
    split at h
    .rename_i ps' xs2 st2 h2
     cases h
     exact (Wk.tomat hg hc.1 hb.1 hb.2).trans (Z6 xs _ h2 hc.2)
    .cases h
   .cases h
  case pick ks ls=>
   simp only [Zz] at h
   split at h
   .rename_i tm σ h1 h2
    exact (Wk.pick h1 h2).trans (Z6 xs _ h hc)
   .cases h
  case own t l k=>
   simp only [Zz] at h
   split at h
   .rename_i hg
    obtain⟨hb,h⟩:=Zn h
    simp only [Bool.and_eq_true,Nat.blt_eq,Zag] at hb
    exact (Wk.own hg hb.1.1.1 hb.1.1.2 hb.1.2).trans (Z6 xs _ h hc)
   .cases h
  case relab l m=>
   simp only [Zz] at h
   obtain⟨hb,h⟩:=Zn h
   simp only [Bool.and_eq_true,Zag] at hb
   exact (Wk.relab hb.1 hb.2).trans (Z6 xs _ h hc)
  case nilt t=>
   simp only [Zz] at h
   split at h
   .rename_i hg;exact (Wk.slot hg fun _ v hv=>VR.nilt v hv).trans (Z6 xs _ h hc)
   .cases h
  case niltc t j=>
   simp only [Zz] at h
   split at h
   .rename_i cs hg
    split at h
    .rename_i hj
     refine (Wk.slot hg fun c v hv=>?_).trans (Z6 xs _ h hc)
     simp only [VR] at hv⊢
     obtain⟨vs,hv,hs⟩:=hv
     exact⟨vs,hv,VRs.set hj VR.nilt hs⟩
    .cases h
   .cases h
  case niltb b j=>
   simp only [Zz] at h
   split at h
   .rename_i cs hg
    split at h
    .rename_i hj;exact (Wk.cell hg hj rfl fun _ v hv=>VR.nilt v hv).trans (Z6 xs _ h hc)
    .cases h
   .cases h
  case ownc t j l k=>
   simp only [Zz] at h
   split at h
   .rename_i cs hg
    split at h
    .rename_i hj
     obtain⟨hb,h⟩:=Zn h
     simp only [Bool.and_eq_true,Nat.blt_eq,Zag] at hb
     exact (Wk.ownc hg hj hb.1.1 hb.1.2 hb.2).trans (Z6 xs _ h hc)
    .cases h
   .cases h
  case ownb b j l k=>
   simp only [Zz] at h
   split at h
   .rename_i cs hg
    split at h
    .rename_i hj
     obtain⟨hb,h⟩:=Zn h
     simp only [Bool.and_eq_true,Nat.blt_eq,Zag] at hb
     exact (Wk.ownb hg hj hb.1.1 hb.1.2 hb.2).trans (Z6 xs _ h hc)
    .cases h
   .cases h
  all_goals
   simp only [Zz,Option.some.injEq,Prod.mk.injEq] at h
   rw [h.2.2];exact Wk.refl _
def Zsd:Es->Es
 | some (ps,.stop::xs,st)=>some (ps,xs,st)
 | r=>r
theorem Zu9{r:Es}{ps:List Prop}{xs:List Orc}{st:St}(h:Zsd r=some (ps,xs,st)):∃ xs',r=some (ps,xs',st):=by
 unfold Zsd at h
 split at h
 .cases h;exact⟨_,rfl⟩
 .exact⟨_,h⟩
def Zva(d:Option Nat)(xs:List Orc)(st:St):Es:=
 match xs,d with
 | .ahead i::xs',some j=>bif Nat.beq i j then Zsd (Zz xs' st) else some ([],xs,st)
 | _,_=>some ([],xs,st)
theorem Zt2{d:Option Nat}{xs:List Orc}{st:St}{ps:List Prop}{xs':List Orc}{st':St}(h:Zva d xs st=some (ps,xs',st'))(hc:Zo ps):Wk st st':=by
 have triv:∀ ys:List Orc,(some ([],ys,st):Es)=some (ps,xs',st')->Wk st st':=fun ys h=>by cases h;exact Wk.refl _
 unfold Zva at h
 split at h
 .rename_i i xs2 j
  cases hb:Nat.beq i j with
  | true=>
   simp only [hb,cond_true] at h
   obtain⟨ys,h⟩:=Zu9 h
   exact Z6 _ _ h hc
  | false=>simp only [hb,cond_false] at h;exact triv _ h
 .exact triv _ h
def Zvb(T:TS)(o:Oper)(st:St)(xs:List Orc):Es:=
 match o.op with
 | .store t x y=>
  match o.dst,get T t,Zb st.tm x,Zb st.tm y with
  | none,some i,some (.bptr l q),some p=>
   match get st.σ l,xs with
   | some (.box cs),.sp cs'::xs=>bif Nat.beq (Zi p).length i.size&&(Zi p).all PV.one then some ([q+i.size<=cs.length,splice cs q (Zi p)=cs'],xs,⟨st.n,st.tm,put st.σ l (.box cs')⟩) else none
   | some (.box cs),xs=>bif Nat.beq (Zi p).length i.size&&(Zi p).all PV.one&&Nat.ble (q+i.size) cs.length then some ([],xs,⟨st.n,st.tm,put st.σ l (.box (splice cs q (Zi p)))⟩) else none
   | _,_=>none
  | none,some i,some (.rptr l m j q),some p=>
   match get st.σ l,xs,Zaw (Zi p) with
   | some (.row k es),.cs e :: .es es'::xs,some ts=>
    bif Nat.beq ts.length i.size&&Nat.ble (q+i.size) k then some ([es.length=m,es[j]?=some e,es.set j (splice e q ts)=es'],xs,⟨st.n,st.tm,put st.σ l (.row k es')⟩) else none
   | _,_,_=>none
  | _,_,_,_=>none
 | .convert s t x=>
  match Zak T t,Zb st.tm x,o.dst with
  | some (_,⟨_,_,_,_,.int .u8,_⟩),some (.osl l m),some d=>
   match get st.σ l with
   | some (.row _ es)=>bif Nat.beq s t&&Nat.blt d st.n then some ([False],xs,⟨st.n,put st.tm d (.osl l m),st.σ⟩) else none
   | _=>none
  | _,_,_=>none
 | _=>none
def Zvc(T:TS)(o:Oper)(st:St)(xs:List Orc):Es:=
 match o.op with
 | .call c=>
  match c.callee,Zcl st.tm c.args.toList,c.argTypes.toList,o.dst,xs with
  | .builtin .clear,some [.own l (.tail m i)],[t],none,.es es'::xs=>
   match Zak T t,get st.σ l with
   | some (_,⟨_,k,bytes,some z,_,_⟩),some (.row k' es)=>
    match Zaw z with
    | some zs=>bif Nat.blt 0 k&&Nat.beq z.length k&&Nat.beq k k' then some ([es.length=m,i<=m,es.take i++List.replicate (m - i) zs=es'],xs,⟨st.n,st.tm,put st.σ l (.row k es')⟩) else none
    | none=>none
   | _,_=>none
  | _,_,_,_,_=>none
 | .slice t x none (some y) none=>
  match Zak T t,Zb st.tm x,Zb st.tm y,o.dst,xs with
  | some (_,j),some (.osl l m),some (.t (.int _ i)),some d,.nat q :: .es es'::xs=>
   match get st.σ l with
   | some (.row k es)=>bif Nat.beq j.size k&&Nat.blt d st.n&&(st.σ.all fun q => !q.2.has l)&&Zhy st.tm&&Nat.ble 1000 l then some ([es.length=m,0<=i,i<=m,i.toNat=q,es.take i.toNat=es'],xs,⟨st.n,put (Zj8 l st.tm) d (.osl l q),put st.σ l (.row k es')⟩) else none
   | _=>none
  | _,_,_,_,_=>none
 | .store t x y=>
  match o.dst,get T t,Zb st.tm x,Zb st.tm y,xs with
  | none,some i,some (.own l (.mel m j q)),some (.t z),.es inner :: .es es'::xs=>
   match get st.σ l with
   | some (.mat 1 0 es)=>bif !i.agg&&Nat.beq i.size 1&&z.scal then some ([es.length=m,es[j]?=some [.sl inner],q < inner.length,es.set j [.sl (inner.set q [z])]=es'],xs,⟨st.n,st.tm,put st.σ l (.mat 1 0 es')⟩) else none
   | _=>none
  | none,some i,some (.own l (.mpt m j 0)),some (.osl l2 n2),.es es'::xs=>
   match get st.σ l,get st.σ l2 with
   | some (.mat 1 0 es),some (.row 1 es2)=>bif (!i.agg&&Nat.beq i.size 1)&&(!Nat.beq l l2&&((st.σ.all fun q=>q.2.mo l)&&Zhy st.tm)) then some ([es.length=m,j < m,es2.length=n2,SC1 es2,es.set j [.sl es2]=es'],xs,⟨st.n,Zi2 l st.tm,(l,.mat 1 0 es')::Zw [l,l2] st.σ⟩) else none
   | _,_=>none
  | _,_,_,_,_=>none
 | .mapUpdate t x y z=>
  match o.dst,(get T t).map (·.k),Zb st.tm x,Zb st.tm y,Zb st.tm z,xs with
  | none,some (TK.map k _),some (.own l .map),some (.t (.int .i64 i)),some p,.cs ts :: .mp es'::xs=>
   match get st.σ l,(get T k).map (·.k) with
   | some (.map (.v ag) es),some (TK.int .i64)=>some ([p=mvP ag ts,Zbo es i ts=es'],xs,⟨st.n,st.tm,put st.σ l (.map (.v ag) es')⟩)
   | _,_=>none
  | _,_,_,_,_,_=>none
 | _=>none
def Zyo(T:TS)(o:Oper)(st:St)(xs:List Orc):Es:=
 match Zvb T o st xs with
 | some r=>some r
 | none=>Zvc T o st xs
section
variable {P:Program} {T:TS} {o:Oper} {xs xs':List Orc} {ps:List Prop}
theorem Zyp(hT:TOK P T){st st':St}(h:Zvb T o st xs=some (ps,xs',st'))(hc:Zo ps):Zhm P o st st':=by
 obtain⟨n,tm,σ⟩:=st
 unfold Zvb at h
 split at h
 .rename_i t x y ho
  split at h
  .rename_i i l q p hd hi hx hy
   split at h
   .rename_i cs cs' xs2 hg
    have hbh:=Zn h;clear h;obtain⟨hb,h⟩:=hbh
    simp only [Bool.and_eq_true,Ze] at hb
    cases h
    obtain⟨h1,h2,_⟩:=hc
    subst h2
    exact Zpy ho hd (hT _ _ hi).ty hx hy hg hb.1 hb.2 h1
   .rename_i cs hg _
    have hbh:=Zn h;clear h;obtain⟨hb,h⟩:=hbh
    simp only [Bool.and_eq_true,Ze,Zag] at hb
    cases h
    exact Zpy ho hd (hT _ _ hi).ty hx hy hg hb.1.1 hb.1.2 hb.2
   .cases h
  .rename_i i l m j q p hd hi hx hy
   split at h
   .rename_i k es e es' xs2 ts hg hts
    have hbh:=Zn h;clear h;obtain⟨hb,h⟩:=hbh
    simp only [Bool.and_eq_true,Ze,Zag] at hb
    cases h
    obtain⟨h1,h2,h3,_⟩:=hc
    subst h3
    exact Zv0 ho hd (hT _ _ hi).ty hx hy hg h1 h2 hts hb.1 hb.2
   .cases h
  .cases h
 .rename_i s t x ho
  split at h
  .rename_i e agg sz by_ z fl l m d he hx hd
   split at h
   .rename_i k es hg
    have hbh:=Zn h;clear h;obtain⟨hb,h⟩:=hbh
    simp only [Bool.and_eq_true,Ze,Nat.blt_eq] at hb
    obtain⟨rfl,hb2⟩:=hb
    cases h
    obtain⟨i,hi,hk,hj⟩:=Zaa he
    have hu:=(hT _ _ hi).k
    rw [hk] at hu
    have hu2:P.underlying e=some (.int .u8):=(hT _ _ hj).k
    exact hc.1.elim
   .cases h
  .cases h
 .cases h
theorem Zyq(hT:TOK P T){st st':St}(h:Zvc T o st xs=some (ps,xs',st'))(hc:Zo ps):Zhm P o st st':=by
 obtain⟨n,tm,σ⟩:=st
 unfold Zvc at h
 split at h
 .rename_i c ho
  split at h
  .rename_i l m i t es' xs2 hce hps hat hd
   obtain⟨x,hax,hx⟩:=Zfh hps
   have hceq:=Zbt hce hax hat
   rw [hceq] at ho
   split at h
   .rename_i e agg k bytes z kk fl k' es he hg
    split at h
    .rename_i zs hzs
     have hbh:=Zn h;clear h;obtain⟨hb,h⟩:=hbh
     simp only [Bool.and_eq_true,Ze] at hb
     obtain⟨⟨hb1,hb2⟩,hb3⟩:=hb
     subst hb3
     cases h
     obtain⟨h1,h2,h3,_⟩:=hc
     subst h3
     exact Zxu ho hd (Zeo (z:=z) hT he rfl hb1 ((Ze _ _).2 hb2)) hzs hx hg h1 h2
    .cases h
   .cases h
  .cases h
 .rename_i t x y ho
  split at h
  .rename_i e j l m ki i d q es' xs2 he hx hy hd
   split at h
   .rename_i k es hg
    have hbh:=Zn h;clear h;obtain⟨hb,h⟩:=hbh
    simp only [Bool.and_eq_true,Ze,Nat.blt_eq] at hb
    obtain⟨⟨⟨⟨hb1,hb2⟩,hb3⟩,hb4⟩,hb5⟩:=hb
    cases h
    obtain⟨h1,h2,h3,h4,h5,_⟩:=hc
    subst h4
    subst h5
    obtain⟨i0,hi0,hk0,hj⟩:=Zaa he
    exact Zxv ho hd hb2 (hb1▸hT.slInfo hi0 hk0 hj) hx hy hg h1 h2 h3 (Nat.le_of_ble_eq_true hb5) hb3 hb4
   .cases h
  .cases h
 .rename_i t x y ho
  split at h
  .rename_i i l m j q z inner es' xs2 hd hi hx hy
   split at h
   .rename_i es hg
    have hbh:=Zn h;clear h;obtain⟨hb,h⟩:=hbh
    simp only [Bool.and_eq_true,Bool.not_eq_true',Ze] at hb
    cases h
    obtain⟨h1,h2,h3,h4,_⟩:=hc
    subst h4
    have hty:=(hT t i hi).ty
    rw [hb.1.1,hb.1.2] at hty
    exact Zth ho hd hty hx hy rfl hb.2 hg h1 h2 h3
   .cases h
  .rename_i i l m j l2 n2 es' xs2 hd hi hx hy
   split at h
   .rename_i es es2 hg hg2
    have hbh:=Zn h;clear h;obtain⟨hb,h⟩:=hbh
    simp only [Bool.and_eq_true,Bool.not_eq_true',Ze] at hb
    cases h
    obtain⟨h1,h2,h3,h4,h5,_⟩:=hc
    subst h5
    have hty:=(hT t i hi).ty
    rw [hb.1.1,hb.1.2] at hty
    exact Zti ho hd hty hx hy hg h1 h2 hg2 h3 h4 (Zfv (by rw [hb.2.1];rfl)) hb.2.2.1 hb.2.2.2
   .cases h
  .cases h
 .rename_i t x y z ho
  split at h
  .rename_i k e l i p ts es' xs2 hd hk hx hy hz
   split at h
   .rename_i ag es hg hi
    cases h
    obtain⟨h1,h2,_⟩:=hc
    subst h2
    exact Zru ho hd (Zpm (hT:=hT) hk) (Zr9 (hT:=hT) hi) hx hy hz h1 hg
   .cases h
  .cases h
 .cases h
theorem Zz2(hT:TOK P T){st st':St}(h:Zyo T o st xs=some (ps,xs',st'))(hc:Zo ps):Zhm P o st st':=by
 unfold Zyo at h
 split at h
 .rename_i h0;cases h;exact Zyp hT h0 hc
 .exact Zyq hT h hc
def Zmd(ops:Array Oper)(tm:List (Nat×PV))(o:Oper)(xs:List Orc):Option (List Prop×List Orc×Bool):=
 match o.guard with
 | none=>some ([],xs,true)
 | some (g,want)=>
  match (ops[g]?).bind (·.dst) with
  | none=>none
  | some d=>
   match get tm d,xs with
   | some (.t (.bool e)),.br b::xs=>some ([e=b],xs,b==want)
   | some (.tup []),xs=>some ([],xs,false)
   | _,_=>none
theorem Zdk{ops:Array Oper}{tm:List (Nat×PV)}{r:Bool}(h:Zmd ops tm o xs=some (ps,xs',r))(hc:Zo ps):Zc3 ops tm o=some r:=by
 unfold Zmd at h
 unfold Zc3
 split at h
 .rename_i hg;cases h;rw [hg]
 .rename_i g want hg
  rw [hg]
  simp only
  split at h
  .cases h
  .rename_i d hd
   simp only [hd]
   split at h
   .rename_i e b xs2 he
    cases h
    have:=hc.1
    subst this
    simp [he]
   .rename_i he;cases h;simp [he]
   .cases h
def Zhb(rm:List Nat)(tm:List (Nat×PV))(σ:List (Nat×Blk)):List (Nat×Blk)->Bool
 | []=>true
 | (l,_)::r=>(Zib rm l||Zdm l tm σ)&&Zhb rm tm σ r
theorem Zij{rm:List Nat}{tm:List (Nat×PV)}{σ:List (Nat×Blk)}:∀ {news:List (Nat×Blk)},Zhb rm tm σ news=true->∀ l x,(l,x)∈news->l∉rm->(∀ i q,get tm i=some q->q.has l=false)/\(∀ m y,get σ m=some y->m≠l/\y.has l=false)
 | [],_,l,x,hm,_=>by cases hm
 | (m,y)::r,h,l,x,hm,hr=>by
  simp only [Zhb,Bool.and_eq_true,Bool.or_eq_true] at h
  rcases List.mem_cons.1 hm with hm | hm
  .cases hm
   rcases h.1 with h1 | h1
   .exact absurd (Zj3.1 h1) hr
   .exact Zfi h1
  .exact Zij h.2 l x hm hr
def Z1b(o:Oper):Nat:=match o.dst with | some d=>d | none=>1000000
def Zse(P:Program)(T:TS)(ops:Array Oper)(o:Oper)(xs:List Orc)(st:St):Es:=
 match Zva (some (Z1b o)) xs st with
 | some (ps0,xs0,st0)=>
  match Zmd ops st0.tm o xs0 with
  | some (ps1,xs1,true)=>
   match Zqz P T o st0.tm st0.σ xs1 with
   | some (ps2,xs2,x)=>
    match o.dst with
    | some d=>bif Nat.blt d st0.n&&Zhb x.rm st0.tm st0.σ x.s.news then some (ps0++(ps1++ps2),xs2,⟨st0.n,put st0.tm d x.s.p,x.s.news++Zw x.rm st0.σ⟩) else none
    | none=>bif Zhb x.rm st0.tm st0.σ x.s.news then some (ps0++(ps1++ps2),xs2,⟨st0.n,st0.tm,x.s.news++Zw x.rm st0.σ⟩) else none
   | none=>
    match Zyo T o st0 xs1 with
    | some (ps2,xs2,st2)=>some (ps0++(ps1++ps2),xs2,st2)
    | none=>none
  | some (ps1,xs1,false)=>
   match o.dst with
   | some d=>bif Nat.blt d st0.n then some (ps0++ps1,xs1,⟨st0.n,put st0.tm d (.tup []),st0.σ⟩) else none
   | none=>some (ps0++ps1,xs1,st0)
  | none=>none
 | none=>none
theorem Zwt(hT:TOK P T){ops:Array Oper}{R:St->Prop}{l:List Oper}{st st':St}(h:Zse P T ops o xs st=some (ps,xs',st'))(hc:Zo ps)(hk:Zan P ops R l st'):Zan P ops R (o::l) st:=by
 unfold Zse at h
 split at h
 .rename_i ps0 xs0 st0 h0
  suffices hs:Zo ps0/\Zan P ops R (o::l) st0 from Zan.weaken (Zt2 h0 hs.1) hs.2
  split at h
  .rename_i ps1 xs1 h1
   split at h
   .rename_i ps2 xs2 s h2
    split at h
    .rename_i d hd
     have hbh:=Zn h;clear h;obtain⟨hb,h⟩:=hbh
     simp only [Bool.and_eq_true,Nat.blt_eq] at hb
     cases h
     obtain⟨c0,c1⟩:=Zf.1 hc
     obtain⟨c1,c2⟩:=Zf.1 c1
     refine⟨c0,Zan.step (Zdk h1 c1) ?_ hk⟩
     intro G a w K Q hr hK
     refine Znb hT h2 c2 G st0.n st0.tm st0.σ a w K Q (fun _ _ _ h=>h) (fun _ _=>rfl) (Zij hb.2) hr ?_
     rintro v w' ⟨β,hβ,hv⟩
     exact hK _ _ ⟨β,by rw [hd];exact hβ.put hb.1 hv⟩
    .rename_i hd
     have hbh:=Zn h;clear h;obtain⟨hb,h⟩:=hbh
     cases h
     obtain⟨c0,c1⟩:=Zf.1 hc
     obtain⟨c1,c2⟩:=Zf.1 c1
     refine⟨c0,Zan.step (Zdk h1 c1) ?_ hk⟩
     intro G a w K Q hr hK
     refine Znb hT h2 c2 G st0.n st0.tm st0.σ a w K Q (fun _ _ _ h=>h) (fun _ _=>rfl) (Zij hb) hr ?_
     rintro v w' ⟨β,hβ,hv⟩
     exact hK _ _ ⟨β,by rw [hd];exact hβ⟩
   .split at h
    .rename_i ps2 xs2 st2 h2
     cases h
     obtain⟨c0,c1⟩:=Zf.1 hc
     obtain⟨c1,c2⟩:=Zf.1 c1
     exact⟨c0,Zan.step (Zdk h1 c1) (Zz2 hT h2 c2) hk⟩
    .cases h
  .rename_i ps1 xs1 h1
   split at h
   .rename_i d hd
    have hbh:=Zn h;clear h;obtain⟨hb,h⟩:=hbh
    simp only [Nat.blt_eq] at hb
    cases h
    obtain⟨c0,c1⟩:=Zf.1 hc
    exact⟨c0,Zan.skip hd hb (Zdk h1 c1) hk⟩
   .rename_i hd
    cases h
    obtain⟨c0,c1⟩:=Zf.1 hc
    exact⟨c0,Zan.skipNone hd (Zdk h1 c1) hk⟩
  .cases h
 .cases h
def Zme(P:Program)(T:TS)(ops:Array Oper):List Oper->List Orc->St->Es
 | [],xs,st=>some ([],xs,st)
 | o::l,xs,st=>
  match Zse P T ops o xs st with
  | some (ps,xs1,st1)=>
   match Zme P T ops l xs1 st1 with
   | some (qs,xs2,st2)=>some (ps++qs,xs2,st2)
   | none=>none
  | none=>none
theorem Znc(hT:TOK P T){ops:Array Oper}{R:St->Prop}:∀ (l:List Oper) {xs xs':List Orc} {st st':St} {ps:List Prop},Zme P T ops l xs st=some (ps,xs',st')->Zo ps->R st'->Zan P ops R l st
 | [],xs,xs',st,st',ps,h,_,hr=>by
  simp only [Zme,Option.some.injEq,Prod.mk.injEq] at h
  rw [<- h.2.2] at hr
  exact Zan.nil hr
 | o::l,xs,xs',st,st',ps,h,hc,hr=>by
  simp only [Zme] at h
  split at h
  .rename_i ps1 xs1 st1 h1
   split at h
   .rename_i qs xs2 st2 h2
    cases h
    obtain⟨c1,c2⟩:=Zf.1 hc
    exact Zwt hT h1 c1 (Znc hT l h2 c2 hr)
   .cases h
  .cases h
structure Zvd where
 ps:List Prop
 xs:List Orc
 plan:List (Option Stm)
 rest:List Oper
 tm:List (Nat×PV)
 σ:List (Nat×Blk)
def Zq1(n:Nat):Option Nat->Bool
 | some d=>Nat.blt d n
 | none=>true
theorem Zyr{n:Nat}{d:Option Nat}(h:Zq1 n d=true):∀ e,d=some e->e < n:=by
 rintro e rfl
 simpa only [Zq1,Nat.blt_eq] using h
def Zeb(P:Program)(T:TS)(ops:Array Oper)(n:Nat):List Oper->List Orc->List (Nat×PV)->List (Nat×Blk)->Zvd
 | [],xs,tm,σ=>⟨[],xs,[],[],tm,σ⟩
 | o::l,xs,tm,σ=>
  bif Zq1 n o.dst then
   match Zmd ops tm o xs with
   | some (ps1,xs1,true)=>
    match Zqz P T o tm σ xs1 with
    | some (ps2,xs2,x)=>
     match Zeb P T ops n l xs2 (Zhn tm o.dst x.s.p) (x.s.news++Zw x.rm σ) with
     | ⟨ps,xs,plan,rest,tm,σ⟩=>⟨ps1++(ps2++ps),xs,some x::plan,rest,tm,σ⟩
    | none=>⟨[],xs,[],o::l,tm,σ⟩
   | some (ps1,xs1,false)=>
    match Zeb P T ops n l xs1 (Zhn tm o.dst (.tup [])) σ with
    | ⟨ps,xs,plan,rest,tm,σ⟩=>⟨ps1++ps,xs,none::plan,rest,tm,σ⟩
   | none=>⟨[],xs,[],o::l,tm,σ⟩
  else ⟨[],xs,[],o::l,tm,σ⟩
theorem Zli(hT:TOK P T){ops:Array Oper}{n:Nat}:∀ (l:List Oper) (xs:List Orc) (tm:List (Nat×PV)) (σ:List (Nat×Blk)),Zo (Zeb P T ops n l xs tm σ).ps ->
 ∃ pre,l=pre++(Zeb P T ops n l xs tm σ).rest/\Zba P ops n pre (Zeb P T ops n l xs tm σ).plan tm σ /\
  Zbu pre (Zeb P T ops n l xs tm σ).plan tm=(Zeb P T ops n l xs tm σ).tm/\Zde (Zeb P T ops n l xs tm σ).plan σ=(Zeb P T ops n l xs tm σ).σ
 | [],xs,tm,σ,_=>⟨[],rfl,trivial,rfl,rfl⟩
 | o::l,xs,tm,σ,hc=>by
  have triv:∀ r:Zvd,r=⟨[],xs,[],o::l,tm,σ⟩->∃ pre,o::l=pre++r.rest/\Zba P ops n pre r.plan tm σ/\Zbu pre r.plan tm=r.tm/\Zde r.plan σ=r.σ:=by
   rintro r rfl
   exact⟨[],rfl,trivial,rfl,rfl⟩
  rw [Zeb] at hc⊢
  cases hd:Zq1 n o.dst with
  | false=>exact triv _ rfl
  | true=>
   have hdn:=Zyr hd
   simp only [hd,cond_true] at hc⊢
   split at hc
   .rename_i ps1 xs1 hg
    split at hc
    .rename_i ps2 xs2 s h2
     obtain⟨c1,c2⟩:=Zf.1 hc
     obtain⟨c2,c3⟩:=Zf.1 c2
     obtain⟨pre,h1,h3,h4,h5⟩:=Zli hT l xs2 (Zhn tm o.dst s.s.p) (s.s.news++Zw s.rm σ) c3
     refine⟨o::pre,by rw [List.cons_append,<- h1],?_,?_,?_⟩
     .simp only [Zba]
      exact⟨hdn,Zdk hg c1,fun s' hs'=>by cases hs';exact Znb hT h2 c2,h3⟩
     .simp only [Zbu];exact h4
     .simp only [Zde];exact h5
    .exact triv _ rfl
   .rename_i ps1 xs1 hg
    obtain⟨c1,c3⟩:=Zf.1 hc
    obtain⟨pre,h1,h3,h4,h5⟩:=Zli hT l xs1 (Zhn tm o.dst (.tup [])) σ c3
    refine⟨o::pre,by rw [List.cons_append,<- h1],?_,?_,?_⟩
    .simp only [Zba]
     exact⟨hdn,Zdk hg c1,(fun s' hs'=>by cases hs'),h3⟩
    .simp only [Zbu];exact h4
    .simp only [Zde];exact h5
   .exact triv _ rfl
def Zwu(P:Program)(T:TS)(ops:Array Oper)(st:St)(r:Zvd):Es:=
 bif Zg4 ops r.plan st.tm st.σ then
  match Zme P T ops r.rest r.xs ⟨st.n,r.tm,r.σ⟩ with
  | some (qs,xs2,st2)=>some (r.ps++qs,xs2,st2)
  | none=>none
 else none
def Znd(P:Program)(T:TS)(id:Nat)(ops:Array Oper)(draw:Bool)(xs:List Orc)(st:St):Es:=
 bif draw then
  match Zva (some id) xs st with
  | some (ps0,xs0,st0)=>
   match Zwu P T ops st0 (Zeb P T ops st0.n ops.toList xs0 st0.tm st0.σ) with
   | some (ps,xs,st)=>some (ps0++ps,xs,st)
   | none=>none
  | none=>none
 else Zme P T ops ops.toList xs st
theorem Ztl(hm:P.follows .mixedOrders=true)(hT:TOK P T){ops:Array Oper}{draw:Bool}{id:Nat}{Q:Exit->St->Prop}{st st':St}(h:Znd P T id ops draw xs st=some (ps,xs',st'))(hc:Zo ps)(hq:Q .normal st') :
 PW P (.region id ops draw) Q st:=by
 unfold Znd at h
 cases draw with
 | false=>
  simp only [cond_false] at h
  exact PW.region (Znc hT _ h hc hq)
 | true=>
  simp only [cond_true] at h
  split at h
  .rename_i ps0 xs0 st0 h0
   split at h
   .rename_i ps1 xs1 st1 h1
    cases h
    obtain⟨c0,c1⟩:=Zf.1 hc
    refine PW.weaken (Zt2 h0 c0) ?_
    unfold Zwu at h1
    have hbh:=Zn h1;clear h1;obtain⟨hb,h1⟩:=hbh
    split at h1
    .rename_i qs xs2 st2 h2
     cases h1
     obtain⟨c1,c2⟩:=Zf.1 c1
     obtain⟨pre,e1,e2,e3,e4⟩:=Zli hT ops.toList xs0 st0.tm st0.σ c1
     exact PW.region_draw hm _ pre _ e1 e2 hb (by rw [e3,e4];exact Znc hT _ h2 c2 hq)
    .cases h1
   .cases h
  .cases h
end
end Go.PW
namespace Go.PW
open Go.RowKit
inductive Kf where
 | seq (c:Code)
 | blk (id:Nat)
 | loop (c:Code)
 | scp
inductive Cfg where
 | code (c:Code) (K:List Kf)
 | head (c:Code) (K:List Kf)
 | done (e:Exit)
def PWL(P:Program)(c:Code)(Q:Exit->St->Prop)(st:St):Prop:=
 ∀ G a w,Rel G st a w->∀ b k cs,∃ e a' w',(∃ st',Q e st'/\Rel G st' a' w')/\Arrives P (lone (b.at a (.code c :: .inLoop c::k)) cs w) b k cs e a' w'
theorem PW.loopHead{P:Program}{c:Code}{Q:Exit->St->Prop}{st:St}(h:PWL P c Q st):PW P (.loop c) Q st:=by
 intro G a w hr b k cs
 obtain⟨e,a',w',hq,harr⟩:=h G a w hr b k cs
 exact⟨e,a',w',hq,.of_steps (.one step_loop) harr⟩
theorem PWL.round{P:Program}{c:Code}{Q:Exit->St->Prop}{st:St}(h:PW P c (Zic (PWL P c Q) Q) st):PWL P c Q st:=by
 intro G a w hr b k cs
 obtain⟨e,a₁,w₁,⟨st',hq,hr'⟩,harr⟩:=h G a w hr b (.inLoop c::k) cs
 cases e with
 | normal=>
  obtain⟨e₂,a₂,w₂,hq₂,harr₂⟩:=hq G a₁ w₁ hr' b k cs
  exact⟨e₂,a₂,w₂,hq₂,.of_steps (Steps.trans harr (.one step_inLoop)) harr₂⟩
 | exit id=>exact⟨_,a₁,w₁,⟨st',hq,hr'⟩,.pass (x := .inLoop c) rfl (fun _ _ => .inl (by simp)) harr⟩
 | goto l=>exact⟨_,a₁,w₁,⟨st',hq,hr'⟩,.pass (x := .inLoop c) rfl (fun _ _ => .inl (by simp)) harr⟩
 | ret=>exact⟨_,a₁,w₁,⟨st',hq,hr'⟩,.pass (x := .inLoop c) rfl (fun _ _ => .inl (by simp)) harr⟩
 | panic ch=>exact⟨_,a₁,w₁,⟨st',hq,hr'⟩,.pass (x := .inLoop c) rfl (fun _ _ => .inl (by simp)) harr⟩
 | outgrown=>exact⟨_,a₁,w₁,⟨st',hq,hr'⟩,.pass (x := .inLoop c) rfl (fun _ _ => .inl (by simp)) harr⟩
def post(P:Program):List Kf->(Exit->St->Prop)->Exit->St->Prop
 | [],R=>R
 | .seq c::K,R=>Zic (PW P c (post P K R)) (post P K R)
 | .blk id::K,R=>Zh7 id (post P K R)
 | .loop c::K,R=>Zic (PWL P c (post P K R)) (post P K R)
 | .scp::K,R=>Zo6 (post P K R)
def Cfg.holds(P:Program)(R:Exit->St->Prop):Cfg->St->Prop
 | .code c K,st=>PW P c (post P K R) st
 | .head c K,st=>PWL P c (post P K R) st
 | .done e,st=>R e st
def Zhc(id:Nat):List Kf->Option (List Kf)
 | []=>none
 | .blk i::K=>bif Nat.beq i id then some K else Zhc id K
 | _::K=>Zhc id K
theorem Zhd{P:Program}{R:Exit->St->Prop}{id:Nat}{st:St}:∀ {K K':List Kf},Zhc id K=some K'->post P K' R .normal st->post P K R (.exit id) st
 | [],K',h,_=>by cases h
 | .blk i::K,K',h,hp=>by
  simp only [Zhc] at h
  simp only [post,Zh7]
  cases hb:Nat.beq i id with
  | true=>
   have:i=id:=(Ze _ _).1 hb
   subst this
   simp only [hb,cond_true,Option.some.injEq] at h
   subst h
   simpa using hp
  | false=>
   simp only [hb,cond_false] at h
   have hne:¬ id=i:=fun e=>by subst e;simp at hb
   simp only [hne,if_false]
   exact Zhd h hp
 | .seq c::K,K',h,hp=>by simp only [Zhc] at h;simp only [post,Zic];exact Zhd h hp
 | .loop c::K,K',h,hp=>by simp only [Zhc] at h;simp only [post,Zic];exact Zhd h hp
 | .scp::K,K',h,hp=>by simp only [Zhc] at h;simp only [post,Zo6];exact Zhd h hp
theorem Zlj{P:Program}{R:Exit->St->Prop}{st:St}:∀ {K:List Kf},R .ret st->post P K R .ret st
 | [],h=>h
 | .blk i::K,h=>by simp only [post,Zh7];exact Zlj h
 | .seq c::K,h=>by simp only [post,Zic];exact Zlj h
 | .loop c::K,h=>by simp only [post,Zic];exact Zlj h
 | .scp::K,h=>by simp only [post,Zo6];exact Zlj h
abbrev Er:=Option (List Prop×Cfg×St)
def ahead(ps:List Prop):Er->Er
 | some (qs,g,st)=>some (ps++qs,g,st)
 | none=>none
section
variable {P:Program} {T:TS} {R:Exit->St->Prop}
theorem Zne{c:Code}{Q:Exit->St->Prop}{st st':St}(hw:Wk st st')(h:PWL P c Q st'):PWL P c Q st:=fun G a w hr=>h G a w (hw G a w hr)
def Zcn(R:Exit->St->Prop):Exit->St->Prop:=fun e st=>∃ st',Wk st st'/\R e st'
theorem PW.upto{c:Code}{st:St}(h:PW P c (Zcn R) st):PW P c R st:=by
 intro G a w hr
 refine wp_mono (h G a w hr) ?_
 rintro e a' w' ⟨st',⟨st2,hw,hq⟩,hr'⟩
 exact⟨st2,hq,hw _ _ _ hr'⟩
def nav:List Nat->Code->List Kf->Option Cfg
 | [],.loop c,K=>some (.head c K)
 | [],c,K=>some (.code c K)
 | d::ds,c,K=>
  match c with
  | .seq a b=>bif Nat.beq d 0 then nav ds a (.seq b::K) else nav ds b K
  | .cond _ a b=>bif Nat.beq d 2 then nav ds a K else nav ds b K
  | .block id body=>nav ds body (.blk id::K)
  | .loop body=>nav ds body (.loop body::K)
  | .scope body=>nav ds body (.scp::K)
  | _=>none
def Zve(rs:List RV)(st:St):Option (List Prop×PV):=
 match Zi1 st rs with
 | some [p]=>Zax st.σ p
 | some ps=>match Zcm st.σ ps with | some (cs,ds)=>some (cs,.tup ds) | none=>none
 | none=>none
theorem Zys{rs:List RV}{st:St}{ps:List Prop}{res:PV}(h:Zve rs st=some (ps,res))(hc:Zo ps):Zn1 rs [] res st:=by
 unfold Zve at h
 split at h
 .rename_i p hp
  exact⟨[p],hp,Zho.nil _,Zpe (fun _=>rfl) h hc⟩
 .rename_i qs hn hq
  split at h
  .rename_i cs ds hd
   cases h
   refine⟨qs,hq,Zho.nil _,?_⟩
   unfold Zqu
   split
   .rename_i p;exact (hn p rfl).elim
   .exact⟨ds,rfl,Zfb (fun _=>rfl) hd hc⟩
  .cases h
 .cases h
mutual
theorem Frz.refl{σ σ':List (Nat×Blk)}:∀ p:PV,Frz σ σ' p p
 | .t _=>by simp [Frz]
 | .nils=>by simp [Frz]
 | .osl _ _=>by simp [Frz]
 | .bptr _ _=>by simp [Frz]
 | .rptr _ _ _ _=>by simp [Frz]
 | .vptr _=>by simp [Frz]
 | .agg cs=>by simp only [Frz];exact⟨cs,rfl,Zx.refl cs⟩
 | .tup cs=>by simp only [Frz];exact⟨cs,rfl,Zx.refl cs⟩
 | .fn _ cs=>by simp only [Frz];exact⟨cs,rfl,Zx.refl cs⟩
 | .own _ _=>by simp [Frz]
theorem Zx.refl{σ σ':List (Nat×Blk)}:∀ ps:List PV,Zx σ σ' ps ps
 | []=>by simp [Zx]
 | p::ps=>by simp only [Zx];exact⟨p,ps,rfl,Frz.refl p,Zx.refl ps⟩
end
def Zsf(rs:List RV)(ls:List Nat)(st:St):Option (List (Nat×Blk)×PV):=
 match Zdj st.σ ls,Zi1 st rs with
 | some σ',some [p]=>some (σ',p)
 | some σ',some ps=>some (σ',.tup ps)
 | _,_=>none
theorem Zwv{rs:List RV}{ls:List Nat}{st:St}{σ':List (Nat×Blk)}{res:PV}(h:Zsf rs ls st=some (σ',res)):Zn1 rs σ' res st:=by
 have hsub:∀ {σ':List (Nat×Blk)},Zdj st.σ ls=some σ'->Zho st.σ σ':=fun hp l o ho=>⟨o,Zch hp l o ho,by cases o with
  | reg h=>rfl
  | xrow k i q es=>rfl
  | row k es=>rfl
  | mat k q es=>rfl
  | map ag es=>rfl
  | prow k i es cs=>exact⟨cs,rfl,Zx.refl cs⟩
  | box cs=>exact⟨cs,rfl,Zx.refl cs⟩⟩
 unfold Zsf at h
 split at h
 .rename_i s2 p hσ hp
  simp only [Option.some.injEq,Prod.mk.injEq] at h
  obtain⟨rfl,rfl⟩:=h
  exact⟨[p],hp,hsub hσ,Frz.refl p⟩
 .rename_i s2 qs hn hσ hq
  simp only [Option.some.injEq,Prod.mk.injEq] at h
  obtain⟨rfl,rfl⟩:=h
  refine⟨qs,hq,hsub hσ,?_⟩
  unfold Zqu
  split
  .rename_i p;exact (hn p rfl).elim
  .exact⟨qs,rfl,Zx.refl qs⟩
 .cases h
end
end Go.PW
namespace Go.PW
open Go.RowKit
def Zeq{S R:Type}(step:S->Option (S ⊕ R)):Nat->S->Option R
 | 0,_=>none
 | n+1,s=>
  match step s with
  | none=>none
  | some (.inl s')=>Zeq step n s'
  | some (.inr r)=>some r
theorem Zkg{S R:Type}{step:S->Option (S ⊕ R)}:∀ {n m:Nat} {s:S} {r:R},n<=m->Zeq step n s=some r->Zeq step m s=some r
 | 0,m,s,r,_,h=>by cases h
 | n+1,0,s,r,hl,h=>by omega
 | n+1,m+1,s,r,hl,h=>by
  simp only [Zeq] at h⊢
  split at h
  .cases h
  .exact Zkg (by omega) h
  .exact h
open Classical in
noncomputable def Zkh{S R:Type}(step:S->Option (S ⊕ R))(s:S):Option R:=
 if h:∃ r,∃ n,Zeq step n s=some r then some (Classical.choose h) else none
theorem Zki{S R:Type}{step:S->Option (S ⊕ R)}{s:S}{r:R}:Zkh step s=some r↔∃ n,Zeq step n s=some r:=by
 unfold Zkh
 constructor
 .intro h
  split at h
  .rename_i hx
   cases h
   exact Classical.choose_spec hx
  .cases h
 .rintro ⟨n,hn⟩
  have hx:∃ r,∃ n,Zeq step n s=some r:=⟨r,n,hn⟩
  rw [dif_pos hx]
  obtain⟨m,hm⟩:=Classical.choose_spec hx
  have h1:=Zkg (Nat.le_max_left n m) hn
  have h2:=Zkg (Nat.le_max_right n m) hm
  rw [<- h2,h1]
theorem Zt3{S R:Type}(step:S->Option (S ⊕ R))(s:S):Zkh step s=match step s with
 | none=>none
 | some (.inl s')=>Zkh step s'
 | some (.inr r)=>some r:=by
 apply Option.ext
 intro r
 rw [Zki]
 constructor
 .rintro ⟨n,hn⟩
  cases n with
  | zero=>cases hn
  | succ n=>
   simp only [Zeq] at hn
   split at hn
   .cases hn
   .exact Zki.2 ⟨n,hn⟩
   .exact hn
 .intro h
  split at h
  .cases h
  .rename_i s' hs
   obtain⟨n,hn⟩:=Zki.1 h
   exact⟨n+1,by simp only [Zeq,hs];exact hn⟩
  .rename_i r' hs
   exact⟨1,by simp only [Zeq,hs];exact h⟩
noncomputable def goO{S R:Type}(step:S->Option (S ⊕ R))(n:Nat):S->Option R ⊕ S:=
 Nat.rec (motive:=fun _=>S->Option R ⊕ S) (fun s => .inr s) (fun _ ih s=>match step s with | none => .inl none | some (.inl s')=>ih s' | some (.inr r) => .inl (some r)) n
theorem Zww{S R:Type}{step:S->Option (S ⊕ R)}:∀ (n:Nat) (s:S),(match goO step n s with | .inl o=>o | .inr s'=>Zkh step s')=Zkh step s
 | 0,s=>rfl
 | n+1,s=>by
  rw [Zt3]
  show (match (match step s with | none=>Sum.inl none | some (.inl s')=>goO step n s' | some (.inr r) => .inl (some r)) with | .inl o=>o | .inr s'=>Zkh step s')=_
  cases step s with
  | none=>rfl
  | some y=>
   cases y with
   | inl s'=>exact Zww n s'
   | inr r=>rfl
noncomputable def Zf1{S R:Type}(step:S->Option (S ⊕ R))(s:S):Option R:=
 match goO step 1000000000000 s with
 | .inl o=>o
 | .inr s'=>Zkh step s'
theorem Zlk{S R:Type}(step:S->Option (S ⊕ R))(s:S):Zf1 step s=Zkh step s:=Zww _ s
theorem Zyt{S R:Type}{step:S->Option (S ⊕ R)}{s:S}{r:R}:Zf1 step s=some r↔∃ n,Zeq step n s=some r:=by rw [Zlk];exact Zki
theorem Zt4{S R:Type}(step:S->Option (S ⊕ R))(s:S):Zf1 step s=match step s with
 | none=>none
 | some (.inl s')=>Zf1 step s'
 | some (.inr r)=>some r:=by
 rw [Zlk,Zt3]
 cases step s with
 | none=>rfl
 | some y=>cases y with
  | inl s'=>exact (Zlk step s').symm
  | inr r=>rfl
theorem Zsg{S R:Type}{step:S->Option (S ⊕ R)}{s s':S}(h:step s=some (.inl s')):Zf1 step s=Zf1 step s':=by rw [Zt4,h]
theorem Znf{S R:Type}{step:S->Option (S ⊕ R)}{s:S}{r:R}(h:step s=some (.inr r)):Zf1 step s=some r:=by rw [Zt4,h]
noncomputable def Zyu{S R:Type}(step:S->Option (S ⊕ R)):S ⊕ R->Option R
 | .inl s=>Zf1 step s
 | .inr r=>some r
def idx? {α:Type} (xs:List α) (i:Int):Option α:=if 0<=i then xs[i.toNat]? else none
def app? {α:Type} (bytes:Nat) (xs ys:List α):Option (List α):=if (xs.length+ys.length)*bytes<=140737488355328/\xs.length+ys.length<=9223372036854775807 then some (xs++ys) else none
def ok? (b:Bool):Option Unit:=if b then some () else none
theorem Zt5{α β:Type}(f:α->β)(xs:List α):(((xs.map f).length:Nat):Int)=(xs.length:Int):=by rw [List.length_map]
theorem all_map{α:Type}(f:α->List Za)(k:Nat)(h:∀ x,(f x).length=k)(xs:List α):∀ el,el∈xs.map f->el.length=k:=by
 intro el hel
 obtain⟨x,_,rfl⟩:=List.mem_map.1 hel
 exact h x
theorem Zon{α:Type}{xs:List α}{i:Int}{x:α}(h:idx? xs i=some x):0<=i:=by
 unfold idx? at h
 split at h
 .assumption
 .cases h
theorem Zpo{α β:Type}{xs:List α}{i:Int}{x:α}(f:α->β)(h:idx? xs i=some x):(xs.map f)[i.toNat]?=some (f x):=by
 unfold idx? at h
 split at h
 .simp [h]
 .cases h
theorem Zwx{α β:Type}{xs:List α}{i:Int}{x:α}(f:α->β)(h:idx? xs i=some x):i < ((xs.map f).length:Nat):=by
 unfold idx? at h
 split at h
 .have:=(List.getElem?_eq_some_iff.1 h).1
  rw [List.length_map];omega
 .cases h
theorem Zpp{α β:Type}{b:Nat}{xs ys zs:List α}(f:α->β)(h:app? b xs ys=some zs):xs.map f++ys.map f=zs.map f:=by
 unfold app? at h
 split at h
 .cases h;simp
 .cases h
theorem Zt6{α β:Type}{b:Nat}{ys zs:List α}(f:α->β)(h:app? b [] ys=some zs):ys.map f=zs.map f:=by simpa using Zpp f h
theorem Zpq{α β:Type}{b:Nat}{xs ys zs:List α}(f:α->β)(h:app? b xs ys=some zs):(zs.map f).length<=9223372036854775807:=by
 unfold app? at h
 split at h
 .cases h;simp;omega
 .cases h
theorem Zi7{α β:Type}{b:Nat}{xs ys zs:List α}(f:α->β)(h:app? b xs ys=some zs):(zs.map f).length*b<=140737488355328:=by
 unfold app? at h
 split at h
 .cases h;simp;omega
 .cases h
theorem Z04{b:Bool}{u:Unit}(h:ok? b=some u):b=true:=by
 unfold ok? at h
 split at h
 .assumption
 .cases h
theorem Zz3{p:Prop} [Decidable p] {u:Unit} (h:ok? (decide p)=some u):p:=of_decide_eq_true (Z04 h)
def slice? {α:Type} (xs:List α) (l h:Int):Option (List α):=if 0<=l/\l<=h/\h<=xs.length then some ((xs.take h.toNat).drop l.toNat) else none
def copy? {α:Type} (dst src:List α):Option (List α):=if src.length<=dst.length then some (src++dst.drop src.length) else none
def make? {α:Type} (bytes:Nat) (z:α) (m c:Int):Option (List α):=if 0<=m/\m<=c/\(bytes:Int)*c<=281474976710656/\c<=9223372036854775807 then some (List.replicate m.toNat z) else none
theorem Zz4{α:Type}{xs zs:List α}{l h:Int}(e:slice? xs l h=some zs):0<=l:=by
 unfold slice? at e;split at e
 .rename_i c;exact c.1
 .cases e
theorem Zz5{α:Type}{xs zs:List α}{l h:Int}(e:slice? xs l h=some zs):l<=h:=by
 unfold slice? at e;split at e
 .rename_i c;exact c.2.1
 .cases e
theorem Zz6{α β:Type}{xs zs:List α}{l h:Int}(f:α->β)(e:slice? xs l h=some zs):h<=((xs.map f).length:Nat):=by
 unfold slice? at e;split at e
 .rename_i c;rw [List.length_map];exact c.2.2
 .cases e
theorem Zwy{α β:Type}{xs zs:List α}{l h:Int}(f:α->β)(e:slice? xs l h=some zs):((xs.map f).take h.toNat).drop l.toNat=zs.map f:=by
 unfold slice? at e;split at e
 .cases e;simp [List.map_drop,List.map_take]
 .cases e
theorem Zh0{α:Type}{b:Nat}{z:α}{m c:Int}{zs:List α}(e:make? b z m c=some zs):0<=m/\m<=c/\(b:Int)*c<=281474976710656/\c<=9223372036854775807:=by
 unfold make? at e;split at e
 .assumption
 .cases e
theorem Zyv{α β:Type}{b:Nat}{z:α}{m c:Int}{zs:List α}(f:α->β)(e:make? b z m c=some zs):m.toNat=(zs.map f).length:=by
 unfold make? at e;split at e
 .cases e;simp
 .cases e
theorem Zyw{α β:Type}{b:Nat}{z:α}{m c:Int}{zs:List α}(f:α->β)(e:make? b z m c=some zs):List.replicate (zs.map f).length (f z)=zs.map f:=by
 unfold make? at e;split at e
 .cases e;simp
 .cases e
theorem Z0x{α β:Type}(f:α->β){xs:List α}(h:xs≠[]):xs.map f≠[]:=by simpa using h
def set? {α:Type} (xs:List α) (i:Int) (x:α):Option (List α):=if 0<=i/\i.toNat < xs.length then some (xs.set i.toNat x) else none
theorem Z0y{α:Type}{z z2:List α}{i:Int}{x x':α}{q:Nat}{ts:List Za}(f:α->List Za)(h:set? z i x'=some z2)(hs:splice (f x) q ts=f x'):(List.map f z).set i.toNat (splice (f x) q ts)=List.map f z2:=by
 unfold set? at h
 split at h
 .cases h;rw [hs,List.map_set]
 .cases h
theorem Zz7{α β:Type}{z z2:List α}{i:Int}{x':α}(f:α->β)(h:set? z i x'=some z2):(List.map f z).length=(List.map f z2).length:=by
 unfold set? at h
 split at h
 .cases h;simp
 .cases h
theorem Zsh{α:Type}(f:α->List Za)(h:∀ x,(f x).all Za.scal=true)(z:List α):∀ el,el∈List.map f z->∀ x,x∈el->Za.scal x=true:=by
 intro el hel x hx
 obtain⟨y,_,rfl⟩:=List.mem_map.1 hel
 exact List.all_eq_true.1 (h y) x hx
def cB(b:Bool):List Za:=[.bool b]
def cI(k:IntKind)(n:Int):List Za:=[.int k n]
def cS(s:List UInt8):List Za:=[.str s]
def cL{α:Type}(f:α->List Za)(xs:List α):List Za:=[.sl (xs.map f)]
structure A3 (α:Type) where
 (a0 a1 a2:α)
 deriving DecidableEq,Inhabited
structure A5 (α:Type) where
 (a0 a1 a2 a3 a4:α)
 deriving DecidableEq,Inhabited
structure A6 (α:Type) where
 (a0 a1 a2 a3 a4 a5:α)
 deriving DecidableEq,Inhabited
def cA3{α:Type}(f:α->List Za)(x:A3 α):List Za:=f x.a0++(f x.a1++f x.a2)
def A3.list{α:Type}(x:A3 α):List α:=[x.a0,x.a1,x.a2]
def cA5{α:Type}(f:α->List Za)(x:A5 α):List Za:=f x.a0++(f x.a1++(f x.a2++(f x.a3++f x.a4)))
def A5.list{α:Type}(x:A5 α):List α:=[x.a0,x.a1,x.a2,x.a3,x.a4]
def cA6{α:Type}(f:α->List Za)(x:A6 α):List Za:=f x.a0++(f x.a1++(f x.a2++(f x.a3++(f x.a4++f x.a5))))
def A6.list{α:Type}(x:A6 α):List α:=[x.a0,x.a1,x.a2,x.a3,x.a4,x.a5]
def bytes? (s:List UInt8):Option (List Int):=if s.length<=9223372036854775807 then some (s.map fun b=>(b.toNat:Int)) else none
def Z1c(k:IntKind)(a b:Int):Int:=k.wrap (a*2 ^ (min b.toNat k.bits))
def Ok{S R:Type}(P:Program)(rs:List RV)(sr:R->List (Nat×Blk))(res:R->PV)(cfg:S->Cfg)(stf:S->PW.St)(r:R):S ⊕ R->Prop
 | .inl s=>(cfg s).holds P (Zcn (Zid rs (sr r) (res r))) (stf s)
 | .inr r'=>r'=r
theorem Z05{S R:Type}{P:Program}{rs:List RV}{sr:R->List (Nat×Blk)}{res:R->PV}{cfg:S->Cfg}{stf:S->PW.St}{r:R}{step:S->Option (S ⊕ R)}(hstep:∀ s y,step s=some y->Ok P rs sr res cfg stf r y->(cfg s).holds P (Zcn (Zid rs (sr r) (res r))) (stf s)){y:S ⊕ R}
 (h:Zyu step y=some r):Ok P rs sr res cfg stf r y:=by
 have key:∀ (n:Nat) (s:S),Zeq step n s=some r->(cfg s).holds P (Zcn (Zid rs (sr r) (res r))) (stf s):=by
  intro n
  induction n with
  | zero=>intro s h;cases h
  | succ n ih=>
   intro s h
   simp only [Zeq] at h
   split at h
   .cases h
   .rename_i s' hs;exact hstep s _ hs (ih s' h)
   .rename_i r' hs;cases h;exact hstep s _ hs (show Ok P rs sr res cfg stf r (.inr r) from rfl)
 cases y with
 | inl s=>obtain⟨n,hn⟩:=Zyt.1 h;exact key n s hn
 | inr r'=>have:some r'=some r:=h;cases this;exact (show Ok P rs sr res cfg stf r (.inr r) from rfl)
section
variable {P:Program} {T:TS} {S R:Type} {rs:List RV} {sr:R->List (Nat×Blk)} {res:R->PV} {cfg:S->Cfg} {stf:S->PW.St} {r:R} {y:S ⊕ R} {g:Cfg} {st:PW.St} {C:Prop}
end
def Zng(T:TS):List RV->Bool
 | []=>true
 | .t _::r=>Zng T r
 | .c _ t ag sz::r=>(match get T t with | some i=>(i.agg==ag)&&Nat.beq i.size sz | none=>false)&&Zng T r
theorem Zpr{P:Program}{T:TS}(hT:TOK P T):∀ (rs:List RV),Zng T rs=true->∀ x t ag sz,RV.c x t ag sz∈rs->TyF P t ag sz
 | [],_,x,t,ag,sz,h=>by cases h
 | .t i::r,hb,x,t,ag,sz,h=>by
  simp only [Zng] at hb
  rcases List.mem_cons.1 h with h | h
  .cases h
  .exact Zpr hT r hb x t ag sz h
 | .c x0 t0 ag0 sz0::r,hb,x,t,ag,sz,h=>by
  simp only [Zng,Bool.and_eq_true] at hb
  rcases List.mem_cons.1 h with h | h
  .cases h
   have h1:=hb.1
   split at h1
   .rename_i i hi
    simp only [Bool.and_eq_true,Ze,beq_iff_eq] at h1
    have:=(hT _ i hi).ty
    rw [h1.1,h1.2] at this
    exact this
   .cases h1
  .exact Zpr hT r hb.2 x t ag sz h
theorem FnG.of_cfg {P : Program} {T : TS} (hT : TOK P T) {f : FuncId} {args : List PV} {σ σ' : List (Nat × Blk)} {res : PV} {fn : Func} {c : Code} (hf : P.funcs[f]? = some fn) (hb : fn.body = some c) (hname : (fn.name == "runtime.NumGoroutine") = false)
 (n:Nat) (hn:fn.ntmps=n) (hna:args.length<=n) (rs:List RV) (hres:fn.results=(rs.map RV.to).toArray) (hrv:Zng T rs=true) (h:(Cfg.code c []).holds P (Zcn (Zid rs σ' res)) ⟨n,idx 0 args,σ⟩):FnG P f σ args σ' res:=
 FnG.of_pw hf hb hname n hn hna rs hres (Zpr hT rs hrv) (PW.upto h)
theorem FnG.frozen{P:Program}{f:FuncId}{args:List PV}{σ1:List (Nat×Blk)}{res q:PV}{C:Prop}(h:FnG P f [] args σ1 res)(c:C)(hq:(Zax σ1 res).map (fun x=>(Zo x.1,x.2))=some (C,q)):Fn P f args q:=by
 simp only [Option.map_eq_some_iff,Prod.mk.injEq] at hq
 obtain⟨⟨cs,p⟩,h1,h2,h3⟩:=hq
 simp only at h2 h3
 subst h3
 exact h.toFn (Zpe (fun _=>rfl) h1 (by rw [h2];exact c))
def str? (xs:List Int):Option (List UInt8):=if xs≠[]/\∀ n,n∈xs->0<=n/\n < 256 then some (xs.map fun n=>UInt8.ofNat n.toNat) else none
theorem Zqd{xs:List Int}{s:List UInt8}(h:str? xs=some s):Zb3 s=List.map (cI .u8) xs/\s≠[]:=by
 unfold str? at h
 split at h
 .rename_i hc
  cases h
  refine⟨?_,by simpa using hc.1⟩
  simp only [Zb3,List.map_map]
  refine List.map_congr_left fun n hn=>?_
  obtain⟨h0,h1⟩:=hc.2 n hn
  simp only [Function.comp,cI]
  have:(UInt8.ofNat n.toNat).toNat=n.toNat:=by simp;omega
  rw [this]
  congr 1
  congr 1
  omega
 .cases h
end Go.PW
namespace Go.PW
open Go.RowKit
def Zhe(P:Program):List Field->Nat->Nat->Bool
 | [],off,Zq2=>Nat.beq off Zq2
 | f::fs,off,Zq2=>Nat.beq f.offset off&&Zhe P fs (off+P.cellsOf f.type) Zq2
def Zey(P:Program):Nat->TypeId->Bool
 | 0,_=>false
 | d+1,t=>
  match P.underlying t with
  | some .bool=>true
  | some (.int _)=>true
  | some .string=>true
  | some (.slice e)=>Zey P d e&&Nat.blt 0 (P.cellsOf e)
  | some (.struct fs)=>(fs.toList.all fun f=>Zey P d f.type)&&Zhe P fs.toList 0 (P.cellsOf t)
  | some (.array n e)=>Zey P d e&&Nat.beq (n*P.cellsOf e) (P.cellsOf t)
  | _=>false
def Seq(Q:TypeId->List Za->Prop):List TypeId->List Za->Prop
 | [],ts=>ts=[]
 | t::l,ts=>∃ a b,ts=a++b/\Q t a/\Seq Q l b
def WT(P:Program):Nat->TypeId->List Za->Prop
 | 0,_,_=>False
 | d+1,t,ts=>
  match P.underlying t with
  | some .bool=>∃ b,ts=[.bool b]
  | some (.int k)=>∃ n,ts=[.int k n]/\(Lit.int k n).wf=true
  | some .string=>∃ s,ts=[.str s]/\(s.length<=maxLen/\s.length<=reachBytes)
  | some (.slice e)=>∃ es,ts=[.sl es]/\(es.length<=maxLen/\es.length*P.bytesOf e<=reachBytes)/\∀ el∈es,WT P d e el
  | some (.struct fs)=>Seq (WT P d) (fs.toList.map (·.type)) ts
  | some (.array n e)=>Seq (WT P d) (List.replicate n e) ts
  | _=>False
def Rd(w:World):Ctx:=⟨fun _=>none,fun b=>b < w.heap.size,w,[]⟩
theorem Zsi{I:Nat->Prop}{w:World}{b k:Nat}{Q:List Za->Prop}:∀ (n off:Nat),(∀ i,i < n->∃ ts,ts.length=k/\Zh I w b ts (off+i*k)/\Q ts)->∃ es,es.length=n/\Zc I w b es off/\∀ el∈es,Q el
 | 0,off,_=>⟨[],rfl,trivial,fun _ h=>by cases h⟩
 | n+1,off,h=>by
  obtain⟨t0,h0,hc,hq⟩:=h 0 (by omega)
  obtain⟨es,h1,h2,h3⟩:=Zsi (I:=I) (w:=w) (b:=b) (k:=k) (Q:=Q) n (off+k) (fun i hi=>by
   obtain⟨ts,g1,g2,g3⟩:=h (i+1) (by omega)
   exact⟨ts,g1,by rwa [show off+(i+1)*k=off+k+i*k by rw [Nat.add_mul,Nat.one_mul];omega] at g2,g3⟩)
  refine⟨t0::es,by simp [h1],?_,fun el hel=>?_⟩
  .simp only [Zc]
   exact⟨by simpa using hc,by rw [h0];exact h2⟩
  .rcases List.mem_cons.1 hel with h | h
   .subst h;exact hq
   .exact h3 el h
theorem mapM_mem'{α β:Type}{f:α->Option β}:∀ {l:List α} {xs:List β},l.mapM f=some xs->∀ a∈l,∃ x,f a=some x/\x∈xs
 | [],_,_,a,h=>by cases h
 | b::l,xs,h,a,ha=>by
  rw [List.mapM_cons] at h
  simp only [bind,Option.bind_eq_some_iff,pure,Option.some.injEq] at h
  obtain⟨y,hy,ys,hys,rfl⟩:=h
  rcases List.mem_cons.1 ha with e | e
  .subst e;exact⟨y,hy,by simp⟩
  .obtain⟨x,h1,h2⟩:=mapM_mem' hys a e
   exact⟨x,h1,by simp [h2]⟩
section
variable {P:Program} {w:World}
theorem Zoo{Q:TypeId->List Za->Prop}{cs:List Value}:∀ (fs:List Field) (off:Nat),Zhe P fs off cs.length=true->off<=cs.length ->
 (∀ f∈fs,∃ ts,VRs (Rd w) (ts.map .t) ((cs.drop f.offset).take (P.cellsOf f.type))/\Q f.type ts)->∃ ts:List Za,VRs (Rd w) (ts.map .t) (cs.drop off)/\Seq Q (fs.map (·.type)) ts
 | [],off,h,_,_=>by
  simp only [Zhe,Ze] at h
  exact⟨[],by simp [VRs,h],rfl⟩
 | f::fs,off,h,hle,hf=>by
  simp only [Zhe,Bool.and_eq_true,Ze] at h
  obtain⟨h1,h2⟩:=h
  obtain⟨a,ha,hq⟩:=hf f (by simp)
  rw [h1] at ha
  have hle2:off+P.cellsOf f.type<=cs.length:=by
   have:∀ (fs:List Field) (o:Nat),Zhe P fs o cs.length=true->o<=cs.length:=by
    intro fs
    induction fs with
    | nil=>intro o h;simp only [Zhe,Ze] at h;omega
    | cons g fs ih=>intro o h;simp only [Zhe,Bool.and_eq_true] at h;have:=ih _ h.2;omega
   exact this fs _ h2
  obtain⟨b,hb,hs⟩:=Zoo (Q:=Q) fs (off+P.cellsOf f.type) h2 hle2 (fun g hg=>hf g (List.mem_cons_of_mem _ hg))
  refine⟨a++b,?_,a,b,rfl,hq,hs⟩
  rw [List.map_append]
  have:=ha.append hb
  rwa [show (cs.drop off).take (P.cellsOf f.type)++cs.drop (off+P.cellsOf f.type)=cs.drop off by rw [<- List.drop_drop];exact List.take_append_drop _ _] at this
theorem Zqe{Q:TypeId->List Za->Prop}{cs:List Value}{e k:Nat}:∀ (n off:Nat),off+n*k=cs.length ->
 (∀ i,i < n->∃ ts,VRs (Rd w) (ts.map .t) ((cs.drop (off+i*k)).take k)/\Q e ts)->∃ ts:List Za,VRs (Rd w) (ts.map .t) (cs.drop off)/\Seq Q (List.replicate n e) ts
 | 0,off,h,_=>⟨[],by simp [VRs,show off=cs.length by omega],rfl⟩
 | n+1,off,h,hf=>by
  have e1:(n+1)*k=n*k+k:=by rw [Nat.add_mul,Nat.one_mul]
  obtain⟨a,ha,hq⟩:=hf 0 (by omega)
  rw [Nat.zero_mul,Nat.add_zero] at ha
  obtain⟨b,hb,hs⟩:=Zqe (Q:=Q) (cs:=cs) (e:=e) (k:=k) n (off+k) (by omega) (fun i hi=>by
   obtain⟨ts,g1,g2⟩:=hf (i+1) (by omega)
   exact⟨ts,by rwa [show off+(i+1)*k=off+k+i*k by rw [Nat.add_mul,Nat.one_mul];omega] at g1,g2⟩)
  refine⟨a++b,?_,a,b,rfl,hq,hs⟩
  rw [List.map_append]
  have:=ha.append hb
  rwa [show (cs.drop off).take k++cs.drop (off+k)=cs.drop off by rw [<- List.drop_drop];exact List.take_append_drop _ _] at this
theorem Zgr{H:Type}{e:TypeId}{d:DataW H}{n:Nat}:∀ {ds:List (DataW H)},d∈ds->n∈d.weights P e->n∈DataW.weightsAll P e ds
 | [],h,_=>by cases h
 | y::ds,h,hn=>by
  simp only [DataW.weightsAll,List.mem_append]
  rcases List.mem_cons.1 h with h | h
  .subst h;exact .inl hn
  .exact .inr (Zgr h hn)
theorem Zf2{H:Type}{t:TypeId}{d:DataW H}{n:Nat}:∀ {ts:List TypeId} {ds:List (DataW H)} {i:Nat},ts[i]?=some t->ds[i]?=some d->n∈d.weights P t->n∈DataW.weightsEach P ts ds
 | [],_,_,h,_,_=>by simp at h
 | _::_,[],_,_,h,_=>by simp at h
 | u::ts,y::ds,0,ht,hd,hn=>by
  simp only [List.getElem?_cons_zero,Option.some.injEq] at ht hd
  subst ht;subst hd
  simp only [DataW.weightsEach,List.mem_append]
  exact .inl hn
 | u::ts,y::ds,i+1,ht,hd,hn=>by
  simp only [DataW.weightsEach,List.mem_append]
  exact .inr (Zf2 (by simpa using ht) (by simpa using hd) hn)
theorem Zh1{H:Type}{enc:TypeId×Value->H}:∀ (D fuel:Nat) (t:TypeId) (cs:List Value) (x:DataW H×List MemPlace),DataW.trod enc P w 0 (fun _=>true) true fuel t cs=some x->Zey P D t=true->(∀ n∈x.1.weights P t,n<=reachBytes) ->
 ∃ ts:List Za,VRs (Rd w) (ts.map .t) cs/\WT P D t ts
 | 0,_,_,_,_,_,hp,_=>by simp [Zey] at hp
 | D+1,fuel,t,cs,x,h,hp,hwt=>by
  unfold Zey at hp
  unfold WT
  cases hu:P.underlying t with
  | none=>simp [hu] at hp
  | some u=>
   simp only [hu] at hp⊢
   cases u<;>simp only [Bool.false_eq_true] at hp
   case bool=>
    obtain⟨b,rfl,_⟩:=DataW.trod_bool hu h
    exact⟨[.bool b],by simp [VRs,VR,Zg],b,rfl⟩
   case int k=>
    obtain⟨n,rfl,_,hw⟩:=DataW.trod_int hu h
    exact⟨[.int k n],by simp [VRs,VR,Zg],n,rfl,hw⟩
   case string=>
    obtain⟨s,rfl,rfl,hl⟩:=DataW.trod_string hu h
    refine⟨[.str s.data.toList],by simp [VRs,VR,Zg],_,rfl,by rw [Array.length_toList];exact hl,hwt _ (by simp [DataW.weights])⟩
   case slice e=>
    obtain⟨hp1,hp2⟩:=Bool.and_eq_true_iff.1 hp
    rw [Nat.blt_eq] at hp2
    rcases DataW.trod_slice hu h with ⟨rfl,_⟩ | ⟨a,len,cap,elems,rest,n,_,rfl,rfl,_,hlc,hcm,hel,hE,_⟩
    .refine⟨[.sl []],?_,[],rfl,⟨Nat.zero_le _,by simp⟩,fun _ h=>by cases h⟩
     simp only [List.map_cons,List.map_nil,VRs,VR,Zg]
     exact⟨_,_,rfl,⟨none,0,rfl,Nat.le_refl _,Nat.zero_le _,.inl trivial⟩,rfl⟩
    .by_cases h0:len=0
     .subst h0
      refine⟨[.sl []],?_,[],rfl,⟨Nat.zero_le _,by simp⟩,fun _ h=>by cases h⟩
      simp only [List.map_cons,List.map_nil,VRs,VR,Zg]
      exact⟨_,_,rfl,⟨some a,cap,rfl,hlc,hcm,.inl trivial⟩,rfl⟩
     .have hwl:(elems.length+rest.length)*P.bytesOf e<=reachBytes:=hwt _ (by simp [DataW.weights,hu])
      have hone:∀ i,i < len->∃ cs' y,w.cells? 0 (a.add (i*P.cellsOf e)) (P.cellsOf e)=some cs'/\DataW.trod enc P w 0 (fun _=>true) true n e cs'=some y/\∀ m∈y.1.weights P e,m<=reachBytes:=by
       intro i hi
       have:=hE i hi
       have hlt:i < elems.length:=by omega
       rw [List.getElem?_eq_getElem hlt] at this
       obtain⟨cs',h1,h2⟩:=Option.bind_eq_some_iff.1 this
       refine⟨cs',_,h1,h2,fun m hm=>hwt m ?_⟩
       simp only [DataW.weights,hu]
       exact List.mem_cons_of_mem _ (List.mem_append.2 (.inl (Zgr (List.mem_map.2 ⟨_,List.getElem_mem hlt,rfl⟩) hm)))
      have hspot:a.spot=none:=by
       obtain⟨cs',y,h1,_,_⟩:=hone 0 (by omega)
       obtain⟨_,hl,hc⟩:=World.cells?_some h1
       have:=hc 0 hp2
       rw [List.getElem?_eq_getElem (by omega)] at this
       have e0:(a.add (0*P.cellsOf e)).add 0=a:=by simp [Addr.add]
       rw [e0] at this
       unfold World.cell? at this
       split at this
       .split at this
        .cases this
        .rename_i hs;simpa using hs
       .cases this
      obtain⟨b,off,spot⟩:=a
      simp only at hspot
      subst hspot
      have hbl:b < w.heap.size:=by
       obtain⟨cs',y,h1,_,_⟩:=hone 0 (by omega)
       have:=World.cells?_block h1 hp2
       simpa [Addr.add] using this
      obtain⟨es,g1,g2,g3⟩:=Zsi (I:=(Rd w).I) (w:=w) (b:=b) (k:=P.cellsOf e) (Q:=WT P D e) len off (fun i hi=>by
       obtain⟨cs',y,h1,h2,hy⟩:=hone i hi
       obtain⟨ts,ht,hw⟩:=Zh1 D n e cs' y h2 hp1 hy
       obtain⟨_,hl,hc⟩:=World.cells?_some h1
       refine⟨ts,by have:=ht.length;simp at this;omega,Za6 (c:=Rd w) ht (fun j v hj=>?_),hw⟩
       have hjl:j < P.cellsOf e:=by rw [<- hl];exact (List.getElem?_eq_some_iff.1 hj).1
       have:=hc j hjl
       rw [Addr.add_mid,Addr.add_mid] at this
       exact this.trans hj)
      refine⟨[.sl es],?_,es,rfl,⟨by omega,Nat.le_trans (Nat.mul_le_mul_right _ (by omega)) hwl⟩,g3⟩
      simp only [List.map_cons,List.map_nil,VRs,VR,Zg]
      exact⟨_,_,rfl,⟨some ⟨b,off,none⟩,cap,by rw [g1],by omega,hcm,.inr ⟨b,off,rfl,hbl,g2⟩⟩,rfl⟩
   case struct fs=>
    obtain⟨hp1,hp2⟩:=Bool.and_eq_true_iff.1 hp
    obtain⟨xs,n,_,rfl,hl,hlen,hf⟩:=DataW.trod_struct hu h
    rw [<- hl] at hp2
    have:=Zoo (Q:=WT P D) fs.toList 0 hp2 (Nat.zero_le _) (fun f hfm=>by
     obtain⟨i,hi⟩:=List.mem_iff_getElem?.1 hfm
     have hi':fs[i]?=some f:=by simpa using hi
     have hlt:i < xs.length:=by rw [hlen];exact (Array.getElem?_eq_some_iff.1 hi').1
     have h2:=hf i f hi'
     rw [List.getElem?_eq_getElem hlt] at h2
     refine Zh1 D n f.type _ _ h2 (List.all_eq_true.1 hp1 f hfm) (fun m hm=>hwt m ?_)
     simp only [DataW.weights,hu]
     exact Zf2 (i:=i) (t:=f.type) (d:=xs[i].1) (by simp [hi]) (by simp [List.getElem?_eq_getElem hlt]) hm)
    simpa using this
   case array n e=>
    obtain⟨hp1,hp2⟩:=Bool.and_eq_true_iff.1 hp
    cases fuel with
    | zero=>simp [DataW.trod] at h
    | succ m=>
     unfold DataW.trod at h
     simp only [hu] at h
     have harr:cs.length=P.cellsOf t/\∃ xs,(List.range n).mapM (fun i=>DataW.trod enc P w 0 (fun _=>true) true m e ((cs.drop (i*P.cellsOf e)).take (P.cellsOf e)))=some xs/\x.1 = .agg (xs.map (·.1)):=by
      split at h
      .rename_i hl
       simp only [Option.map_eq_some_iff] at h
       obtain⟨xs,h1,h2⟩:=h
       exact⟨hl,xs,h1,by rw [<- h2]⟩
      .cases h
     obtain⟨hl,xs,hx,hx1⟩:=harr
     have hwx:∀ y∈xs,∀ k∈y.1.weights P e,k<=reachBytes:=fun y hy k hk=>hwt k (by
      rw [hx1]
      simp only [DataW.weights,hu]
      exact Zgr (List.mem_map.2 ⟨y,hy,rfl⟩) hk)
     have:=Zqe (w:=w) (Q:=WT P D) (cs:=cs) (e:=e) (k:=P.cellsOf e) n 0 (by rw [hl];have:=(Ze _ _).1 hp2;omega) (fun i hi=>by
      obtain⟨y,hy,hym⟩:=mapM_mem' hx i (by simpa using hi)
      rw [Nat.zero_add]
      exact Zh1 D m e _ _ hy hp1 (hwx y hym))
     simpa using this
end
end Go.PW
namespace Go.PW
open Go.RowKit Go.ChangeShapes Go.WideShapes Go.ChangeAt
def Zyx:List Za->PV
 | [x] => .t x
 | _ => .nils
def Zkj(P:Program)(t:TypeId)(ts:List Za):PV:=
 match P.underlying t with
 | some (.struct _) => .agg (ts.map .t)
 | some (.array _ _) => .agg (ts.map .t)
 | _=>Zyx ts
section
variable {H:Type} {enc:TypeId×Value->H} {P:Program} {w:World}
theorem Zyy{D base:Nat}{t:TypeId}{v:Value}{d:DataW H}{p:List MemPlace}(hval:Value.okWide P w .any base t v)(hd:DataW.Trod enc P w 0 (fun _=>true) true t v d p)(hp:Zey P D t=true)(hwt:∀ n∈d.weights P t,n<=reachBytes) :
 ∃ ts,VR (Rd w) (Zkj P t ts) v/\WT P D t ts:=by
 obtain⟨fuel,hd⟩:=hd
 obtain⟨ts,hr,hw⟩:=Zh1 D fuel t _ _ hd hp hwt
 refine⟨ts,?_,hw⟩
 unfold Zkj
 unfold Value.okWide at hval
 have one:∀ u,v.cells.toList=[u]->(∀ cs,v ≠ .agg cs)->u=v:=by
  intro u hu hne
  cases v<;>first | exact absurd rfl (hne _) | (simp [Value.cells] at hu;exact hu.symm)
 have key:(∀ cs,v ≠ .agg cs)->(∃ x,ts=[x])->VR (Rd w) (Zyx ts) v:=by
  rintro hne ⟨x,rfl⟩
  simp only [List.map_cons,List.map_nil,VRs] at hr
  obtain⟨u,rest,he,hv,hrest⟩:=hr
  subst hrest
  have:=one u he hne
  subst this
  exact hv
 cases D with
 | zero=>simp [Zey] at hp
 | succ D=>
  unfold WT at hw
  unfold Zey at hp
  cases hu:P.underlying t with
  | none=>simp [hu] at hp
  | some u=>
   simp only [hu] at hp hval hw⊢
   cases u<;>simp only [Bool.false_eq_true] at hp hval hw⊢
   case struct fs=>
    obtain⟨cs,rfl,_⟩:=hval
    simp only [VR]
    exact⟨cs.toList,by simp,by simpa [Value.cells] using hr⟩
   case array n e=>
    obtain⟨cs,rfl,_⟩:=hval
    simp only [VR]
    exact⟨cs.toList,by simp,by simpa [Value.cells] using hr⟩
   all_goals
    refine key (fun cs e=>?_) ?_
    .subst e
     simp [Cell.okWide,Cell.ok,hu] at hval
    .first
     | (obtain⟨b,hb⟩:=hw;exact⟨_,hb⟩)
     | (obtain⟨b,hb,_⟩:=hw;exact⟨_,hb⟩)
theorem Zwz{f:FuncId}{qs:List PV}{W:World}{args:Array Value}(hgl:Zqs W)(hf:Fn P f qs (.t (.bool true)))(hv:VRs (Rd W) qs args.toList) :
 Calls P f args W fun e W'=>e = .returned (.bool true)/\Below W.heap.size W W':=by
 have:=Zm1 hf (fun b=>b < W.heap.size) (fun b hb=>hb) (fun g k hg=>(hgl g k hg).1) (w:=W) (vals:=args.toList) hgl hv
 rw [Array.toArray_toList] at this
 refine this.mono ?_
 rintro e W' ⟨v,rfl,hr,hs,hb,h1,h2,h3⟩
 simp only [VR,Zg] at hr
 subst hr
 exact⟨rfl,h1,h2,h3,hs,hb⟩
end
end Go.PW
namespace Go.PW
open Go.RowKit
theorem Z0z{n:Int}(h0 : -9223372036854775808<=n)(h1:n < 9223372036854775808):IntKind.wrap .i64 n=n:=by
 simp only [IntKind.wrap,IntKind.bits,IntKind.signed,Bool.true_and,ge_iff_le,decide_eq_true_eq]
 rcases Int.lt_or_le n 0 with h | h
 .have:n % (2 ^ 64:Int)=n+2 ^ 64:=by
   rw [<- Int.add_emod_right]
   exact Int.emod_eq_of_lt (by omega) (by omega)
  rw [this,if_pos (by omega)]
  omega
 .have:n % (2 ^ 64:Int)=n:=Int.emod_eq_of_lt h (by omega)
  rw [this,if_neg (by omega)]
theorem Z00{α:Type}{k:Nat}{a b:List α}(h:(a.length+b.length)*k<=140737488355328)(hk:0 < k):app? k a b=some (a++b):=by
 have:a.length+b.length<=(a.length+b.length)*k:=Nat.le_mul_of_pos_right _ hk
 unfold app?
 rw [if_pos ⟨h,by omega⟩]
section
variable {P:Program}
theorem Zez{t:TypeId}{k:IntKind}(hu:P.underlying t=some (.int k))(d:Nat)(ts:List Za)(h:WT P d t ts):∃ n,ts=cI k n/\(k.min<=n/\n<=k.max):=by
 cases d with
 | zero=>cases h
 | succ d=>
  simp only [WT,hu] at h
  obtain⟨n,rfl,h⟩:=h
  simp only [Lit.wf,Bool.and_eq_true,decide_eq_true_eq] at h
  exact⟨n,rfl,h⟩
def OkL{α:Type}(k:Nat)(ok:α->Prop)(xs:List α):Prop:=xs.length*k<=reachBytes/\∀ x,x∈xs->ok x
theorem Zps{α:Type}{f:α->List Za}{ok:α->Prop}{t e k:Nat}(hu:P.underlying t=some (.slice e))(hb:P.bytesOf e=k)(he:∀ d ts,WT P d e ts->∃ x,ts=f x/\ok x)(d:Nat)(ts:List Za)(h:WT P d t ts):∃ xs,ts=cL f xs/\OkL k ok xs:=by
 cases d with
 | zero=>cases h
 | succ d=>
  simp only [WT,hu] at h
  obtain⟨es,rfl,⟨_,h1⟩,h2⟩:=h
  have:∀ es:List (List Za),(∀ el∈es,WT P d e el)->∃ xs:List α,es=List.map f xs/\∀ x∈xs,ok x:=by
   intro es
   induction es with
   | nil=>intro _;exact⟨[],rfl,fun _ h=>by cases h⟩
   | cons el es ih=>
    intro h
    obtain⟨x,rfl,hx⟩:=he d el (h el (by simp))
    obtain⟨xs,rfl,hxs⟩:=ih (fun el' hel=>h el' (List.mem_cons_of_mem _ hel))
    exact⟨x::xs,rfl,fun y hy=>by
     rcases List.mem_cons.1 hy with e | e
     .subst e;exact hx
     .exact hxs y e⟩
  obtain⟨xs,rfl,hxs⟩:=this es h2
  exact⟨xs,rfl,by rw [List.length_map,hb] at h1;exact h1,hxs⟩
theorem Zsj{H:Type}{enc:TypeId×Value->H}{w:World}{α:Type}{f:α->List Za}{ok:α->Prop}{base D t:Nat}{v:Value}{d:DataW H}{p:List MemPlace}(he:∀ d ts,WT P d t ts->∃ x,ts=f x/\ok x)(hp:Zey P D t=true)
 (hval:Value.okWide P w .any base t v) (hd:DataW.Trod enc P w 0 (fun _=>true) true t v d p) (hwt:∀ n∈d.weights P t,n<=reachBytes):∃ x,ok x/\VR (Rd w) (Zkj P t (f x)) v:=by
 obtain⟨ts,hv,hw⟩:=Zyy hval hd hp hwt
 obtain⟨x,rfl,hx⟩:=he D ts hw
 exact⟨x,hx,hv⟩
theorem Zw0{t:Nat}{fs:Array Field}(hu:P.underlying t=some (.struct fs))(ts:List Za):Zkj P t ts = .agg (ts.map .t):=by simp [Zkj,hu]
theorem Zyz{α:Type}{f:α->List Za}{t e:Nat}(hu:P.underlying t=some (.slice e))(xs:List α):Zkj P t (cL f xs) = .t (.sl (List.map f xs)):=by simp [Zkj,hu,Zyx,cL]
end
theorem Zop{H:Type}{P:Program}{ts:List TypeId}{ds:List (DataW H)}(h:(DataW.weightsEach P ts ds).all (· <= reachBytes)=true){i t:Nat}{d:DataW H}(ht:ts[i]?=some t)(hd:ds[i]?=some d):∀ n∈d.weights P t,n<=reachBytes:=by
 intro n hn
 have:=List.all_eq_true.1 h n (Zf2 ht hd hn)
 simpa using this
end Go.PW
namespace Go.PW
theorem Zz8(a b:Int):(a==b)=decide (a=b):=rfl
theorem Zz9(a b:Int):(a != b)=decide (a≠b):=by
 show (!(decide (a=b)))=_
 by_cases h:a=b<;>simp [h]
theorem Zq2{S R β:Type}{step:S->Option (S ⊕ R)}{st:Nat->β->S}{Q:Nat->β->Prop}{post:R->Prop}(n:Nat)
 (h:∀ i b,i < n->Q i b->(∃ b',step (st i b)=some (.inl (st (i+1) b'))/\Q (i+1) b')\/∃ r,step (st i b)=some (.inr r)/\post r)
 (hend:∀ b,Q n b->∃ r,Zf1 step (st n b)=some r/\post r):∀ b,Q 0 b->∃ r,Zf1 step (st 0 b)=some r/\post r:=by
 have key:∀ d i b,i+d=n->Q i b->∃ r,Zf1 step (st i b)=some r/\post r:=by
  intro d
  induction d with
  | zero => intro i b hi hq; obtain rfl : i = n := by omega
            exact hend b hq
  | succ d ih=>
   intro i b hi hq
   rcases h i b (by omega) hq with ⟨b',h1,h2⟩ | ⟨r,h1,h2⟩
   .rw [Zsg h1];exact ih (i+1) b' (by omega) h2
   .exact⟨r,Znf h1,h2⟩
 exact fun b hq=>key n 0 b (by omega) hq
section
variable {S:Type} {step:S->Option (S ⊕ Bool)} {b r:Bool} {k:Option (S ⊕ Bool)}
end
end Go.PW
namespace Go.PW
def Tot{α:Type}(o:Option α)(Q:α->Prop):Prop:=∃ a,o=some a/\Q a
theorem Tot.mono{α:Type}{o:Option α}{P Q:α->Prop}(h:Tot o P)(f:∀ a,P a->Q a):Tot o Q:=by
 obtain⟨a,h1,h2⟩:=h
 exact⟨a,h1,f a h2⟩
theorem tB{α β:Type}{o:Option α}{k:α->Option β}{P:α->Prop}{Q:β->Prop}(h:Tot o P)(f:∀ a,P a->Tot (k a) Q):Tot (o.bind k) Q:=by
 obtain⟨a,rfl,h2⟩:=h
 exact f a h2
theorem tF{α:Type}{b:Bool}{x y:Option α}{Q:α->Prop}(h:b=true->Tot x Q)(g:b=false->Tot y Q):Tot (bif b then x else y) Q:=by
 cases b
 .exact g rfl
 .exact h rfl
theorem Tot.eq{α:Type}{o:Option α}{a:α}(h:Tot o (fun x=>x=a)):o=some a:=by
 obtain⟨x,h1,rfl⟩:=h
 exact h1
theorem tI{α:Type}{xs:List α}{i:Int}(h0:0<=i)(h1:i < xs.length):Tot (idx? xs i) fun x=>x∈xs/\xs[i.toNat]?=some x:=by
 have h:=List.getElem?_eq_getElem (show i.toNat < xs.length by omega)
 refine⟨xs[i.toNat],?_,List.getElem_mem _,h⟩
 unfold idx?
 rw [if_pos h0,h]
theorem tA{α:Type}{k:Nat}{a b:List α}(h:(a.length+b.length)*k<=140737488355328)(hk:0 < k):Tot (app? k a b) fun z=>z=a++b:=⟨_,Z00 h hk,rfl⟩
theorem Tot.some{α:Type}{o:Option α}{Q:α->Prop}(h:Tot o Q):∃ a,o=some a:=by
 obtain⟨a,h,_⟩:=h
 exact⟨a,h⟩
theorem Tot.stop{S R:Type}{step:S->Option (S ⊕ R)}{s:S}{r:R}{Q:R->Prop}(h:step s = .some (.inr r))(hq:Q r):Tot (Zf1 step s) Q:=⟨r,Znf h,hq⟩
abbrev M6:=Nat×Nat×Nat×Nat×Nat×Nat
def lt6(x y:M6):Prop:=x.1 < y.1\/(x.1=y.1/\(x.2.1 < y.2.1\/(x.2.1=y.2.1/\(x.2.2.1 < y.2.2.1\/(x.2.2.1=y.2.2.1/\(x.2.2.2.1 < y.2.2.2.1\/(x.2.2.2.1=y.2.2.2.1/\(x.2.2.2.2.1 < y.2.2.2.2.1\/(x.2.2.2.2.1=y.2.2.2.2.1/\x.2.2.2.2.2 < y.2.2.2.2.2)))))))))
def le6(x y:M6):Prop:=lt6 x y\/(x.1=y.1/\x.2.1=y.2.1/\x.2.2.1=y.2.2.1/\x.2.2.2.1=y.2.2.2.1/\x.2.2.2.2.1=y.2.2.2.2.1/\x.2.2.2.2.2=y.2.2.2.2.2)
theorem Z01{x y z:M6}(h:lt6 x y)(g:le6 y z):lt6 x z:=by
 unfold le6 lt6 at g
 unfold lt6 at *
 omega
theorem Z02:WellFounded lt6:=by
 have h:WellFounded (Prod.Lex (fun a b:Nat=>a < b) (Prod.Lex (fun a b:Nat=>a < b) (Prod.Lex (fun a b:Nat=>a < b) (Prod.Lex (fun a b:Nat=>a < b) (Prod.Lex (fun a b:Nat=>a < b) (fun a b:Nat=>a < b)))))):=
  (Prod.lex ⟨_,Nat.lt_wfRel.wf⟩ (Prod.lex ⟨_,Nat.lt_wfRel.wf⟩ (Prod.lex ⟨_,Nat.lt_wfRel.wf⟩ (Prod.lex ⟨_,Nat.lt_wfRel.wf⟩ (Prod.lex ⟨_,Nat.lt_wfRel.wf⟩ ⟨_,Nat.lt_wfRel.wf⟩))))).wf
 refine Subrelation.wf ?_ h
 rintro ⟨a1,a2,a3,a4,a5,a6⟩ ⟨b1,b2,b3,b4,b5,b6⟩ h
 unfold lt6 at h
 simp only at h
 rcases h with h | ⟨rfl,h | ⟨rfl,h | ⟨rfl,h | ⟨rfl,h | ⟨rfl,h⟩⟩⟩⟩⟩
 .exact .left _ _ h
 .exact .right _ (.left _ _ h)
 .exact .right _ (.right _ (.left _ _ h))
 .exact .right _ (.right _ (.right _ (.left _ _ h)))
 .exact .right _ (.right _ (.right _ (.right _ (.left _ _ h))))
 .exact .right _ (.right _ (.right _ (.right _ (.right _ h))))
def Nx{S R:Type}(Inv:S->Prop)(μ:S->M6)(m:M6)(post:R->Prop):S ⊕ R->Prop
 | .inl s=>Inv s/\lt6 (μ s) m
 | .inr r=>post r
section
variable {S R:Type} {Inv:S->Prop} {μ:S->M6} {m m':M6} {post:R->Prop}
theorem tL{s:S}(h:Inv s)(hm:lt6 (μ s) m):Tot (.some (.inl s)) (Nx Inv μ m post):=⟨_,rfl,h,hm⟩
theorem tR{r:R}(h:post r):Tot (.some (.inr r)) (Nx Inv μ m post):=⟨_,rfl,h⟩
theorem Tot.join{o:Option (S ⊕ R)}(h:Tot o (Nx Inv μ m' post))(hm:le6 m' m):Tot o (Nx Inv μ m post):=h.mono fun y hy=>by
 cases y with
 | inl s=>exact⟨hy.1,Z01 hy.2 hm⟩
 | inr r=>exact hy
theorem Tot.fin{step:S->Option (S ⊕ R)}{o:Option (S ⊕ R)}(h0:Tot o (Nx Inv μ m post))(hs:∀ s,Inv s->Tot (step s) (Nx Inv μ (μ s) post)):Tot (o.bind (Zyu step)) post:=by
 have key:∀ x:M6,∀ s,μ s=x->Inv s->Tot (Zf1 step s) post:=fun x=>Z02.induction (C:=fun x=>∀ s,μ s=x->Inv s->Tot (Zf1 step s) post) x (fun x ih s hx hi=>by
  subst hx
  obtain⟨y,h1,h2⟩:=hs s hi
  cases y with
  | inl s'=>rw [Zsg h1];exact ih _ h2.2 s' rfl h2.1
  | inr r=>exact⟨r,Znf h1,h2⟩)
 obtain⟨y,rfl,h2⟩:=h0
 cases y with
 | inl s=>exact key _ s rfl h2.1
 | inr r=>exact⟨r,rfl,h2⟩
end
theorem tD{α:Type}{p:Prop} [Decidable p] {x y:Option α} {Q:α->Prop} (h:p->Tot x Q) (g:¬ p->Tot y Q):Tot (bif decide p then x else y) Q:=by
 by_cases hp:p
 .rw [decide_eq_true hp];exact h hp
 .rw [decide_eq_false hp];exact g hp
theorem tE{α:Type}{a b:Int}{x y:Option α}{Q:α->Prop}(h:a=b->Tot x Q)(g:a≠b->Tot y Q):Tot (bif (a==b) then x else y) Q:=by
 rw [Zz8];exact tD h g
theorem tN{α:Type}{a b:Int}{x y:Option α}{Q:α->Prop}(h:a≠b->Tot x Q)(g:a=b->Tot y Q):Tot (bif (a != b) then x else y) Q:=by
 rw [Zz9];exact tD h (fun e=>g (by omega))
theorem tO{α:Type}{b:Bool}{x y:Option α}{Q:α->Prop}(h:b=false->Tot x Q)(g:b=true->Tot y Q):Tot (bif !b then x else y) Q:=by
 cases b
 .exact h rfl
 .exact g rfl
theorem tK{p:Prop} [Decidable p] (h:p):Tot (ok? (decide p)) fun _=>p:=⟨(),by rw [decide_eq_true h];rfl,h⟩
theorem Tot.slice{α:Type}{xs:List α}{l h:Int}(h0:0<=l)(h1:l<=h)(h2:h<=xs.length):Tot (slice? xs l h) fun z=>(z.length:Int)=h - l/\(∀ x,x∈z->x∈xs)/\z=(xs.take h.toNat).drop l.toNat:=by
 refine⟨(xs.take h.toNat).drop l.toNat,?_,?_,fun x hx=>List.mem_of_mem_take (List.mem_of_mem_drop hx),rfl⟩
 .unfold slice?;rw [if_pos ⟨h0,h1,h2⟩]
 .rw [List.length_drop,List.length_take];omega
theorem Tot.make{α:Type}{b:Nat}{z:α}{m c:Int}(h:0<=m/\m<=c/\(b:Int)*c<=281474976710656/\c<=9223372036854775807):Tot (make? b z m c) fun x=>(x.length:Int)=m/\∀ y,y∈x->y=z:=by
 refine⟨List.replicate m.toNat z,?_,?_,fun y hy=>(List.mem_replicate.1 hy).2⟩
 .unfold make?;rw [if_pos h]
 .rw [List.length_replicate];omega
theorem Tot.copy{α:Type}{x y:List α}(h:y.length<=x.length):Tot (copy? x y) fun z=>z.length=x.length/\(∀ e,e∈z->e∈y\/e∈x)/\z=y++x.drop y.length:=by
 refine⟨y++x.drop y.length,?_,?_,fun e he=>?_,rfl⟩
 .unfold copy?;rw [if_pos h]
 .rw [List.length_append,List.length_drop];omega
 .rcases List.mem_append.1 he with h | h
  .exact .inl h
  .exact .inr (List.mem_of_mem_drop h)
theorem Tot.set{α:Type}{z:List α}{i:Int}{x:α}(h0:0<=i)(h1:i < z.length):Tot (set? z i x) fun y=>y.length=z.length/\(∀ e,e∈y->e=x\/e∈z)/\y=z.set i.toNat x:=by
 refine⟨z.set i.toNat x,?_,List.length_set ..,fun e he=>?_,rfl⟩
 .unfold set?;rw [if_pos ⟨h0,by omega⟩]
 .rcases List.mem_or_eq_of_mem_set he with h | h
  .exact .inr h
  .exact .inl h
theorem Tot.bytes{s:List UInt8}(h:s.length<=9223372036854775807):Tot (bytes? s) fun z=>z.length=s.length:=by
 unfold bytes?
 rw [if_pos h]
 exact⟨_,rfl,List.length_map ..⟩
theorem Z06(n:Int):(-9223372036854775808<=n->n < 9223372036854775808->IntKind.wrap .i64 n=n):=fun h1 h2=>Z0z h1 h2
theorem Z07(n:Int) : -9223372036854775808<=IntKind.wrap .i64 n/\IntKind.wrap .i64 n < 9223372036854775808:=by
 simp only [IntKind.wrap,IntKind.bits,IntKind.signed,Bool.true_and,ge_iff_le,decide_eq_true_eq]
 have h1:=Int.emod_nonneg n (show (2 ^ 64:Int)≠0 by decide)
 have h2:=Int.emod_lt_of_pos n (show (0:Int) < 2 ^ 64 by decide)
 split<;>omega
def SzL{α:Type}(k:Nat)(P:α->Prop)(xs:List α):Prop:=xs.length*k<=140737488351232/\∀ x,x∈xs->P x
def SzS(s:List UInt8):Prop:=s.length<=281474976710656
def SzN(s:List UInt8):Prop:=s.length<=100
theorem SzN.s{s:List UInt8}(h:SzN s):SzS s:=Nat.le_trans h (by decide)
theorem shl_ne'{i:Int}(h0:0<=i)(h1:i < 6):Z1c .i64 1 i≠0:=by
 have:i=0\/i=1\/i=2\/i=3\/i=4\/i=5:=by omega
 rcases this with h | h | h | h | h | h<;>subst h<;>decide
theorem Zsk{α:Type}{k:Nat}{P Q:α->Prop}{xs:List α}(h:OkL k P xs)(f:∀ x,P x->Q x):SzL k Q xs:=⟨h.1,fun x hx=>f x (h.2 x hx)⟩
theorem mem_cons'{α:Type}{P:α->Prop}{a:α}{l:List α}(h:P a)(g:∀ x,x∈l->P x):∀ x,x∈a::l->P x:=fun x hx=>by
 rcases List.mem_cons.1 hx with h' | h'
 .rw [h'];exact h
 .exact g x h'
theorem SzL.nil{α:Type}{k:Nat}{P:α->Prop}:SzL k P ([]:List α):=⟨by simp,fun x h=>by cases h⟩
theorem SzL.app{α:Type}{k:Nat}{P:α->Prop}{a b z:List α}(h:z=a++b)(hl:z.length*k<=140737488351232)(ha:∀ x,x∈a->P x)(hb:∀ x,x∈b->P x):SzL k P z:=⟨hl,fun x hx=>by
 subst h
 rcases List.mem_append.1 hx with h | h
 .exact ha x h
 .exact hb x h⟩
end Go.PW
namespace Go.PW
theorem Z08{α:Type}{l:List α}{v w:Int}{k:Nat}{x y:α}(h0:0<=v)(hw:w=v+1)(hk:(k:Int) < w)(hy:l[k]?=some y)(hx:l[v.toNat]?=some x):(k:Int) < v\/y=x:=by
 by_cases h:(k:Int) < v
 .exact .inl h
 .right
  have:k=v.toNat:=by omega
  subst this
  exact Option.some.inj (hy.symm.trans hx)
def DI{α:Type}(b v:List α)(p:α->Bool)(i j:Int):Prop:=v.length=b.length/\0<=i/\i<=j/\v.take i.toNat=(b.take j.toNat).filter p/\v.drop j.toNat=b.drop j.toNat
theorem DI.at{α:Type}{b v:List α}{p:α->Bool}{i j:Int}{x:α}(h:DI b v p i j)(hx:v[j.toNat]?=some x):b[j.toNat]?=some x:=by
 have:(v.drop j.toNat)[0]?=(b.drop j.toNat)[0]?:=by rw [h.2.2.2.2]
 simpa [List.getElem?_drop,hx] using this.symm
theorem Zsl{α:Type}{l:List α}{P:α->Prop}{v w:Int}{x:α}(hx:l[v.toNat]?=some x)(h:∀ (k:Nat) y,(k:Int) < v->l[k]?=some y->P y)(h0:0<=v)(hp:P x)(hw:w=v+1):∀ (k:Nat) y,(k:Int) < w->l[k]?=some y->P y:=fun k y hk hy=>by
 rcases Z08 h0 hw hk hy hx with hk | rfl
 .exact h k y hk hy
 .exact hp
theorem Tot.we{α:Type}{o:Option α}{P:α->Prop}(h:Tot o P):Tot o fun a=>P a/\o = .some a:=by
 obtain⟨a,h1,h2⟩:=h
 exact⟨a,h1,h2,h1⟩
end Go.PW
namespace Go.PW
open Go.RowKit
inductive LT (S R:Type):Type 1 where
 | ret (r:R) (ds:List Orc)
 | go (s:S) (ds:List Orc)
 | jn (k:Nat) (s:S) (ds:List Orc) (t:LT S R)
 | br (b:Bool) (t e:LT S R)
 | cs (b:Bool) (t e:LT S R)
 | op {α:Type} (o:Option α) (xs:α->List Orc) (fs gs:α->List Prop) (h:∀ x,o=some x->Zo (fs x)/\Zo (gs x)) (k:α->LT S R)
 | ev (xs:List Orc) (fs:List Prop) (h:Zo fs) (t:LT S R)
 | us (ns:List Nat) (t:LT S R)
 | kn (ns:List Nat) (t:LT S R)
 | kg (n:Nat) (t:LT S R)
 | no
def LT.den{S R:Type}:LT S R->Option (S ⊕ R)
 | .ret r _=>some (.inr r)
 | .go s _=>some (.inl s)
 | .jn _ _ _ t=>t.den
 | .br b t e=>bif b then t.den else e.den
 | .cs b t e=>bif b then t.den else e.den
 | .op o _ _ _ _ k=>o.bind fun x=>(k x).den
 | .ev _ _ _ t=>t.den
 | .us _ t=>t.den
 | .kn _ t=>t.den
 | .kg _ t=>t.den
 | .no=>none
inductive E:Type 2 where
 | done
 | fail
 | eq {α:Type} (a b:α) (r:E)
 | teq {α:Type 1} (a b:α) (r:E)
 | two (x y:E)
 | all {α:Type} (k:α->E)
inductive XE:Type 2 where
 | done
 | bad (b:Bool)
 | eq {α:Type} (a:α) (r:XE)
 | teq {α:Type 1} (a:α) (r:XE)
 | two (x y:XE)
 | all {α:Type} (k:α->XE)
noncomputable def E.l(e:E):XE:=E.rec (motive:=fun _=>XE) .done (.bad true) (fun a _ _ r => .eq a r) (fun a _ _ r => .teq a r) (fun _ _ x y => .two x y) (fun _ k => .all k) e
noncomputable def E.r(e:E):XE:=E.rec (motive:=fun _=>XE) .done (.bad false) (fun _ b _ r => .eq b r) (fun _ b _ r => .teq b r) (fun _ _ x y => .two x y) (fun _ k => .all k) e
def E.ok:E->Prop
 | .done=>True
 | .fail=>False
 | .eq a b r=>a=b/\r.ok
 | .teq a b r=>a=b/\r.ok
 | .two x y=>x.ok/\y.ok
 | .all k=>∀ x,(k x).ok
theorem E.sound:∀ e:E,e.l=e.r->e.ok
 | .done,_=>trivial
 | .fail,h=>by cases h
 | .eq a b r,h=>by
  have h:XE.eq a r.l=XE.eq b r.r:=h
  simp only [XE.eq.injEq,heq_eq_eq,true_and] at h
  exact⟨h.1,E.sound r h.2⟩
 | .teq a b r,h=>by
  have h:XE.teq a r.l=XE.teq b r.r:=h
  simp only [XE.teq.injEq,heq_eq_eq,true_and] at h
  exact⟨h.1,E.sound r h.2⟩
 | .two x y,h=>by
  have h:XE.two x.l y.l=XE.two x.r y.r:=h
  simp only [XE.two.injEq] at h
  exact⟨E.sound x h.1,E.sound y h.2⟩
 | .all k,h=>by
  have h:XE.all (fun x=>(k x).l)=XE.all (fun x=>(k x).r):=h
  simp only [XE.all.injEq,heq_eq_eq,true_and] at h
  exact fun x=>E.sound (k x) (congrFun h x)
def cds:List Prop->List Prop->(List Prop->E)->E
 | [],fs,k=>k fs
 | p::ps,f::fs,k => .eq p f (cds ps fs k)
 | _::_,[],_ => .fail
theorem Zhf:∀ {ps fs:List Prop} {k:List Prop->E},(cds ps fs k).ok->Zo fs->∃ fs',Zo ps/\Zo fs'/\(k fs').ok
 | [],fs,k,h,hf=>⟨fs,trivial,hf,h⟩
 | p::ps,f::fs,k,h,hf=>by
  obtain⟨rfl,h⟩:=h
  obtain⟨fs',h1,h2,h3⟩:=Zhf h hf.2
  exact⟨fs',⟨hf.1,h1⟩,h2,h3⟩
 | _::_,[],_,h,_=>h.elim
inductive Sg where
 | cnd (e:Bool) (a b:Code) (K:List Kf)
 | at_ (g:Cfg)
abbrev Esg:=Option (List Prop×List Orc×Sg×St)
def Zsm(ps:List Prop):Esg->Esg
 | some (qs,xs,g,st)=>some (ps++qs,xs,g,st)
 | none=>none
def Zdz(P:Program)(T:TS):Nat->Option Code->List Kf->List Orc->Option Nat->St->Esg
 | 0,_,_,_,_,_=>none
 | n+1,none,K,xs,sp,st=>
  match K with
  | []=>some ([],xs,.at_ (.done .normal),st)
  | .seq c::K=>
   match sp,xs with
   | some 0,[]=>some ([],xs,.at_ (.code c K),st)
   | some (k+1),[]=>Zdz P T n (some c) K xs (some k) st
   | sp,xs=>Zdz P T n (some c) K xs sp st
  | .blk _::K=>Zdz P T n none K xs sp st
  | .scp::K=>Zdz P T n none K xs sp st
  | .loop c::K=>some ([],xs,.at_ (.head c K),st)
 | n+1,some c,K,xs,sp,st=>
  match c with
  | .skip=>Zdz P T n none K xs sp st
  | .label _=>Zdz P T n none K xs sp st
  | .region id ops draw=>
   match Znd P T id ops draw xs st with
   | some (ps,xs',st')=>Zsm ps (Zdz P T n none K xs' sp st')
   | none=>none
  | .seq a b=>Zdz P T n (some a) (.seq b::K) xs sp st
  | .cond (.tmp t) a b=>
   match get st.tm t with
   | some (.t (.bool e))=>some ([],xs,.cnd e a b K,st)
   | _=>none
  | .cond (.const (.bool v)) a b=>Zdz P T n (some (bif v then a else b)) K xs sp st
  | .block id body=>Zdz P T n (some body) (.blk id::K) xs sp st
  | .loop body=>some ([],xs,.at_ (.head body K),st)
  | .scope body=>Zdz P T n (some body) (.scp::K) xs sp st
  | .exit id=>
   match Zhc id K with
   | some K'=>Zdz P T n none K' xs sp st
   | none=>none
  | .ret=>some ([],xs,.at_ (.done .ret),st)
  | _=>none
def seg(P:Program)(T:TS)(g:Cfg)(xs:List Orc)(sp:Option Nat)(st:St):Esg:=
 match g with
 | .code c K=>Zdz P T 400 (some c) K xs sp st
 | .head c K=>Zdz P T 400 (some c) (.loop c::K) xs sp st
 | .done _=>none
section
variable {P:Program} {T:TS} {R:Exit->St->Prop}
theorem Zvf{qs ps:List Prop}{xs:List Orc}{r:Esg}{g:Sg}{st:St}(h:Zsm qs r=some (ps,xs,g,st)):∃ ps',ps=qs++ps'/\r=some (ps',xs,g,st):=by
 unfold Zsm at h
 split at h
 .cases h;exact⟨_,rfl,rfl⟩
 .cases h
def Sg.holds(P:Program)(R:Exit->St->Prop)(st:St):Sg->Prop
 | .cnd e a b K=>PW P (bif e then a else b) (post P K R) st
 | .at_ g=>g.holds P R st
theorem Zb8(hm:P.follows .mixedOrders=true)(hT:TOK P T):∀ (n:Nat) (oc:Option Code) (K:List Kf) (xs:List Orc) (sp:Option Nat) (st:St) {xs':List Orc} {st':St} {g:Sg} {ps:List Prop},
 Zdz P T n oc K xs sp st=some (ps,xs',g,st')->Zo ps->g.holds P (Zcn R) st' ->
  match oc with
  | some c=>PW P c (post P K (Zcn R)) st
  | none=>post P K (Zcn R) .normal st
 | 0,oc,K,xs,sp,st,xs',st',g,ps,h,_,_=>by simp [Zdz] at h
 | n+1,none,K,xs,sp,st,xs',st',g,ps,h,hc,hg=>by
  simp only [Zdz] at h
  simp only
  split at h
  .cases h;exact hg
  .simp only [post,Zic]
   split at h
   .cases h;exact hg
   .exact Zb8 hm hT n (some _) _ _ _ _ h hc hg
   .exact Zb8 hm hT n (some _) _ _ _ _ h hc hg
  .simp only [post,Zh7]
   exact Zb8 hm hT n none _ _ _ _ h hc hg
  .simp only [post,Zo6]
   exact Zb8 hm hT n none _ _ _ _ h hc hg
  .cases h;simp only [post,Zic];exact hg
 | n+1,some c,K,xs,sp,st,xs',st',g,ps,h,hc,hg=>by
  simp only [Zdz] at h
  simp only
  split at h
  .exact PW.skip (Zb8 hm hT n none _ _ _ _ h hc hg)
  .exact PW.label (Zb8 hm hT n none _ _ _ _ h hc hg)
  .split at h
   .rename_i ps1 xs1 st1 h1
    obtain⟨ps2,rfl,h2⟩:=Zvf h
    obtain⟨c1,c2⟩:=Zf.1 hc
    exact Ztl hm hT h1 c1 (Zb8 hm hT n none _ _ _ _ h2 c2 hg)
   .cases h
  .exact PW.seq (by
    have:=Zb8 hm hT n (some _) _ _ _ _ h hc hg
    simpa only [post] using this)
  .split at h
   .rename_i e he
    cases h
    have hg:PW P (bif e then _ else _) (post P K (Zcn R)) st:=hg
    refine PW.cond rfl he (fun hb=>?_) (fun hb=>?_)
    .subst hb;exact hg
    .subst hb;exact hg
   .cases h
  .rename_i v a b
   have:=Zb8 hm hT n (some _) _ _ _ _ h hc hg
   exact PW.condConst (fun hb=>by subst hb;exact this) (fun hb=>by subst hb;exact this)
  .exact PW.block (by
    have:=Zb8 hm hT n (some _) _ _ _ _ h hc hg
    simpa only [post] using this)
  .cases h;exact PW.loopHead hg
  .exact PW.scope (by
    have:=Zb8 hm hT n (some _) _ _ _ _ h hc hg
    simpa only [post] using this)
  .split at h
   .rename_i K' hu
    exact PW.exit (Zhd hu (Zb8 hm hT n none _ _ _ _ h hc hg))
   .cases h
  .cases h
   obtain⟨s2,hw2,hr⟩:=hg
   exact PW.ret (Zlj ⟨s2,hw2,hr⟩)
  .cases h
theorem Zoq(hm:P.follows .mixedOrders=true)(hT:TOK P T){g:Cfg}{xs xs':List Orc}{sp:Option Nat}{st st':St}{z:Sg}{ps:List Prop}(h:seg P T g xs sp st=some (ps,xs',z,st'))(hc:Zo ps)(hg:z.holds P (Zcn R) st'):g.holds P (Zcn R) st:=by
 unfold seg at h
 split at h
 .exact Zb8 hm hT _ (some _) _ _ _ _ h hc hg
 .have:=Zb8 hm hT _ (some _) _ _ _ _ h hc hg
  exact PWL.round (by simpa only [post] using this)
 .cases h
theorem Cfg.weaken{g:Cfg}{st st':St}(hw:Wk st st')(h:g.holds P (Zcn R) st'):g.holds P (Zcn R) st:=by
 cases g with
 | code c K=>exact PW.weaken hw h
 | head c K=>exact Zne hw h
 | done e=>obtain⟨s,h1,h2⟩:=h;exact⟨s,hw.trans h1,h2⟩
end
structure LF (S R:Type) where
 f:Nat
 rs:List RV
 own:Bool
 dirs:S->List Nat
 stf:S->PW.St
 sr:R->List (Nat×Blk)
 res:R->PV
 body:S->LT S R
section
variable {S R:Type}
def Zll(P:Program)(f:Nat):Code:=((P.funcs[f]?).bind (·.body)).getD .skip
def LF.cfg(F:LF S R)(P:Program)(s:S):Cfg:=(nav (F.dirs s) (Zll P F.f) []).getD (.done .normal)
noncomputable def LF.step(F:LF S R)(s:S):Option (S ⊕ R):=(F.body s).den
noncomputable def LF.run(F:LF S R)(t:LT S R):Option R:=t.den.bind (Zyu F.step)
def Zkk{α:Type}:List (Nat×α)->List Nat
 | []=>[]
 | (k,_)::r=>k::Zkk r
def kgo(P:Program)(T:TS)(kn:List (Bool×Bool)):List Nat->Cfg->List Orc->List Prop->PW.St->(Cfg->List Orc->List Prop->PW.St->E)->E
 | [],g,xs,fs,st,k=>k g xs fs st
 | n::ns,g,xs,fs,st,k=>
  match seg P T g xs none st with
  | some (ps,xs',.cnd c a b K,st')=>cds ps fs fun fs'=>
   match n with
   | 0=>bif c then kgo P T kn ns (.code a K) xs' fs' st' k else kgo P T kn ns (.code b K) xs' fs' st' k
   | i+1=>
    match kn[i]? with
    | some (d,v) => .eq c d (bif v then kgo P T kn ns (.code a K) xs' fs' st' k else kgo P T kn ns (.code b K) xs' fs' st' k)
    | none => .fail
  | _ => .fail
def Zvg(P:Program)(T:TS)(sp:Option Nat)(g:Cfg)(xs:List Orc)(fs:List Prop)(st:PW.St)(ds:List Orc)(g1:Cfg)(st1:PW.St)(rest:E):E:=
 match seg P T g xs sp st with
 | some (ps,[],.at_ g',st')=>cds ps fs fun fs'=>
  match Zdj st'.tm (Zkk st1.tm) with
  | some tm=>
   match Zz ds ⟨st'.n,tm,st'.σ⟩ with
   | some (qs,[],st2)=>cds qs fs' fun _=>
    match Zdj st2.tm (Zkk st1.tm),Zdj st2.σ (Zkk st1.σ) with
    | some tm2,some σ => .eq (g',st2.n,tm2,σ) (g1,st1.n,st1.tm,st1.σ) rest
    | _,_ => .fail
   | _ => .fail
  | none => .fail
 | _ => .fail
def Zvh:Exit->Bool
 | .ret=>true
 | .normal=>true
 | _=>false
def Zy0(P:Program)(T:TS)(F:LF S R)(g:Cfg)(xs:List Orc)(fs:List Prop)(st:PW.St)(ds:List Orc)(r:R):E:=
 match seg P T g xs none st with
 | some (ps,[],.at_ (.done e),st')=>bif Zvh e then cds ps fs fun fs'=>
  match Zz ds st' with
  | some (qs,[],st2)=>cds qs fs' fun fs2=>
   bif F.own then
    match Zsf F.rs (Zkk (F.sr r)) st2 with
    | some (σ,p) => .eq (σ,p) (F.sr r,F.res r) .done
    | none => .fail
   else
    match Zve F.rs st2 with
    | some (q2,p)=>cds q2 fs2 fun _ => .eq (([]:List (Nat×Blk)),p) (F.sr r,F.res r) .done
    | none => .fail
  | _ => .fail
  else .fail
 | _ => .fail
def brE(P:Program)(T:TS)(g:Cfg)(xs:List Orc)(fs:List Prop)(st:PW.St)(b:Bool)(x y:Cfg->List Orc->List Prop->PW.St->E):E:=
 match seg P T g xs none st with
 | some (ps,xs',.cnd c A B K,st')=>cds ps fs fun fs' => .eq c b (.two (x (.code A K) xs' fs' st') (y (.code B K) xs' fs' st'))
 | _ => .fail
structure Kn where
 bs:List (Bool×Bool)
 gs:List Prop
structure Kn.OK (k:Kn):Prop where
 b:∀ p∈k.bs,p.1=p.2
 g:∀ p∈k.gs,p
theorem Zsn:∀ {ps:List Prop},Zo ps->∀ p∈ps,p
 | p::ps,h,q,hq=>by
  rcases List.mem_cons.1 hq with rfl | hq
  .exact h.1
  .exact Zsn h.2 q hq
def Zor(gs:List Prop):List Nat->Option (List Prop)
 | []=>some []
 | n::ns=>
  match gs[n]?,Zor gs ns with
  | some p,some ps=>some (p::ps)
  | _,_=>none
theorem Zso{gs:List Prop}(h:∀ p∈gs,p):∀ {ns:List Nat} {ps:List Prop},Zor gs ns=some ps->Zo ps
 | [],ps,hp=>by cases hp;trivial
 | n::ns,ps,hp=>by
  simp only [Zor] at hp
  split at hp
  .rename_i p qs h1 h2
   cases hp
   exact⟨h p (List.mem_of_getElem? h1),Zso h h2⟩
  .cases hp
theorem Kn.OK.br{k:Kn}(h:k.OK)(b:Bool):(Kn.mk (k.bs++[(b,b)]) k.gs).OK:=⟨fun p hp=>by
 rcases List.mem_append.1 hp with hp | hp
 .exact h.b p hp
 .rw [List.mem_singleton.1 hp],h.g⟩
theorem Kn.OK.op{k:Kn}(h:k.OK){gs:List Prop}(hg:Zo gs):(Kn.mk k.bs (k.gs++gs)).OK:=⟨h.b,fun p hp=>by
 rcases List.mem_append.1 hp with hp | hp
 .exact h.g p hp
 .exact Zsn hg p hp⟩
noncomputable def chk(P:Program)(T:TS)(F:LF S R)(t:LT S R):Cfg->List Orc->List Prop->Kn->PW.St->E:=
 LT.rec (motive:=fun _=>Cfg->List Orc->List Prop->Kn->PW.St->E)
  (fun r ds g xs fs _ st=>Zy0 P T F g xs fs st ds r)
  (fun s ds g xs fs _ st=>Zvg P T none g xs fs st ds (F.cfg P s) (F.stf s) .done)
  (fun k s ds t _ g xs fs _ st=>Zvg P T (some k) g xs fs st ds (F.cfg P s) (F.stf s) (.teq t (F.body s) .done))
  (fun b _ _ x y g xs fs kn st=>brE P T g xs fs st b (fun g xs fs st=>x g xs fs ⟨kn.bs++[(b,true)],kn.gs⟩ st) (fun g xs fs st=>y g xs fs ⟨kn.bs++[(b,false)],kn.gs⟩ st))
  (fun b _ _ x y g xs fs kn st => .two (x g xs fs ⟨kn.bs++[(b,true)],kn.gs⟩ st) (y g xs fs ⟨kn.bs++[(b,false)],kn.gs⟩ st))
  (fun _ X Fs Gs _ _ k g xs fs kn st => .all fun x=>k x g (xs++X x) (fs++Fs x) ⟨kn.bs,kn.gs++Gs x⟩ st)
  (fun X Fs _ _ k g xs fs kn st=>k g (xs++X) (fs++Fs) kn st)
  (fun ns _ k g xs fs kn st=>match Zor kn.gs ns with | some qs=>k g xs (fs++qs) kn st | none => .fail)
  (fun ns _ k g xs fs kn st=>kgo P T kn.bs ns g xs fs st fun g xs fs st=>k g xs fs kn st)
  (fun n _ k g xs fs kn st=>match kn.bs[n]? with | some (d,v)=>k g (xs++[.br v]) (fs++[d=v]) kn st | none => .fail)
  (fun _ _ _ _ _ => .done)
  t
section
variable {P:Program} {T:TS} {Q:Exit->PW.St->Prop}
theorem Zlm(hm:P.follows .mixedOrders=true)(hT:TOK P T){kn:List (Bool×Bool)}(hk:∀ p∈kn,p.1=p.2){k:Cfg->List Orc->List Prop->PW.St->E}(H:∀ g xs fs st,(k g xs fs st).ok->Zo fs->g.holds P (Zcn Q) st) :
 ∀ (ns:List Nat) (g:Cfg) (xs:List Orc) (fs:List Prop) (st:PW.St),(kgo P T kn ns g xs fs st k).ok->Zo fs->g.holds P (Zcn Q) st
 | [],g,xs,fs,st,h,hf=>H g xs fs st h hf
 | n::ns,g,xs,fs,st,h,hf=>by
  simp only [kgo] at h
  split at h
  .rename_i ps xs' c a b K st' hs
   obtain⟨fs',h1,h2,h3⟩:=Zhf h hf
   refine Zoq hm hT hs h1 ?_
   show PW P (bif c then a else b) (post P K (Zcn Q)) st'
   split at h3
   .cases c with
    | true=>exact Zlm hm hT hk H ns _ _ _ _ h3 h2
    | false=>exact Zlm hm hT hk H ns _ _ _ _ h3 h2
   .split at h3
    .rename_i d v hd
     obtain⟨rfl,h3⟩:=h3
     have:c=v:=hk _ (List.mem_of_getElem? hd)
     subst this
     cases c with
     | true=>exact Zlm hm hT hk H ns _ _ _ _ h3 h2
     | false=>exact Zlm hm hT hk H ns _ _ _ _ h3 h2
    .exact h3.elim
  .exact h.elim
theorem Zt7(hm:P.follows .mixedOrders=true)(hT:TOK P T){sp:Option Nat}{g g1:Cfg}{xs:List Orc}{fs:List Prop}{st st1:PW.St}{ds:List Orc}{rest:E}(h:(Zvg P T sp g xs fs st ds g1 st1 rest).ok)(hf:Zo fs):(g1.holds P (Zcn Q) st1->g.holds P (Zcn Q) st)/\rest.ok:=by
 unfold Zvg at h
 split at h
 .rename_i ps g' st' hs
  obtain⟨fs',h1,h2,h3⟩:=Zhf h hf
  split at h3
  .rename_i tm ht
   split at h3
   .rename_i qs st2 hd
    obtain⟨fs2,h4,_,h5⟩:=Zhf h3 h2
    split at h5
    .rename_i tm2 σ ht2 hσ
     obtain⟨h6,h7⟩:=h5
     refine⟨fun hg=>Zoq hm hT hs h1 (show g'.holds P (Zcn Q) st' from ?_),h7⟩
     simp only [Prod.mk.injEq] at h6
     obtain⟨rfl,e1,e2,e3⟩:=h6
     have hp:Zdj st'.σ (Zkk st'.σ)=Zdj st'.σ (Zkk st'.σ):=rfl
     have w1:Wk st' ⟨st'.n,tm,st'.σ⟩:=fun _ _ _ ⟨β,h⟩=>⟨β,h.sub (Nat.le_refl _) (fun i p hp=>⟨Zch ht i p hp,(h.tm i p (Zch ht i p hp)).1⟩) (fun l o ho=>ho)⟩
     have w2:=Z6 _ _ hd h4
     have w3:Wk st2 ⟨st2.n,tm2,σ⟩:=fun _ _ _ ⟨β,h⟩=>⟨β,h.sub (Nat.le_refl _) (fun i p hp=>⟨Zch ht2 i p hp,(h.tm i p (Zch ht2 i p hp)).1⟩) (fun l o ho=>Zch hσ l o ho)⟩
     have e:(⟨st2.n,tm2,σ⟩:PW.St)=st1:=by rw [e1,e2,e3]
     exact Cfg.weaken ((w1.trans w2).trans w3) (e▸hg)
    .exact h5.elim
   .exact h3.elim
  .exact h3.elim
 .exact h.elim
theorem Z0a(hm:P.follows .mixedOrders=true)(hT:TOK P T){F:LF S R}{g:Cfg}{xs:List Orc}{fs:List Prop}{st:PW.St}{ds:List Orc}{r:R}(h:(Zy0 P T F g xs fs st ds r).ok)(hf:Zo fs):g.holds P (Zcn (Zid F.rs (F.sr r) (F.res r))) st:=by
 unfold Zy0 at h
 split at h
 .rename_i ps e st' hs
  have he:Zvh e=true:=by cases hb:Zvh e with | true=>rfl | false=>rw [hb] at h;exact h.elim
  rw [he,cond_true] at h
  have hR:∀ st2,Zn1 F.rs (F.sr r) (F.res r) st2->Zid F.rs (F.sr r) (F.res r) e st2:=fun st2 h=>by
   cases e<;>first | exact h | cases he
  obtain⟨fs',h1,h2,h3⟩:=Zhf h hf
  split at h3
  .rename_i qs st2 hd
   obtain⟨fs2,h4,h6,h5⟩:=Zhf h3 h2
   refine Zoq hm hT hs h1 (show Zcn (Zid F.rs (F.sr r) (F.res r)) e st' from ?_)
   refine⟨st2,Z6 _ _ hd h4,hR st2 ?_⟩
   cases ho:F.own with
   | true=>
    simp only [ho,cond_true] at h5
    split at h5
    .rename_i σ p hr
     have:=Zwv hr
     obtain⟨h7,_⟩:=h5
     simp only [Prod.mk.injEq] at h7
     rw [h7.1,h7.2] at this
     exact this
    .exact h5.elim
   | false=>
    simp only [ho,cond_false] at h5
    split at h5
    .rename_i q2 p hr
     obtain⟨_,h7,_,h8⟩:=Zhf h5 h6
     have:=Zys hr h7
     obtain⟨h9,_⟩:=h8
     simp only [Prod.mk.injEq] at h9
     rw [h9.1,h9.2] at this
     exact this
    .exact h5.elim
  .exact h3.elim
 .exact h.elim
theorem Zw1{ps:List Prop}{p:Prop}(h:Zo ps)(hp:p):Zo (ps++[p]):=Zf.2 ⟨h,hp,trivial⟩
theorem Zw2(hm:P.follows .mixedOrders=true)(hT:TOK P T)(F:LF S R)(J:∀ s,(chk P T F (F.body s) (F.cfg P s) [] [] ⟨[],[]⟩ (F.stf s)).ok){r:R} :
 ∀ (t:LT S R) (g:Cfg) (xs:List Orc) (fs:List Prop) (kn:Kn) (st:PW.St) (y:S ⊕ R),(chk P T F t g xs fs kn st).ok->Zo fs->kn.OK->t.den=some y ->
  Ok P F.rs F.sr F.res (F.cfg P) F.stf r y->g.holds P (Zcn (Zid F.rs (F.sr r) (F.res r))) st:=by
 intro t
 induction t with
 | ret r' ds=>
  intro g xs fs kn st y h hf hk hd hy
  cases hd
  have hy:r'=r:=hy
  subst hy
  exact Z0a hm hT h hf
 | go s ds=>
  intro g xs fs kn st y h hf hk hd hy
  cases hd
  exact (Zt7 hm hT h hf).1 hy
 | jn k s ds t ih=>
  intro g xs fs kn st y h hf hk hd hy
  have h2:=Zt7 (Q:=Zid F.rs (F.sr r) (F.res r)) hm hT h hf
  refine h2.1 (ih _ [] [] ⟨[],[]⟩ _ y ?_ trivial ⟨(fun _ hp=>nomatch hp),(fun _ hp=>nomatch hp)⟩ hd hy)
  rw [h2.2.1]
  exact J s
 | br b t e ih1 ih2=>
  intro g xs fs kn st y h hf hk hd hy
  have h:(brE P T g xs fs st b (fun g xs fs st=>chk P T F t g xs fs ⟨kn.bs++[(b,true)],kn.gs⟩ st) (fun g xs fs st=>chk P T F e g xs fs ⟨kn.bs++[(b,false)],kn.gs⟩ st)).ok:=h
  unfold brE at h
  split at h
  .rename_i ps xs' c A B K st' hs
   obtain⟨fs',h1,h2,h3⟩:=Zhf h hf
   obtain⟨rfl,h4,h5⟩:=h3
   refine Zoq hm hT hs h1 ?_
   show PW P (bif c then A else B) (post P K _) st'
   cases c with
   | true=>exact ih1 (.code A K) xs' fs' _ st' y h4 h2 (hk.br true) hd hy
   | false=>exact ih2 (.code B K) xs' fs' _ st' y h5 h2 (hk.br false) hd hy
  .exact h.elim
 | cs b t e ih1 ih2=>
  intro g xs fs kn st y h hf hk hd hy
  have h:(chk P T F t g xs fs ⟨kn.bs++[(b,true)],kn.gs⟩ st).ok/\(chk P T F e g xs fs ⟨kn.bs++[(b,false)],kn.gs⟩ st).ok:=h
  cases b with
  | true=>exact ih1 g xs fs _ st y h.1 hf (hk.br true) hd hy
  | false=>exact ih2 g xs fs _ st y h.2 hf (hk.br false) hd hy
 | op o X Fs Gs hx k ih=>
  intro g xs fs kn st y h hf hk hd hy
  have h:∀ x,(chk P T F (k x) g (xs++X x) (fs++Fs x) ⟨kn.bs,kn.gs++Gs x⟩ st).ok:=h
  cases o with
  | none=>cases hd
  | some x=>exact ih x g _ _ _ st y (h x) (Zf.2 ⟨hf,(hx x rfl).1⟩) (hk.op (hx x rfl).2) hd hy
 | ev X Fs hx t ih=>
  intro g xs fs kn st y h hf hk hd hy
  exact ih g _ _ kn st y h (Zf.2 ⟨hf,hx⟩) hk hd hy
 | us ns t ih=>
  intro g xs fs kn st y h hf hk hd hy
  have h:E.ok (match Zor kn.gs ns with | some qs=>chk P T F t g xs (fs++qs) kn st | none => .fail):=h
  split at h
  .rename_i qs hq
   exact ih g _ _ kn st y h (Zf.2 ⟨hf,Zso hk.g hq⟩) hk hd hy
  .exact h.elim
 | kn ns t ih=>
  intro g xs fs kn st y h hf hk hd hy
  exact Zlm hm hT hk.b (fun g xs fs st h hf=>ih g xs fs kn st y h hf hk hd hy) ns g xs fs st h hf
 | kg n t ih=>
  intro g xs fs kn st y h hf hk hd hy
  have h:E.ok (match kn.bs[n]? with | some (d,v)=>chk P T F t g (xs++[Orc.br v]) (fs++[d=v]) kn st | none => .fail):=h
  split at h
  .rename_i d v hv
   exact ih g _ _ kn st y h (Zw1 hf (hk.b _ (List.mem_of_getElem? hv))) hk hd hy
  .exact h.elim
 | no=>
  intro g xs fs kn st y h hf hk hd hy
  cases hd
end
end
end Go.PW
