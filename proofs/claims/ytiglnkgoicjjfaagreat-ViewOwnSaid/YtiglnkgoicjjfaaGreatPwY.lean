import Derived.Test.YtiglnkgoicjjfaaGreatPwLt
import Derived.Lib.IndexMore
import Derived.ProofKit
import GoSem.ClaimJoined
import Derived.KernelRfl
set_option linter.all false
namespace Go.PW
open Go.RowKit
inductive TK where
 | bool
 | int (k:IntKind)
 | str
 | slice (e:Nat)
 | struct (fs:List (Nat×Nat))
 | arr (n e:Nat)
 | map (k e:Nat)
 | ptr
 | other
structure Zo1 where
 agg:Bool
 size:Nat
 bytes:Nat
 zero:Option (List PV)
 k:TK
 flat:Option (Nat×List LK)
abbrev TS:=List (Nat×Zo1)
def TKOK(P:Program)(t:Nat):TK->Prop
 | .bool=>P.underlying t=some .bool
 | .int k=>P.underlying t=some (.int k)
 | .str=>P.underlying t=some .string
 | .slice e=>P.underlying t=some (.slice e)
 | .struct fs=>∃ fs',P.underlying t=some (.struct fs')/\fs'.toList.map (fun f=>(f.offset,f.type))=fs
 | .arr n e=>P.underlying t=some (.array n e)
 | .map k e=>P.underlying t=some (.map k e)
 | .ptr=>P.underlying t=some (.pointer (P.pointee t))
 | .other=>True
structure Z6s (P:Program) (t:Nat) (i:Zo1):Prop where
 ty:TyF P t i.agg i.size
 by_:(P.info? t).map (fun i=>(i.size,i.bytes))=some (i.size,i.bytes)
 z:∀ z,i.zero=some z->Zge P t=some z
 k:TKOK P t i.k
 fl:∀ d ks,i.flat=some (d,ks)->d<=10000/\Zjw P d t=some ks/\i.agg=true/\P.eqGuardType P.depth t=false
def TOK(P:Program)(T:TS):Prop:=∀ t i,get T t=some i->Z6s P t i
def TAll(P:Program):TS->Prop
 | []=>True
 | (t,i)::T=>Z6s P t i/\TAll P T
theorem TOK.of_all{P:Program}:∀ {T:TS},TAll P T->TOK P T
 | [],_,t,i,h=>by cases h
 | (u,j)::T,hall,t,i,h=>by
  simp only [get] at h
  cases hb:Nat.beq u t with
  | true=>
   have:u=t:=(Zu _ _).1 hb
   subst this
   simp only [hb,cond_true,Option.some.injEq] at h
   subst h
   exact hall.1
  | false=>simp only [hb,cond_false] at h;exact TOK.of_all hall.2 t i h
inductive Orc where
 | br (b:Bool)
 | cs (c:List Zb)
 | es (e:List (List Zb))
 | num (n:Int)
 | lab (l:Nat)
 | call (r:PV)
 | nat (n:Nat)
 | byte (b:UInt8)
 | lit
 | frz (l:Nat)
 | pick (ks ls:List Nat)
 | own (t l k:Nat)
 | ahead (d:Nat)
 | relen (l:Nat)
 | cell (d:Nat) (c:List Zb)
 | stop
 | callO (S:Bool) (ls:List Nat) (d:Nat) (fr:List (Nat×Blk)) (r:PV)
 | callU (S:Bool) (ls:List Nat) (d:Nat) (s1:List (Nat×Blk)) (r:PV)
 | relab (l m:Nat)
 | ownc (t j l k:Nat)
 | ownb (b j l k:Nat)
 | nilt (t:Nat)
 | niltc (t j:Nat)
 | niltb (b j:Nat)
 | stopAt (k:Nat)
 | sp (cs:List PV)
 | mp (es:List (Int×List Zb))
 | tomat (l:Nat)
 | tomr (l k:Nat)
 | frzm (l:Nat)
 | callC (l b:Nat)
 | opn (l i:Nat) (e:List Zb)
 | cls (l:Nat) (es:List (List Zb))
 | regn (l:Nat)
 | absr (r l:Nat)
 | regh (l:Nat)
 | regf (l:Nat)
 | torx (r l:Nat)
abbrev Ev:=Option (List Prop×List Orc×Stp)
def ev0(xs:List Orc)(p:PV):Ev:=some ([],xs,⟨[],p,[]⟩)
def ev1(ps:List Prop)(xs:List Orc)(p:PV):Ev:=some (ps,xs,⟨[],p,[]⟩)
def Z89(a b:IntKind):Bool:=decide (a=b)
def Zas0(op:BinOp)(k k':IntKind)(a b:Int)(xs:List Orc):Ev:=
 match op with
 | .shl=>ev1 [¬ b < 0] xs (.t (.int k (k.wrap (a*2 ^ (min b.toNat k.bits)))))
 | .shr=>ev1 [¬ b < 0] xs (.t (.int k (a.fdiv (2 ^ (min b.toNat k.bits)))))
 | .quo=>bif Z89 k k' then ev1 [b≠0] xs (.t (.int k (k.wrap (a.tdiv b)))) else none
 | .rem=>bif Z89 k k' then ev1 [b≠0] xs (.t (.int k (a.tmod b))) else none
 | _=>bif Z89 k k' then
  match Z6j op k a b with
  | some r=>ev0 xs (.t r)
  | none=>none
  else none
def Zas1(T:TS)(op:BinOp)(xT:Nat)(px py:PV)(xs:List Orc):Ev:=
 match px,py with
 | .t (.int k a),.t (.int k' b)=>Zas0 op k k' a b xs
 | .t (.str a),.t (.str b)=>
  match op with
  | .add=>ev1 [a.length+b.length<=9223372036854775807] xs (.t (.str (a++b)))
  | _=>
   match Zalr op a b with
   | some r=>ev0 xs (.t r)
   | none=>none
 | .t (.bool a),.t (.bool b)=>
  match (get T xT).map (·.k),op with
  | some TK.bool,.eql=>ev0 xs (.t (.bool (a==b)))
  | some TK.bool,.neq=>ev0 xs (.t (.bool (!(a==b))))
  | _,_=>none
 | .agg as,.agg bs=>
  match Zmn as,Zmn bs,(get T xT).bind (·.flat) with
  | some as,some bs,some (_,ks)=>
   bif fits ks as&&fits ks bs then
    match eqOp op (Z2 as bs) with
    | some r=>ev0 xs (.t (.bool r))
    | none=>none
   else none
  | _,_,_=>none
 | _,_=>none
section
variable {P:Program} {T:TS} {o:Oper} {tm:List (Nat×PV)} {σ:List (Nat×Blk)} {xs xs':List Orc} {ps:List Prop} {s:Stp}
theorem Zdq{p:PV}(h:ev0 xs p=some (ps,xs',s)):ps=[]/\xs'=xs/\s=⟨[],p,[]⟩:=by
 simp only [ev0,Option.some.injEq,Prod.mk.injEq] at h
 exact⟨h.1.symm,h.2.1.symm,h.2.2.symm⟩
theorem Zfl{qs:List Prop}{p:PV}(h:ev1 qs xs p=some (ps,xs',s)):ps=qs/\xs'=xs/\s=⟨[],p,[]⟩:=by
 simp only [ev1,Option.some.injEq,Prod.mk.injEq] at h
 exact⟨h.1.symm,h.2.1.symm,h.2.2.symm⟩
theorem Zaxh{op:BinOp}{xT yT:TypeId}{x y:Operand}{k k':IntKind}{a b:Int}(ho:o.op = .binOp op xT x y yT)(hx:Zi tm x=some (.t (.int k a)))(hy:Zi tm y=some (.t (.int k' b)))
 (h:Zas0 op k k' a b xs=some (ps,xs',s)) (hc:Zaj ps):Za3 P o tm σ s.need s.p s.news:=by
 unfold Zas0 at h
 split at h
 .obtain⟨rfl,rfl,rfl⟩:=Zfl h
  exact Zalt ho hx hy (by simp [Zadx,hc.1])
 .obtain⟨rfl,rfl,rfl⟩:=Zfl h
  exact Zalt ho hx hy (by simp [Zadx,hc.1])
 .cases hk:Z89 k k' with
  | false=>simp [hk] at h
  | true=>
   simp only [hk,cond_true] at h
   have:k=k':=of_decide_eq_true hk
   subst this
   obtain⟨rfl,rfl,rfl⟩:=Zfl h
   exact Zals ho hx hy (by have:=hc.1;simp [Z6j,this])
 .cases hk:Z89 k k' with
  | false=>simp [hk] at h
  | true=>
   simp only [hk,cond_true] at h
   have:k=k':=of_decide_eq_true hk
   subst this
   obtain⟨rfl,rfl,rfl⟩:=Zfl h
   exact Zals ho hx hy (by have:=hc.1;simp [Z6j,this])
 .cases hk:Z89 k k' with
  | false=>simp [hk] at h
  | true=>
   simp only [hk,cond_true] at h
   have:k=k':=of_decide_eq_true hk
   subst this
   split at h
   .rename_i r hr
    obtain⟨rfl,rfl,rfl⟩:=Zdq h
    exact Zals ho hx hy hr
   .cases h
theorem Zaxi(hT:TOK P T){op:BinOp}{xT yT:TypeId}{x y:Operand}{px py:PV}(ho:o.op = .binOp op xT x y yT)(hx:Zi tm x=some px)(hy:Zi tm y=some py)
 (h:Zas1 T op xT px py xs=some (ps,xs',s)) (hc:Zaj ps):Za3 P o tm σ s.need s.p s.news:=by
 unfold Zas1 at h
 split at h
 .exact Zaxh ho hx hy h hc
 .split at h
  .obtain⟨rfl,rfl,rfl⟩:=Zfl h
   exact Zauj ho hx hy hc.1
  .split at h
   .rename_i r hr
    obtain⟨rfl,rfl,rfl⟩:=Zdq h
    exact Zazx ho hx hy hr
   .cases h
 .split at h
  .rename_i hk
   obtain⟨rfl,rfl,rfl⟩:=Zdq h
   simp only [Option.map_eq_some_iff] at hk
   obtain⟨i,hi,hik⟩:=hk
   have:=(hT _ _ hi).k
   rw [hik] at this
   exact Zai2 ho this hx hy (.inl ⟨rfl,rfl⟩)
  .rename_i hk
   obtain⟨rfl,rfl,rfl⟩:=Zdq h
   simp only [Option.map_eq_some_iff] at hk
   obtain⟨i,hi,hik⟩:=hk
   have:=(hT _ _ hi).k
   rw [hik] at this
   exact Zai2 ho this hx hy (.inr ⟨rfl,rfl⟩)
  .cases h
 .split at h
  .rename_i as bs d ks ha hb hf
   cases hfit:(fits ks as&&fits ks bs) with
   | false=>simp [hfit] at h
   | true=>
    simp only [hfit,cond_true] at h
    simp only [Bool.and_eq_true] at hfit
    split at h
    .rename_i r hr
     obtain⟨rfl,rfl,rfl⟩:=Zdq h
     simp only [Option.bind_eq_some_iff] at hf
     obtain⟨i,hi,hf⟩:=hf
     have hok:=hT _ _ hi
     obtain⟨hd,hfl,hag,hgt⟩:=hok.fl _ _ hf
     have e1:=Zoc ha
     have e2:=Zoc hb
     subst e1;subst e2
     obtain⟨dd,hu,hdr⟩:=hok.ty.und
     exact Zawg d ks ho hd hfl ⟨dd,hu,by rw [hdr];exact hag⟩ hgt hx hy hfit.1 hfit.2 hr
    .cases h
  .cases h
 .cases h
theorem TOK.size{t:Nat}{i:Zo1}(hT:TOK P T)(h:get T t=some i):∃ inf,P.info? t=some inf/\inf.size=i.size:=(hT t i h).ty.info
theorem TOK.fieldInfo{t f q:Nat}{i j:Zo1}{fs:List (Nat×Nat)}{fT:Nat}(hT:TOK P T)(h:get T t=some i)(hk:i.k = .struct fs)(hf:fs[f]?=some (q,fT))(hj:get T fT=some j):PW.fieldInfo P t f=some (q,j.size):=by
 have:=(hT t i h).k
 rw [hk] at this
 obtain⟨fs',hu,hfs⟩:=this
 subst hfs
 simp only [List.getElem?_map,Option.map_eq_some_iff] at hf
 obtain⟨fl,hfl,he⟩:=hf
 cases he
 obtain⟨inf,hi,hs⟩:=hT.size hj
 simp only [PW.fieldInfo,hu]
 have:fs'[f]?=some fl:=by simpa using hfl
 simp [this,hi,hs]
theorem TOK.arrInfo{t n e:Nat}{i j:Zo1}(hT:TOK P T)(h:get T t=some i)(hk:i.k = .arr n e)(hj:get T e=some j):PW.arrInfo P t=some (n,j.size):=by
 have:=(hT t i h).k
 rw [hk] at this
 obtain⟨inf,hi,hs⟩:=hT.size hj
 have hu:P.underlying t=some (.array n e):=this
 simp [PW.arrInfo,hu,hi,hs]
theorem TOK.slInfo{t e:Nat}{i j:Zo1}(hT:TOK P T)(h:get T t=some i)(hk:i.k = .slice e)(hj:get T e=some j):PW.slInfo P t=some j.size:=by
 have:=(hT t i h).k
 rw [hk] at this
 obtain⟨inf,hi,hs⟩:=hT.size hj
 have hu:P.underlying t=some (.slice e):=this
 simp [PW.slInfo,hu,hi,hs]
def Zee(T:TS)(t:Nat):Option (Nat×Zo1):=
 match get T t with
 | some ⟨_,_,_,_,.slice e,_⟩=>(get T e).map fun j=>(e,j)
 | _=>none
theorem Zc6{t e:Nat}{j:Zo1}(h:Zee T t=some (e,j)):∃ i,get T t=some i/\i.k = .slice e/\get T e=some j:=by
 unfold Zee at h
 split at h
 .rename_i hi
  simp only [Option.map_eq_some_iff] at h
  obtain⟨j',hj,he⟩:=h
  cases he
  exact⟨_,hi,rfl,hj⟩
 .cases h
def Z9a(T:TS)(t:Nat):Option (Nat×Nat×Zo1):=
 match get T t with
 | some ⟨_,_,_,_,.arr n e,_⟩=>(get T e).map fun j=>(n,e,j)
 | _=>none
theorem Zz0{t n e:Nat}{j:Zo1}(h:Z9a T t=some (n,e,j)):∃ i,get T t=some i/\i.k = .arr n e/\get T e=some j:=by
 unfold Z9a at h
 split at h
 .rename_i hi
  simp only [Option.map_eq_some_iff] at h
  obtain⟨j',hj,he⟩:=h
  cases he
  exact⟨_,hi,rfl,hj⟩
 .cases h
def Zxr(T:TS)(t f:Nat):Option (Nat×Zo1):=
 match get T t with
 | some ⟨_,_,_,_,.struct fs,_⟩=>(fs[f]?).bind fun x=>(get T x.2).map fun j=>(x.1,j)
 | _=>none
theorem Zo6{t f q:Nat}{j:Zo1}(h:Zxr T t f=some (q,j)):∃ i fs fT,get T t=some i/\i.k = .struct fs/\fs[f]?=some (q,fT)/\get T fT=some j:=by
 unfold Zxr at h
 split at h
 .rename_i hi
  simp only [Option.bind_eq_some_iff,Option.map_eq_some_iff] at h
  obtain⟨⟨x1,x2⟩,hx,j',hj,he⟩:=h
  cases he
  exact⟨_,_,_,hi,rfl,hx,hj⟩
 .cases h
theorem Zof{t e:Nat}{j:Zo1}{z:List PV}(hT:TOK P T)(h:Zee T t=some (e,j))(hz:j.zero=some z)(hpos:Nat.blt 0 j.size=true)(hl:Nat.beq z.length j.size=true):ElF P t e j.size j.bytes z:=by
 obtain⟨i,hi,hk,hj⟩:=Zc6 h
 have h1:=(hT t i hi).k
 rw [hk] at h1
 exact { und:=h1,info:=(hT e j hj).by_,z:=(hT e j hj).z z hz,pos:=(by rw [Nat.blt_eq] at hpos;exact hpos),len:=(Zu _ _).1 hl }
end
end Go.PW
namespace Go.PW
open Go.RowKit
def ev2(ps:List Prop)(xs:List Orc)(need:List Nat)(p:PV):Ev:=some (ps,xs,⟨need,p,[]⟩)
def ev3(ps:List Prop)(xs:List Orc)(p:PV)(l:Nat)(b:Blk):Ev:=some (ps,xs,⟨[],p,[(l,b)]⟩)
def Zjx(tm:List (Nat×PV)):List Operand->Option (List PV)
 | []=>some []
 | x::l=>
  match Zi tm x,Zjx tm l with
  | some p,some ps=>some (p::ps)
  | _,_=>none
theorem Zog{tm:List (Nat×PV)}:∀ {l:List Operand} {ps:List PV},Zjx tm l=some ps->l.mapM (Zi tm)=some ps
 | [],ps,h=>by simp only [Zjx,Option.some.injEq] at h;subst h;rfl
 | x::l,ps,h=>by
  simp only [Zjx] at h
  split at h
  .rename_i p qs hp hq
   cases h
   rw [List.mapM_cons,hp,Zog hq];rfl
  .cases h
mutual
def Zfq(σ:List (Nat×Blk)):PV->Option (List Prop×PV)
 | .t x=>some ([],.t x)
 | .nils=>some ([],.t (.sl []))
 | .osl l n=>
  match get σ l with
  | some (.row _ es)=>some ([es.length=n],.t (.sl es))
  | _=>none
 | .bptr l o=>
  match get σ l with
  | some (.box cs)=>match Zmn cs with | some ts=>some ([],.vptr (ts.drop o)) | none=>none
  | _=>none
 | .rptr _ _ _ _=>none
 | .vptr cs=>some ([],.vptr cs)
 | .agg cs=>match Zjy σ cs with | some (ps,ds)=>some (ps,.agg ds) | none=>none
 | .tup cs=>match Zjy σ cs with | some (ps,ds)=>some (ps,.tup ds) | none=>none
 | .fn f cs=>match Zjy σ cs with | some (ps,ds)=>some (ps,.fn f ds) | none=>none
 | .own l d=>
  match d,get σ l with
  | .msl n,some (.mat _ _ es)=>some ([es.length=n],.t (.sl es))
  | _,_=>none
def Zjy(σ:List (Nat×Blk)):List PV->Option (List Prop×List PV)
 | []=>some ([],[])
 | c::cs=>
  match Zfq σ c,Zjy σ cs with
  | some (ps,d),some (qs,ds)=>some (ps++qs,d::ds)
  | _,_=>none
end
mutual
theorem Zahq{σ σ':List (Nat×Blk)}(h0:∀ l,get σ' l=none):∀ {p q:PV} {ps:List Prop},Zfq σ p=some (ps,q)->Zaj ps->Frz σ σ' p q
 | .t x,q,ps,h,_=>by simp only [Zfq,Option.some.injEq,Prod.mk.injEq] at h;simp only [Frz];exact h.2.symm
 | .nils,q,ps,h,_=>by simp only [Zfq,Option.some.injEq,Prod.mk.injEq] at h;simp only [Frz];exact .inl h.2.symm
 | .osl l n,q,ps,h,hc=>by
  simp only [Zfq] at h
  split at h
  .rename_i k es hg
   cases h
   simp only [Frz]
   exact .inr ⟨k,es,hg,hc.1,h0 l,rfl⟩
  .cases h
 | .bptr l o,q,ps,h,_=>by
  simp only [Zfq] at h
  split at h
  .rename_i cs hg
   split at h
   .rename_i ts hts
    cases h
    have e:=Zoc hts
    subst e
    simp only [Frz]
    exact .inr ⟨ts,hg,h0 l,rfl⟩
   .cases h
  .cases h
 | .rptr _ _ _ _,q,ps,h,_=>by simp [Zfq] at h
 | .vptr cs,q,ps,h,_=>by simp only [Zfq,Option.some.injEq,Prod.mk.injEq] at h;simp only [Frz];exact h.2.symm
 | .agg cs,q,ps,h,hc=>by
  simp only [Zfq] at h
  split at h
  .rename_i ps' ds hds
   cases h
   simp only [Frz]
   exact⟨ds,rfl,Zqf h0 hds hc⟩
  .cases h
 | .tup cs,q,ps,h,hc=>by
  simp only [Zfq] at h
  split at h
  .rename_i ps' ds hds
   cases h
   simp only [Frz]
   exact⟨ds,rfl,Zqf h0 hds hc⟩
  .cases h
 | .fn f cs,q,ps,h,hc=>by
  simp only [Zfq] at h
  split at h
  .rename_i ps' ds hds
   cases h
   simp only [Frz]
   exact⟨ds,rfl,Zqf h0 hds hc⟩
  .cases h
 | .own l d,q,ps,h,hc=>by
  simp only [Zfq] at h
  split at h
  .rename_i n k q0 es hg
   cases h
   simp only [Frz]
   exact .inr ⟨n,k,q0,es,rfl,hg,hc.1,h0 l,rfl⟩
  .cases h
theorem Zqf{σ σ':List (Nat×Blk)}(h0:∀ l,get σ' l=none):∀ {cs ds:List PV} {ps:List Prop},Zjy σ cs=some (ps,ds)->Zaj ps->Zbi σ σ' cs ds
 | [],ds,ps,h,_=>by simp only [Zjy,Option.some.injEq,Prod.mk.injEq] at h;simp only [Zbi];exact h.2.symm
 | c::cs,ds,ps,h,hc=>by
  simp only [Zjy] at h
  split at h
  .rename_i ps1 d qs ds' h1 h2
   cases h
   obtain⟨hc1,hc2⟩:=Zw.1 hc
   simp only [Zbi]
   exact⟨d,ds',rfl,Zahq h0 h1 hc1,Zqf h0 h2 hc2⟩
  .cases h
end
mutual
def Zoh:PV->List Nat
 | .osl l _=>[l]
 | .bptr l _=>[l]
 | .rptr l _ _ _=>[l]
 | .agg cs=>Zl8 cs
 | .tup cs=>Zl8 cs
 | .fn _ cs=>Zl8 cs
 | .own l _=>[l]
 | _=>[]
def Zl8:List PV->List Nat
 | []=>[]
 | p::ps=>Zoh p++Zl8 ps
end
mutual
theorem Zab1{m:Nat}:∀ (p:PV),p.has m=true->m∈Zoh p
 | .t _,h=>by simp [PV.has] at h
 | .nils,h=>by simp [PV.has] at h
 | .vptr _,h=>by simp [PV.has] at h
 | .osl l n,h=>by simp only [PV.has,Zu] at h;subst h;simp [Zoh]
 | .bptr l n,h=>by simp only [PV.has,Zu] at h;subst h;simp [Zoh]
 | .rptr l _ _ _,h=>by simp only [PV.has,Zu] at h;subst h;simp [Zoh]
 | .agg cs,h=>by simp only [Zoh];exact Zjg cs (by simpa [PV.has] using h)
 | .tup cs,h=>by simp only [Zoh];exact Zjg cs (by simpa [PV.has] using h)
 | .fn _ cs,h=>by simp only [Zoh];exact Zjg cs (by simpa [PV.has] using h)
 | .own l n,h=>by simp only [PV.has,Zu] at h;subst h;simp [Zoh]
theorem Zjg{m:Nat}:∀ (ps:List PV),PV.hasAny m ps=true->m∈Zl8 ps
 | [],h=>by simp [PV.hasAny] at h
 | p::ps,h=>by
  simp only [PV.hasAny,Bool.or_eq_true] at h
  simp only [Zl8,List.mem_append]
  rcases h with h | h
  .exact .inl (Zab1 p h)
  .exact .inr (Zjg ps h)
end
def Zld(agg:Bool)(c:List Zb):PV:=bif agg then .agg (c.map .t) else (match c with | [x] => .t x | _ => .agg (c.map .t))
def Zx3(T:TS):List (Nat×Nat)->Option (List (Nat×Nat))
 | []=>some []
 | (q,t)::l=>
  match get T t,Zx3 T l with
  | some i,some ps=>some ((q,i.size)::ps)
  | _,_=>none
def Zahr(T:TS)(t:Nat)(ps:List (Nat×PV))(xs:List Orc):Ev:=
 match get T t with
 | some ⟨_,_,_,some z,.struct fs,_⟩=>
  match Zx3 T fs with
  | some pl=>
   match Zjc pl z ps with
   | some out=>ev0 xs (.agg out)
   | none=>none
  | none=>none
 | some ⟨_,_,_,some z,.arr n e,_⟩=>
  match get T e with
  | some j=>
   match Zjc ((List.range n).map fun i=>(i*j.size,j.size)) z ps with
   | some out=>ev0 xs (.agg out)
   | none=>none
  | none=>none
 | _=>none
def Zas2(T:TS)(t len:Nat)(ps:List (Nat×PV))(xs:List Orc):Ev:=
 match Zee T t with
 | some (_,⟨_,k,_,some z,_,_⟩)=>
  bif Nat.blt 0 k&&Nat.beq z.length k&&Nat.ble (len*k) 16777216 then
   match Zjc (Zjf k len) (rep len z) ps with
   | some out=>
    match Zfp out,xs with
    | some ts,.lit::xs=>ev0 xs (.t (.sl (chunk k len ts)))
    | some ts,.lab l::xs=>bif Nat.ble 1000 l&&Nat.beq ts.length (len*k) then ev3 [] xs (.osl l len) l (.row k (chunk k len ts)) else none
    | _,_=>none
   | none=>none
  else none
 | _=>none
def Zamk(T:TS)(t:Nat)(px py:PV)(xs:List Orc):Ev:=
 match Zee T t,px,py,xs with
 | some (_,⟨_,k,bytes,some z,_,_⟩),.t (.int _ m),.t (.int _ c),.lab l :: .nat n :: .es es::xs=>
  bif Nat.blt 0 k&&Nat.beq z.length k&&Nat.ble 1000 l then
   match Zfp z with
   | some zs=>ev3 [0<=m,m<=c,(bytes:Int)*c<=281474976710656,c<=9223372036854775807,m.toNat=n,List.replicate n zs=es] xs (.osl l n) l (.row k es)
   | none=>none
  else none
 | _,_,_,_=>none
def Z1g(T:TS)(σ:List (Nat×Blk))(s i:Nat)(px:PV)(xs:List Orc):Ev:=
 match Zxr T s i with
 | some (q,j)=>
  bif Nat.beq j.size 0 then none else
  match px with
  | .bptr l p=>
   match get σ l with
   | some (.box _)=>ev2 [] xs [l] (.bptr l (p+q))
   | _=>none
  | .rptr l m jj p=>
   match get σ l with
   | some (.row _ es)=>ev2 [es.length=m] xs [l] (.rptr l m jj (p+q))
   | _=>none
  | .vptr cs=>ev0 xs (.vptr (cs.drop q))
  | _=>none
 | none=>none
def Z1h(T:TS)(σ:List (Nat×Blk))(t:Nat)(px py:PV)(xs:List Orc):Ev:=
 match py with
 | .t (.int _ i)=>
  match px with
  | .t (.sl es)=>
   match Zee T t,xs with
   | some (_,j),.cs e::xs=>ev1 [∀ el,el∈es->el.length=j.size,0<=i,es[i.toNat]?=some e] xs (.vptr e)
   | _,_=>none
  | .osl l m=>
   match Zee T t,get σ l,xs with
   | some (_,j),some (.row k es),.nat n::xs=>bif Nat.beq j.size k then ev2 [es.length=m,0<=i,i < m,i.toNat=n] xs [l] (.rptr l m n 0) else none
   | _,_,_=>none
  | .bptr l q=>
   match Z9a T t,get σ l,xs with
   | some (len,_,j),some (.box _),.nat n::xs=>ev2 [0<=i,i < len,i.toNat=n] xs [l] (.bptr l (q+n*j.size))
   | _,_,_=>none
  | .rptr l m jj q=>
   match Z9a T t,get σ l,xs with
   | some (len,_,j),some (.row _ els),.nat n::xs=>ev2 [els.length=m,0<=i,i < len,i.toNat=n] xs [l] (.rptr l m jj (q+n*j.size))
   | _,_,_=>none
  | .vptr cs=>
   match Z9a T t,xs with
   | some (len,_,j),.nat n::xs=>ev1 [0<=i,i < len,i.toNat=n] xs (.vptr (cs.drop (n*j.size)))
   | _,_=>none
  | _=>none
 | _=>none
def Zahs(T:TS)(t:Nat)(px py:PV)(xs:List Orc):Ev:=
 match py with
 | .t (.int _ i)=>
  match px with
  | .t (.str s)=>
   match (get T t).map (·.k),xs with
   | some TK.str,.byte b::xs=>ev1 [0<=i,s[i.toNat]?=some b] xs (.t (.int .u8 b.toNat))
   | _,_=>none
  | .agg cs=>
   match Z9a T t,xs with
   | some (len,_,j),.cs c::xs=>ev1 [0<=i,i < len,Zec j.agg j.size (i.toNat*j.size) cs=some (Zld j.agg c)] xs (Zld j.agg c)
   | _,_=>none
  | _=>none
 | _=>none
def Zaed(T:TS)(σ:List (Nat×Blk))(t:Nat)(px:PV)(xs:List Orc):Ev:=
 match get T t with
 | some i=>
  match px with
  | .bptr l q=>
   match get σ l with
   | some (.box cs)=>
    match Zec i.agg i.size q cs with
    | some p=>ev2 [] xs [l] p
    | none=>none
   | _=>none
  | .rptr l m j q=>
   match get σ l,xs with
   | some (.row _ es),.cs e::xs=>
    match Zec i.agg i.size q (e.map .t) with
    | some p=>ev2 [es.length=m,es[j]?=some e] xs [l] p
    | none=>none
   | _,_=>none
  | .vptr cs=>
   match Zec i.agg i.size 0 (cs.map .t) with
   | some p=>ev0 xs p
   | none=>none
  | _=>none
 | none=>none
def Zab2(T:TS)(σ:List (Nat×Blk))(t:Nat)(px:PV)(c:List Zb)(xs:List Orc):Ev:=
 match get T t,px with
 | some i,.bptr l q=>
  match get σ l with
  | some (.box cs)=>ev2 [Zec i.agg i.size q cs=some (Zld i.agg c)] xs [l] (Zld i.agg c)
  | _=>none
 | some i,.vptr cs=>ev1 [Zec i.agg i.size 0 (cs.map .t)=some (Zld i.agg c)] xs (Zld i.agg c)
 | _,_=>none
def Zaee(σ:List (Nat×Blk)):PV->Option (List Prop×List (List Zb)×List Nat)
 | .t (.sl es)=>some ([],es,[])
 | .nils=>some ([],[],[])
 | .t (.con (.slice _ 0 _))=>some ([],[],[])
 | .osl l m=>
  match get σ l with
  | some (.row _ es)=>some ([es.length=m],es,[l])
  | _=>none
 | _=>none
def Zaef:List Nat->Bool
 | []=>true
 | l::r => !Zxv r l&&Zaef r
def Zayl:Blk->List Nat
 | .box cs=>Zl8 cs
 | .row _ _=>[]
 | .mat _ _ _=>[]
 | .map _ _=>[]
 | .prow _ _ _ cs=>Zl8 cs
 | .reg _=>[]
 | .xrow _ _ r _=>[r]
def Zalf:List (Nat×Blk)->List Nat
 | []=>[]
 | (_,b)::r=>Zayl b++Zalf r
def hasK(σ:List (Nat×Blk))(l:Nat):Bool:=match get σ l with | some _=>true | none=>false
def Zavg(σa:List (Nat×Blk))(l:Nat)(b:Blk):Bool:=
 match b,get σa l with
 | .box _,some (.box _)=>true
 | .row k _,some (.row k' _)=>Nat.beq k k'
 | _,_=>false
def Zaeg(ls:List Nat)(d:Nat)(σa σ1:List (Nat×Blk))(res:PV):Bool:=
 Zaef ls&&Nat.ble ls.length 1000&&(σ1.all fun x=>match ls[x.1]? with | some _=>Zavg σa x.1 x.2 | none=>Nat.ble 1000 (x.1+d))&&(Zoh res++Zalf σ1).all (hasK σ1)
def scB:List (Nat×Blk)->List Prop
 | []=>[]
 | (_,.box cs)::r=>(PV.scs cs=true)::scB r
 | (_,.row _ es)::r=>(∀ el,el∈es->∀ x,x∈el->Zb.scal x=true)::scB r
 | (_,.mat k q _)::r=>(k=1/\q=0)::scB r
 | (_,.map _ _)::r=>False::scB r
 | (_,.prow _ _ _ _)::r=>False::scB r
 | (_,.reg _)::r=>True::scB r
 | (_,.xrow _ _ _ _)::r=>False::scB r
mutual
def Z9b(σ:List (Nat×Blk)):PV->List Nat
 | .bptr L _=>match get σ L with | some (.box cs)=>Zl8 cs | _=>[]
 | .agg cs=>Zun σ cs
 | .tup cs=>Zun σ cs
 | .fn _ cs=>Zun σ cs
 | _=>[]
def Zun(σ:List (Nat×Blk)):List PV->List Nat
 | []=>[]
 | p::ps=>Z9b σ p++Zun σ ps
end
mutual
theorem Zaxk{σ:List (Nat×Blk)}{m:Nat}:∀ (p:PV),p.deep σ m=true->m∈Z9b σ p
 | .t _,h=>by simp [PV.deep] at h
 | .nils,h=>by simp [PV.deep] at h
 | .osl _ _,h=>by simp [PV.deep] at h
 | .bptr L o,h=>by
  simp only [PV.deep] at h
  simp only [Z9b]
  cases hg:get σ L with
  | none=>simp [hg] at h
  | some b=>
   cases b with
   | box cs=>simp only [hg] at h;exact Zjg _ h
   | row k es=>simp [hg] at h
   | mat k q es=>simp [hg] at h
   | map ag es=>simp [hg] at h
   | prow k i es cs=>simp [hg] at h
   | reg h0=>simp [hg] at h
   | xrow k i r es=>simp [hg] at h
 | .rptr _ _ _ _,h=>by simp [PV.deep] at h
 | .vptr _,h=>by simp [PV.deep] at h
 | .agg cs,h=>by simp only [Z9b];exact Zqx cs (by simpa [PV.deep] using h)
 | .tup cs,h=>by simp only [Z9b];exact Zqx cs (by simpa [PV.deep] using h)
 | .fn _ cs,h=>by simp only [Z9b];exact Zqx cs (by simpa [PV.deep] using h)
 | .own _ _,h=>by simp [PV.deep] at h
theorem Zqx{σ:List (Nat×Blk)}{m:Nat}:∀ (ps:List PV),PV.deeps σ m ps=true->m∈Zun σ ps
 | [],h=>by simp [PV.deeps] at h
 | p::ps,h=>by
  simp only [PV.deeps,Bool.or_eq_true] at h
  simp only [Zun,List.mem_append]
  rcases h with h | h
  .exact .inl (Zaxk p h)
  .exact .inr (Zqx ps h)
end
def scC(S:Bool)(σ1:List (Nat×Blk))(res:PV):List Prop:=bif S then (res.sc=true)::scB σ1 else []
def Zaml(T:TS)(P:Program)(tm:List (Nat×PV))(σ:List (Nat×Blk))(c:Callee)(ps:List PV)(ats:List Nat)(xs:List Orc):Ev:=
 match c with
 | .value fo=>
  match Zi tm fo,xs with
  | some (.fn f caps),.call res::xs=>
   match Zjy [] (ps++caps) with
   | some (_,qs)=>bif res.free then ev1 [Fn P f qs res] xs res else none
   | none=>
    match Zjy σ (ps++caps) with
    | some (cs,qs)=>bif res.scal then ev2 (cs++[Fn P f qs res]) xs (Zl8 (ps++caps)) res else none
    | none=>none
  | some (.fn f caps),.callO S ls d fr res::xs=>
   match Zgp S ls σ (ps++caps),Zrj ls σ 0 ls with
   | some (cs,qs),some σa=>bif Zaeg ls d σa (fr++σa) res then some (cs++(scC S (fr++σa) res++[FnG P f σa qs (fr++σa) res]),xs,⟨ls++(Zl8 (ps++caps)++Zun σ (ps++caps)),res.ren (Zdf ls d),Zed (Zdf ls d) fr⟩) else none
   | _,_=>none
  | _,_=>none
 | .builtin .len=>
  match ps,ats,xs with
  | [p],[t],.num n::xs=>
   match (get T t).map (·.k),p with
   | some (TK.slice _),.t (.sl es)=>ev1 [(es.length:Int)=n] xs (.t (.int .i64 n))
   | some (TK.slice _),.nils=>ev1 [0=n] xs (.t (.int .i64 n))
   | some (TK.slice _),.osl l m=>
    match get σ l with
    | some (.row _ es)=>ev2 [es.length=m,(m:Int)=n] xs [l] (.t (.int .i64 n))
    | _=>none
   | some (TK.slice _),.own l (.msl m)=>
    match get σ l with
    | some (.mat _ _ es)=>ev2 [es.length=m,(m:Int)=n] xs [l] (.t (.int .i64 n))
    | _=>none
   | some TK.str,.t (.str s)=>ev1 [(s.length:Int)=n] xs (.t (.int .i64 n))
   | _,_=>none
  | _,_,_=>none
 | .builtin .max=>
  match ps with
  | [.t (.int k a),.t (.int _ b)]=>ev0 xs (.t (.int k (maxI a b)))
  | _=>none
 | .builtin .min=>
  match ps with
  | [.t (.int k a),.t (.int _ b)]=>ev0 xs (.t (.int k (minI a b)))
  | _=>none
 | .builtin .append=>
  match ps,ats,xs with
  | [.nils,y],[t,tx],.lab l :: .es es::xs=>
   match Zee T t,Zee T tx,Zaee σ y with
   | some (_,⟨_,k,bytes,some z,_,_⟩),some _,some (cs,ys,ls)=>
    bif Nat.blt 0 k&&Nat.beq z.length k&&Nat.ble 1000 l then
     some (cs++[ys=es,∀ el,el∈es->el.length=k,es.length<=9223372036854775807,es.length*bytes<=140737488355328],xs,⟨ls,.osl l es.length,[(l,.row k es)]⟩)
    else none
   | _,_,_=>none
  | _,_,_=>none
 | _=>none
def Z9c:Operand->Bool
 | .const (.slice none 0 0)=>true
 | _=>false
def Zas3(T:TS)(op:BinOp)(t:Nat)(px:PV)(xs:List Orc):Ev:=
 match Zee T t,op,px with
 | some _,.eql,.t (.sl es)=>ev1 [es≠[]] xs (.t (.bool false))
 | some _,.neq,.t (.sl es)=>ev1 [es≠[]] xs (.t (.bool true))
 | some _,.eql,.t (.con (.slice a _ _))=>ev0 xs (.t (.bool a.isNone))
 | some _,.neq,.t (.con (.slice a _ _))=>ev0 xs (.t (.bool (!a.isNone)))
 | _,_,_=>none
def Z9d:Operand->Bool
 | .const (.pointer none)=>true
 | _=>false
def Zamm(σ:List (Nat×Blk))(op:BinOp)(px:PV)(xs:List Orc):Ev:=
 match op,px with
 | .eql,.t (.con (.pointer none))=>ev0 xs (.t (.bool true))
 | .neq,.t (.con (.pointer none))=>ev0 xs (.t (.bool false))
 | .eql,.bptr l _=>match get σ l with | some (.box _)=>ev2 [] xs [l] (.t (.bool false)) | _=>none
 | .neq,.bptr l _=>match get σ l with | some (.box _)=>ev2 [] xs [l] (.t (.bool true)) | _=>none
 | _,_=>none
def Zaht(T:TS)(tm:List (Nat×PV))(t:Nat)(px:PV)(lo hi:Option Operand)(xs:List Orc):Ev:=
 match Zee T t,px,xs with
 | none,.t (.str s),.cs [.str z]::xs=>
  match (get T t).map (·.k),Zo0 tm 0 lo,Zo0 tm s.length hi with
  | some TK.str,some l,some h=>ev1 [0<=l,l<=h,h<=s.length,(s.take h.toNat).drop l.toNat=z] xs (.t (.str z))
  | _,_,_=>none
 | some (_,j),.t (.sl es),.es es'::xs=>
  match Zo0 tm 0 lo,Zo0 tm es.length hi with
  | some l,some h=>ev1 [∀ el,el∈es->el.length=j.size,0<=l,l<=h,h<=es.length,(es.take h.toNat).drop l.toNat=es'] xs (.t (.sl es'))
  | _,_=>none
 | _,_,_=>none
def evOp(P:Program)(T:TS)(o:Oper)(tm:List (Nat×PV))(σ:List (Nat×Blk))(xs:List Orc):Ev:=
 match o.op with
 | .move x=>match Zi tm x with | some p=>ev0 xs p | none=>none
 | .assign x=>match Zi tm x with | some p=>ev0 xs p | none=>none
 | .pick c x y=>
  match Zi tm c,xs with
  | some (.t (.bool e)),.br b::xs=>match Zi tm (bif b then x else y) with | some p=>ev1 [e=b] xs p | none=>none
  | _,_=>none
 | .binOp op xT x y _=>
  bif Z9c y then (match Zi tm x with | some px=>Zas3 T op xT px xs | none=>none)
  else bif Z9d y then (match Zi tm x,(get T xT).map (·.k) with | some px,some TK.ptr=>Zamm σ op px xs | _,_=>none)
  else match Zi tm x,Zi tm y with | some px,some py=>Zas1 T op xT px py xs | _,_=>none
 | .unOp op _ x=>
  match op,Zi tm x with
  | .not,some (.t (.bool b))=>ev0 xs (.t (.bool (!b)))
  | .neg,some (.t (.int k a))=>ev0 xs (.t (.int k (k.wrap (0 - a))))
  | .xor,some (.t (.int k a))=>ev0 xs (.t (.int k (Zpw .xor k (if k.signed then -1 else k.max) a)))
  | _,_=>none
 | .convert s d x=>
  match (get T s).map (·.k),(get T d).map (·.k),Zi tm x with
  | some (TK.int _),some (TK.int k'),some (.t (.int _ a))=>ev0 xs (.t (.int k' (k'.wrap a)))
  | some TK.str,some TK.str,some (.t (.str a))=>ev0 xs (.t (.str a))
  | some TK.str,some (TK.slice e),some (.t (.str a))=>
   match (get T e).map (·.k),xs with
   | some (TK.int .u8),.es es::xs=>ev1 [Ziy a=es,a.length<=9223372036854775807] xs (.t (.sl es))
   | _,_=>none
  | some (TK.slice e),some TK.str,some (.t (.sl es))=>
   match (get T e).map (·.k),xs with
   | some (TK.int .u8),.cs [.str s]::xs=>ev1 [Ziy s=es,s≠[]] xs (.t (.str s))
   | _,_=>none
  | _,_,_=>none
 | .field xT x i=>
  match Zxr T xT i,Zi tm x with
  | some (q,j),some (.agg cs)=>match Zec j.agg j.size q cs with | some p=>ev0 xs p | none=>none
  | _,_=>none
 | .extract x i=>match Zi tm x with | some (.tup cs)=>(match cs[i]? with | some p=>ev0 xs p | none=>none) | _=>none
 | .nilCheck x=>
  match Zi tm x with
  | some (.vptr cs)=>ev0 xs (.vptr cs)
  | some (.bptr l q)=>match get σ l with | some (.box _)=>ev2 [] xs [l] (.bptr l q) | _=>none
  | some (.rptr l m i q)=>match get σ l with | some (.row _ es)=>ev2 [es.length=m] xs [l] (.rptr l m i q) | _=>none
  | _=>none
 | .makeFunc (.func f) first caps=>bif Nat.beq first.size 0 then (match Zjx tm caps.toList with | some ps=>ev0 xs (.fn f ps) | none=>none) else none
 | .build t parts=>match Zg9 tm parts.toList with | some ps=>Zahr T t ps xs | none=>none
 | .buildSlice t len parts=>match Zg9 tm parts.toList with | some ps=>Zas2 T t len ps xs | none=>none
 | .box _ x=>
  match Zi tm x,xs with
  | some p,.lab l::xs=>bif (Zz p).all PV.one&&Nat.ble 1000 l then ev3 [] xs (.bptr l 0) l (.box (Zz p)) else none
  | _,_=>none
 | .alloc t=>
  match (get T t).bind (·.zero),xs with
  | some z,.lab l::xs=>bif Nat.ble 1000 l then ev3 [] xs (.bptr l 0) l (.box z) else none
  | _,_=>none
 | .makeSlice t x y=>match Zi tm x,Zi tm y with | some px,some py=>Zamk T t px py xs | _,_=>none
 | .fieldAddr s x i=>match Zi tm x with | some px=>Z1g T σ s i px xs | none=>none
 | .indexAddr t x y=>match Zi tm x,Zi tm y with | some px,some py=>Z1h T σ t px py xs | _,_=>none
 | .index t x y=>match Zi tm x,Zi tm y with | some px,some py=>Zahs T t px py xs | _,_=>none
 | .load t x=>
  match Zi tm x with
  | some px=>
   match xs,o.dst with
   | .cell d c::xs',some d'=>bif Nat.beq d d' then Zab2 T σ t px c xs' else Zaed T σ t px xs
   | _,_=>Zaed T σ t px xs
  | none=>none
 | .slice t x none (some y) (some z)=>
  match Zee T t,Zi tm x,Zi tm y,Zi tm z with
  | some _,some px,some (.t (.int _ 0)),some (.t (.int _ 0))=>bif Zalc px then ev0 xs .nils else none
  | _,_,_,_=>none
 | .slice t x lo hi none=>match Zi tm x with | some px=>Zaht T tm t px lo hi xs | none=>none
 | .call c=>match Zjx tm c.args.toList with | some ps=>Zaml T P tm σ c.callee ps c.argTypes.toList xs | none=>none
 | _=>none
abbrev Em:=Option (List Prop×List Orc×Stm)
def ninB(ls:List Nat)(d:Nat)(σ1:List (Nat×Blk)):Bool:=σ1.all fun x=>match ls[x.1]? with | some _=>true | none => !Zxv ls (x.1+d)
def Zahu(P:Program)(tm:List (Nat×PV))(σ:List (Nat×Blk))(fo:Operand)(as:List Operand)(xs:List Orc):Em:=
 match Zi tm fo,Zjx tm as,xs with
 | some (.fn f caps),some ps,.callU S ls d σ1 res::xs=>
  match Zgp S ls σ (ps++caps),Zri ls σ 0 ls with
  | some (cs,qs),some σa=>
   bif Zaeg ls d σa σ1 res&&ninB ls d σ1 then
    some (cs++(scC S σ1 res++[FnG P f σa qs σ1 res]),xs,⟨⟨ls++(Zl8 (ps++caps)++Zun σ (ps++caps)),res.ren (Zdf ls d),Zed (Zdf ls d) σ1⟩,ls⟩)
   else none
  | _,_=>none
 | _,_,_=>none
def Zahv(P:Program)(tm:List (Nat×PV))(σ:List (Nat×Blk))(fo:Operand)(as:List Operand)(xs:List Orc):Em:=
 match Zi tm fo,as,xs with
 | some (.fn f []),[x],.callC L b::xs=>
  match Zi tm x with
  | some (.osl l m)=>
   match get σ l with
   | some (.row k es)=>bif Nat.ble 1000 L && !Nat.beq L l then some ([es.length=m,Z2u P f k b,m*b<=140737488355328],xs,⟨⟨[l],.osl L m,[(L,.row k es)]⟩,[]⟩) else none
   | _=>none
  | _=>none
 | _,_,_=>none
def Zas4(P:Program)(T:TS)(o:Oper)(tm:List (Nat×PV))(σ:List (Nat×Blk))(xs:List Orc):Em:=
 match o.op with
 | .call c=>
  match c.callee,Zjx tm c.args.toList,c.argTypes.toList,xs with
  | .value fo,_,_,xs=>match Zahu P tm σ fo c.args.toList xs with | some r=>some r | none=>Zahv P tm σ fo c.args.toList xs
  | .builtin .append,some [.osl l m,y],[t,tx],.es es::xs=>
   match Zee T t,Zee T tx,Zaee σ y,get σ l with
   | some (_,⟨_,k,bytes,some z,_,_⟩),some _,some (cs,ys,ls),some (.row k' es0)=>
    bif Nat.blt 0 k&&Nat.beq z.length k&&Nat.beq k k' then
     some (cs++[es0.length=m,es0++ys=es,∀ el,el∈ys->el.length=k,es.length<=9223372036854775807,es.length*bytes<=140737488355328],xs,⟨⟨l::ls,.osl l es.length,[(l,.row k es)]⟩,[l]⟩)
    else none
   | _,_,_,_=>none
  | .builtin .copy,some [.osl l m,y],[t,tx],.num q :: .es es::xs=>
   match Zee T t,Zee T tx,Zaee σ y,get σ l with
   | some (_,⟨_,k,_,some z,_,_⟩),some _,some (cs,ys,ls),some (.row k' es0)=>
    bif Nat.blt 0 k&&Nat.beq z.length k&&Nat.beq k k' then
     some (cs++[es0.length=m,(ys.length:Int)=q,ys.length<=m,∀ el,el∈ys->el.length=k,ys++es0.drop ys.length=es],xs,⟨⟨l::ls,.t (.int .i64 q),[(l,.row k es)]⟩,[l]⟩)
    else none
   | _,_,_,_=>none
  | _,_,_,_=>none
 | .store t x y=>
  match o.dst,get T t,Zi tm x,Zi tm y with
  | none,some i,some (.bptr l q),some p=>
   match get σ l,xs with
   | some (.box cs),.sp cs'::xs=>
    bif Nat.beq (Zz p).length i.size&&(Zz p).all PV.one then some ([q+i.size<=cs.length,splice cs q (Zz p)=cs'],xs,⟨⟨[l],.tup [],[(l,.box cs')]⟩,[l]⟩) else none
   | some (.box cs),xs=>
    bif Nat.beq (Zz p).length i.size&&(Zz p).all PV.one&&Nat.ble (q+i.size) cs.length then some ([],xs,⟨⟨[l],.tup [],[(l,.box (splice cs q (Zz p)))]⟩,[l]⟩) else none
   | _,_=>none
  | none,some i,some (.rptr l m j q),some p=>
   match get σ l,xs,Zfp (Zz p) with
   | some (.row k es),.cs e :: .es es'::xs,some ts=>
    bif Nat.beq ts.length i.size&&Nat.ble (q+i.size) k then some ([es.length=m,es[j]?=some e,es.set j (splice e q ts)=es'],xs,⟨⟨[l],.tup [],[(l,.row k es')]⟩,[l]⟩) else none
   | _,_,_=>none
  | _,_,_,_=>none
 | _=>none
def Zas5(T:TS)(o:Oper)(tm:List (Nat×PV))(σ:List (Nat×Blk))(xs:List Orc):Em:=
 match o.op with
 | .slice t x (some y) none none=>
  match Zee T t,Zi tm x,Zi tm y,xs with
  | some (_,j),some (.osl l m),some (.t (.int _ i)),.nat n::xs=>
   match get σ l with
   | some (.row k es)=>bif Nat.beq j.size k then some ([es.length=m,0<=i,i<=m,i.toNat=n],xs,⟨⟨[l],.own l (.tail m n),[]⟩,[]⟩) else none
   | _=>none
  | _,_,_,_=>none
 | .indexAddr t x y=>
  match Zee T t,Zi tm x,Zi tm y,xs with
  | some (_,j),some (.own l (.msl m)),some (.t (.int _ i)),.nat n::xs=>
   match get σ l with
   | some (.mat 1 0 es)=>bif Nat.beq j.size 1 then some ([es.length=m,0<=i,i < m,i.toNat=n],xs,⟨⟨[l],.own l (.mpt m n 0),[]⟩,[]⟩) else none
   | _=>none
  | some (_,j),some (.own l (.mrow m jj)),some (.t (.int _ i)),.es inner :: .nat n::xs=>
   match get σ l with
   | some (.mat 1 0 es)=>bif Nat.beq j.size 1 then some ([es.length=m,es[jj]?=some [.sl inner],0<=i,i < inner.length,i.toNat=n],xs,⟨⟨[l],.own l (.mel m jj n),[]⟩,[]⟩) else none
   | _=>none
  | _,_,_,_=>none
 | .load t x=>
  match get T t,Zi tm x with
  | some i,some (.own l (.mpt m j 0))=>
   match get σ l with
   | some (.mat 1 0 es)=>bif !i.agg&&Nat.beq i.size 1 then some ([es.length=m,j < m],xs,⟨⟨[l],.own l (.mrow m j),[]⟩,[]⟩) else none
   | _=>none
  | some i,some (.own l (.mel m j q))=>
   match get σ l,xs with
   | some (.mat 1 0 es),.es inner :: .cs [z]::xs=>bif (!i.agg&&Nat.beq i.size 1)&&z.scal then some ([es.length=m,es[j]?=some [.sl inner],inner[q]?=some [z]],xs,⟨⟨[l],.t z,[]⟩,[]⟩) else none
   | _,_=>none
  | _,_=>none
 | .buildSlice t 1 parts=>
  match Zee T t,Zg9 tm parts.toList,xs with
  | some (_,⟨_,1,_,some z,_,_⟩),some [(0,.osl l2 n2)],.lab L::xs=>
   match get σ l2,Zjc (Zjf 1 1) (rep 1 z) [(0,.osl l2 n2)] with
   | some (.row 1 es2),some out=>bif Nat.beq z.length 1&&Nat.ble 1000 L && !Nat.beq L l2 then some ([out=[.osl l2 n2],es2.length=n2,SC1 es2],xs,⟨⟨[l2],.own L (.msl 1),[(L,.mat 1 0 [[.sl es2]])]⟩,[l2]⟩) else none
   | _,_=>none
  | _,_,_=>none
 | .buildSlice t 0 parts=>
  match Zee T t,Zg9 tm parts.toList,xs with
  | some (_,⟨_,1,_,some z,_,_⟩),some [],.num 0 :: .lab L::xs=>bif Nat.beq z.length 1 then some ([],xs,⟨⟨[],.own L (.msl 0),[(L,.mat 1 0 [])]⟩,[]⟩) else none
  | _,_,_=>none
 | .call c=>
  match c.callee,Zjx tm c.args.toList,c.argTypes.toList,xs with
  | .builtin .append,some [.own l (.msl m),.own l3 (.msl m3)],[t,tx],.es es::xs=>
   match Zee T t,Zee T tx,get σ l,get σ l3 with
   | some (_,⟨_,1,bytes,some z,_,_⟩),some _,some (.mat 1 0 es0),some (.mat 1 0 es3)=>
    bif Nat.beq z.length 1&&Nat.blt 0 m3 && !Nat.beq l l3 then
     some ([es0.length=m,es3.length=m3,es0++es3=es,m+m3<=9223372036854775807,(m+m3)*bytes<=140737488355328],xs,⟨⟨[l,l3],.own l (.msl es.length),[(l,.mat 1 0 es)]⟩,[l,l3]⟩)
    else none
   | _,_,_,_=>none
  | _,_,_,_=>none
 | _=>none
def Zas6(P:Program)(T:TS)(o:Oper)(tm:List (Nat×PV))(σ:List (Nat×Blk))(xs:List Orc):Em:=
 match o.op with
 | .makeMap t none=>
  match (get T t).map (·.k),xs with
  | some (TK.map _ e),.lab L::xs=>match get T e with | some j=>some ([],xs,⟨⟨[],.own L .map,[(L,.map (.v j.agg) [])]⟩,[]⟩) | none=>none
  | _,_=>none
 | .lookup t x y ok=>
  match (get T t).map (·.k),Zi tm x,Zi tm y,xs with
  | some (TK.map k e),some (.own l .map),some (.t (.int .i64 n)),.cs ts::xs=>
   match get σ l,(get T k).map (·.k) with
   | some (.map (.v ag) es),some (TK.int .i64)=>
    match Zt7 P ag e,ok,xs with
    | some zs,true,.br b::xs=>some ([mlk es n zs=(ts,b)],xs,⟨⟨[l],.tup [mvP ag ts,.t (.bool b)],[]⟩,[]⟩)
    | some zs,false,xs=>some ([(mlk es n zs).1=ts],xs,⟨⟨[l],mvP ag ts,[]⟩,[]⟩)
    | _,_,_=>none
   | _,_=>none
  | some (TK.map k e),some (.own l .map),some (.t (.int .i64 n)),.lab L :: .es rows::xs=>
   match get σ l,(get T k).map (·.k),ok,Zge P e with
   | some (.map (.rows c none) es),some (TK.int .i64),false,some [.nils]=>bif (Zt7 P false e).isSome&&(!Nat.beq L l&&Nat.ble 1000 L) then some ([rlk es n=rows],xs,⟨⟨[l],.osl L rows.length,[(l,.map (.rows c (some n)) es),(L,.row c rows)]⟩,[l]⟩) else none
   | _,_,_,_=>none
  | _,_,_,_=>none
 | .mapUpdate t x y z=>
  match o.dst,(get T t).map (·.k),Zi tm x,Zi tm y,Zi tm z,xs with
  | none,some (TK.map k _),some (.own l .map),some (.t (.int .i64 i)),some (.osl L m),.mp es'::xs=>
   match get σ l,get σ L,(get T k).map (·.k) with
   | some (.map (.rows c (some n)) es),some (.row c2 rows),some (TK.int .i64)=>bif Nat.beq c c2 && !Nat.beq L l then some ([n=i,rows.length=m,Zhf es i [.sl rows]=es'],xs,⟨⟨[l,L],.tup [],[(l,.map (.rows c none) es')]⟩,[l,L]⟩) else none
   | _,_,_=>none
  | _,_,_,_,_,_=>none
 | .call c=>
  match c.callee,Zjx tm c.args.toList,c.argTypes.toList,xs with
  | .builtin .len,some [.own l .map],[t],.num n::xs=>
   match (get T t).map (·.k),get σ l with
   | some (TK.map _ _),some (.map (.v _) es)=>some ([(es.length:Int)=n],xs,⟨⟨[l],.t (.int .i64 n),[]⟩,[]⟩)
   | _,_=>none
  | _,_,_,_=>none
 | _=>none
def evPr(T:TS)(o:Oper)(tm:List (Nat×PV))(σ:List (Nat×Blk))(xs:List Orc):Em:=
 match o.op with
 | .nilCheck x=>
  match Zi tm x with
  | some (.own l (.pp m q))=>match get σ l with | some (.prow _ _ es _)=>some ([es.length=m],xs,⟨⟨[l],.own l (.pp m q),[]⟩,[]⟩) | _=>none
  | _=>none
 | .fieldAddr s x f=>
  match Zxr T s f,Zi tm x with
  | some (q0,j),some (.own l (.pp m q))=>match get σ l with | some (.prow _ _ es _)=>bif Nat.blt 0 j.size then some ([es.length=m],xs,⟨⟨[l],.own l (.pp m (q+q0)),[]⟩,[]⟩) else none | _=>none
  | _,_=>none
 | .load t x=>
  match get T t,Zi tm x with
  | some i,some (.own l (.pp m q))=>
   match get σ l with
   | some (.prow _ _ es cs)=>match Zec i.agg i.size q cs with | some p=>some ([es.length=m],xs,⟨⟨[l],p,[]⟩,[]⟩) | none=>none
   | _=>none
  | _,_=>none
 | .store t x y=>
  match o.dst,get T t,Zi tm x,Zi tm y with
  | none,some i,some (.own l (.pp m q)),some p=>
   match get σ l with
   | some (.prow k i0 es cs)=>
    bif Nat.beq (Zz p).length i.size&&(Zz p).all PV.one&&Nat.ble (q+i.size) cs.length then some ([es.length=m],xs,⟨⟨[l],.tup [],[(l,.prow k i0 es (splice cs q (Zz p)))]⟩,[l]⟩) else none
   | _=>none
  | _,_,_,_=>none
 | _=>none
def Zas7(T:TS)(o:Oper)(tm:List (Nat×PV))(σ:List (Nat×Blk))(xs:List Orc):Em:=
 match o.op with
 | .nilCheck x=>
  match Zi tm x with
  | some (.own l (.rp cs))=>match get σ l with | some (.reg _)=>some ([],xs,⟨⟨[l],.own l (.rp cs),[]⟩,[]⟩) | _=>none
  | some (.own l (.xp m j q))=>match get σ l with | some (.xrow _ _ _ es)=>some ([es.length=m],xs,⟨⟨[l],.own l (.xp m j q),[]⟩,[]⟩) | _=>none
  | _=>none
 | .fieldAddr s x f=>
  match Zxr T s f,Zi tm x with
  | some (q0,j),some (.own l (.rp cs))=>match get σ l with | some (.reg _)=>bif Nat.blt 0 j.size then some ([],xs,⟨⟨[l],.own l (.rp (cs.drop q0)),[]⟩,[]⟩) else none | _=>none
  | some (q0,j),some (.own l (.xp m jj q))=>match get σ l with | some (.xrow _ _ _ es)=>bif Nat.blt 0 j.size then some ([es.length=m],xs,⟨⟨[l],.own l (.xp m jj (q+q0)),[]⟩,[]⟩) else none | _=>none
  | _,_=>none
 | .indexAddr t x y=>
  match Zee T t,Zi tm x,Zi tm y,xs with
  | some (_,j),some (.own l (.rg (.sl es))),some (.t (.int _ i)),.cs e::xs=>
   match get σ l with
   | some (.reg _)=>some ([∀ el,el∈es->el.length=j.size,0<=i,es[i.toNat]?=some e],xs,⟨⟨[l],.own l (.rp e),[]⟩,[]⟩)
   | _=>none
  | some (_,j),some (.own l (.xw m)),some (.t (.int _ i)),.nat n::xs=>
   match get σ l with
   | some (.xrow k _ _ es)=>bif Nat.beq j.size k then some ([es.length=m,0<=i,i < m,i.toNat=n],xs,⟨⟨[l],.own l (.xp m n 0),[]⟩,[]⟩) else none
   | _=>none
  | _,_,_,_=>none
 | .load t x=>
  match get T t,Zi tm x with
  | some i,some (.own l (.rp cs))=>
   match get σ l with
   | some (.reg h)=>match Zec i.agg i.size 0 (cs.map (rgL h l)) with | some p=>some ([],xs,⟨⟨[l],p,[]⟩,[]⟩) | none=>none
   | _=>none
  | some i,some (.own l (.xp m j q))=>
   match get σ l,xs with
   | some (.xrow _ i0 _ es),.cs e::xs=>match Zec i.agg i.size q (e.map .t) with | some p=>some ([es.length=m,i0<=j,es[j]?=some e],xs,⟨⟨[l],p,[]⟩,[]⟩) | none=>none
   | _,_=>none
  | _,_=>none
 | .unOp op _ x=>
  match op,Zi tm x with
  | .not,some (.own l (.rg (.bool b)))=>match get σ l with | some (.reg true)=>some ([],xs,⟨⟨[l],.own l (.rg (.bool b)),[]⟩,[]⟩) | _=>none
  | _,_=>none
 | .binOp op _ x y _=>
  match op,Zi tm x,Zi tm y with
  | .add,some (.own l (.rg (.int k i))),some (.t (.int k2 _))=>
   bif decide (k=k2) then match get σ l with | some (.reg true)=>some ([],xs,⟨⟨[l],.own l (.rg (.int k i)),[]⟩,[]⟩) | _=>none else none
  | _,_,_=>none
 | .store t x y=>
  match o.dst,get T t,Zi tm x,Zi tm y with
  | none,some i,some (.own l (.rp (c0::cs))),some p=>
   match get σ l,Zad9 σ p with
   | some (.reg true),some z=>bif Z2v c0 z&&(!i.agg&&Nat.beq i.size 1) then some ([],xs,⟨⟨l::Zoh p,.tup [],[]⟩,[]⟩) else none
   | _,_=>none
  | none,some i,some (.own l (.xp m j q)),some (.osl r2 n2)=>
   match get σ l,get σ r2,xs with
   | some (.xrow k i0 r es),some (.row _ es2),.cs e :: .es es' :: .nat i1::xs=>
    match get σ r,Znb r (splice (e.map .t) q [.own r (.rg (.sl es2))]) with
    | some (.reg false),some ts=>
     bif (!i.agg&&Nat.beq i.size 1&&Nat.ble (q+1) k)&&(Nat.ble 1000 r && !Nat.beq r r2&&(!Nat.beq l r && !Nat.beq l r2)) then
      some ([es.length=m,i0=j,es[i0]?=some e,es2.length=n2,∀ el,el∈es2->∀ x,x∈el->Zb.scal x=true,es.set i0 ts=es',i0+1=i1],xs,⟨⟨[l,r,r2],.tup [],[(l,.xrow k i1 r es'),(r,.reg false)]⟩,[l,r,r2]⟩) else none
    | _,_=>none
   | _,_,_=>none
  | none,some i,some (.own l (.xp m j q)),some p=>
   match get σ l,xs with
   | some (.xrow k i0 r es),.cs e :: .es es' :: .nat i1::xs=>
    match (Zoh p).find? (fun m => !Nat.beq m r) with
    | none=>
     match Znb r (splice (e.map .t) q (Zz p)) with
     | some ts=>
      bif Nat.beq (Zz p).length i.size&&(Zz p).all PV.one&&Nat.ble (q+i.size) k then
       some ([es.length=m,i0=j,es[i0]?=some e,es.set i0 ts=es',i0+1=i1],xs,⟨⟨[l],.tup [],[(l,.xrow k i1 r es')]⟩,[l]⟩) else none
     | none=>none
    | some r2=>
     match get σ r,get σ r2,Znb r (splice (e.map .t) q (Zz (Zj1 2 r2 r [] p).2)) with
     | some (.reg false),some (.reg false),some ts=>
      bif (Nat.beq (Zz (Zj1 2 r2 r [] p).2).length i.size&&(Zz (Zj1 2 r2 r [] p).2).all PV.one&&Nat.ble (q+i.size) k)&&(Nat.ble 1000 r && !Nat.beq r r2&&(!Nat.beq l r && !Nat.beq l r2)) then
       some ((Zj1 2 r2 r [] p).1++[es.length=m,i0=j,es[i0]?=some e,es.set i0 ts=es',i0+1=i1],xs,⟨⟨l::r::r2::Zoh p,.tup [],[(l,.xrow k i1 r es'),(r,.reg false)]⟩,[l,r,r2]⟩) else none
     | _,_,_=>none
   | _,_=>none
  | _,_,_,_=>none
 | .call c=>
  match c.callee,Zjx tm c.args.toList,c.argTypes.toList,xs with
  | .builtin .len,some [.own l (.rg (.sl es))],[t],.num n::xs=>
   match (get T t).map (·.k),get σ l with
   | some (TK.slice _),some (.reg _)=>some ([(es.length:Int)=n],xs,⟨⟨[l],.t (.int .i64 n),[]⟩,[]⟩)
   | _,_=>none
  | .builtin .len,some [.own l (.xw m)],[t],.num n::xs=>
   match (get T t).map (·.k),get σ l with
   | some (TK.slice _),some (.xrow _ _ _ es)=>some ([es.length=m,(m:Int)=n],xs,⟨⟨[l],.t (.int .i64 n),[]⟩,[]⟩)
   | _,_=>none
  | .builtin .append,some [.nils,.own l2 (.xw m2)],[t,tx],.lab L :: .es es'::xs=>
   match Zee T t,Zee T tx,get σ l2 with
   | some (_,⟨_,k,bytes,some z,_,_⟩),some _,some (.xrow k2 i2 r es)=>
    bif Nat.blt 0 k&&Nat.beq z.length k&&(Nat.beq k k2&&Nat.ble 1000 L && !Nat.beq L r) then
     some ([i2=es.length,es.length=m2,es=es',es'.length<=9223372036854775807,es'.length*bytes<=140737488355328],xs,⟨⟨[l2],.own L (.xw es'.length),[(L,.xrow k es'.length r es')]⟩,[]⟩)
    else none
   | _,_,_=>none
  | .builtin .append,some [.own l (.xw m),.own l2 (.xw m2)],[t,tx],.es es'::xs=>
   match Zee T t,Zee T tx,get σ l,get σ l2 with
   | some (_,⟨_,k,bytes,some z,_,_⟩),some _,some (.xrow k1 i1 r es0),some (.xrow k2 i2 r2 es)=>
    bif Nat.beq r r2 then
    bif Nat.blt 0 k&&Nat.beq z.length k&&(Nat.beq k k1&&Nat.beq k k2) then
     some ([es0.length=m,i1=m,i2=es.length,es.length=m2,es0++es=es',es'.length<=9223372036854775807,es'.length*bytes<=140737488355328],xs,⟨⟨[l,l2],.own l (.xw es'.length),[(l,.xrow k es'.length r es')]⟩,[l]⟩)
    else none
    else
    match get σ r,get σ r2 with
    | some (.reg false),some (.reg false)=>
     bif Nat.blt 0 k&&Nat.beq z.length k&&(Nat.beq k k1&&Nat.beq k k2)&&(Nat.ble 1000 r && !Nat.beq r r2&&(!Nat.beq l r && !Nat.beq l r2)) then
      some ([es0.length=m,i1=m,i2=es.length,es.length=m2,es0++es=es',es'.length<=9223372036854775807,es'.length*bytes<=140737488355328],xs,⟨⟨[l,l2,r,r2],.own l (.xw es'.length),[(l,.xrow k es'.length r es'),(r,.reg false)]⟩,[l,r,r2]⟩)
     else none
    | _,_=>none
   | _,_,_,_=>none
  | _,_,_,_=>none
 | .buildSlice t len parts=>
  match Zee T t,Zg9 tm parts.toList,xs with
  | some (_,⟨_,k,_,some z,_,_⟩),some ps,.nat r :: .lab L::xs=>
   bif Nat.blt 0 k&&Nat.beq z.length k&&Nat.ble (len*k) 16777216 then
    match Zjc (Zjf k len) (rep len z) ps with
    | some out=>
     match Znb r out with
     | some ts=>bif Nat.ble 1000 L && !Nat.beq L r&&Nat.beq ts.length (len*k) then some ([],xs,⟨⟨[],.own L (.xw len),[(L,.xrow k len r (chunk k len ts))]⟩,[]⟩) else none
     | none=>none
    | none=>none
   else none
  | _,_,_=>none
 | _=>none
def Zalg(P:Program)(T:TS)(o:Oper)(tm:List (Nat×PV))(σ:List (Nat×Blk))(xs:List Orc):Em:=
 match evOp P T o tm σ xs with
 | some (ps,xs,s)=>some (ps,xs,⟨s,[]⟩)
 | none=>
  match Zas4 P T o tm σ xs with
  | some r=>some r
  | none=>
   match Zas5 T o tm σ xs with
   | some r=>some r
   | none=>
    match Zas6 P T o tm σ xs with
    | some r=>some r
    | none=>
     match evPr T o tm σ xs with
     | some r=>some r
     | none=>Zas7 T o tm σ xs
end Go.PW
namespace Go.PW
open Go.RowKit
section
variable {P:Program} {T:TS} {o:Oper} {tm:List (Nat×PV)} {σ:List (Nat×Blk)} {xs xs':List Orc} {ps:List Prop} {s:Stp}
theorem Zig{qs:List Prop}{need:List Nat}{p:PV}(h:ev2 qs xs need p=some (ps,xs',s)):ps=qs/\xs'=xs/\s=⟨need,p,[]⟩:=by
 simp only [ev2,Option.some.injEq,Prod.mk.injEq] at h
 exact⟨h.1.symm,h.2.1.symm,h.2.2.symm⟩
theorem Z9e{qs:List Prop}{p:PV}{l:Nat}{b:Blk}(h:ev3 qs xs p l b=some (ps,xs',s)):ps=qs/\xs'=xs/\s=⟨[],p,[(l,b)]⟩:=by
 simp only [ev3,Option.some.injEq,Prod.mk.injEq] at h
 exact⟨h.1.symm,h.2.1.symm,h.2.2.symm⟩
theorem Zdj(a b:Nat):Nat.ble a b=true↔a<=b:=by rw [Nat.ble_eq]
theorem Z9{α:Type}{b:Bool}{x:Option α}{y:α}(h:(bif b then x else none)=some y):b=true/\x=some y:=by cases b<;>simp_all
theorem condNone'{α:Type}{b:Bool}{x:Option α}{y:α}(h:(bif b then none else x)=some y):b=false/\x=some y:=by cases b<;>simp_all
theorem Zaeh(hT:TOK P T){t:Nat}{i:Zo1}{fs:List (Nat×Nat)}(h:get T t=some i)(hk:i.k = .struct fs){pl:List (Nat×Nat)}(hp:Zx3 T fs=some pl):Zrf P t=some pl:=by
 have:=(hT t i h).k
 rw [hk] at this
 obtain⟨fs',hu,rfl⟩:=this
 simp only [Zrf,hu]
 generalize fs'.toList=l at hp
 clear hu hk h i
 induction l generalizing pl with
 | nil=>simp only [List.map_nil,Zx3,Option.some.injEq] at hp;subst hp;rfl
 | cons f l ih=>
  simp only [List.map_cons,Zx3] at hp
  split at hp
  .rename_i i ps hi hps
   cases hp
   obtain⟨inf,hinf,hs⟩:=hT.size hi
   rw [List.mapM_cons,ih hps,hinf]
   simp [hs]
  .cases hp
theorem Zas8(hT:TOK P T){t:Nat}{parts:Array (Nat×Operand)}{qs:List (Nat×PV)}(ho:o.op = .build t parts)(hp:Zg9 tm parts.toList=some qs)(h:Zahr T t qs xs=some (ps,xs',s)):Za3 P o tm σ s.need s.p s.news:=by
 unfold Zahr at h
 split at h
 .rename_i z fs _ hi
  split at h
  .rename_i pl hpl
   split at h
   .rename_i out hf
    obtain⟨rfl,rfl,rfl⟩:=Zdq h
    exact Zalu ho ⟨.inl (Zaeh hT hi rfl hpl),(hT t _ hi).z z rfl⟩ hp hf
   .cases h
  .cases h
 .rename_i z n e _ hi
  split at h
  .rename_i j hj
   split at h
   .rename_i out hf
    obtain⟨rfl,rfl,rfl⟩:=Zdq h
    refine Zalu ho ⟨.inr ?_,(hT t _ hi).z z rfl⟩ hp hf
    have hu:P.underlying t=some (.array n e):=(hT t _ hi).k
    obtain⟨inf,hinf,hs⟩:=hT.size hj
    simp [Z6k,hu,hinf,hs]
   .cases h
  .cases h
 .cases h
theorem Zaxn(hT:TOK P T){t len:Nat}{parts:Array (Nat×Operand)}{qs:List (Nat×PV)}(ho:o.op = .buildSlice t len parts)(hp:Zg9 tm parts.toList=some qs)(h:Zas2 T t len qs xs=some (ps,xs',s)):Za3 P o tm σ s.need s.p s.news:=by
 unfold Zas2 at h
 split at h
 .rename_i e agg k by_ z kk fl he
  have hbh:=Z9 h;clear h;obtain⟨hb,h⟩:=hbh
  simp only [Bool.and_eq_true] at hb
  have hE:=Zof (z:=z) hT he rfl hb.1.1 hb.1.2
  have hsm:=(Zdj _ _).1 hb.2
  split at h
  .rename_i out hf
   split at h
   .rename_i ts xs2 hts
    obtain⟨rfl,rfl,rfl⟩:=Zdq h
    exact Zayw ho hE hp hsm hf hts
   .rename_i ts l xs2 hts
    have hbh:=Z9 h;clear h;obtain⟨hb2,h⟩:=hbh
    simp only [Bool.and_eq_true] at hb2
    obtain⟨rfl,rfl,rfl⟩:=Z9e h
    exact Zaz2 l ((Zdj _ _).1 hb2.1) ho hE hp hsm hf hts ((Zu _ _).1 hb2.2)
   .cases h
  .cases h
 .cases h
theorem Zavh(hT:TOK P T){t:Nat}{x y:Operand}{px py:PV}(ho:o.op = .makeSlice t x y)(hx:Zi tm x=some px)(hy:Zi tm y=some py)(h:Zamk T t px py xs=some (ps,xs',s))(hc:Zaj ps):Za3 P o tm σ s.need s.p s.news:=by
 unfold Zamk at h
 split at h
 .rename_i e agg k bytes z kk fl _ m _ c l n es xs2 he
  have hbh:=Z9 h;clear h;obtain⟨hb,h⟩:=hbh
  simp only [Bool.and_eq_true] at hb
  have hE:=Zof (z:=z) hT he rfl hb.1.1 hb.1.2
  split at h
  .rename_i zs hzs
   obtain⟨rfl,rfl,rfl⟩:=Z9e h
   obtain⟨h1,h2,h3,h4,h5,h6,_⟩:=hc
   subst h5
   subst h6
   exact Zayx l ((Zdj _ _).1 hb.2) ho hE hzs hx hy h1 h2 h3 h4
  .cases h
 .cases h
theorem Zahw(hT:TOK P T){t i:Nat}{x:Operand}{px:PV}(ho:o.op = .fieldAddr t x i)(hx:Zi tm x=some px)(h:Z1g T σ t i px xs=some (ps,xs',s))(hc:Zaj ps):Za3 P o tm σ s.need s.p s.news:=by
 unfold Z1g at h
 split at h
 .rename_i q j hf
  have hbh:=condNone' h;clear h;obtain⟨hb,h⟩:=hbh
  have hs:j.size≠0:=fun e=>by rw [e] at hb;cases hb
  obtain⟨i0,fs,fT,hi0,hk0,hfs,hj⟩:=Zo6 hf
  have hfi:=hT.fieldInfo hi0 hk0 hfs hj
  split at h
  .split at h
   .rename_i hg
    obtain⟨rfl,rfl,rfl⟩:=Zig h
    exact Zaun ho hfi hs hx hg
   .cases h
  .split at h
   .rename_i hg
    obtain⟨rfl,rfl,rfl⟩:=Zig h
    exact Zauo ho hfi hs hx hg hc.1
   .cases h
  .obtain⟨rfl,rfl,rfl⟩:=Zdq h
   exact Zaup ho hfi hs hx
  .cases h
 .cases h
theorem Zahx(hT:TOK P T){t:Nat}{x y:Operand}{px py:PV}(ho:o.op = .indexAddr t x y)(hx:Zi tm x=some px)(hy:Zi tm y=some py)(h:Z1h T σ t px py xs=some (ps,xs',s))(hc:Zaj ps):Za3 P o tm σ s.need s.p s.news:=by
 unfold Z1h at h
 split at h
 .split at h
  .split at h
   .rename_i e j c xs2 he
    obtain⟨rfl,rfl,rfl⟩:=Zfl h
    obtain⟨i0,hi0,hk0,hj⟩:=Zc6 he
    exact Zaur ho (hT.slInfo hi0 hk0 hj) hx hy hc.1 hc.2.1 hc.2.2.1
   .cases h
  .split at h
   .rename_i e j k es n xs2 he hg
    have hbh:=Z9 h;clear h;obtain⟨hb,h⟩:=hbh
    have hb:=(Zu _ _).1 hb
    obtain⟨rfl,rfl,rfl⟩:=Zig h
    obtain⟨i0,hi0,hk0,hj⟩:=Zc6 he
    obtain⟨h1,h2,h3,h4,_⟩:=hc
    subst h4
    exact Zaus ho (hT.slInfo hi0 hk0 hj) hx hy (by rw [hb];exact hg) h1 h2 h3
   .cases h
  .split at h
   .rename_i len e j cs n xs2 he hg
    obtain⟨rfl,rfl,rfl⟩:=Zig h
    obtain⟨i0,hi0,hk0,hj⟩:=Zz0 he
    obtain⟨h2,h3,h4,_⟩:=hc
    subst h4
    exact Zauq ho (hT.arrInfo hi0 hk0 hj) hx hy hg h2 h3
   .cases h
  .split at h
   .rename_i len e j k els n xs2 he hg
    obtain⟨rfl,rfl,rfl⟩:=Zig h
    obtain⟨i0,hi0,hk0,hj⟩:=Zz0 he
    obtain⟨h1,h2,h3,h4,_⟩:=hc
    subst h4
    exact Zasl ho (hT.arrInfo hi0 hk0 hj) hx hy hg h1 h2 h3
   .cases h
  .split at h
   .rename_i len e j n xs2 he
    obtain⟨rfl,rfl,rfl⟩:=Zfl h
    obtain⟨i0,hi0,hk0,hj⟩:=Zz0 he
    obtain⟨h2,h3,h4,_⟩:=hc
    subst h4
    exact Zasm ho (hT.arrInfo hi0 hk0 hj) hx hy h2 h3
   .cases h
  .cases h
 .cases h
theorem Zas9(hT:TOK P T){t:Nat}{x y:Operand}{px py:PV}(ho:o.op = .index t x y)(hx:Zi tm x=some px)(hy:Zi tm y=some py)(h:Zahs T t px py xs=some (ps,xs',s))(hc:Zaj ps):Za3 P o tm σ s.need s.p s.news:=by
 unfold Zahs at h
 split at h
 .split at h
  .split at h
   .rename_i hk
    obtain⟨rfl,rfl,rfl⟩:=Zfl h
    simp only [Option.map_eq_some_iff] at hk
    obtain⟨i0,hi0,hk⟩:=hk
    have hu:=(hT _ _ hi0).k
    rw [hk] at hu
    exact Zaqg ho hu hx hy hc.1 hc.2.1
   .cases h
  .split at h
   .rename_i len e j c xs2 he
    obtain⟨rfl,rfl,rfl⟩:=Zfl h
    obtain⟨i0,hi0,hk0,hj⟩:=Zz0 he
    have hu:=(hT _ _ hi0).k
    rw [hk0] at hu
    exact Zaqf ho hu (hT _ _ hj).ty hx hy hc.1 hc.2.1 hc.2.2.1
   .cases h
  .cases h
 .cases h
theorem Zaje(hT:TOK P T){t:Nat}{x:Operand}{px:PV}(ho:o.op = .load t x)(hx:Zi tm x=some px)(h:Zaed T σ t px xs=some (ps,xs',s))(hc:Zaj ps):Za3 P o tm σ s.need s.p s.news:=by
 unfold Zaed at h
 split at h
 .rename_i i hi
  have hty:=(hT t i hi).ty
  split at h
  .split at h
   .rename_i hg
    split at h
    .rename_i p hp
     obtain⟨rfl,rfl,rfl⟩:=Zig h
     exact Zalw ho hty hx hg hp
    .cases h
   .cases h
  .split at h
   .rename_i hg
    split at h
    .rename_i p hp
     obtain⟨rfl,rfl,rfl⟩:=Zig h
     exact Zawk ho hty hx hg hc.1 hc.2.1 hp
    .cases h
   .cases h
  .split at h
   .rename_i p hp
    obtain⟨rfl,rfl,rfl⟩:=Zdq h
    exact Zalx ho hty hx hp
   .cases h
  .cases h
 .cases h
theorem Zaqq(hT:TOK P T){t:Nat}{x:Operand}{px:PV}{c:List Zb}(ho:o.op = .load t x)(hx:Zi tm x=some px)(h:Zab2 T σ t px c xs=some (ps,xs',s))(hc:Zaj ps):Za3 P o tm σ s.need s.p s.news:=by
 unfold Zab2 at h
 split at h
 .rename_i i l q hi
  split at h
  .rename_i cs hg
   obtain⟨rfl,rfl,rfl⟩:=Zig h
   exact Zalw ho (hT t i hi).ty hx hg hc.1
  .cases h
 .rename_i i cs hi
  obtain⟨rfl,rfl,rfl⟩:=Zfl h
  exact Zalx ho (hT t i hi).ty hx hc.1
 .cases h
theorem Zh2{c:Call}{ce:Callee}{as:List Operand}{ts:List Nat}(hc:c.callee=ce)(ha:c.args.toList=as)(ht:c.argTypes.toList=ts):c={ callee:=ce,args:=as.toArray,argTypes:=ts.toArray }:=by
 cases c
 subst hc ha ht
 simp
theorem Zqy{tm:List (Nat×PV)}{l:List Operand}{p:PV}(h:Zjx tm l=some [p]):∃ x,l=[x]/\Zi tm x=some p:=by
 match l,h with
 | [x],h=>
  simp only [Zjx] at h
  split at h
  .rename_i q qs hq hqs
   cases h
   cases hqs
   exact⟨x,rfl,hq⟩
  .cases h
 | x::y::l,h=>
  simp only [Zjx] at h
  split at h
  .rename_i q qs hq hqs
   cases h
   split at hqs
   .cases hqs
   .cases hqs
  .cases h
theorem Zle{tm:List (Nat×PV)}{l:List Operand}{p q:PV}(h:Zjx tm l=some [p,q]):∃ x y,l=[x,y]/\Zi tm x=some p/\Zi tm y=some q:=by
 match l,h with
 | x::l,h=>
  simp only [Zjx] at h
  split at h
  .rename_i r rs hr hrs
   cases h
   obtain⟨y,rfl,hy⟩:=Zqy hrs
   exact⟨x,y,rfl,hr,hy⟩
  .cases h
theorem Zab3{p:PV}{cs:List Prop}{es:List (List Zb)}{ls:List Nat}(h:Zaee σ p=some (cs,es,ls))(hc:Zaj cs):Zrg σ p es/\∀ m,p.has m=true->m∈ls:=by
 unfold Zaee at h
 split at h
 .cases h;exact⟨.tree _,fun m hm=>by simp [PV.has] at hm⟩
 .cases h;exact⟨.nils,fun m hm=>by simp [PV.has] at hm⟩
 .cases h;exact⟨.con _ _,fun m hm=>by simp [PV.has] at hm⟩
 .split at h
  .rename_i hg
   cases h
   exact⟨.own _ _ _ _ hg hc.1,fun m hm=>by simp only [PV.has,Zu] at hm;subst hm;simp⟩
  .cases h
 .cases h
theorem Zajf:∀ {ls:List Nat},Zaef ls=true->∀ (i j L:Nat),ls[i]?=some L->ls[j]?=some L->i=j
 | [],_,i,j,L,h,_=>by simp at h
 | l::r,h,i,j,L,h1,h2=>by
  simp only [Zaef,Bool.and_eq_true,Bool.not_eq_true'] at h
  have hmem:∀ {r:List Nat} {L:Nat},L∈r->Zxv r L=true:=by
   intro r L
   induction r with
   | nil=>intro h;cases h
   | cons x r ih=>
    intro h
    simp only [Zxv]
    cases hb:Nat.beq x L with
    | true=>rfl
    | false=>
     rcases List.mem_cons.1 h with e | e
     .subst e;simp at hb
     .exact ih e
  cases i with
  | zero=>
   cases j with
   | zero=>rfl
   | succ j=>
    simp only [List.getElem?_cons_zero,Option.some.injEq] at h1
    subst h1
    have:=hmem (List.mem_of_getElem? (by simpa using h2:r[j]?=some l))
    rw [h.1] at this;cases this
  | succ i=>
   cases j with
   | zero=>
    simp only [List.getElem?_cons_zero,Option.some.injEq] at h2
    subst h2
    have:=hmem (List.mem_of_getElem? (by simpa using h1:r[i]?=some l))
    rw [h.1] at this;cases this
   | succ j=>rw [Zajf h.2 i j L (by simpa using h1) (by simpa using h2)]
theorem Zamn{m l:Nat}{o:Blk}:∀ {σ:List (Nat×Blk)},get σ m=some o->o.has l=true->l∈Zalf σ
 | [],h,_=>by cases h
 | (j,b)::r,h,hl=>by
  simp only [Zalf,List.mem_append]
  simp only [PW.get] at h
  cases hb:Nat.beq j m with
  | true=>
   simp only [hb,cond_true,Option.some.injEq] at h
   subst h
   cases b with
   | box cs=>exact .inl (Zjg cs hl)
   | row k es=>simp [Blk.has] at hl
   | mat k q es=>simp [Blk.has] at hl
   | map ag es=>simp [Blk.has] at hl
   | prow k i es cs=>exact .inl (Zjg cs hl)
   | reg h0=>simp [Blk.has] at hl
   | xrow k i r0 es=>simp only [Blk.has,Zu] at hl;subst hl;simp [Zayl]
  | false=>simp only [hb,cond_false] at h;exact .inr (Zamn h hl)
theorem Zajg{ls:List Nat}{d:Nat}{σa σ1:List (Nat×Blk)}{res:PV}(h:Zaeg ls d σa σ1 res=true):Zale ls d σa σ1 res:=by
 simp only [Zaeg,Bool.and_eq_true,List.all_eq_true] at h
 obtain⟨⟨⟨h1,h2⟩,h3⟩,h4⟩:=h
 refine { nd:=Zajf h1,len:=(Zdj _ _).1 h2,box:=fun l o hg L hL=>?_,ge:=fun l o hg hn=>?_,cl:=fun l hl=>?_ }
 .have:=h3 _ (Zgu hg)
  simp only [hL] at this
  unfold Zavg at this
  split at this
  .rename_i cs cs0 hc0
   exact .inl ⟨_,cs0,rfl,hc0⟩
  .rename_i k es k' es0 hc0
   obtain rfl:=(Zu _ _).1 this
   exact .inr ⟨_,_,es0,rfl,hc0⟩
  .cases this
 .have:=h3 _ (Zgu hg)
  simp only [hn] at this
  exact (Zdj _ _).1 this
 .have hk:hasK σ1 l=true:=by
   rcases hl with hl | ⟨m,o,hg,hl⟩
   .exact h4 l (List.mem_append.2 (.inl (Zab1 res hl)))
   .exact h4 l (List.mem_append.2 (.inr (Zamn hg hl)))
  unfold hasK at hk
  split at hk
  .exact⟨_,by assumption⟩
  .cases hk
theorem Zavi:∀ {σ1:List (Nat×Blk)},Zaj (scB σ1)->∀ l o,get σ1 l=some o->o.SC
 | [],_,l,o,h=>by cases h
 | (j,b)::r,hc,l,o,h=>by
  simp only [PW.get] at h
  cases hb:Nat.beq j l with
  | true=>
   simp only [hb,cond_true,Option.some.injEq] at h
   subst h
   cases b<;>exact hc.1
  | false=>
   simp only [hb,cond_false] at h
   cases b<;>exact Zavi hc.2 l o h
theorem Zavj{S:Bool}{σ1:List (Nat×Blk)}{res:PV}(hc:Zaj (scC S σ1 res)):S=true->res.sc=true/\∀ l o,get σ1 l=some o->o.SC:=by
 rintro rfl
 exact⟨hc.1,Zavi hc.2⟩
theorem Zavk(hT:TOK P T){c:Call}{qs:List PV}(ho:o.op = .call c)(hq:Zjx tm c.args.toList=some qs)(h:Zaml T P tm σ c.callee qs c.argTypes.toList xs=some (ps,xs',s))(hc:Zaj ps):Za3 P o tm σ s.need s.p s.news:=by
 unfold Zaml at h
 split at h
 .rename_i fo hce
  have hceq:=Zh2 hce rfl rfl
  rw [hceq] at ho
  split at h
  .rename_i f caps res xs2 hfo
   split at h
   .rename_i cs fs hfz
    have hbh:=Z9 h;clear h;obtain⟨hb,h⟩:=hbh
    obtain⟨rfl,rfl,rfl⟩:=Zfl h
    refine Zawq hc.1 ho hfo (by rw [Zog hq];rfl) (Zqf (fun _=>rfl) hfz ?_) hb
    have:∀ {qs fs:List PV} {cs:List Prop},Zjy [] qs=some (cs,fs)->Zaj cs:=by
     have hv:(∀ p:PV,∀ {q:PV} {cs:List Prop},Zfq [] p=some (cs,q)->cs=[])/\(∀ qs:List PV,∀ {fs:List PV} {cs:List Prop},Zjy [] qs=some (cs,fs)->cs=[]):=by
      constructor
      .intro p
       refine PV.rec (motive_1:=fun p=>∀ {q:PV} {cs:List Prop},Zfq [] p=some (cs,q)->cs=[]) (motive_2:=fun qs=>∀ {fs:List PV} {cs:List Prop},Zjy [] qs=some (cs,fs)->cs=[]) ?_ ?_ ?_ ?_ ?_ ?_ ?_ ?_ ?_ ?_ ?_ ?_ p
       .intro x q cs h;simp only [Zfq,Option.some.injEq,Prod.mk.injEq] at h;exact h.1.symm
       .intro q cs h;simp only [Zfq,Option.some.injEq,Prod.mk.injEq] at h;exact h.1.symm
       .intro l n q cs h;simp [Zfq,PW.get] at h
       .intro l n q cs h;simp [Zfq,PW.get] at h
       .intro l n i j q cs h;simp [Zfq] at h
       .intro ts q cs h;simp only [Zfq,Option.some.injEq,Prod.mk.injEq] at h;exact h.1.symm
       .intro cs ih q ps h;simp only [Zfq] at h;split at h
        .rename_i h2;cases h;exact ih h2
        .cases h
       .intro cs ih q ps h;simp only [Zfq] at h;split at h
        .rename_i h2;cases h;exact ih h2
        .cases h
       .intro f cs ih q ps h;simp only [Zfq] at h;split at h
        .rename_i h2;cases h;exact ih h2
        .cases h
       .intro l d q cs h;simp [Zfq,PW.get] at h
       .intro fs cs h;simp only [Zjy,Option.some.injEq,Prod.mk.injEq] at h;exact h.1.symm
       .intro p ps ih1 ih2 fs cs h;simp only [Zjy] at h;split at h
        .rename_i h1 h2;cases h;rw [ih1 h1,ih2 h2];rfl
        .cases h
      .intro qs
       refine PV.rec_1 (motive_1:=fun p=>∀ {q:PV} {cs:List Prop},Zfq [] p=some (cs,q)->cs=[]) (motive_2:=fun qs=>∀ {fs:List PV} {cs:List Prop},Zjy [] qs=some (cs,fs)->cs=[]) ?_ ?_ ?_ ?_ ?_ ?_ ?_ ?_ ?_ ?_ ?_ ?_ qs
       .intro x q cs h;simp only [Zfq,Option.some.injEq,Prod.mk.injEq] at h;exact h.1.symm
       .intro q cs h;simp only [Zfq,Option.some.injEq,Prod.mk.injEq] at h;exact h.1.symm
       .intro l n q cs h;simp [Zfq,PW.get] at h
       .intro l n q cs h;simp [Zfq,PW.get] at h
       .intro l n i j q cs h;simp [Zfq] at h
       .intro ts q cs h;simp only [Zfq,Option.some.injEq,Prod.mk.injEq] at h;exact h.1.symm
       .intro cs ih q ps h;simp only [Zfq] at h;split at h
        .rename_i h2;cases h;exact ih h2
        .cases h
       .intro cs ih q ps h;simp only [Zfq] at h;split at h
        .rename_i h2;cases h;exact ih h2
        .cases h
       .intro f cs ih q ps h;simp only [Zfq] at h;split at h
        .rename_i h2;cases h;exact ih h2
        .cases h
       .intro l d q cs h;simp [Zfq,PW.get] at h
       .intro fs cs h;simp only [Zjy,Option.some.injEq,Prod.mk.injEq] at h;exact h.1.symm
       .intro p ps ih1 ih2 fs cs h;simp only [Zjy] at h;split at h
        .rename_i h1 h2;cases h;rw [ih1 h1,ih2 h2];rfl
        .cases h
     intro qs fs cs h
     rw [hv.2 qs h];trivial
    exact this hfz
   .split at h
    .rename_i cs fs hfz
     have hbh:=Z9 h;clear h;obtain⟨hb,h⟩:=hbh
     obtain⟨rfl,rfl,rfl⟩:=Zig h
     obtain⟨hc1,hc2⟩:=Zw.1 hc
     exact Zawp hc2.1 ho hfo (by rw [Zog hq];rfl) (Zqf (fun _=>rfl) hfz hc1) (fun m hm=>Zjg _ hm) hb
    .cases h
  .rename_i f caps S ls d fr res xs2 hfo
   split at h
   .rename_i cs qs' σa hav hpa
    have hbh:=Z9 h;clear h;obtain⟨hb,h⟩:=hbh
    cases h
    obtain⟨c1,c2⟩:=Zw.1 hc
    obtain⟨c2,c3⟩:=Zw.1 c2
    exact Zawy c3.1 ho hfo (by rw [Zog hq];rfl) hav c1 hpa (Zajg hb) (Zavj c2) (fun m hm=>by
     rcases hm with hm | hm | hm
     .exact List.mem_append.2 (.inl hm)
     .exact List.mem_append.2 (.inr (List.mem_append.2 (.inl (Zjg _ hm))))
     .exact List.mem_append.2 (.inr (List.mem_append.2 (.inr (Zqx _ hm)))))
   .cases h
  .cases h
 .rename_i hce
  split at h
  .rename_i p t n xs2 hat
   obtain⟨x,hax,hx⟩:=Zqy hq
   have hceq:=Zh2 hce hax hat
   rw [hceq] at ho
   split at h
   .rename_i e es hk
    obtain⟨rfl,rfl,rfl⟩:=Zfl h
    simp only [Option.map_eq_some_iff] at hk
    obtain⟨i0,hi0,hk⟩:=hk
    have hu:=(hT _ _ hi0).k
    rw [hk] at hu
    have:=Zaz0 (σ:=σ) ho hu hx
    rw [hc.1] at this
    exact this
   .rename_i e hk
    obtain⟨rfl,rfl,rfl⟩:=Zfl h
    simp only [Option.map_eq_some_iff] at hk
    obtain⟨i0,hi0,hk⟩:=hk
    have hu:=(hT _ _ hi0).k
    rw [hk] at hu
    have:=Zauk (σ:=σ) ho hu hx
    rw [hc.1] at this
    exact this
   .rename_i e l m hk
    split at h
    .rename_i k es hg
     obtain⟨rfl,rfl,rfl⟩:=Zig h
     simp only [Option.map_eq_some_iff] at hk
     obtain⟨i0,hi0,hk⟩:=hk
     have hu:=(hT _ _ hi0).k
     rw [hk] at hu
     have:=Zaul ho hu hx hg hc.1
     rw [hc.2.1] at this
     exact this
    .cases h
   .rename_i e l m hk
    split at h
    .rename_i k q es hg
     obtain⟨rfl,rfl,rfl⟩:=Zig h
     simp only [Option.map_eq_some_iff] at hk
     obtain⟨i0,hi0,hk⟩:=hk
     have hu:=(hT _ _ hi0).k
     rw [hk] at hu
     have:=Zau4 ho hu hx hg hc.1
     rw [hc.2.1] at this
     exact this
    .cases h
   .rename_i st hk
    obtain⟨rfl,rfl,rfl⟩:=Zfl h
    simp only [Option.map_eq_some_iff] at hk
    obtain⟨i0,hi0,hk⟩:=hk
    have hu:=(hT _ _ hi0).k
    rw [hk] at hu
    have:=Zaum (σ:=σ) ho hu hx
    rw [hc.1] at this
    exact this
   .cases h
  .cases h
 .rename_i hce
  split at h
  .rename_i k a k' b
   obtain⟨x,y',hax,hx,hy⟩:=Zle hq
   have hceq:=Zh2 hce hax rfl
   rw [hceq] at ho
   obtain⟨rfl,rfl,rfl⟩:=Zdq h
   exact Zaz6 ho hx hy
  .cases h
 .rename_i hce
  split at h
  .rename_i k a k' b
   obtain⟨x,y',hax,hx,hy⟩:=Zle hq
   have hceq:=Zh2 hce hax rfl
   rw [hceq] at ho
   obtain⟨rfl,rfl,rfl⟩:=Zdq h
   exact Zaz7 ho hx hy
  .cases h
 .rename_i hce
  split at h
  .rename_i y t tx l es xs2 hat
   obtain⟨x,y',hax,hx,hy⟩:=Zle hq
   have hceq:=Zh2 hce hax hat
   rw [hceq] at ho
   split at h
   .rename_i e k bytes z kk fl ex cs ys ls he hex hsrc
    have hbh:=Z9 h;clear h;obtain⟨hb,h⟩:=hbh
    simp only [Bool.and_eq_true] at hb
    have hE:=Zof (z:=z) hT he rfl hb.1.1 hb.1.2
    simp only [Option.some.injEq,Prod.mk.injEq] at h
    obtain⟨rfl,rfl,rfl⟩:=h
    obtain⟨hc1,hc2⟩:=Zw.1 hc
    obtain⟨h1,h2,h3,h4,_⟩:=hc2
    subst h1
    obtain⟨hs,hn⟩:=Zab3 hsrc hc1
    obtain⟨i1,hi1,hk1,_⟩:=Zc6 hex
    have hu1:=(hT _ _ hi1).k
    rw [hk1] at hu1
    exact Zalz l ((Zdj _ _).1 hb.2) ho hE ⟨_,hu1⟩ hx hy hs hn h2 h3 h4
   .cases h
  .cases h
 .cases h
theorem Zata{y:Operand}(h:Z9c y=true):y = .const (.slice none 0 0):=by
 unfold Z9c at h
 split at h
 .rfl
 .cases h
theorem Zaxo(hT:TOK P T){op:BinOp}{t:Nat}{x:Operand}{px:PV}{yT:TypeId}(ho:o.op = .binOp op t x (.const (.slice none 0 0)) yT)(hx:Zi tm x=some px)(h:Zas3 T op t px xs=some (ps,xs',s))(hc:Zaj ps):Za3 P o tm σ s.need s.p s.news:=by
 unfold Zas3 at h
 split at h
 .rename_i e he
  obtain⟨rfl,rfl,rfl⟩:=Zfl h
  obtain⟨i,hi,hk,hj⟩:=Zc6 he
  have hu:=(hT _ _ hi).k
  rw [hk] at hu
  exact Zaru hu ho (.inl rfl) hx hc.1
 .rename_i e he
  obtain⟨rfl,rfl,rfl⟩:=Zfl h
  obtain⟨i,hi,hk,hj⟩:=Zc6 he
  have hu:=(hT _ _ hi).k
  rw [hk] at hu
  exact Zaru hu ho (.inr rfl) hx hc.1
 .rename_i e he
  obtain⟨rfl,rfl,rfl⟩:=Zdq h
  obtain⟨i,hi,hk,hj⟩:=Zc6 he
  have hu:=(hT _ _ hi).k
  rw [hk] at hu
  exact Zarv hu ho (.inl rfl) hx
 .rename_i e he
  obtain⟨rfl,rfl,rfl⟩:=Zdq h
  obtain⟨i,hi,hk,hj⟩:=Zc6 he
  have hu:=(hT _ _ hi).k
  rw [hk] at hu
  exact Zarv hu ho (.inr rfl) hx
 .cases h
theorem Zatb{y:Operand}(h:Z9d y=true):y = .const (.pointer none):=by
 unfold Z9d at h
 split at h
 .rfl
 .cases h
theorem Zavl{op:BinOp}{t:Nat}{x:Operand}{px:PV}{yT:TypeId}(hu:P.underlying t=some (.pointer (P.pointee t)))(ho:o.op = .binOp op t x (.const (.pointer none)) yT)(hx:Zi tm x=some px)(h:Zamm σ op px xs=some (ps,xs',s)):Za3 P o tm σ s.need s.p s.news:=by
 unfold Zamm at h
 split at h
 .obtain⟨rfl,rfl,rfl⟩:=Zdq h;exact Zal3 hu ho (.inl rfl) hx
 .obtain⟨rfl,rfl,rfl⟩:=Zdq h;exact Zal3 hu ho (.inr rfl) hx
 .split at h
  .rename_i hg;obtain⟨rfl,rfl,rfl⟩:=Zig h;exact Zal4 hu ho (.inl rfl) hx hg
  .cases h
 .split at h
  .rename_i hg;obtain⟨rfl,rfl,rfl⟩:=Zig h;exact Zal4 hu ho (.inr rfl) hx hg
  .cases h
 .cases h
theorem Zatc(hT:TOK P T){t:Nat}{x:Operand}{lo hi:Option Operand}{px:PV}(ho:o.op = .slice t x lo hi none)(hx:Zi tm x=some px)(h:Zaht T tm t px lo hi xs=some (ps,xs',s))(hc:Zaj ps):Za3 P o tm σ s.need s.p s.news:=by
 unfold Zaht at h
 split at h
 .rename_i sv z xs2 he
  split at h
  .rename_i l hh h3 h1 h2
   obtain⟨rfl,rfl,rfl⟩:=Zfl h
   simp only [Option.map_eq_some_iff] at h3
   obtain⟨i3,hi3,hk3⟩:=h3
   have hu3:=(hT _ _ hi3).k
   rw [hk3] at hu3
   obtain⟨c1,c2,c3,c4,_⟩:=hc
   subst c4
   exact Zauw ho hu3 hx h1 h2 c1 c2 c3
  .cases h
 .rename_i e j es es' xs2 he
  split at h
  .rename_i l hh h1 h2
   obtain⟨rfl,rfl,rfl⟩:=Zfl h
   obtain⟨i,hi,hk,hj⟩:=Zc6 he
   obtain⟨c1,c2,c3,c4,c5,_⟩:=hc
   subst c5
   exact Zauv ho (hT.slInfo hi hk hj) hx h1 h2 c1 c2 c3 c4
  .cases h
 .cases h
theorem Zaze(hT:TOK P T)(h:evOp P T o tm σ xs=some (ps,xs',s))(hc:Zaj ps):Za3 P o tm σ s.need s.p s.news:=by
 unfold evOp at h
 split at h
 .rename_i x ho
  split at h
  .rename_i p hp;obtain⟨rfl,rfl,rfl⟩:=Zdq h;exact Zayu ho hp
  .cases h
 .rename_i x ho
  split at h
  .rename_i p hp;obtain⟨rfl,rfl,rfl⟩:=Zdq h;exact Zaui ho hp
  .cases h
 .rename_i c x y ho
  split at h
  .rename_i e b xs2 he
   split at h
   .rename_i p hp
    obtain⟨rfl,rfl,rfl⟩:=Zfl h
    have:=hc.1
    subst this
    exact Zayv ho he hp
   .cases h
  .cases h
 .rename_i op xT x y yT ho
  cases hn:Z9c y with
  | true=>
   rw [Zata hn] at ho
   simp only [hn,cond_true] at h
   split at h
   .rename_i px hx;exact Zaxo hT ho hx h hc
   .cases h
  | false=>
   simp only [hn,cond_false] at h
   cases hn2:Z9d y with
   | true=>
    rw [Zatb hn2] at ho
    simp only [hn2,cond_true] at h
    split at h
    .rename_i px hx hk
     simp only [Option.map_eq_some_iff] at hk
     obtain⟨i0,hi0,hk⟩:=hk
     have hu:=(hT _ _ hi0).k
     rw [hk] at hu
     exact Zavl hu ho hx h
    .cases h
   | false=>
    simp only [hn2,cond_false] at h
    split at h
    .rename_i px py hx hy;exact Zaxi hT ho hx hy h hc
    .cases h
 .rename_i op t x ho
  split at h
  .rename_i b hb;obtain⟨rfl,rfl,rfl⟩:=Zdq h;exact Zazy ho hb
  .rename_i k a hb;obtain⟨rfl,rfl,rfl⟩:=Zdq h;exact Zazz ho hb
  .rename_i k a hb;obtain⟨rfl,rfl,rfl⟩:=Zdq h;exact Zawh ho hb
  .cases h
 .rename_i sT dT x ho
  split at h
  .rename_i k k' k2 a h1 h2 hx
   obtain⟨rfl,rfl,rfl⟩:=Zdq h
   simp only [Option.map_eq_some_iff] at h1 h2
   obtain⟨i1,hi1,hk1⟩:=h1
   obtain⟨i2,hi2,hk2⟩:=h2
   have hu1:=(hT _ _ hi1).k
   have hu2:=(hT _ _ hi2).k
   rw [hk1] at hu1
   rw [hk2] at hu2
   exact Zasi ho ⟨_,hu1⟩ hu2 hx
  .rename_i a h1 h2 hx
   obtain⟨rfl,rfl,rfl⟩:=Zdq h
   simp only [Option.map_eq_some_iff] at h1 h2
   obtain⟨i1,hi1,hk1⟩:=h1
   obtain⟨i2,hi2,hk2⟩:=h2
   have hu1:=(hT _ _ hi1).k
   have hu2:=(hT _ _ hi2).k
   rw [hk1] at hu1
   rw [hk2] at hu2
   exact Zasj ho hu1 hu2 hx
  .rename_i e a h1 h2 hx
   split at h
   .rename_i es xs2 h3
    obtain⟨rfl,rfl,rfl⟩:=Zfl h
    simp only [Option.map_eq_some_iff] at h1 h2 h3
    obtain⟨i1,hi1,hk1⟩:=h1
    obtain⟨i2,hi2,hk2⟩:=h2
    obtain⟨i3,hi3,hk3⟩:=h3
    have hu1:=(hT _ _ hi1).k
    have hu2:=(hT _ _ hi2).k
    have hu3:=(hT _ _ hi3).k
    rw [hk1] at hu1
    rw [hk2] at hu2
    rw [hk3] at hu3
    obtain⟨rfl,hl,_⟩:=hc
    exact Zaws ho hu1 hu2 hu3 hx hl
   .cases h
  .rename_i e es h1 h2 hx
   split at h
   .rename_i s xs2 h3
    obtain⟨rfl,rfl,rfl⟩:=Zfl h
    simp only [Option.map_eq_some_iff] at h1 h2 h3
    obtain⟨i1,hi1,hk1⟩:=h1
    obtain⟨i2,hi2,hk2⟩:=h2
    obtain⟨i3,hi3,hk3⟩:=h3
    have hu1:=(hT _ _ hi1).k
    have hu2:=(hT _ _ hi2).k
    have hu3:=(hT _ _ hi3).k
    rw [hk1] at hu1
    rw [hk2] at hu2
    rw [hk3] at hu3
    obtain⟨rfl,hl,_⟩:=hc
    exact Zawt ho hu1 hu2 hu3 hx hl
   .cases h
  .cases h
 .rename_i xT x i ho
  split at h
  .rename_i q j cs hf hx
   split at h
   .rename_i p hp
    obtain⟨rfl,rfl,rfl⟩:=Zdq h
    obtain⟨i0,fs,fT,hi0,hk0,hfs,hj⟩:=Zo6 hf
    have hu:=(hT _ _ hi0).k
    rw [hk0] at hu
    obtain⟨fs',hu,rfl⟩:=hu
    simp only [List.getElem?_map,Option.map_eq_some_iff] at hfs
    obtain⟨fl,hfl,he⟩:=hfs
    cases he
    exact Zawi fs' fl ho hu (by simpa using hfl) rfl rfl (hT _ _ hj).ty hx hp
   .cases h
  .cases h
 .rename_i x i ho
  split at h
  .rename_i cs hx
   split at h
   .rename_i p hp;obtain⟨rfl,rfl,rfl⟩:=Zdq h;exact Zask ho hx hp
   .cases h
  .cases h
 .rename_i x ho
  split at h
  .rename_i cs hx;obtain⟨rfl,rfl,rfl⟩:=Zdq h;exact Zaqc ho hx trivial
  .rename_i l q hx
   split at h
   .rename_i hg;obtain⟨rfl,rfl,rfl⟩:=Zig h;exact Zal5 ho hx hg
   .cases h
  .rename_i l m i q hx
   split at h
   .rename_i hg;obtain⟨rfl,rfl,rfl⟩:=Zig h;exact Zal6 ho hx hg hc.1
   .cases h
  .cases h
 .rename_i f first caps ho
  have hbh:=Z9 h;clear h;obtain⟨hb,h⟩:=hbh
  have hb:=(Zu _ _).1 hb
  have:first = #[]:=Array.size_eq_zero_iff.1 hb
  subst this
  split at h
  .rename_i qs hq;obtain⟨rfl,rfl,rfl⟩:=Zdq h;exact Zaqd (t:=0) ho (Zog hq)
  .cases h
 .rename_i t parts ho
  split at h
  .rename_i qs hq;exact Zas8 hT ho hq h
  .cases h
 .rename_i t len parts ho
  split at h
  .rename_i qs hq;exact Zaxn hT ho hq h
  .cases h
 .rename_i t x ho
  split at h
  .rename_i p l xs2 hx
   have hbh:=Z9 h;clear h;obtain⟨hb,h⟩:=hbh
   simp only [Bool.and_eq_true] at hb
   obtain⟨rfl,rfl,rfl⟩:=Z9e h
   exact Zaz1 l ((Zdj _ _).1 hb.2) ho hx hb.1
  .cases h
 .rename_i t ho
  split at h
  .rename_i z l xs2 hz
   have hbh:=Z9 h;clear h;obtain⟨hb,h⟩:=hbh
   obtain⟨rfl,rfl,rfl⟩:=Z9e h
   simp only [Option.bind_eq_some_iff] at hz
   obtain⟨i0,hi0,hz⟩:=hz
   exact Zawj l ((Zdj _ _).1 hb) ho ((hT _ _ hi0).z z hz)
  .cases h
 .rename_i t x y ho
  split at h
  .rename_i px py hx hy;exact Zavh hT ho hx hy h hc
  .cases h
 .rename_i t x i ho
  split at h
  .rename_i px hx;exact Zahw hT ho hx h hc
  .cases h
 .rename_i t x y ho
  split at h
  .rename_i px py hx hy;exact Zahx hT ho hx hy h hc
  .cases h
 .rename_i t x y ho
  split at h
  .rename_i px py hx hy;exact Zas9 hT ho hx hy h hc
  .cases h
 .rename_i t x ho
  split at h
  .rename_i px hx
   split at h
   .rename_i d c xs2 d' hd
    cases hb:Nat.beq d d' with
    | true=>simp only [hb,cond_true] at h;exact Zaqq hT ho hx h hc
    | false=>simp only [hb,cond_false] at h;exact Zaje hT ho hx h hc
   .exact Zaje hT ho hx h hc
  .cases h
 .rename_i t x y z ho
  split at h
  .rename_i ej px k1 k2 he hx hy hz
   obtain⟨hp,h⟩:=Z9 h
   obtain⟨rfl,rfl,rfl⟩:=Zdq h
   obtain⟨i,hi,hk,hj⟩:=Zc6 he
   exact Zasq ho (hT.slInfo hi hk hj) hx hp hy hz
  .cases h
 .rename_i t x lo hi ho
  split at h
  .rename_i px hx;exact Zatc hT ho hx h hc
  .cases h
 .rename_i c ho
  split at h
  .rename_i qs hq;exact Zavk hT ho hq h hc
  .cases h
 .cases h
theorem Zatd{x:Stm}{c:Call}{fo:Operand}(hce:c.callee = .value fo)(ho:o.op = .call c)(h:Zahu P tm σ fo c.args.toList xs=some (ps,xs',x))(hc:Zaj ps):OpF P o tm σ x.s.need x.rm x.s.p x.s.news:=by
 have hceq:=Zh2 hce rfl rfl
 rw [hceq] at ho
 unfold Zahu at h
 split at h
 .rename_i f caps qs0 S ls d σ1 res xs2 hfo hps
  split at h
  .rename_i cs qs σa hav hpa
   have hbh:=Z9 h;clear h;obtain⟨hb,h⟩:=hbh
   simp only [Bool.and_eq_true] at hb
   cases h
   obtain⟨c1,c2⟩:=Zw.1 hc
   obtain⟨c2,c3⟩:=Zw.1 c2
   refine Zaz8 c3.1 ho hfo (by rw [Zog hps];rfl) hav c1 hpa (Zajg hb.1) (Zavj c2) (fun m hm=>?_) (fun l o hg hn hmem=>?_)
   .rcases hm with hm | hm | hm
    .exact List.mem_append.2 (.inl hm)
    .exact List.mem_append.2 (.inr (List.mem_append.2 (.inl (Zjg _ hm))))
    .exact List.mem_append.2 (.inr (List.mem_append.2 (.inr (Zqx _ hm))))
   .have:=List.all_eq_true.1 hb.2 _ (Zgu hg)
    simp only [hn,Bool.not_eq_true'] at this
    rw [Z3y.2 hmem] at this;cases this
  .cases h
 .cases h
theorem Zate{x:Stm}{c:Call}{fo:Operand}(hce:c.callee = .value fo)(ho:o.op = .call c)(h:Zahv P tm σ fo c.args.toList xs=some (ps,xs',x))(hc:Zaj ps):OpF P o tm σ x.s.need x.rm x.s.p x.s.news:=by
 unfold Zahv at h
 split at h
 .rename_i f y L b xs2 hfo hax
  have hceq:=Zh2 hce hax rfl
  rw [hceq] at ho
  split at h
  .rename_i l m hy
   split at h
   .rename_i k es hg
    have hbh:=Z9 h;clear h;obtain⟨hb,h⟩:=hbh
    simp only [Bool.and_eq_true,Zdj] at hb
    cases h
    obtain⟨h1,h2,h3,_⟩:=hc
    exact Zay3 h2 ho hfo hy hg h1 h3 (Zrl hb.2) hb.1
   .cases h
  .cases h
 .cases h
theorem Zaxp(hT:TOK P T){x:Stm}(h:Zas4 P T o tm σ xs=some (ps,xs',x))(hc:Zaj ps):OpF P o tm σ x.s.need x.rm x.s.p x.s.news:=by
 unfold Zas4 at h
 split at h
 .rename_i c ho
  split at h
  .rename_i fo xs2 hce
   split at h
   .rename_i h0;cases h;exact Zatd hce ho h0 hc
   .exact Zate hce ho h hc
  .rename_i l m y t tx es xs2 hce hps hat
   obtain⟨x,y',hax,hx,hy⟩:=Zle hps
   have hceq:=Zh2 hce hax hat
   rw [hceq] at ho
   split at h
   .rename_i e agg k bytes z kk fl ex cs ys ls k' es0 he hex hsrc hg
    have hbh:=Z9 h;clear h;obtain⟨hb,h⟩:=hbh
    simp only [Bool.and_eq_true,Zu] at hb
    obtain⟨⟨hb1,hb2⟩,hb3⟩:=hb
    subst hb3
    have hE:=Zof (z:=z) hT he rfl hb1 ((Zu _ _).2 hb2)
    cases h
    obtain⟨hc1,hc2⟩:=Zw.1 hc
    obtain⟨h1,h2,h3,h4,h5,_⟩:=hc2
    obtain⟨hs,hn⟩:=Zab3 hsrc hc1
    obtain⟨i1,hi1,hk1,_⟩:=Zc6 hex
    have hu1:=(hT _ _ hi1).k
    rw [hk1] at hu1
    subst h2
    have hl:(es0++ys).length=m+ys.length:=by rw [List.length_append,h1]
    rw [hl] at h4 h5
    show OpF P o tm σ (l::ls) [l] (.osl l (es0++ys).length) [(l,.row k (es0++ys))]
    rw [hl]
    refine Zawm ho hE ⟨_,hu1⟩ hx hg h1 hy hs (fun q hq=>?_) h3 h4 h5
    rcases hq with rfl | hq
    .exact List.mem_cons_self ..
    .exact List.mem_cons_of_mem _ (hn q hq)
   .cases h
  .rename_i l m y t tx q es xs2 hce hps hat
   obtain⟨x,y',hax,hx,hy⟩:=Zle hps
   have hceq:=Zh2 hce hax hat
   rw [hceq] at ho
   split at h
   .rename_i e agg k bytes z kk fl ex cs ys ls k' es0 he hex hsrc hg
    have hbh:=Z9 h;clear h;obtain⟨hb,h⟩:=hbh
    simp only [Bool.and_eq_true,Zu] at hb
    obtain⟨⟨hb1,hb2⟩,hb3⟩:=hb
    subst hb3
    have hE:=Zof (z:=z) hT he rfl hb1 ((Zu _ _).2 hb2)
    cases h
    obtain⟨hc1,hc2⟩:=Zw.1 hc
    obtain⟨h1,h2,h3,h4,h5,_⟩:=hc2
    obtain⟨hs,hn⟩:=Zab3 hsrc hc1
    obtain⟨i1,hi1,hk1,_⟩:=Zc6 hex
    have hu1:=(hT _ _ hi1).k
    rw [hk1] at hu1
    subst h5
    rw [<- h2]
    refine Zaz3 ho hE ⟨_,hu1⟩ hx hg h1 hy hs (fun q hq=>?_) h4 h3
    rcases hq with rfl | hq
    .exact List.mem_cons_self ..
    .exact List.mem_cons_of_mem _ (hn q hq)
   .cases h
  .cases h
 .rename_i t x y ho
  split at h
  .rename_i i l q p hd hi hx hy
   split at h
   .rename_i cs cs' xs2 hg
    have hbh:=Z9 h;clear h;obtain⟨hb,h⟩:=hbh
    simp only [Bool.and_eq_true,Zu] at hb
    cases h
    obtain⟨h1,h2,_⟩:=hc
    subst h2
    exact Zaly ho hd (hT _ _ hi).ty hx hy hg hb.1 hb.2 h1
   .rename_i cs hg _
    have hbh:=Z9 h;clear h;obtain⟨hb,h⟩:=hbh
    simp only [Bool.and_eq_true,Zu,Zdj] at hb
    cases h
    exact Zaly ho hd (hT _ _ hi).ty hx hy hg hb.1.1 hb.1.2 hb.2
   .cases h
  .rename_i i l m j q p hd hi hx hy
   split at h
   .rename_i k es e es' xs2 ts hg hts
    have hbh:=Z9 h;clear h;obtain⟨hb,h⟩:=hbh
    simp only [Bool.and_eq_true,Zu,Zdj] at hb
    cases h
    obtain⟨h1,h2,h3,_⟩:=hc
    subst h3
    exact Zawl ho hd (hT _ _ hi).ty hx hy hg h1 h2 hts hb.1 hb.2
   .cases h
  .cases h
 .cases h
theorem Zaxq(hT:TOK P T){x:Stm}(h:Zas5 T o tm σ xs=some (ps,xs',x))(hc:Zaj ps):OpF P o tm σ x.s.need x.rm x.s.p x.s.news:=by
 unfold Zas5 at h
 split at h
 .rename_i t x y ho
  split at h
  .rename_i e j l m ki i n xs2 he hx hy
   split at h
   .rename_i k es hg
    have hbh:=Z9 h;clear h;obtain⟨hb,h⟩:=hbh
    rw [Zu] at hb
    cases h
    obtain⟨h1,h2,h3,h4,_⟩:=hc
    subst h4
    obtain⟨i0,hi0,hk0,hj⟩:=Zc6 he
    exact (Zay1 ho (hb▸hT.slInfo hi0 hk0 hj) hx hy hg h1 h2 h3).toF
   .cases h
  .cases h
 .rename_i t x y ho
  split at h
  .rename_i e j l m ki i n xs2 he hx hy
   split at h
   .rename_i es hg
    have hbh:=Z9 h;clear h;obtain⟨hb,h⟩:=hbh
    rw [Zu] at hb
    cases h
    obtain⟨h1,h2,h3,h4,_⟩:=hc
    subst h4
    obtain⟨i0,hi0,hk0,hj⟩:=Zc6 he
    exact (Zau0 ho (hb▸hT.slInfo hi0 hk0 hj) hx hy hg h1 h2 h3).toF
   .cases h
  .rename_i e j l m jj ki i inner n xs2 he hx hy
   split at h
   .rename_i es hg
    have hbh:=Z9 h;clear h;obtain⟨hb,h⟩:=hbh
    rw [Zu] at hb
    cases h
    obtain⟨h1,h2,h3,h4,h5,_⟩:=hc
    subst h5
    obtain⟨i0,hi0,hk0,hj⟩:=Zc6 he
    exact (Zass ho (hb▸hT.slInfo hi0 hk0 hj) hx hy hg h1 h2 h3 h4).toF
   .cases h
  .cases h
 .rename_i t x ho
  split at h
  .rename_i i l m j hi hx
   split at h
   .rename_i es hg
    have hbh:=Z9 h;clear h;obtain⟨hb,h⟩:=hbh
    simp only [Bool.and_eq_true,Bool.not_eq_true',Zu] at hb
    cases h
    have hty:=(hT t i hi).ty
    rw [hb.1,hb.2] at hty
    exact (Zaw1 ho hty hx hg hc.1 hc.2.1).toF
   .cases h
  .rename_i i l m j q hi hx
   split at h
   .rename_i es inner z xs2 hg
    have hbh:=Z9 h;clear h;obtain⟨hb,h⟩:=hbh
    simp only [Bool.and_eq_true,Bool.not_eq_true',Zu] at hb
    cases h
    have hty:=(hT t i hi).ty
    rw [hb.1.1,hb.1.2] at hty
    exact (Zast ho hty hx hg hc.1 hc.2.1 hc.2.2.1 hb.2).toF
   .cases h
  .cases h
 .rename_i t parts ho
  split at h
  .rename_i e agg by_ z kk fl l2 n2 L xs2 he hp
   split at h
   .rename_i es2 out hg hf
    have hbh:=Z9 h;clear h;obtain⟨hb,h⟩:=hbh
    simp only [Bool.and_eq_true,Bool.not_eq_true',Zdj] at hb
    cases h
    obtain⟨h1,h2,h3,_⟩:=hc
    subst h1
    exact Zay2 L hb.1.2 ho (Zof (z:=z) hT he rfl rfl hb.1.1) hp hf hg h2 h3 (fun e=>by subst e;simp at hb)
   .cases h
  .cases h
 .rename_i t parts ho
  split at h
  .rename_i e agg by_ z kk fl L xs2 he hp
   have hbh:=Z9 h;clear h;obtain⟨hb,h⟩:=hbh
   cases h
   exact Zaw2 L ho (Zof (z:=z) hT he rfl rfl hb) hp
  .cases h
 .rename_i c ho
  split at h
  .rename_i l m l3 m3 t tx es xs2 hce hps hat
   obtain⟨x,y',hax,hx,hy⟩:=Zle hps
   have hceq:=Zh2 hce hax hat
   rw [hceq] at ho
   split at h
   .rename_i e agg bytes z kk fl ex es0 es3 he hex hg hg3
    have hbh:=Z9 h;clear h;obtain⟨hb,h⟩:=hbh
    simp only [Bool.and_eq_true,Bool.not_eq_true',Nat.blt_eq] at hb
    cases h
    obtain⟨h1,h2,h3,h4,h5,_⟩:=hc
    subst h3
    obtain⟨i1,hi1,hk1,_⟩:=Zc6 hex
    have hu1:=(hT _ _ hi1).k
    rw [hk1] at hu1
    show OpF P o tm σ [l,l3] [l,l3] (.own l (.msl (es0++es3).length)) [(l,.mat 1 0 (es0++es3))]
    rw [List.length_append,h1,h2]
    exact Za0a ho (Zof (z:=z) hT he rfl rfl hb.1.1) ⟨_,hu1⟩ hx hg h1 hy hg3 h2 hb.1.2 (fun e=>by subst e;simp at hb) h4 h5
   .cases h
  .cases h
 .cases h
theorem mapK{hT:TOK P T}{t k e:Nat}(h:(get T t).map (·.k)=some (.map k e)):P.underlying t=some (.map k e):=by
 obtain⟨i,h1,h2⟩:=Option.map_eq_some_iff.1 h
 have:=(hT _ _ h1).k
 rw [h2] at this
 exact this
theorem intK{hT:TOK P T}{t:Nat}{q:IntKind}(h:(get T t).map (·.k)=some (.int q)):P.underlying t=some (.int q):=by
 obtain⟨i,h1,h2⟩:=Option.map_eq_some_iff.1 h
 have:=(hT _ _ h1).k
 rw [h2] at this
 exact this
theorem Zaxr(hT:TOK P T){x:Stm}(h:Zas6 P T o tm σ xs=some (ps,xs',x))(hc:Zaj ps):OpF P o tm σ x.s.need x.rm x.s.p x.s.news:=by
 unfold Zas6 at h
 split at h
 .rename_i t ho
  split at h
  .split at h
   .cases h;exact Zau1 _ _ ho
   .cases h
  .cases h
 .rename_i t y z ok ho
  split at h
  .rename_i k e l n ts xs2 hk hx hy
   split at h
   .rename_i ag es hg hi
    split at h
    .rename_i zs b xs3 hz
     cases h
     have:=Zau2 ho (mapK (hT:=hT) hk) (intK (hT:=hT) hi) hz hx hy hg
     rw [hc.1] at this
     exact this
    .rename_i zs xs3 hz
     cases h
     have:=Zau3 ho (mapK (hT:=hT) hk) (intK (hT:=hT) hi) hz hx hy hg
     rw [hc.1] at this
     exact this
    .cases h
   .cases h
  .rename_i k e l n L rows xs2 hk hx hy
   split at h
   .rename_i c es hg hi hz
    have hbh:=Z9 h;clear h;obtain⟨hb,h⟩:=hbh
    simp only [Bool.and_eq_true,Bool.not_eq_true',Zdj] at hb
    cases h
    have hLl:L≠l:=fun e=>by subst e;simp at hb
    have:=Zau6 ho (mapK (hT:=hT) hk) (intK (hT:=hT) hi) hz hb.1 hx hy hLl hb.2.2 hg
    rw [hc.1] at this
    exact this
   .cases h
  .cases h
 .rename_i t y z v ho
  split at h
  .rename_i k e l i L m es' xs2 hd hk hx hy hz
   split at h
   .rename_i c n es c2 rows hg hg2 hi
    have hbh:=Z9 h;clear h;obtain⟨hb,h⟩:=hbh
    simp only [Bool.and_eq_true,Bool.not_eq_true',Zu] at hb
    cases h
    obtain⟨h1,h2,h3,_⟩:=hc
    obtain⟨rfl,hb2⟩:=hb
    subst h1
    have hLl:L≠l:=fun e=>by subst e;simp at hb2
    have:=Zau7 ho hd (mapK (hT:=hT) hk) (intK (hT:=hT) hi) hx hy hz hLl hg hg2 h2
    rw [h3] at this
    exact this
   .cases h
  .cases h
 .rename_i c ho
  split at h
  .rename_i l t n xs2 hce hps hat
   obtain⟨x,hax,hx⟩:=Zqy hps
   have hceq:=Zh2 hce hax hat
   rw [hceq] at ho
   split at h
   .rename_i k e ag es hk hg
    cases h
    have:=Za0b ho (mapK (hT:=hT) hk) hx hg
    rw [hc.1] at this
    exact this
   .cases h
  .cases h
 .cases h
theorem Zazf(hT:TOK P T){x:Stm}(h:evPr T o tm σ xs=some (ps,xs',x))(hc:Zaj ps):OpF P o tm σ x.s.need x.rm x.s.p x.s.news:=by
 unfold evPr at h
 split at h
 .rename_i y ho
  split at h
  .rename_i l m q hx
   split at h
   .rename_i hg;cases h;exact (Zamc ho hx hg hc.1).toF
   .cases h
  .cases h
 .rename_i s y f ho
  split at h
  .rename_i q0 j l m q hf hx
   split at h
   .rename_i hg
    have hbh:=Z9 h;clear h;obtain⟨hb,h⟩:=hbh
    cases h
    have hs:j.size≠0:=fun e=>by rw [e] at hb;cases hb
    obtain⟨i0,fs,fT,hi0,hk0,hfs,hj⟩:=Zo6 hf
    exact (Zau5 ho (hT.fieldInfo hi0 hk0 hfs hj) hs hx hg hc.1).toF
   .cases h
  .cases h
 .rename_i t y ho
  split at h
  .rename_i i l m q hi hx
   split at h
   .rename_i hg
    split at h
    .rename_i p hp;cases h;exact (Zaw7 ho (hT _ _ hi).ty hx hg hc.1 hp).toF
    .cases h
   .cases h
  .cases h
 .rename_i t y z ho
  split at h
  .rename_i i l m q p hd hi hx hy
   split at h
   .rename_i hg
    have hbh:=Z9 h;clear h;obtain⟨hb,h⟩:=hbh
    simp only [Bool.and_eq_true,Zu,Zdj] at hb
    cases h
    exact Zaw8 ho hd (hT _ _ hi).ty hx hy hg hc.1 hb.1.1 hb.1.2 hb.2
   .cases h
  .cases h
 .cases h
theorem Zaxs(hT:TOK P T){x:Stm}(h:Zas7 T o tm σ xs=some (ps,xs',x))(hc:Zaj ps):OpF P o tm σ x.s.need x.rm x.s.p x.s.news:=by
 unfold Zas7 at h
 split at h
 .rename_i y ho
  split at h
  .rename_i l cs hx
   split at h
   .rename_i hg;cases h;exact (Zamg ho hx hg).toF
   .cases h
  .rename_i l m j q hx
   split at h
   .rename_i hg;cases h;exact (Zamj ho hx hg hc.1).toF
   .cases h
  .cases h
 .rename_i s y f ho
  split at h
  .rename_i q0 j l cs hf hx
   split at h
   .rename_i hg
    have hbh:=Z9 h;clear h;obtain⟨hb,h⟩:=hbh
    cases h
    have hs:j.size≠0:=fun e=>by rw [e] at hb;cases hb
    obtain⟨i0,fs,fT,hi0,hk0,hfs,hj⟩:=Zo6 hf
    exact (Zau9 ho (hT.fieldInfo hi0 hk0 hfs hj) hs hx hg).toF
   .cases h
  .rename_i q0 j l m jj q hf hx
   split at h
   .rename_i hg
    have hbh:=Z9 h;clear h;obtain⟨hb,h⟩:=hbh
    cases h
    have hs:j.size≠0:=fun e=>by rw [e] at hb;cases hb
    obtain⟨i0,fs,fT,hi0,hk0,hfs,hj⟩:=Zo6 hf
    exact (Zavc ho (hT.fieldInfo hi0 hk0 hfs hj) hs hx hg hc.1).toF
   .cases h
  .cases h
 .rename_i t y z ho
  split at h
  .rename_i e j l es ki i e0 xs2 he hx hy
   split at h
   .rename_i hg
    cases h
    obtain⟨h1,h2,h3,_⟩:=hc
    obtain⟨i0,hi0,hk0,hj⟩:=Zc6 he
    exact (Zau8 ho (hT.slInfo hi0 hk0 hj) hx hy hg h1 h2 h3).toF
   .cases h
  .rename_i e j l m ki i n xs2 he hx hy
   split at h
   .rename_i k i1 r es hg
    have hbh:=Z9 h;clear h;obtain⟨hb,h⟩:=hbh
    cases h
    obtain⟨h1,h2,h3,h4,_⟩:=hc
    obtain⟨i0,hi0,hk0,hj⟩:=Zc6 he
    have hsl:=hT.slInfo hi0 hk0 hj
    rw [(Zu _ _).1 hb] at hsl
    subst h4
    exact (Zavb ho hsl hx hy hg h1 h2 h3).toF
   .cases h
  .cases h
 .rename_i t y ho
  split at h
  .rename_i i l cs hi hx
   split at h
   .rename_i hh hg
    split at h
    .rename_i p hp;cases h;exact (Zaxb ho (hT _ _ hi).ty hx hg hp).toF
    .cases h
   .cases h
  .rename_i i l m j q hi hx
   split at h
   .rename_i k i0 r es e xs2 hg
    split at h
    .rename_i p hp
     cases h
     obtain⟨h1,h2,h3,_⟩:=hc
     exact (Zaxd ho (hT _ _ hi).ty hx hg h1 h2 h3 hp).toF
    .cases h
   .cases h
  .cases h
 .rename_i op t y ho
  split at h
  .rename_i l b hx
   split at h
   .rename_i hg;cases h;exact (Zay5 ho hx hg).toF
   .cases h
  .cases h
 .rename_i op t y z t2 ho
  split at h
  .rename_i l k i k2 j hx hy
   by_cases hk:k=k2
   .subst hk
    rw [decide_eq_true rfl,cond_true] at h
    split at h
    .rename_i hg;cases h;exact (Zay6 ho hx hy hg).toF
    .cases h
   .rw [decide_eq_false hk,cond_false] at h;cases h
  .cases h
 .rename_i t y z ho
  split at h
  .rename_i i l c0 cs p hd hi hx hy
   split at h
   .rename_i z hg hz
    have hbh:=Z9 h;clear h;obtain⟨hb,h⟩:=hbh
    simp only [Bool.and_eq_true,Zu,Bool.not_eq_true'] at hb
    cases h
    have hty:=(hT _ _ hi).ty
    rw [hb.2.1,hb.2.2] at hty
    exact Zaxc (by simp) (fun m hm=>List.mem_cons_of_mem _ (Zab1 p hm)) ho hd hty hx hy hg hz hb.1
   .cases h
  .rename_i i l m j q r2 n2 hd hi hx hy
   split at h
   .rename_i k i0 r es k2 es2 e es' i1 xs2 hg hg2
    split at h
    .rename_i ts hgr hts
     have hbh:=Z9 h;clear h;obtain⟨hb,h⟩:=hbh
     simp only [Bool.and_eq_true,Zu,Zdj,Bool.not_eq_true'] at hb
     cases h
     obtain⟨h1,h2,h3,h4,h5,h6,h7,_⟩:=hc
     subst h2;subst h6;subst h7
     have hty:=(hT _ _ hi).ty
     rw [hb.1.1.1,hb.1.1.2] at hty
     have nb:∀ {a b:Nat},Nat.beq a b=false->a≠b:=fun h e=>by subst e;simp at h
     exact Zave hb.2.1.1 (nb hb.2.1.2) (nb hb.2.2.1) (nb hb.2.2.2) ho hd hty hx hy hg hgr hg2 h1 h3 h4 h5 hb.1.2 hts
    .cases h
   .cases h
  .rename_i i l m j q p _ hd hi hx hy
   split at h
   .rename_i k i0 r es e es' i1 xs2 hg
    split at h
    .split at h
     .rename_i ts hts
      have hbh:=Z9 h;clear h;obtain⟨hb,h⟩:=hbh
      simp only [Bool.and_eq_true,Zu,Zdj] at hb
      cases h
      obtain⟨h1,h2,h3,h4,h5,_⟩:=hc
      subst h2;subst h4;subst h5
      exact Zaxe ho hd (hT _ _ hi).ty hx hy hg h1 h3 hb.1.1 hb.1.2 hb.2 hts
     .cases h
    .rename_i r2 _
     split at h
     .rename_i ts hgr hgr2 hts
      have hbh:=Z9 h;clear h;obtain⟨hb,h⟩:=hbh
      simp only [Bool.and_eq_true,Zu,Zdj,Bool.not_eq_true'] at hb
      cases h
      obtain⟨hc1,hc2⟩:=Zw.1 hc
      obtain⟨h1,h2,h3,h4,h5,_⟩:=hc2
      subst h2;subst h4;subst h5
      have nb:∀ {a b:Nat},Nat.beq a b=false->a≠b:=fun h e=>by subst e;simp at h
      exact (Zavd hb.2.1.1 (nb hb.2.1.2) (nb hb.2.2.1) (nb hb.2.2.2) ho hd (hT _ _ hi).ty hx hy hg hgr hgr2 hc1 h1 h3 hb.1.1.1 hb.1.1.2 hb.1.2 hts).mono_need (fun m hm=>by
       simp only [List.mem_cons,List.not_mem_nil,or_false] at hm⊢
       rcases hm with h | h | h<;>simp [h])
     .cases h
   .cases h
  .cases h
 .rename_i c ho
  split at h
  .rename_i l es t n xs2 hce hps hat
   obtain⟨y,hax,hy⟩:=Zqy hps
   have hceq:=Zh2 hce hax hat
   rw [hceq] at ho
   split at h
   .rename_i e hh hk hg
    cases h
    obtain⟨h1,_⟩:=hc
    subst h1
    simp only [Option.map_eq_some_iff] at hk
    obtain⟨i0,hi0,hk⟩:=hk
    have hu:=(hT _ _ hi0).k
    rw [hk] at hu
    exact (Zay4 ho hu hy hg).toF
   .cases h
  .rename_i l m t n xs2 hce hps hat
   obtain⟨y,hax,hy⟩:=Zqy hps
   have hceq:=Zh2 hce hax hat
   rw [hceq] at ho
   split at h
   .rename_i e k i r es hk hg
    cases h
    obtain⟨h1,h2,_⟩:=hc
    subst h2
    simp only [Option.map_eq_some_iff] at hk
    obtain⟨i0,hi0,hk⟩:=hk
    have hu:=(hT _ _ hi0).k
    rw [hk] at hu
    exact (Zaza ho hu hy hg h1).toF
   .cases h
  .rename_i l2 m2 t tx L es' xs2 hce hps hat
   obtain⟨y,z,hax,hy,hz⟩:=Zle hps
   have hceq:=Zh2 hce hax hat
   rw [hceq] at ho
   split at h
   .rename_i e agg k bytes z0 kk fl ex k2 i2 r es he hex hg
    have hbh:=Z9 h;clear h;obtain⟨hb,h⟩:=hbh
    simp only [Bool.and_eq_true] at hb
    cases h
    obtain⟨h1,h2,h3,h4,h5,_⟩:=hc
    subst h3;subst h1;subst h2
    have hE:=Zof (z:=z0) hT he rfl hb.1.1 hb.1.2
    obtain⟨i1,hi1,hk1,_⟩:=Zc6 hex
    have hu1:=(hT _ _ hi1).k
    rw [hk1] at hu1
    have hkk:=(Zu _ _).1 hb.2.1.1
    subst hkk
    exact (Zaj2 (need:=[l2]) L ((Zdj _ _).1 hb.2.1.2) (Zrl hb.2.2) ho hE ⟨_,hu1⟩ hy hz hg (by simp) h4 h5).toF
   .cases h
  .rename_i l m l2 m2 t tx es' xs2 hce hps hat
   obtain⟨y,z,hax,hy,hz⟩:=Zle hps
   have hceq:=Zh2 hce hax hat
   rw [hceq] at ho
   split at h
   .rename_i e agg k bytes z0 kk fl ex k1 i1 r es0 k2 i2 r2 es he hex hg hg2
    obtain⟨i3,hi3,hk3,_⟩:=Zc6 hex
    have hu1:=(hT _ _ hi3).k
    rw [hk3] at hu1
    cases hrr:Nat.beq r r2 with
    | true=>
     simp only [hrr,cond_true] at h
     have hbh:=Z9 h;clear h;obtain⟨hb,h⟩:=hbh
     simp only [Bool.and_eq_true] at hb
     cases h
     obtain⟨h1,h2,h3,h4,h5,h6,h7,_⟩:=hc
     have hE:=Zof (z:=z0) hT he rfl hb.1.1 hb.1.2
     have e1:=(Zu _ _).1 hb.2.1
     have e2:=(Zu _ _).1 hb.2.2
     have e3:=(Zu _ _).1 hrr
     subst e1;subst e2;subst e3;subst h5;subst h3;subst h4;subst h2
     have hl:(es0++es).length=i1+es.length:=by rw [List.length_append,h1]
     rw [hl] at h6 h7
     show OpF P o tm σ [l,l2] [l] (.own l (.xw (es0++es).length)) [(l,.xrow k (es0++es).length r (es0++es))]
     rw [hl]
     exact Zavf ho hE ⟨_,hu1⟩ hy hg h1 hz hg2 (by simp) (by simp) h6 h7
    | false=>
     simp only [hrr,cond_false] at h
     split at h
     .rename_i hgr hgr2
      have hbh:=Z9 h;clear h;obtain⟨hb,h⟩:=hbh
      simp only [Bool.and_eq_true,Zdj,Bool.not_eq_true'] at hb
      cases h
      obtain⟨h1,h2,h3,h4,h5,h6,h7,_⟩:=hc
      have hE:=Zof (z:=z0) hT he rfl hb.1.1.1 hb.1.1.2
      have e1:=(Zu _ _).1 hb.1.2.1
      have e2:=(Zu _ _).1 hb.1.2.2
      have nb:∀ {a b:Nat},Nat.beq a b=false->a≠b:=fun h e=>by subst e;simp at h
      subst e1;subst e2;subst h5;subst h3;subst h4;subst h2
      have hl:(es0++es).length=i1+es.length:=by rw [List.length_append,h1]
      rw [hl] at h6 h7
      show OpF P o tm σ [l,l2,r,r2] [l,r,r2] (.own l (.xw (es0++es).length)) [(l,.xrow k (es0++es).length r (es0++es)),(r,.reg false)]
      rw [hl]
      exact Zasz hb.2.1.1 (nb hrr) (nb hb.2.2.1) (nb hb.2.2.2) ho hE ⟨_,hu1⟩ hy hg h1 hz hg2 hgr hgr2 h6 h7
     .cases h
   .cases h
  .cases h
 .rename_i t len parts ho
  split at h
  .rename_i e agg k bytes z kk fl ps r L xs2 he hp
   have hbh:=Z9 h;clear h;obtain⟨hb,h⟩:=hbh
   simp only [Bool.and_eq_true] at hb
   have hE:=Zof (z:=z) hT he rfl hb.1.1 hb.1.2
   split at h
   .rename_i out hf
    split at h
    .rename_i ts hts
     have hbh:=Z9 h;clear h;obtain⟨hb2,h⟩:=hbh
     simp only [Bool.and_eq_true] at hb2
     cases h
     exact (Zazc (need:=[]) L ((Zdj _ _).1 hb2.1.1) (Zrl hb2.1.2) ho hE hp ((Zdj _ _).1 hb.2) hf hts ((Zu _ _).1 hb2.2)).toF
    .cases h
   .cases h
  .cases h
 .cases h
theorem Zab4(hT:TOK P T){x:Stm}(h:Zalg P T o tm σ xs=some (ps,xs',x))(hc:Zaj ps):OpF P o tm σ x.s.need x.rm x.s.p x.s.news:=by
 unfold Zalg at h
 split at h
 .rename_i he
  cases h
  exact (Zaze hT he hc).toF
 .split at h
  .rename_i hm;cases h;exact Zaxp hT hm hc
  .split at h
   .rename_i hm;cases h;exact Zaxq hT hm hc
   .split at h
    .rename_i hm;cases h;exact Zaxr hT hm hc
    .split at h
     .rename_i hm;cases h;exact Zazf hT hm hc
     .exact Zaxs hT h hc
end
end Go.PW
namespace Go.PW
open Go.RowKit
abbrev Es:=Option (List Prop×List Orc×St)
theorem Zamp(m:Nat):Nat.beq m m=true:=(Zu _ _).2 rfl
mutual
def Zih(mt:Bool)(l:Nat)(es:List (List Zb)):PV->List Prop×PV
 | .t x=>([],.t x)
 | .nils=>([],.nils)
 | .osl m n=>bif !mt&&Nat.beq m l then ([es.length=n],.t (.sl es)) else ([],.osl m n)
 | .bptr m o=>([],.bptr m o)
 | .rptr m n i o=>([],.rptr m n i o)
 | .vptr cs=>([],.vptr cs)
 | .agg cs=>((Zkn mt l es cs).1,.agg (Zkn mt l es cs).2)
 | .tup cs=>((Zkn mt l es cs).1,.tup (Zkn mt l es cs).2)
 | .fn f cs=>((Zkn mt l es cs).1,.fn f (Zkn mt l es cs).2)
 | .own m (.msl n)=>bif mt&&Nat.beq m l then ([es.length=n],.t (.sl es)) else ([],.own m (.msl n))
 | .own m d=>([],.own m d)
def Zkn(mt:Bool)(l:Nat)(es:List (List Zb)):List PV->List Prop×List PV
 | []=>([],[])
 | c::cs=>((Zih mt l es c).1++(Zkn mt l es cs).1,(Zih mt l es c).2::(Zkn mt l es cs).2)
end
def Zrn(mt:Bool)(l:Nat)(es:List (List Zb)):List (Nat×PV)->List Prop×List (Nat×PV)
 | []=>([],[])
 | (i,p)::r=>((Zih mt l es p).1++(Zrn mt l es r).1,(i,(Zih mt l es p).2)::(Zrn mt l es r).2)
def Zhc(mt:Bool)(l:Nat)(es:List (List Zb)):List (Nat×Blk)->List Prop×List (Nat×Blk)
 | []=>([],[])
 | (m,b)::r=>
  bif Nat.beq m l then Zhc mt l es r else
  match b with
  | .row k es'=>((Zhc mt l es r).1,(m,.row k es')::(Zhc mt l es r).2)
  | .mat k q es'=>((Zhc mt l es r).1,(m,.mat k q es')::(Zhc mt l es r).2)
  | .map ag es'=>((Zhc mt l es r).1,(m,.map ag es')::(Zhc mt l es r).2)
  | .reg h=>((Zhc mt l es r).1,(m,.reg h)::(Zhc mt l es r).2)
  | .xrow k i q es'=>((Zhc mt l es r).1,(m,.xrow k i q es')::(Zhc mt l es r).2)
  | .prow k i es' cs=>((Zkn mt l es cs).1++(Zhc mt l es r).1,(m,.prow k i es' (Zkn mt l es cs).2)::(Zhc mt l es r).2)
  | .box cs=>((Zkn mt l es cs).1++(Zhc mt l es r).1,(m,.box (Zkn mt l es cs).2)::(Zhc mt l es r).2)
mutual
theorem Zar4{σ σ':List (Nat×Blk)}{mt:Bool}{l k q0:Nat}{es:List (List Zb)}(hg:get σ l=some (bif mt then .mat k q0 es else .row k es))(h0:get σ' l=none):∀ (p:PV),Zaj (Zih mt l es p).1->Frz σ σ' p (Zih mt l es p).2
 | .t _,_=>by simp [Zih,Frz]
 | .nils,_=>by simp [Zih,Frz]
 | .osl m n,h=>by
  simp only [Zih] at h⊢
  cases hb : !mt&&Nat.beq m l with
  | true=>
   simp only [Bool.and_eq_true,Bool.not_eq_true',Zu] at hb
   obtain⟨rfl,rfl⟩:=hb
   simp only [Zamp,Bool.not_false,Bool.true_and,cond_true] at h⊢
   simp only [Frz]
   exact .inr ⟨k,es,hg,h.1,h0,rfl⟩
  | false=>simp only [cond_false,Frz];exact .inl trivial
 | .bptr _ _,_=>by simp [Zih,Frz]
 | .rptr _ _ _ _,_=>by simp [Zih,Frz]
 | .vptr _,_=>by simp [Zih,Frz]
 | .agg cs,h=>by simp only [Zih,Frz] at h⊢;exact⟨_,rfl,Zs5 hg h0 cs h⟩
 | .tup cs,h=>by simp only [Zih,Frz] at h⊢;exact⟨_,rfl,Zs5 hg h0 cs h⟩
 | .fn _ cs,h=>by simp only [Zih,Frz] at h⊢;exact⟨_,rfl,Zs5 hg h0 cs h⟩
 | .own m (.msl n),h=>by
  simp only [Zih] at h⊢
  cases hb:mt&&Nat.beq m l with
  | true=>
   simp only [Bool.and_eq_true,Zu] at hb
   obtain⟨rfl,rfl⟩:=hb
   simp only [Zamp,Bool.true_and,cond_true] at h⊢
   simp only [Frz]
   exact .inr ⟨n,k,q0,es,rfl,hg,h.1,h0,rfl⟩
  | false=>simp only [cond_false,Frz];exact .inl trivial
 | .own m (.tail _ _),_=>by simp only [Zih,Frz];exact .inl trivial
 | .own m (.mpt _ _ _),_=>by simp only [Zih,Frz];exact .inl trivial
 | .own m (.mrow _ _),_=>by simp only [Zih,Frz];exact .inl trivial
 | .own m (.mel _ _ _),_=>by simp only [Zih,Frz];exact .inl trivial
 | .own m .map,_=>by simp only [Zih,Frz];exact .inl trivial
 | .own m (.pw _),_=>by simp only [Zih,Frz];exact .inl trivial
 | .own m (.pp _ _),_=>by simp only [Zih,Frz];exact .inl trivial
 | .own m (.rg _),_=>by simp only [Zih,Frz];exact .inl trivial
 | .own m (.rp _),_=>by simp only [Zih,Frz];exact .inl trivial
 | .own m (.xw _),_=>by simp only [Zih,Frz];exact .inl trivial
 | .own m (.xp _ _ _),_=>by simp only [Zih,Frz];exact .inl trivial
theorem Zs5{σ σ':List (Nat×Blk)}{mt:Bool}{l k q0:Nat}{es:List (List Zb)}(hg:get σ l=some (bif mt then .mat k q0 es else .row k es))(h0:get σ' l=none):∀ (cs:List PV),Zaj (Zkn mt l es cs).1->Zbi σ σ' cs (Zkn mt l es cs).2
 | [],_=>by simp [Zkn,Zbi]
 | c::cs,h=>by
  simp only [Zkn,Zbi] at h⊢
  obtain⟨h1,h2⟩:=Zw.1 h
  exact⟨_,_,rfl,Zar4 hg h0 c h1,Zs5 hg h0 cs h2⟩
end
theorem Z6t{σ σ':List (Nat×Blk)}{mt:Bool}{l k q0:Nat}{es:List (List Zb)}(hg:get σ l=some (bif mt then .mat k q0 es else .row k es))(h0:get σ' l=none):∀ (tm:List (Nat×PV)),Zaj (Zrn mt l es tm).1->∀ i q,get (Zrn mt l es tm).2 i=some q->∃ p,get tm i=some p/\Frz σ σ' p q
 | [],_,i,q,hq=>by cases hq
 | (j,p)::r,h,i,q,hq=>by
  simp only [Zrn] at h hq
  obtain⟨h1,h2⟩:=Zw.1 h
  simp only [PW.get] at hq⊢
  cases hb:Nat.beq j i with
  | true=>simp only [hb,cond_true,Option.some.injEq] at hq⊢;subst hq;exact⟨p,rfl,Zar4 hg h0 p h1⟩
  | false=>simp only [hb,cond_false] at hq⊢;exact Z6t hg h0 r h2 i q hq
theorem Zro{mt:Bool}{l:Nat}{es:List (List Zb)}:∀ (σ:List (Nat×Blk)),get (Zhc mt l es σ).2 l=none
 | []=>rfl
 | (m,b)::r=>by
  simp only [Zhc]
  cases hb:Nat.beq m l with
  | true=>simp only [cond_true];exact Zro r
  | false=>
   simp only [cond_false]
   cases b<;>simp only [PW.get,hb,cond_false]<;>exact Zro r
theorem Zkh{σ0 σ0':List (Nat×Blk)}{mt:Bool}{l k q0:Nat}{es:List (List Zb)}(hg:get σ0 l=some (bif mt then .mat k q0 es else .row k es))(h0:get σ0' l=none):∀ (σ:List (Nat×Blk)),Zaj (Zhc mt l es σ).1->∀ m o',get (Zhc mt l es σ).2 m=some o'->∃ o,get σ m=some o/\Zby σ0 σ0' o o'
 | [],_,m,o',ho=>by cases ho
 | (j,b)::r,h,m,o',ho=>by
  simp only [Zhc] at h ho
  cases hb:Nat.beq j l with
  | true=>
   simp only [hb,cond_true] at h ho
   have:j=l:=(Zu _ _).1 hb
   subst this
   have hjm:j≠m:=fun e=>by subst e;rw [Zro] at ho;cases ho
   simp only [PW.get,Zdi hjm,cond_false]
   exact Zkh hg h0 r h m o' ho
  | false=>
   simp only [hb,cond_false] at h ho
   cases b with
   | row k' es'=>
    simp only [PW.get] at ho⊢
    cases hm:Nat.beq j m with
    | true=>simp only [hm,cond_true,Option.some.injEq] at ho⊢;subst ho;exact⟨_,rfl,rfl⟩
    | false=>simp only [hm,cond_false] at ho⊢;exact Zkh hg h0 r h m o' ho
   | mat k' q' es'=>
    simp only [PW.get] at ho⊢
    cases hm:Nat.beq j m with
    | true=>simp only [hm,cond_true,Option.some.injEq] at ho⊢;subst ho;exact⟨_,rfl,rfl⟩
    | false=>simp only [hm,cond_false] at ho⊢;exact Zkh hg h0 r h m o' ho
   | reg h'=>
    simp only [PW.get] at ho⊢
    cases hm:Nat.beq j m with
    | true=>simp only [hm,cond_true,Option.some.injEq] at ho⊢;subst ho;exact⟨_,rfl,rfl⟩
    | false=>simp only [hm,cond_false] at ho⊢;exact Zkh hg h0 r h m o' ho
   | xrow k' i' q' es'=>
    simp only [PW.get] at ho⊢
    cases hm:Nat.beq j m with
    | true=>simp only [hm,cond_true,Option.some.injEq] at ho⊢;subst ho;exact⟨_,rfl,rfl⟩
    | false=>simp only [hm,cond_false] at ho⊢;exact Zkh hg h0 r h m o' ho
   | map k' es'=>
    simp only [PW.get] at ho⊢
    cases hm:Nat.beq j m with
    | true=>simp only [hm,cond_true,Option.some.injEq] at ho⊢;subst ho;exact⟨_,rfl,rfl⟩
    | false=>simp only [hm,cond_false] at ho⊢;exact Zkh hg h0 r h m o' ho
   | prow k' i' es' cs=>
    obtain⟨h1,h2⟩:=Zw.1 h
    simp only [PW.get] at ho⊢
    cases hm:Nat.beq j m with
    | true=>simp only [hm,cond_true,Option.some.injEq] at ho⊢;subst ho;exact⟨_,rfl,_,rfl,Zs5 hg h0 cs h1⟩
    | false=>simp only [hm,cond_false] at ho⊢;exact Zkh hg h0 r h2 m o' ho
   | box cs=>
    obtain⟨h1,h2⟩:=Zw.1 h
    simp only [PW.get] at ho⊢
    cases hm:Nat.beq j m with
    | true=>simp only [hm,cond_true,Option.some.injEq] at ho⊢;subst ho;exact⟨_,rfl,_,rfl,Zs5 hg h0 cs h1⟩
    | false=>simp only [hm,cond_false] at ho⊢;exact Zkh hg h0 r h2 m o' ho
mutual
def vbx(l:Nat)(ts:List Zb):PV->PV
 | .bptr m o=>bif Nat.beq m l then .vptr (ts.drop o) else .bptr m o
 | .agg cs => .agg (Z39 l ts cs)
 | .tup cs => .tup (Z39 l ts cs)
 | .fn f cs => .fn f (Z39 l ts cs)
 | .t x => .t x
 | .nils => .nils
 | .osl m n => .osl m n
 | .rptr m n i o => .rptr m n i o
 | .vptr cs => .vptr cs
 | .own m d => .own m d
def Z39(l:Nat)(ts:List Zb):List PV->List PV
 | []=>[]
 | c::cs=>vbx l ts c::Z39 l ts cs
end
def Zalh(l:Nat)(ts:List Zb):List (Nat×PV)->List (Nat×PV)
 | []=>[]
 | (i,p)::r=>(i,vbx l ts p)::Zalh l ts r
def Z4a(l:Nat)(ts:List Zb):List (Nat×Blk)->List (Nat×Blk)
 | []=>[]
 | (m,b)::r=>
  bif Nat.beq m l then Z4a l ts r else
  match b with
  | .box cs=>(m,.box (Z39 l ts cs))::Z4a l ts r
  | .prow k i es cs=>(m,.prow k i es (Z39 l ts cs))::Z4a l ts r
  | b=>(m,b)::Z4a l ts r
mutual
theorem Zavm{σ σ':List (Nat×Blk)}{l:Nat}{ts:List Zb}(hg:get σ l=some (.box (ts.map .t)))(h0:get σ' l=none):∀ (p:PV),Frz σ σ' p (vbx l ts p)
 | .t _=>by simp [vbx,Frz]
 | .nils=>by simp [vbx,Frz]
 | .osl _ _=>by simp [vbx,Frz]
 | .bptr m o=>by
  simp only [vbx]
  cases hb:Nat.beq m l with
  | true=>
   have:m=l:=(Zu _ _).1 hb
   subst this
   simp only [cond_true,Frz]
   exact .inr ⟨ts,hg,h0,rfl⟩
  | false=>simp only [cond_false,Frz];exact .inl trivial
 | .rptr _ _ _ _=>by simp [vbx,Frz]
 | .vptr _=>by simp [vbx,Frz]
 | .agg cs=>by simp only [vbx,Frz];exact⟨_,rfl,Zxs hg h0 cs⟩
 | .tup cs=>by simp only [vbx,Frz];exact⟨_,rfl,Zxs hg h0 cs⟩
 | .fn _ cs=>by simp only [vbx,Frz];exact⟨_,rfl,Zxs hg h0 cs⟩
 | .own _ _=>by simp only [vbx,Frz];exact .inl trivial
theorem Zxs{σ σ':List (Nat×Blk)}{l:Nat}{ts:List Zb}(hg:get σ l=some (.box (ts.map .t)))(h0:get σ' l=none):∀ (cs:List PV),Zbi σ σ' cs (Z39 l ts cs)
 | []=>by simp [Z39,Zbi]
 | c::cs=>by simp only [Z39,Zbi];exact⟨_,_,rfl,Zavm hg h0 c,Zxs hg h0 cs⟩
end
theorem Zamq{σ σ':List (Nat×Blk)}{l:Nat}{ts:List Zb}(hg:get σ l=some (.box (ts.map .t)))(h0:get σ' l=none):∀ (tm:List (Nat×PV)) (i:Nat) (q:PV),get (Zalh l ts tm) i=some q->∃ p,get tm i=some p/\Frz σ σ' p q
 | [],i,q,hq=>by cases hq
 | (j,p)::r,i,q,hq=>by
  simp only [Zalh,PW.get] at hq⊢
  cases hb:Nat.beq j i with
  | true=>simp only [hb,cond_true,Option.some.injEq] at hq⊢;subst hq;exact⟨p,rfl,Zavm hg h0 p⟩
  | false=>simp only [hb,cond_false] at hq⊢;exact Zamq hg h0 r i q hq
theorem Zz1{l:Nat}{ts:List Zb}:∀ (σ:List (Nat×Blk)),get (Z4a l ts σ) l=none
 | []=>rfl
 | (m,b)::r=>by
  simp only [Z4a]
  cases hb:Nat.beq m l with
  | true=>simp only [cond_true];exact Zz1 r
  | false=>
   simp only [cond_false]
   cases b<;>simp only [PW.get,hb,cond_false]<;>exact Zz1 r
theorem Zahz{σ0 σ0':List (Nat×Blk)}{l:Nat}{ts:List Zb}(hg:get σ0 l=some (.box (ts.map .t)))(h0:get σ0' l=none):∀ (σ:List (Nat×Blk)) (m:Nat) (o':Blk),get (Z4a l ts σ) m=some o'->∃ o,get σ m=some o/\Zby σ0 σ0' o o'
 | [],m,o',ho=>by cases ho
 | (j,b)::r,m,o',ho=>by
  simp only [Z4a] at ho
  cases hb:Nat.beq j l with
  | true=>
   simp only [hb,cond_true] at ho
   have:j=l:=(Zu _ _).1 hb
   subst this
   have hjm:j≠m:=fun e=>by subst e;rw [Zz1] at ho;cases ho
   simp only [PW.get,Zdi hjm,cond_false]
   exact Zahz hg h0 r m o' ho
  | false=>
   simp only [hb,cond_false] at ho
   simp only [PW.get]
   cases hm:Nat.beq j m with
   | true=>
    cases b with
    | box cs=>simp only [PW.get,hm,cond_true,Option.some.injEq] at ho⊢;subst ho;exact⟨_,rfl,_,rfl,Zxs hg h0 cs⟩
    | row k es=>simp only [PW.get,hm,cond_true,Option.some.injEq] at ho⊢;subst ho;exact⟨_,rfl,rfl⟩
    | mat k q es=>simp only [PW.get,hm,cond_true,Option.some.injEq] at ho⊢;subst ho;exact⟨_,rfl,rfl⟩
    | map ag es=>simp only [PW.get,hm,cond_true,Option.some.injEq] at ho⊢;subst ho;exact⟨_,rfl,rfl⟩
    | reg h'=>simp only [PW.get,hm,cond_true,Option.some.injEq] at ho⊢;subst ho;exact⟨_,rfl,rfl⟩
    | xrow k i q es=>simp only [PW.get,hm,cond_true,Option.some.injEq] at ho⊢;subst ho;exact⟨_,rfl,rfl⟩
    | prow k i es cs=>simp only [PW.get,hm,cond_true,Option.some.injEq] at ho⊢;subst ho;exact⟨_,rfl,_,rfl,Zxs hg h0 cs⟩
   | false=>
    simp only [cond_false]
    refine Zahz hg h0 r m o' ?_
    cases b<;>simpa only [PW.get,hm,cond_false] using ho
def Zll{α:Type}(l:List (Nat×α)):List Nat->Option (List (Nat×α))
 | []=>some []
 | k::ks=>
  match get l k,Zll l ks with
  | some x,some r=>some ((k,x)::r)
  | _,_=>none
theorem Zjh{α:Type}{l:List (Nat×α)}:∀ {ks:List Nat} {r:List (Nat×α)},Zll l ks=some r->∀ i x,get r i=some x->get l i=some x
 | [],r,h,i,x,hx=>by simp only [Zll,Option.some.injEq] at h;subst h;cases hx
 | k::ks,r,h,i,x,hx=>by
  simp only [Zll] at h
  split at h
  .rename_i y r' hy hr
   cases h
   simp only [PW.get] at hx
   cases hb:Nat.beq k i with
   | true=>have:k=i:=(Zu _ _).1 hb;subst this;simp only [hb,cond_true,Option.some.injEq] at hx;subst hx;exact hy
   | false=>simp only [hb,cond_false] at hx;exact Zjh hr i x hx
  .cases h
def Zl9(l:Nat)(tm:List (Nat×PV))(σ:List (Nat×Blk)):Bool:=(tm.all fun q => !q.2.has l)&&σ.all fun q => !Nat.beq q.1 l && !q.2.has l
theorem Zqz{l:Nat}{tm:List (Nat×PV)}{σ:List (Nat×Blk)}(h:Zl9 l tm σ=true):(∀ i q,get tm i=some q->q.has l=false)/\(∀ m y,get σ m=some y->m≠l/\y.has l=false):=by
 simp only [Zl9,Bool.and_eq_true,List.all_eq_true] at h
 refine⟨fun i q hq=>?_,fun m y hy=>?_⟩
 .have:=h.1 _ (Zgu hq);simpa using this
 .have:=h.2 _ (Zgu hy)
  simp only [Bool.not_eq_true'] at this
  exact⟨fun e=>by subst e;have:=this.1;simp at this,this.2⟩
def Zcl(l n:Nat):List (Nat×PV)->List Prop×List (Nat×PV)
 | []=>([],[])
 | (i,p)::r=>
  match p with
  | .osl m k=>bif Nat.beq m l then ((k=n)::(Zcl l n r).1,(i,.osl m n)::(Zcl l n r).2) else ((Zcl l n r).1,(i,.osl m k)::(Zcl l n r).2)
  | .rptr m k j o=>bif Nat.beq m l then ((k=n)::(Zcl l n r).1,(i,.rptr m n j o)::(Zcl l n r).2) else ((Zcl l n r).1,(i,.rptr m k j o)::(Zcl l n r).2)
  | .own m (.msl k)=>bif Nat.beq m l then ((k=n)::(Zcl l n r).1,(i,.own m (.msl n))::(Zcl l n r).2) else ((Zcl l n r).1,(i,.own m (.msl k))::(Zcl l n r).2)
  | .own m (.xw k)=>bif Nat.beq m l then ((k=n)::(Zcl l n r).1,(i,.own m (.xw n))::(Zcl l n r).2) else ((Zcl l n r).1,(i,.own m (.xw k))::(Zcl l n r).2)
  | .own m (.xp k j o)=>bif Nat.beq m l then ((k=n)::(Zcl l n r).1,(i,.own m (.xp n j o))::(Zcl l n r).2) else ((Zcl l n r).1,(i,.own m (.xp k j o))::(Zcl l n r).2)
  | p=>((Zcl l n r).1,(i,p)::(Zcl l n r).2)
theorem Zfd{l n:Nat}:∀ (tm:List (Nat×PV)),Zaj (Zcl l n tm).1->(Zcl l n tm).2=tm
 | [],_=>rfl
 | (i,p)::r,h=>by
  cases p
  case osl m k=>
   simp only [Zcl] at h⊢
   cases hb:Nat.beq m l with
   | true=>
    simp only [hb,cond_true] at h⊢
    obtain⟨h1,h2⟩:=h
    subst h1
    rw [Zfd r h2]
   | false=>
    simp only [hb,cond_false] at h⊢
    rw [Zfd r h]
  case rptr m k j o=>
   simp only [Zcl] at h⊢
   cases hb:Nat.beq m l with
   | true=>
    simp only [hb,cond_true] at h⊢
    obtain⟨h1,h2⟩:=h
    subst h1
    rw [Zfd r h2]
   | false=>
    simp only [hb,cond_false] at h⊢
    rw [Zfd r h]
  case own m d=>
   cases d
   case msl k=>
    simp only [Zcl] at h⊢
    cases hb:Nat.beq m l with
    | true=>
     simp only [hb,cond_true] at h⊢
     obtain⟨h1,h2⟩:=h
     subst h1
     rw [Zfd r h2]
    | false=>
     simp only [hb,cond_false] at h⊢
     rw [Zfd r h]
   case xw k=>
    simp only [Zcl] at h⊢
    cases hb:Nat.beq m l with
    | true=>
     simp only [hb,cond_true] at h⊢
     obtain⟨h1,h2⟩:=h
     subst h1
     rw [Zfd r h2]
    | false=>
     simp only [hb,cond_false] at h⊢
     rw [Zfd r h]
   case xp k j o=>
    simp only [Zcl] at h⊢
    cases hb:Nat.beq m l with
    | true=>
     simp only [hb,cond_true] at h⊢
     obtain⟨h1,h2⟩:=h
     subst h1
     rw [Zfd r h2]
    | false=>
     simp only [hb,cond_false] at h⊢
     rw [Zfd r h]
   all_goals
    simp only [Zcl] at h⊢
    rw [Zfd r h]
  all_goals
   simp only [Zcl] at h⊢
   rw [Zfd r h]
def Zem(l n:Nat):List PV->List Prop×List PV
 | []=>([],[])
 | .osl m k::r=>bif Nat.beq m l then ((k=n)::(Zem l n r).1,.osl m n::(Zem l n r).2) else ((Zem l n r).1,.osl m k::(Zem l n r).2)
 | .own m (.msl k)::r=>bif Nat.beq m l then ((k=n)::(Zem l n r).1,.own m (.msl n)::(Zem l n r).2) else ((Zem l n r).1,.own m (.msl k)::(Zem l n r).2)
 | .own m (.xw k)::r=>bif Nat.beq m l then ((k=n)::(Zem l n r).1,.own m (.xw n)::(Zem l n r).2) else ((Zem l n r).1,.own m (.xw k)::(Zem l n r).2)
 | p::r=>((Zem l n r).1,p::(Zem l n r).2)
theorem Zis{l n:Nat}:∀ (cs:List PV),Zaj (Zem l n cs).1->(Zem l n cs).2=cs
 | [],_=>rfl
 | p::r,h=>by
  cases p
  case osl m k=>
   simp only [Zem] at h⊢
   cases hb:Nat.beq m l with
   | true=>
    simp only [hb,cond_true] at h⊢
    obtain⟨h1,h2⟩:=h
    subst h1
    rw [Zis r h2]
   | false=>
    simp only [hb,cond_false] at h⊢
    rw [Zis r h]
  case own m d=>
   cases d
   case msl k=>
    simp only [Zem] at h⊢
    cases hb:Nat.beq m l with
    | true=>
     simp only [hb,cond_true] at h⊢
     obtain⟨h1,h2⟩:=h
     subst h1
     rw [Zis r h2]
    | false=>
     simp only [hb,cond_false] at h⊢
     rw [Zis r h]
   case xw k=>
    simp only [Zem] at h⊢
    cases hb:Nat.beq m l with
    | true=>
     simp only [hb,cond_true] at h⊢
     obtain⟨h1,h2⟩:=h
     subst h1
     rw [Zis r h2]
    | false=>
     simp only [hb,cond_false] at h⊢
     rw [Zis r h]
   all_goals (simp only [Zem] at h⊢;rw [Zis r h])
  all_goals
   simp only [Zem] at h⊢
   rw [Zis r h]
def Zer(l n:Nat):List (Nat×Blk)->List Prop×List (Nat×Blk)
 | []=>([],[])
 | (m,.box cs)::r=>((Zem l n cs).1++(Zer l n r).1,(m,.box (Zem l n cs).2)::(Zer l n r).2)
 | (m,.row k es)::r=>((Zer l n r).1,(m,.row k es)::(Zer l n r).2)
 | (m,.mat k q es)::r=>((Zer l n r).1,(m,.mat k q es)::(Zer l n r).2)
 | (m,.map ag es)::r=>((Zer l n r).1,(m,.map ag es)::(Zer l n r).2)
 | (m,.reg h)::r=>((Zer l n r).1,(m,.reg h)::(Zer l n r).2)
 | (m,.xrow k i q es)::r=>((Zer l n r).1,(m,.xrow k i q es)::(Zer l n r).2)
 | (m,.prow k i es cs)::r=>((Zem l n cs).1++(Zer l n r).1,(m,.prow k i es (Zem l n cs).2)::(Zer l n r).2)
theorem Zji{l n:Nat}:∀ (σ:List (Nat×Blk)),Zaj (Zer l n σ).1->(Zer l n σ).2=σ
 | [],_=>rfl
 | (m,b)::r,h=>by
  cases b with
  | box cs=>
   simp only [Zer] at h⊢
   obtain⟨h1,h2⟩:=Zw.1 h
   rw [Zis cs h1,Zji r h2]
  | row k es=>
   simp only [Zer] at h⊢
   rw [Zji r h]
  | mat k q es=>
   simp only [Zer] at h⊢
   rw [Zji r h]
  | map ag es=>
   simp only [Zer] at h⊢
   rw [Zji r h]
  | reg h'=>
   simp only [Zer] at h⊢
   rw [Zji r h]
  | xrow k i q es=>
   simp only [Zer] at h⊢
   rw [Zji r h]
  | prow k i es cs=>
   simp only [Zer] at h⊢
   obtain⟨h1,h2⟩:=Zw.1 h
   rw [Zis cs h1,Zji r h2]
theorem Zaei{G:Frm}{β:Nat->Option Nat}{n:Nat}{tm tm':List (Nat×PV)}{σ σ':List (Nat×Blk)}{a:Act}{w:World}(h:Zaw G β ⟨n,tm,σ⟩ a w)
 (hσ:∀ l o',get σ' l=some o'->∃ o,get σ l=some o/\(o'=o\/∃ cs cs',o = .box cs/\o' = .box cs'/\cs'.length=cs.length/\cs'.all PV.one=true/\∀ vs,VRs (ctx G β w σ) cs vs->VRs (ctx G β w σ) cs' vs))
 (ht:∀ i q,get tm' i=some q->∃ p,get tm i=some p/\∀ v,VR (ctx G β w σ) p v->VR (ctx G β w σ) q v):Zaw G β ⟨n,tm',σ'⟩ a w:=by
 have hO:∀ l o' o,(o'=o\/∃ cs cs',o = .box cs/\o' = .box cs'/\cs'.length=cs.length/\cs'.all PV.one=true/\∀ vs,VRs (ctx G β w σ) cs vs->VRs (ctx G β w σ) cs' vs)->∀ b,Z3 β w l o' b->Z3 β w l o b:=fun l o' o hr b ho=>by
  rcases hr with rfl | ⟨cs,cs',rfl,rfl,_⟩
  .exact ho
  .exact .inl (Z3.flat (o := .box cs') trivial ho)
 have hI:∀ b,(ctx G β w σ).I b->(ctx G β w σ').I b/\(ctx G β w σ').w.heap[b]?=(ctx G β w σ).w.heap[b]?:=fun b hb=>⟨⟨hb.1,hb.2.1,fun l o hl ho=>by obtain⟨o2,ho2,hr2⟩:=hσ l o hl;exact hb.2.2 l o2 ho2 (hO l o o2 hr2 b ho)⟩,rfl⟩
 have hL:∀ l,Zac (ctx G β w σ) (ctx G β w σ') l:=fun l=>by
  refine⟨fun k es' hg=>?_,fun cs' hg=>?_,fun k q es' hg=>?_,fun k es' hg=>?_,fun k i es' cs' hg=>?_,fun h' hg=>?_,fun k i q es' hg=>?_⟩
  .obtain⟨o,ho,h1⟩:=hσ l _ hg
   rcases h1 with rfl | ⟨cs,cs',_,h2,_⟩
   .exact⟨es',ho,Nat.le_refl _,fun _=>⟨rfl,fun _ _ _ h=>h⟩⟩
   .cases h2
  .obtain⟨o,ho,h1⟩:=hσ l _ hg
   rcases h1 with rfl | ⟨cs,cs',rfl,h2,_⟩
   .exact⟨cs',ho,rfl⟩
   .exact⟨cs,ho,rfl⟩
  .obtain⟨o,ho,h1⟩:=hσ l _ hg
   rcases h1 with rfl | ⟨cs,cs',_,h2,_⟩
   .exact⟨es',ho,Nat.le_refl _,fun _=>⟨rfl,fun _ _=>⟨fun _ h=>h,fun _ _=>rfl⟩⟩⟩
   .cases h2
  .obtain⟨o,ho,h1⟩:=hσ l _ hg
   rcases h1 with rfl | ⟨cs,cs',_,h2,_⟩
   .exact⟨_,es',ho,rfl⟩
   .cases h2
  .obtain⟨o,ho,h1⟩:=hσ l _ hg
   rcases h1 with rfl | ⟨cs,cs'',_,h2,_⟩
   .exact⟨es',cs',ho,rfl,rfl,fun _ _ _ h=>h⟩
   .cases h2
  .obtain⟨o,ho,h1⟩:=hσ l _ hg
   rcases h1 with rfl | ⟨cs,cs',_,h2,_⟩
   .exact⟨ho,fun n hn=>⟨n,hn,fun _ hb=>⟨hb,ShB.same rfl⟩⟩⟩
   .cases h2
  .obtain⟨o,ho,h1⟩:=hσ l _ hg
   rcases h1 with rfl | ⟨cs,cs',_,h2,_⟩
   .exact⟨i,es',ho,Nat.le_refl _,fun _=>⟨rfl,fun _ _ _ h=>h⟩⟩
   .cases h2
 exact { defers := h.defers, sz := h.sz, base := h.base, os := h.os, tape := h.tape, output := h.output, old := h.old, A := h.A, gl := h.gl,
         inj:=fun l l' o o' b hl hl' hb hb'=>by
          obtain⟨o1,h1,r1⟩:=hσ l o hl
          obtain⟨o2,h2,r2⟩:=hσ l' o' hl'
          exact h.inj l l' o1 o2 b h1 h2 (hO l o o1 r1 b hb) (hO l' o' o2 r2 b hb'),
         sep:=fun l o b hl hb=>by obtain⟨o1,h1,r1⟩:=hσ l o hl;exact h.sep l o1 b h1 (hO l o o1 r1 b hb),
         fix:=fun l cs h1 hl=>by
          obtain⟨o,ho,h2⟩:=hσ l _ hl
          rcases h2 with rfl | ⟨cs0,cs',rfl,_⟩
          .exact h.fix l cs h1 ho
          .exact h.fix l cs0 h1 ho,
         row0:=h.row0.step (fun m _=>hL m),
         blk:=fun l o' hl=>by
          obtain⟨o,ho,h2⟩:=hσ l o' hl
          have hb:=h.blk l o ho
          rcases h2 with rfl | ⟨cs,cs',rfl,rfl,h3,h4,h5⟩
          .exact BR.step hI rfl (fun _ _=>rfl) (fun m _=>hL m) hb
          .obtain⟨b,vs,f1,f2,f3,f4,f5⟩:=hb
           exact⟨b,vs,f1,by rw [h3];exact f2,f3,VRs.step hI _ _ (fun m _=>hL m) (h5 vs f4),h4⟩,
         tm:=fun i q hq=>by
          obtain⟨p,hp,hf⟩:=ht i q hq
          exact⟨(h.tm i p hp).1,VR.step hI q _ (fun m _=>hL m) (hf _ (h.tm i p hp).2)⟩ }
theorem VRs.set{c:Ctx}{p q:PV}:∀ {cs:List PV} {vs:List Value} {j:Nat},cs[j]?=some p->(∀ v,VR c p v->VR c q v)->VRs c cs vs->VRs c (cs.set j q) vs
 | [],vs,j,h,_,_=>by simp at h
 | x::cs,vs,0,h,hq,hv=>by
  simp only [List.getElem?_cons_zero,Option.some.injEq] at h
  subst h
  simp only [List.set_cons_zero,VRs] at hv⊢
  obtain⟨v,rest,rfl,hv,hr⟩:=hv
  exact⟨v,rest,rfl,hq v hv,hr⟩
 | x::cs,vs,j+1,h,hq,hv=>by
  simp only [List.set_cons_succ,VRs] at hv⊢
  obtain⟨v,rest,rfl,hv,hr⟩:=hv
  exact⟨v,rest,rfl,hv,VRs.set (by simpa using h) hq hr⟩
theorem Zar5{q:PV}(hq:q.one=true):∀ {cs:List PV} {j:Nat},cs.all PV.one=true->(cs.set j q).all PV.one=true
 | [],_,h=>h
 | x::cs,0,h=>by simp only [List.set_cons_zero,List.all_cons,Bool.and_eq_true] at h⊢;exact⟨hq,h.2⟩
 | x::cs,j+1,h=>by simp only [List.set_cons_succ,List.all_cons,Bool.and_eq_true] at h⊢;exact⟨h.1,Zar5 hq h.2⟩
theorem VR.nilt{c:Ctx}(v:Value)(h:VR c .nils v):VR c (.t (.sl [])) v:=by
 simp only [VR] at h⊢
 obtain⟨a,rfl⟩:=h
 simp only [Zx]
 exact⟨a,0,rfl,by simp,by simp [maxLen],.inl trivial⟩
theorem VR.nilOwn{c:Ctx}{l k:Nat}(hg:get c.σ l=some (.row k []))(hb:c.β l=none)(v:Value)(h:VR c .nils v):VR c (.osl l 0) v:=by
 simp only [VR] at h⊢
 obtain⟨a,rfl⟩:=h
 refine⟨fun k' es' hg'=>?_,a,0,0,rfl⟩
 rw [hg] at hg'
 cases hg'
 exact⟨Nat.le_refl _,fun _=>⟨a,0,rfl,Nat.le_refl _,by simp [maxLen],.inl ⟨rfl,hb⟩⟩⟩
theorem Zaej{G:Frm}{β:Nat->Option Nat}{w:World}{tm:List (Nat×PV)}{σ:List (Nat×Blk)}{t:Nat}{p q:PV}(hg:get tm t=some p)(hq:∀ v,VR (ctx G β w σ) p v->VR (ctx G β w σ) q v) :
 ∀ i r,get (put tm t q) i=some r->∃ p,get tm i=some p/\∀ v,VR (ctx G β w σ) p v->VR (ctx G β w σ) r v:=fun i r hr=>by
 by_cases hi:t=i
 .subst hi
  rw [Zb4] at hr
  cases hr
  exact⟨p,hg,hq⟩
 .rw [Zcf _ _ hi] at hr
  exact⟨r,hr,fun _ h=>h⟩
theorem Zaek{G:Frm}{β:Nat->Option Nat}{w:World}{σ:List (Nat×Blk)}{b j:Nat}{cs:List PV}{p q:PV}(hg:get σ b=some (.box cs))(hj:cs[j]?=some p)(h1:cs.all PV.one=true)(h2:q.one=true)(hq:∀ v,VR (ctx G β w σ) p v->VR (ctx G β w σ) q v) :
 ∀ l o',get (put σ b (.box (cs.set j q))) l=some o'->∃ o,get σ l=some o/\(o'=o\/∃ cs cs',o = .box cs/\o' = .box cs'/\cs'.length=cs.length/\cs'.all PV.one=true/\∀ vs,VRs (ctx G β w σ) cs vs->VRs (ctx G β w σ) cs' vs):=fun l o' ho=>by
 by_cases hi:b=l
 .subst hi
  rw [Zb4] at ho
  cases ho
  exact⟨_,hg,.inr ⟨cs,_,rfl,rfl,by simp,Zar5 h2 h1,fun vs hv=>VRs.set hj hq hv⟩⟩
 .rw [Zcf _ _ hi] at ho
  exact⟨o',ho,.inl rfl⟩
def f1(l m:Nat)(j:Nat):Nat:=bif Nat.beq j l then m else j
def Zael(f:Nat->Nat):List (Nat×PV)->List (Nat×PV)
 | []=>[]
 | (i,p)::r=>(i,p.ren f)::Zael f r
theorem Zamr(f:Nat->Nat):∀ tm:List (Nat×PV),Zael f tm=tm.map fun x=>(x.1,x.2.ren f)
 | []=>rfl
 | (i,p)::r=>by simp only [Zael,List.map_cons,Zamr f r]
theorem Wk.relab{st:St}{l m:Nat}(hm:1000<=m)(hf:Zl9 m st.tm st.σ=true):Wk st ⟨st.n,Zael (f1 l m) st.tm,Zed (f1 l m) st.σ⟩:=by
 rintro G a w ⟨β,h⟩
 obtain⟨g1,g2⟩:=Zqz hf
 rw [Zamr]
 exact Zaz9 (n:=st.n) (tm:=st.tm) (σ:=st.σ) h l m hm g1 g2
theorem Wk.slot{st:St}{t:Nat}{p q:PV}(hg:get st.tm t=some p)(hq:∀ c v,VR c p v->VR c q v):Wk st ⟨st.n,put st.tm t q,st.σ⟩:=
 fun _ _ _ ⟨β,h⟩=>⟨β,Zaei (n:=st.n) (tm:=st.tm) (σ:=st.σ) h (fun _ o ho=>⟨o,ho,.inl rfl⟩) (Zaej hg (hq _))⟩
theorem Zar6{G:Frm}{st:St}{β:Nat->Option Nat}{a:Act}{w:World}(h:Zaw G β st a w){b:Nat}{cs:List PV}(hg:get st.σ b=some (.box cs)):cs.all PV.one=true:=by
 obtain⟨_,_,_,_,_,_,h⟩:=h.blk b _ hg
 exact h
theorem Wk.cell{st:St}{b j:Nat}{cs:List PV}{p q:PV}(hg:get st.σ b=some (.box cs))(hj:cs[j]?=some p)(h2:q.one=true)(hq:∀ c v,VR c p v->VR c q v):Wk st ⟨st.n,st.tm,put st.σ b (.box (cs.set j q))⟩:=
 fun _ _ _ ⟨β,h⟩=>⟨β,Zaei (n:=st.n) (tm:=st.tm) (σ:=st.σ) h (Zaek hg hj (Zar6 h hg) h2 (hq _)) (fun _ q hq=>⟨q,hq,fun _ h=>h⟩)⟩
theorem Wk.ownc{st:St}{t j l k:Nat}{cs:List PV}(hg:get st.tm t=some (.agg cs))(hj:cs[j]?=some .nils)(hk:0 < k)(hl:1000<=l)(hf:Zl9 l st.tm st.σ=true):Wk st ⟨st.n,put st.tm t (.agg (cs.set j (.osl l 0))),(l,.row k [])::st.σ⟩:=by
 rintro G a w ⟨β,h⟩
 obtain⟨g1,g2⟩:=Zqz hf
 have h':=Zadz (n:=st.n) (tm:=st.tm) (σ:=st.σ) h l k hk hl g1 g2
 refine⟨Zm8 β l,Zaei h' (fun _ o ho=>⟨o,ho,.inl rfl⟩) (Zaej hg fun v hv=>?_)⟩
 simp only [VR] at hv⊢
 obtain⟨vs,hv,hs⟩:=hv
 exact⟨vs,hv,VRs.set hj (VR.nilOwn (l:=l) (k:=k) (by simp [ctx,PW.get]) (by simp [ctx,Zm8])) hs⟩
theorem Wk.ownb{st:St}{b j l k:Nat}{cs:List PV}(hg:get st.σ b=some (.box cs))(hj:cs[j]?=some .nils)(hk:0 < k)(hl:1000<=l)(hf:Zl9 l st.tm st.σ=true):Wk st ⟨st.n,st.tm,put ((l,.row k [])::st.σ) b (.box (cs.set j (.osl l 0)))⟩:=by
 rintro G a w ⟨β,h⟩
 obtain⟨g1,g2⟩:=Zqz hf
 have h':=Zadz (n:=st.n) (tm:=st.tm) (σ:=st.σ) h l k hk hl g1 g2
 have hbl:b≠l:=(g2 b _ hg).1
 exact⟨Zm8 β l,Zaei h' (Zaek (by simp only [PW.get,Zdi (Ne.symm hbl),cond_false];exact hg) hj (Zar6 h hg) rfl (VR.nilOwn (l:=l) (k:=k) (by simp [ctx,PW.get]) (by simp [ctx,Zm8]))) (fun _ q hq=>⟨q,hq,fun _ h=>h⟩)⟩
def Zbr:List Orc->St->Es
 | .frz l::xs,st=>
  match get st.σ l with
  | some (.row _ es)=>
   match Zbr xs ⟨st.n,(Zrn false l es st.tm).2,(Zhc false l es st.σ).2⟩ with
   | some (ps,xs',st')=>some ((Zrn false l es st.tm).1++((Zhc false l es st.σ).1++ps),xs',st')
   | none=>none
  | some (.mat _ _ es)=>
   match Zbr xs ⟨st.n,(Zrn true l es st.tm).2,(Zhc true l es st.σ).2⟩ with
   | some (ps,xs',st')=>some ((Zrn true l es st.tm).1++((Zhc true l es st.σ).1++ps),xs',st')
   | none=>none
  | some (.box cs)=>match Zmn cs with | some ts=>Zbr xs ⟨st.n,Zalh l ts st.tm,Z4a l ts st.σ⟩ | none=>none
  | _=>none
 | .relen l::xs,st=>
  match get st.σ l with
  | some (.row _ es)=>
   match Zbr xs ⟨st.n,(Zcl l es.length st.tm).2,(Zer l es.length st.σ).2⟩ with
   | some (ps,xs',st')=>some ((Zcl l es.length st.tm).1++((Zer l es.length st.σ).1++ps),xs',st')
   | none=>none
  | some (.mat _ _ es)=>
   match Zbr xs ⟨st.n,(Zcl l es.length st.tm).2,(Zer l es.length st.σ).2⟩ with
   | some (ps,xs',st')=>some ((Zcl l es.length st.tm).1++((Zer l es.length st.σ).1++ps),xs',st')
   | none=>none
  | some (.xrow _ _ _ es)=>
   match Zbr xs ⟨st.n,(Zcl l es.length st.tm).2,(Zer l es.length st.σ).2⟩ with
   | some (ps,xs',st')=>some ((Zcl l es.length st.tm).1++((Zer l es.length st.σ).1++ps),xs',st')
   | none=>none
  | _=>none
 | .opn l i e::xs,st=>
  match get st.σ l with
  | some (.row k es)=>
   bif Nat.ble 1000 l then
    match Zrm (opnV l i) st.tm,Zx2 l (.prow k i es (e.map .t)) (opnV l i) st.σ with
    | some (q1,tm),some (q2,σ)=>
     match Zbr xs ⟨st.n,tm,σ⟩ with
     | some (ps,xs',st')=>some ((es[i]?=some e)::(q1++(q2++ps)),xs',st')
     | none=>none
    | _,_=>none
   else none
  | _=>none
 | .cls l es'::xs,st=>
  match get st.σ l with
  | some (.prow k i es cs)=>
   match Zmn cs with
   | some ts=>
    bif Nat.ble 1000 l then
     match Zrm (Z6p l i es.length) st.tm,Zx2 l (.row k es') (Z6p l i es.length) st.σ with
     | some (q1,tm),some (q2,σ)=>
      match Zbr xs ⟨st.n,tm,σ⟩ with
      | some (ps,xs',st')=>some ((es.set i ts=es')::(q1++(q2++ps)),xs',st')
      | none=>none
     | _,_=>none
    else none
   | none=>none
  | _=>none
 | .regn l::xs,st=>bif Nat.ble 1000 l&&Zl9 l st.tm st.σ then Zbr xs ⟨st.n,st.tm,(l,.reg false)::st.σ⟩ else none
 | .absr r l::xs,st=>
  bif Nat.ble 1000 l && !Nat.beq l r then
   match get st.σ l,get st.σ r with
   | some (.reg false),some (.row _ es)=>
    match Zvu 0 r l es st.σ with
    | some (q2,σ)=>
     match Zbr xs ⟨st.n,(Zir 0 r l es st.tm).2,σ⟩ with
     | some (ps,xs',st')=>some ((∀ el,el∈es->∀ x,x∈el->Zb.scal x=true)::((Zir 0 r l es st.tm).1++(q2++ps)),xs',st')
     | none=>none
    | none=>none
   | some (.reg false),some (.xrow _ i q es)=>
    match Zvu 1 r l es st.σ with
    | some (q2,σ)=>
     bif Nat.beq q l then
      match Zbr xs ⟨st.n,(Zir 1 r l es st.tm).2,σ⟩ with
      | some (ps,xs',st')=>some ((es.length<=i)::((Zir 1 r l es st.tm).1++(q2++ps)),xs',st')
      | none=>none
     else none
    | none=>none
   | some (.reg false),some (.reg false)=>
    match Zvu 2 r l [] st.σ with
    | some (q2,σ)=>
     match Zbr xs ⟨st.n,(Zir 2 r l [] st.tm).2,σ⟩ with
     | some (ps,xs',st')=>some ((Zir 2 r l [] st.tm).1++(q2++ps),xs',st')
     | none=>none
    | none=>none
   | _,_=>none
  else none
 | .regf l::xs,st=>
  match get st.σ l,Zvu 3 l 0 [] st.σ with
  | some (.reg false),some (q2,σ)=>
   match Zbr xs ⟨st.n,(Zir 3 l 0 [] st.tm).2,σ⟩ with
   | some (ps,xs',st')=>some ((Zir 3 l 0 [] st.tm).1++(q2++ps),xs',st')
   | none=>none
  | _,_=>none
 | .regh l::xs,st=>
  bif Nat.ble 1000 l then
   match get st.σ l,toHσ l st.σ with
   | some (.reg false),some σ=>Zbr xs ⟨st.n,st.tm,σ⟩
   | _,_=>none
  else none
 | .torx r l::xs,st=>
  bif Nat.ble 1000 r then
   match get st.σ r with
   | some (.row k es)=>
    match Zrm (fun p=>(Z38 r p).map fun q=>([],q)) st.tm,Zx2 r (.xrow k 0 l es) (fun p=>(Z38 r p).map fun q=>([],q)) st.σ with
    | some (q1,tm),some (q2,σ)=>
     match Zbr xs ⟨st.n,tm,σ⟩ with
     | some (ps,xs',st')=>some (q1++(q2++ps),xs',st')
     | none=>none
    | _,_=>none
   | _=>none
  else none
 | .tomr l k::xs,st=>
  match get st.σ l with
  | some (.map (.v _) [])=>bif Nat.blt 0 k then Zbr xs ⟨st.n,st.tm,(l,.map (.rows k none) [])::Za5 [l] st.σ⟩ else none
  | _=>none
 | .frzm l::xs,st=>
  match get st.σ l with
  | some (.map (.rows _ none) es)=>Zbr xs ⟨st.n,st.tm,(l,.map (.v false) es)::Za5 [l] st.σ⟩
  | _=>none
 | .tomat l::xs,st=>
  match get st.σ l with
  | some (.row 1 es)=>
   bif (st.σ.all fun q => !q.2.has l)&&Zxf st.tm then
    match Zbr xs ⟨st.n,toM l st.tm,put st.σ l (.mat 1 0 es)⟩ with
    | some (ps,xs',st')=>some ((∀ e,e∈es->e=[Zb.sl []])::ps,xs',st')
    | none=>none
   else none
  | _=>none
 | .pick ks ls::xs,st=>
  match Zll st.tm ks,Zll st.σ ls with
  | some tm,some σ=>Zbr xs ⟨st.n,tm,σ⟩
  | _,_=>none
 | .own t l k::xs,st=>
  match get st.tm t with
  | some .nils=>bif Nat.blt 0 k&&Nat.ble 1000 l&&Zl9 l st.tm st.σ&&Nat.blt t st.n then Zbr xs ⟨st.n,put st.tm t (.osl l 0),(l,.row k [])::st.σ⟩ else none
  | _=>none
 | .relab l m::xs,st=>bif Nat.ble 1000 m&&Zl9 m st.tm st.σ then Zbr xs ⟨st.n,Zael (f1 l m) st.tm,Zed (f1 l m) st.σ⟩ else none
 | .nilt t::xs,st=>match get st.tm t with | some .nils=>Zbr xs ⟨st.n,put st.tm t (.t (.sl [])),st.σ⟩ | _=>none
 | .niltc t j::xs,st=>
  match get st.tm t with
  | some (.agg cs)=>match cs[j]? with | some .nils=>Zbr xs ⟨st.n,put st.tm t (.agg (cs.set j (.t (.sl [])))),st.σ⟩ | _=>none
  | _=>none
 | .niltb b j::xs,st=>
  match get st.σ b with
  | some (.box cs)=>match cs[j]? with | some .nils=>Zbr xs ⟨st.n,st.tm,put st.σ b (.box (cs.set j (.t (.sl []))))⟩ | _=>none
  | _=>none
 | .ownc t j l k::xs,st=>
  match get st.tm t with
  | some (.agg cs)=>match cs[j]? with | some .nils=>bif Nat.blt 0 k&&Nat.ble 1000 l&&Zl9 l st.tm st.σ then Zbr xs ⟨st.n,put st.tm t (.agg (cs.set j (.osl l 0))),(l,.row k [])::st.σ⟩ else none | _=>none
  | _=>none
 | .ownb b j l k::xs,st=>
  match get st.σ b with
  | some (.box cs)=>match cs[j]? with | some .nils=>bif Nat.blt 0 k&&Nat.ble 1000 l&&Zl9 l st.tm st.σ then Zbr xs ⟨st.n,st.tm,put ((l,.row k [])::st.σ) b (.box (cs.set j (.osl l 0)))⟩ else none | _=>none
  | _=>none
 | xs,st=>some ([],xs,st)
theorem Wk.pick{st:St}{tm:List (Nat×PV)}{σ:List (Nat×Blk)}{ks ls:List Nat}(h1:Zll st.tm ks=some tm)(h2:Zll st.σ ls=some σ):Wk st ⟨st.n,tm,σ⟩:=
 fun _ _ _ ⟨β,h⟩=>⟨β,h.sub (Nat.le_refl _) (fun i p hp=>⟨Zjh h1 i p hp,(h.tm i p (Zjh h1 i p hp)).1⟩) (fun l o ho=>Zjh h2 l o ho)⟩
theorem Wk.own{st:St}{t l k:Nat}(hg:get st.tm t=some .nils)(hk:0 < k)(hl:1000<=l)(hf:Zl9 l st.tm st.σ=true):Wk st ⟨st.n,put st.tm t (.osl l 0),(l,.row k [])::st.σ⟩:=by
 rintro G a w ⟨β,h⟩
 obtain⟨f1,f2⟩:=Zqz hf
 have h':=Zadz (n:=st.n) (tm:=st.tm) (σ:=st.σ) h l k hk hl f1 f2
 refine⟨Zm8 β l,?_⟩
 have hv:=(h.tm t _ hg)
 simp only [VR] at hv
 obtain⟨hlt,a0,hv⟩:=hv
 exact { defers := h'.defers, sz := h'.sz, base := h'.base, os := h'.os, tape := h'.tape, output := h'.output, old := h'.old, A := h'.A, gl := h'.gl, inj := h'.inj, sep := h'.sep, fix := h'.fix, row0 := h'.row0, blk := h'.blk,
         tm:=fun i p hp=>by
          by_cases hi:t=i
          .subst hi
           rw [Zb4] at hp
           cases hp
           refine⟨hlt,?_⟩
           simp only [VR]
           refine⟨fun k' es' hes'=>?_,a0,0,0,hv⟩
           have hgs:get ((l,Blk.row k [])::st.σ) l=some (.row k []):=by simp [PW.get]
           have:some (Blk.row k' es')=some (.row k []):=Eq.trans (Eq.symm hes') hgs
           cases this
           exact⟨Nat.le_refl _,fun _=>⟨a0,0,hv,Nat.le_refl _,by simp [maxLen],.inl ⟨rfl,by simp [ctx,Zm8]⟩⟩⟩
          .rw [Zcf _ _ hi] at hp
           exact h'.tm i p hp }
theorem Zcj:∀ (xs:List Orc) (st:St) {ps:List Prop} {xs':List Orc} {st':St},Zbr xs st=some (ps,xs',st')->Zaj ps->Wk st st'
 | [],st,ps,xs',st',h,_=>by simp only [Zbr,Option.some.injEq,Prod.mk.injEq] at h;rw [h.2.2];exact Wk.refl _
 | x::xs,st,ps,xs',st',h,hc=>by
  cases x
  case frz l=>
   simp only [Zbr] at h
   split at h
   .rename_i k es hg
    split at h
    .rename_i ps' xs2 st2 h2
     cases h
     obtain⟨h3,h4⟩:=Zw.1 hc
     obtain⟨h4,h5⟩:=Zw.1 h4
     have h0:=Zro (mt:=false) (l:=l) (es:=es) st.σ
     exact (Wk.frz (Zkh (mt:=false) (q0:=0) hg h0 st.σ h4) (Z6t (mt:=false) (q0:=0) hg h0 st.tm h3)).trans (Zcj xs _ h2 h5)
    .cases h
   .rename_i k q0 es hg
    split at h
    .rename_i ps' xs2 st2 h2
     cases h
     obtain⟨h3,h4⟩:=Zw.1 hc
     obtain⟨h4,h5⟩:=Zw.1 h4
     have h0:=Zro (mt:=true) (l:=l) (es:=es) st.σ
     exact (Wk.frz (Zkh (mt:=true) (k:=k) hg h0 st.σ h4) (Z6t (mt:=true) (k:=k) hg h0 st.tm h3)).trans (Zcj xs _ h2 h5)
    .cases h
   .rename_i cs hg
    split at h
    .rename_i ts hts
     have e:=Zoc hts
     subst e
     have h0:=Zz1 (l:=l) (ts:=ts) st.σ
     exact (Wk.frz (Zahz hg h0 st.σ) (Zamq hg h0 st.tm)).trans (Zcj xs _ h hc)
    .cases h
   .cases h
  case relen l=>
   simp only [Zbr] at h
   split at h
   .rename_i k es hg
    split at h
    .rename_i ps' xs2 st2 h2
     cases h
     obtain⟨h3,h4⟩:=Zw.1 hc
     obtain⟨h4,h5⟩:=Zw.1 h4
     have:=Zcj xs _ h2 h5
     rw [Zfd _ h3,Zji _ h4] at this
     exact this
    .cases h
   .rename_i k q0 es hg
    split at h
    .rename_i ps' xs2 st2 h2
     cases h
     obtain⟨h3,h4⟩:=Zw.1 hc
     obtain⟨h4,h5⟩:=Zw.1 h4
     have:=Zcj xs _ h2 h5
     rw [Zfd _ h3,Zji _ h4] at this
     exact this
    .cases h
   .rename_i k i0 r0 es hg
    split at h
    .rename_i ps' xs2 st2 h2
     cases h
     obtain⟨h3,h4⟩:=Zw.1 hc
     obtain⟨h4,h5⟩:=Zw.1 h4
     have:=Zcj xs _ h2 h5
     rw [Zfd _ h3,Zji _ h4] at this
     exact this
    .cases h
   .cases h
  case regn l=>
   simp only [Zbr] at h
   have hbh:=Z9 h;clear h;obtain⟨hb,h⟩:=hbh
   simp only [Bool.and_eq_true] at hb
   obtain⟨g1,g2⟩:=Zqz hb.2
   exact (Wk.newReg (Nat.le_of_ble_eq_true hb.1) g1 g2).trans (Zcj xs _ h hc)
  case absr r l=>
   simp only [Zbr] at h
   have hbh:=Z9 h;clear h;obtain⟨hb,h⟩:=hbh
   simp only [Bool.and_eq_true] at hb
   have hl0:=Nat.le_of_ble_eq_true hb.1
   have hlr:=Zrl hb.2
   split at h
   .rename_i k es hl hr
    split at h
    .rename_i q2 σ h1
     split at h
     .rename_i ps' xs2 st2 h2
      cases h
      obtain⟨c1,c2⟩:=hc
      obtain⟨c2,c3⟩:=Zw.1 c2
      obtain⟨c3,c4⟩:=Zw.1 c3
      exact (Wk.absRow hl0 hlr hl hr c1 h1 c3 c2).trans (Zcj xs _ h2 c4)
     .cases h
    .cases h
   .rename_i k i q es hl hr
    split at h
    .rename_i q2 σ h1
     have hbh:=Z9 h;clear h;obtain⟨hq,h⟩:=hbh
     split at h
     .rename_i ps' xs2 st2 h2
      cases h
      obtain⟨c1,c2⟩:=hc
      obtain⟨c2,c3⟩:=Zw.1 c2
      obtain⟨c3,c4⟩:=Zw.1 c3
      have hq:=(Zu _ _).1 hq
      subst hq
      exact (Wk.absX hl0 hlr hl hr c1 h1 c3 c2).trans (Zcj xs _ h2 c4)
     .cases h
    .cases h
   .rename_i hl hr
    split at h
    .rename_i q2 σ h1
     split at h
     .rename_i ps' xs2 st2 h2
      cases h
      obtain⟨c2,c3⟩:=Zw.1 hc
      obtain⟨c3,c4⟩:=Zw.1 c3
      exact (Wk.absG hl0 hlr hl hr h1 c3 c2).trans (Zcj xs _ h2 c4)
     .cases h
    .cases h
   .cases h
  case regf l=>
   simp only [Zbr] at h
   split at h
   .rename_i q2 σ hg hs
    split at h
    .rename_i ps' xs2 st2 h2
     cases h
     obtain⟨c2,c3⟩:=Zw.1 hc
     obtain⟨c3,c4⟩:=Zw.1 c3
     exact (Wk.dropG hg hs c3 c2).trans (Zcj xs _ h2 c4)
    .cases h
   .cases h
  case regh l=>
   simp only [Zbr] at h
   have hbh:=Z9 h;clear h;obtain⟨hb,h⟩:=hbh
   split at h
   .rename_i σ hg hs
    exact (Wk.toH (Nat.le_of_ble_eq_true hb) hg hs).trans (Zcj xs _ h hc)
   .cases h
  case torx r l=>
   simp only [Zbr] at h
   have hbh:=Z9 h;clear h;obtain⟨hb,h⟩:=hbh
   split at h
   .rename_i k es hg
    split at h
    .rename_i q1 tm q2 σ h1 h2
     split at h
     .rename_i ps' xs2 st2 h3
      cases h
      obtain⟨c2,c3⟩:=Zw.1 hc
      obtain⟨c3,c4⟩:=Zw.1 c3
      exact (Wk.toX (Nat.le_of_ble_eq_true hb) hg h1 h2 c2 c3).trans (Zcj xs _ h3 c4)
     .cases h
    .cases h
   .cases h
  case opn l i e=>
   simp only [Zbr] at h
   split at h
   .rename_i k es hg
    have hbh:=Z9 h;clear h;obtain⟨hb,h⟩:=hbh
    split at h
    .rename_i q1 tm q2 σ h1 h2
     split at h
     .rename_i ps' xs2 st2 h3
      cases h
      obtain⟨c1,c2⟩:=hc
      obtain⟨c2,c3⟩:=Zw.1 c2
      obtain⟨c3,c4⟩:=Zw.1 c3
      exact (Wk.opn (Nat.le_of_ble_eq_true hb) hg c1 h1 h2 c2 c3).trans (Zcj xs _ h3 c4)
     .cases h
    .cases h
   .cases h
  case cls l es'=>
   simp only [Zbr] at h
   split at h
   .rename_i k i es cs hg
    split at h
    .rename_i ts ht
     have hbh:=Z9 h;clear h;obtain⟨hb,h⟩:=hbh
     split at h
     .rename_i q1 tm q2 σ h1 h2
      split at h
      .rename_i ps' xs2 st2 h3
       cases h
       obtain⟨c1,c2⟩:=hc
       obtain⟨c2,c3⟩:=Zw.1 c2
       obtain⟨c3,c4⟩:=Zw.1 c3
       exact (Wk.cls (Nat.le_of_ble_eq_true hb) hg ht c1 h1 h2 c2 c3).trans (Zcj xs _ h3 c4)
      .cases h
     .cases h
    .cases h
   .cases h
  case tomr l k=>
   simp only [Zbr] at h
   split at h
   .rename_i hg
    obtain⟨hb,h⟩:=Z9 h
    rw [Nat.blt_eq] at hb
    exact (Wk.tomr hb ⟨_,rfl⟩ hg).trans (Zcj xs _ h hc)
   .cases h
  case frzm l=>
   simp only [Zbr] at h
   split at h
   .rename_i hg
    exact (Wk.frzm hg).trans (Zcj xs _ h hc)
   .cases h
  case tomat l=>
   simp only [Zbr] at h
   split at h
   .rename_i es hg
    have hbh:=Z9 h;clear h;obtain⟨hb,h⟩:=hbh
    simp only [Bool.and_eq_true] at hb
    split at h
    .rename_i ps' xs2 st2 h2
     cases h
     exact (Wk.tomat hg hc.1 hb.1 hb.2).trans (Zcj xs _ h2 hc.2)
    .cases h
   .cases h
  case pick ks ls=>
   simp only [Zbr] at h
   split at h
   .rename_i tm σ h1 h2
    exact (Wk.pick h1 h2).trans (Zcj xs _ h hc)
   .cases h
  case own t l k=>
   simp only [Zbr] at h
   split at h
   .rename_i hg
    obtain⟨hb,h⟩:=Z9 h
    simp only [Bool.and_eq_true,Nat.blt_eq,Zdj] at hb
    exact (Wk.own hg hb.1.1.1 hb.1.1.2 hb.1.2).trans (Zcj xs _ h hc)
   .cases h
  case relab l m=>
   simp only [Zbr] at h
   obtain⟨hb,h⟩:=Z9 h
   simp only [Bool.and_eq_true,Zdj] at hb
   exact (Wk.relab hb.1 hb.2).trans (Zcj xs _ h hc)
  case nilt t=>
   simp only [Zbr] at h
   split at h
   .rename_i hg;exact (Wk.slot hg fun _ v hv=>VR.nilt v hv).trans (Zcj xs _ h hc)
   .cases h
  case niltc t j=>
   simp only [Zbr] at h
   split at h
   .rename_i cs hg
    split at h
    .rename_i hj
     refine (Wk.slot hg fun c v hv=>?_).trans (Zcj xs _ h hc)
     simp only [VR] at hv⊢
     obtain⟨vs,hv,hs⟩:=hv
     exact⟨vs,hv,VRs.set hj VR.nilt hs⟩
    .cases h
   .cases h
  case niltb b j=>
   simp only [Zbr] at h
   split at h
   .rename_i cs hg
    split at h
    .rename_i hj;exact (Wk.cell hg hj rfl fun _ v hv=>VR.nilt v hv).trans (Zcj xs _ h hc)
    .cases h
   .cases h
  case ownc t j l k=>
   simp only [Zbr] at h
   split at h
   .rename_i cs hg
    split at h
    .rename_i hj
     obtain⟨hb,h⟩:=Z9 h
     simp only [Bool.and_eq_true,Nat.blt_eq,Zdj] at hb
     exact (Wk.ownc hg hj hb.1.1 hb.1.2 hb.2).trans (Zcj xs _ h hc)
    .cases h
   .cases h
  case ownb b j l k=>
   simp only [Zbr] at h
   split at h
   .rename_i cs hg
    split at h
    .rename_i hj
     obtain⟨hb,h⟩:=Z9 h
     simp only [Bool.and_eq_true,Nat.blt_eq,Zdj] at hb
     exact (Wk.ownb hg hj hb.1.1 hb.1.2 hb.2).trans (Zcj xs _ h hc)
    .cases h
   .cases h
  all_goals
   simp only [Zbr,Option.some.injEq,Prod.mk.injEq] at h
   rw [h.2.2];exact Wk.refl _
def Zams:Es->Es
 | some (ps,.stop::xs,st)=>some (ps,xs,st)
 | r=>r
theorem Zatf{r:Es}{ps:List Prop}{xs:List Orc}{st:St}(h:Zams r=some (ps,xs,st)):∃ xs',r=some (ps,xs',st):=by
 unfold Zams at h
 split at h
 .cases h;exact⟨_,rfl⟩
 .exact⟨_,h⟩
def evAt(d:Option Nat)(xs:List Orc)(st:St):Es:=
 match xs,d with
 | .ahead i::xs',some j=>bif Nat.beq i j then Zams (Zbr xs' st) else some ([],xs,st)
 | _,_=>some ([],xs,st)
theorem Zar7{d:Option Nat}{xs:List Orc}{st:St}{ps:List Prop}{xs':List Orc}{st':St}(h:evAt d xs st=some (ps,xs',st'))(hc:Zaj ps):Wk st st':=by
 have triv:∀ ys:List Orc,(some ([],ys,st):Es)=some (ps,xs',st')->Wk st st':=fun ys h=>by cases h;exact Wk.refl _
 unfold evAt at h
 split at h
 .rename_i i xs2 j
  cases hb:Nat.beq i j with
  | true=>
   simp only [hb,cond_true] at h
   obtain⟨ys,h⟩:=Zatf h
   exact Zcj _ _ h hc
  | false=>simp only [hb,cond_false] at h;exact triv _ h
 .exact triv _ h
def Zath(T:TS)(o:Oper)(st:St)(xs:List Orc):Es:=
 match o.op with
 | .store t x y=>
  match o.dst,get T t,Zi st.tm x,Zi st.tm y with
  | none,some i,some (.bptr l q),some p=>
   match get st.σ l,xs with
   | some (.box cs),.sp cs'::xs=>bif Nat.beq (Zz p).length i.size&&(Zz p).all PV.one then some ([q+i.size<=cs.length,splice cs q (Zz p)=cs'],xs,⟨st.n,st.tm,put st.σ l (.box cs')⟩) else none
   | some (.box cs),xs=>bif Nat.beq (Zz p).length i.size&&(Zz p).all PV.one&&Nat.ble (q+i.size) cs.length then some ([],xs,⟨st.n,st.tm,put st.σ l (.box (splice cs q (Zz p)))⟩) else none
   | _,_=>none
  | none,some i,some (.rptr l m j q),some p=>
   match get st.σ l,xs,Zfp (Zz p) with
   | some (.row k es),.cs e :: .es es'::xs,some ts=>
    bif Nat.beq ts.length i.size&&Nat.ble (q+i.size) k then some ([es.length=m,es[j]?=some e,es.set j (splice e q ts)=es'],xs,⟨st.n,st.tm,put st.σ l (.row k es')⟩) else none
   | _,_,_=>none
  | _,_,_,_=>none
 | .convert s t x=>
  match Zee T t,Zi st.tm x,o.dst with
  | some (_,⟨_,_,_,_,.int .u8,_⟩),some (.osl l m),some d=>
   match get st.σ l with
   | some (.row _ es)=>bif Nat.beq s t&&Nat.blt d st.n then some ([False],xs,⟨st.n,put st.tm d (.osl l m),st.σ⟩) else none
   | _=>none
  | _,_,_=>none
 | _=>none
def Zati(T:TS)(o:Oper)(st:St)(xs:List Orc):Es:=
 match o.op with
 | .call c=>
  match c.callee,Zjx st.tm c.args.toList,c.argTypes.toList,o.dst,xs with
  | .builtin .clear,some [.own l (.tail m i)],[t],none,.es es'::xs=>
   match Zee T t,get st.σ l with
   | some (_,⟨_,k,bytes,some z,_,_⟩),some (.row k' es)=>
    match Zfp z with
    | some zs=>bif Nat.blt 0 k&&Nat.beq z.length k&&Nat.beq k k' then some ([es.length=m,i<=m,es.take i++List.replicate (m - i) zs=es'],xs,⟨st.n,st.tm,put st.σ l (.row k es')⟩) else none
    | none=>none
   | _,_=>none
  | _,_,_,_,_=>none
 | .slice t x none (some y) none=>
  match Zee T t,Zi st.tm x,Zi st.tm y,o.dst,xs with
  | some (_,j),some (.osl l m),some (.t (.int _ i)),some d,.nat q :: .es es'::xs=>
   match get st.σ l with
   | some (.row k es)=>bif Nat.beq j.size k&&Nat.blt d st.n&&(st.σ.all fun q => !q.2.has l)&&Zxf st.tm&&Nat.ble 1000 l then some ([es.length=m,0<=i,i<=m,i.toNat=q,es.take i.toNat=es'],xs,⟨st.n,put (Z33 l st.tm) d (.osl l q),put st.σ l (.row k es')⟩) else none
   | _=>none
  | _,_,_,_,_=>none
 | .store t x y=>
  match o.dst,get T t,Zi st.tm x,Zi st.tm y,xs with
  | none,some i,some (.own l (.mel m j q)),some (.t z),.es inner :: .es es'::xs=>
   match get st.σ l with
   | some (.mat 1 0 es)=>bif !i.agg&&Nat.beq i.size 1&&z.scal then some ([es.length=m,es[j]?=some [.sl inner],q < inner.length,es.set j [.sl (inner.set q [z])]=es'],xs,⟨st.n,st.tm,put st.σ l (.mat 1 0 es')⟩) else none
   | _=>none
  | none,some i,some (.own l (.mpt m j 0)),some (.osl l2 n2),.es es'::xs=>
   match get st.σ l,get st.σ l2 with
   | some (.mat 1 0 es),some (.row 1 es2)=>bif (!i.agg&&Nat.beq i.size 1)&&(!Nat.beq l l2&&((st.σ.all fun q=>q.2.mo l)&&Zxf st.tm)) then some ([es.length=m,j < m,es2.length=n2,SC1 es2,es.set j [.sl es2]=es'],xs,⟨st.n,Zzx l st.tm,(l,.mat 1 0 es')::Za5 [l,l2] st.σ⟩) else none
   | _,_=>none
  | _,_,_,_,_=>none
 | .mapUpdate t x y z=>
  match o.dst,(get T t).map (·.k),Zi st.tm x,Zi st.tm y,Zi st.tm z,xs with
  | none,some (TK.map k _),some (.own l .map),some (.t (.int .i64 i)),some p,.cs ts :: .mp es'::xs=>
   match get st.σ l,(get T k).map (·.k) with
   | some (.map (.v ag) es),some (TK.int .i64)=>some ([p=mvP ag ts,Zhf es i ts=es'],xs,⟨st.n,st.tm,put st.σ l (.map (.v ag) es')⟩)
   | _,_=>none
  | _,_,_,_,_,_=>none
 | _=>none
def evUp(T:TS)(o:Oper)(st:St)(xs:List Orc):Es:=
 match Zath T o st xs with
 | some r=>some r
 | none=>Zati T o st xs
section
variable {P:Program} {T:TS} {o:Oper} {xs xs':List Orc} {ps:List Prop}
theorem Zaxu(hT:TOK P T){st st':St}(h:Zath T o st xs=some (ps,xs',st'))(hc:Zaj ps):Zvr P o st st':=by
 obtain⟨n,tm,σ⟩:=st
 unfold Zath at h
 split at h
 .rename_i t x y ho
  split at h
  .rename_i i l q p hd hi hx hy
   split at h
   .rename_i cs cs' xs2 hg
    have hbh:=Z9 h;clear h;obtain⟨hb,h⟩:=hbh
    simp only [Bool.and_eq_true,Zu] at hb
    cases h
    obtain⟨h1,h2,_⟩:=hc
    subst h2
    exact Zai3 ho hd (hT _ _ hi).ty hx hy hg hb.1 hb.2 h1
   .rename_i cs hg _
    have hbh:=Z9 h;clear h;obtain⟨hb,h⟩:=hbh
    simp only [Bool.and_eq_true,Zu,Zdj] at hb
    cases h
    exact Zai3 ho hd (hT _ _ hi).ty hx hy hg hb.1.1 hb.1.2 hb.2
   .cases h
  .rename_i i l m j q p hd hi hx hy
   split at h
   .rename_i k es e es' xs2 ts hg hts
    have hbh:=Z9 h;clear h;obtain⟨hb,h⟩:=hbh
    simp only [Bool.and_eq_true,Zu,Zdj] at hb
    cases h
    obtain⟨h1,h2,h3,_⟩:=hc
    subst h3
    exact Zaut ho hd (hT _ _ hi).ty hx hy hg h1 h2 hts hb.1 hb.2
   .cases h
  .cases h
 .rename_i s t x ho
  split at h
  .rename_i e agg sz by_ z fl l m d he hx hd
   split at h
   .rename_i k es hg
    have hbh:=Z9 h;clear h;obtain⟨hb,h⟩:=hbh
    simp only [Bool.and_eq_true,Zu,Nat.blt_eq] at hb
    obtain⟨rfl,hb2⟩:=hb
    cases h
    obtain⟨i,hi,hk,hj⟩:=Zc6 he
    have hu:=(hT _ _ hi).k
    rw [hk] at hu
    have hu2:P.underlying e=some (.int .u8):=(hT _ _ hj).k
    exact hc.1.elim
   .cases h
  .cases h
 .cases h
theorem Zaxv(hT:TOK P T){st st':St}(h:Zati T o st xs=some (ps,xs',st'))(hc:Zaj ps):Zvr P o st st':=by
 obtain⟨n,tm,σ⟩:=st
 unfold Zati at h
 split at h
 .rename_i c ho
  split at h
  .rename_i l m i t es' xs2 hce hps hat hd
   obtain⟨x,hax,hx⟩:=Zqy hps
   have hceq:=Zh2 hce hax hat
   rw [hceq] at ho
   split at h
   .rename_i e agg k bytes z kk fl k' es he hg
    split at h
    .rename_i zs hzs
     have hbh:=Z9 h;clear h;obtain⟨hb,h⟩:=hbh
     simp only [Bool.and_eq_true,Zu] at hb
     obtain⟨⟨hb1,hb2⟩,hb3⟩:=hb
     subst hb3
     cases h
     obtain⟨h1,h2,h3,_⟩:=hc
     subst h3
     exact Zawz ho hd (Zof (z:=z) hT he rfl hb1 ((Zu _ _).2 hb2)) hzs hx hg h1 h2
    .cases h
   .cases h
  .cases h
 .rename_i t x y ho
  split at h
  .rename_i e j l m ki i d q es' xs2 he hx hy hd
   split at h
   .rename_i k es hg
    have hbh:=Z9 h;clear h;obtain⟨hb,h⟩:=hbh
    simp only [Bool.and_eq_true,Zu,Nat.blt_eq] at hb
    obtain⟨⟨⟨⟨hb1,hb2⟩,hb3⟩,hb4⟩,hb5⟩:=hb
    cases h
    obtain⟨h1,h2,h3,h4,h5,_⟩:=hc
    subst h4
    subst h5
    obtain⟨i0,hi0,hk0,hj⟩:=Zc6 he
    exact Zaw0 ho hd hb2 (hb1▸hT.slInfo hi0 hk0 hj) hx hy hg h1 h2 h3 (Nat.le_of_ble_eq_true hb5) hb3 hb4
   .cases h
  .cases h
 .rename_i t x y ho
  split at h
  .rename_i i l m j q z inner es' xs2 hd hi hx hy
   split at h
   .rename_i es hg
    have hbh:=Z9 h;clear h;obtain⟨hb,h⟩:=hbh
    simp only [Bool.and_eq_true,Bool.not_eq_true',Zu] at hb
    cases h
    obtain⟨h1,h2,h3,h4,_⟩:=hc
    subst h4
    have hty:=(hT t i hi).ty
    rw [hb.1.1,hb.1.2] at hty
    exact Zaqn ho hd hty hx hy rfl hb.2 hg h1 h2 h3
   .cases h
  .rename_i i l m j l2 n2 es' xs2 hd hi hx hy
   split at h
   .rename_i es es2 hg hg2
    have hbh:=Z9 h;clear h;obtain⟨hb,h⟩:=hbh
    simp only [Bool.and_eq_true,Bool.not_eq_true',Zu] at hb
    cases h
    obtain⟨h1,h2,h3,h4,h5,_⟩:=hc
    subst h5
    have hty:=(hT t i hi).ty
    rw [hb.1.1,hb.1.2] at hty
    exact Zaqo ho hd hty hx hy hg h1 h2 hg2 h3 h4 (Zrl (by rw [hb.2.1];rfl)) hb.2.2.1 hb.2.2.2
   .cases h
  .cases h
 .rename_i t x y z ho
  split at h
  .rename_i k e l i p ts es' xs2 hd hk hx hy hz
   split at h
   .rename_i ag es hg hi
    cases h
    obtain⟨h1,h2,_⟩:=hc
    subst h2
    exact Zal9 ho hd (mapK (hT:=hT) hk) (intK (hT:=hT) hi) hx hy hz h1 hg
   .cases h
  .cases h
 .cases h
theorem Zazg(hT:TOK P T){st st':St}(h:evUp T o st xs=some (ps,xs',st'))(hc:Zaj ps):Zvr P o st st':=by
 unfold evUp at h
 split at h
 .rename_i h0;cases h;exact Zaxu hT h0 hc
 .exact Zaxv hT h hc
def Z9f(ops:Array Oper)(tm:List (Nat×PV))(o:Oper)(xs:List Orc):Option (List Prop×List Orc×Bool):=
 match o.guard with
 | none=>some ([],xs,true)
 | some (g,want)=>
  match (ops[g]?).bind (·.dst) with
  | none=>none
  | some d=>
   match get tm d,xs with
   | some (.t (.bool e)),.br b::xs=>some ([e=b],xs,b==want)
   | some (.tup []),xs=>some ([],xs,false)
   | _,_=>none
theorem Zlm{ops:Array Oper}{tm:List (Nat×PV)}{r:Bool}(h:Z9f ops tm o xs=some (ps,xs',r))(hc:Zaj ps):Zkq ops tm o=some r:=by
 unfold Z9f at h
 unfold Zkq
 split at h
 .rename_i hg;cases h;rw [hg]
 .rename_i g want hg
  rw [hg]
  simp only
  split at h
  .cases h
  .rename_i d hd
   simp only [hd]
   split at h
   .rename_i e b xs2 he
    cases h
    have:=hc.1
    subst this
    simp [he]
   .rename_i he;cases h;simp [he]
   .cases h
def Zuo(rm:List Nat)(tm:List (Nat×PV))(σ:List (Nat×Blk)):List (Nat×Blk)->Bool
 | []=>true
 | (l,_)::r=>(Zxv rm l||Zl9 l tm σ)&&Zuo rm tm σ r
theorem Zx4{rm:List Nat}{tm:List (Nat×PV)}{σ:List (Nat×Blk)}:∀ {news:List (Nat×Blk)},Zuo rm tm σ news=true->∀ l x,(l,x)∈news->l∉rm->(∀ i q,get tm i=some q->q.has l=false)/\(∀ m y,get σ m=some y->m≠l/\y.has l=false)
 | [],_,l,x,hm,_=>by cases hm
 | (m,y)::r,h,l,x,hm,hr=>by
  simp only [Zuo,Bool.and_eq_true,Bool.or_eq_true] at h
  rcases List.mem_cons.1 hm with hm | hm
  .cases hm
   rcases h.1 with h1 | h1
   .exact absurd (Z3y.1 h1) hr
   .exact Zqz h1
  .exact Zx4 h.2 l x hm hr
def dstN(o:Oper):Nat:=match o.dst with | some d=>d | none=>1000000
def Zamt(P:Program)(T:TS)(ops:Array Oper)(o:Oper)(xs:List Orc)(st:St):Es:=
 match evAt (some (dstN o)) xs st with
 | some (ps0,xs0,st0)=>
  match Z9f ops st0.tm o xs0 with
  | some (ps1,xs1,true)=>
   match Zalg P T o st0.tm st0.σ xs1 with
   | some (ps2,xs2,x)=>
    match o.dst with
    | some d=>bif Nat.blt d st0.n&&Zuo x.rm st0.tm st0.σ x.s.news then some (ps0++(ps1++ps2),xs2,⟨st0.n,put st0.tm d x.s.p,x.s.news++Za5 x.rm st0.σ⟩) else none
    | none=>bif Zuo x.rm st0.tm st0.σ x.s.news then some (ps0++(ps1++ps2),xs2,⟨st0.n,st0.tm,x.s.news++Za5 x.rm st0.σ⟩) else none
   | none=>
    match evUp T o st0 xs1 with
    | some (ps2,xs2,st2)=>some (ps0++(ps1++ps2),xs2,st2)
    | none=>none
  | some (ps1,xs1,false)=>
   match o.dst with
   | some d=>bif Nat.blt d st0.n then some (ps0++ps1,xs1,⟨st0.n,put st0.tm d (.tup []),st0.σ⟩) else none
   | none=>some (ps0++ps1,xs1,st0)
  | none=>none
 | none=>none
theorem Zavn(hT:TOK P T){ops:Array Oper}{R:St->Prop}{l:List Oper}{st st':St}(h:Zamt P T ops o xs st=some (ps,xs',st'))(hc:Zaj ps)(hk:Zeq P ops R l st'):Zeq P ops R (o::l) st:=by
 unfold Zamt at h
 split at h
 .rename_i ps0 xs0 st0 h0
  suffices hs:Zaj ps0/\Zeq P ops R (o::l) st0 from Zeq.weaken (Zar7 h0 hs.1) hs.2
  split at h
  .rename_i ps1 xs1 h1
   split at h
   .rename_i ps2 xs2 s h2
    split at h
    .rename_i d hd
     have hbh:=Z9 h;clear h;obtain⟨hb,h⟩:=hbh
     simp only [Bool.and_eq_true,Nat.blt_eq] at hb
     cases h
     obtain⟨c0,c1⟩:=Zw.1 hc
     obtain⟨c1,c2⟩:=Zw.1 c1
     refine⟨c0,Zeq.step (Zlm h1 c1) ?_ hk⟩
     intro G a w K Q hr hK
     refine Zab4 hT h2 c2 G st0.n st0.tm st0.σ a w K Q (fun _ _ _ h=>h) (fun _ _=>rfl) (Zx4 hb.2) hr ?_
     rintro v w' ⟨β,hβ,hv⟩
     exact hK _ _ ⟨β,by rw [hd];exact hβ.put hb.1 hv⟩
    .rename_i hd
     have hbh:=Z9 h;clear h;obtain⟨hb,h⟩:=hbh
     cases h
     obtain⟨c0,c1⟩:=Zw.1 hc
     obtain⟨c1,c2⟩:=Zw.1 c1
     refine⟨c0,Zeq.step (Zlm h1 c1) ?_ hk⟩
     intro G a w K Q hr hK
     refine Zab4 hT h2 c2 G st0.n st0.tm st0.σ a w K Q (fun _ _ _ h=>h) (fun _ _=>rfl) (Zx4 hb) hr ?_
     rintro v w' ⟨β,hβ,hv⟩
     exact hK _ _ ⟨β,by rw [hd];exact hβ⟩
   .split at h
    .rename_i ps2 xs2 st2 h2
     cases h
     obtain⟨c0,c1⟩:=Zw.1 hc
     obtain⟨c1,c2⟩:=Zw.1 c1
     exact⟨c0,Zeq.step (Zlm h1 c1) (Zazg hT h2 c2) hk⟩
    .cases h
  .rename_i ps1 xs1 h1
   split at h
   .rename_i d hd
    have hbh:=Z9 h;clear h;obtain⟨hb,h⟩:=hbh
    simp only [Nat.blt_eq] at hb
    cases h
    obtain⟨c0,c1⟩:=Zw.1 hc
    exact⟨c0,Zeq.skip hd hb (Zlm h1 c1) hk⟩
   .rename_i hd
    cases h
    obtain⟨c0,c1⟩:=Zw.1 hc
    exact⟨c0,Zeq.skipNone hd (Zlm h1 c1) hk⟩
  .cases h
 .cases h
def Z9g(P:Program)(T:TS)(ops:Array Oper):List Oper->List Orc->St->Es
 | [],xs,st=>some ([],xs,st)
 | o::l,xs,st=>
  match Zamt P T ops o xs st with
  | some (ps,xs1,st1)=>
   match Z9g P T ops l xs1 st1 with
   | some (qs,xs2,st2)=>some (ps++qs,xs2,st2)
   | none=>none
  | none=>none
theorem Zab5(hT:TOK P T){ops:Array Oper}{R:St->Prop}:∀ (l:List Oper) {xs xs':List Orc} {st st':St} {ps:List Prop},Z9g P T ops l xs st=some (ps,xs',st')->Zaj ps->R st'->Zeq P ops R l st
 | [],xs,xs',st,st',ps,h,_,hr=>by
  simp only [Z9g,Option.some.injEq,Prod.mk.injEq] at h
  rw [<- h.2.2] at hr
  exact Zeq.nil hr
 | o::l,xs,xs',st,st',ps,h,hc,hr=>by
  simp only [Z9g] at h
  split at h
  .rename_i ps1 xs1 st1 h1
   split at h
   .rename_i qs xs2 st2 h2
    cases h
    obtain⟨c1,c2⟩:=Zw.1 hc
    exact Zavn hT h1 c1 (Zab5 hT l h2 c2 hr)
   .cases h
  .cases h
structure Zatj where
 ps:List Prop
 xs:List Orc
 plan:List (Option Stm)
 rest:List Oper
 tm:List (Nat×PV)
 σ:List (Nat×Blk)
def Zali(n:Nat):Option Nat->Bool
 | some d=>Nat.blt d n
 | none=>true
theorem Zaxw{n:Nat}{d:Option Nat}(h:Zali n d=true):∀ e,d=some e->e < n:=by
 rintro e rfl
 simpa only [Zali,Nat.blt_eq] using h
def Znc(P:Program)(T:TS)(ops:Array Oper)(n:Nat):List Oper->List Orc->List (Nat×PV)->List (Nat×Blk)->Zatj
 | [],xs,tm,σ=>⟨[],xs,[],[],tm,σ⟩
 | o::l,xs,tm,σ=>
  bif Zali n o.dst then
   match Z9f ops tm o xs with
   | some (ps1,xs1,true)=>
    match Zalg P T o tm σ xs1 with
    | some (ps2,xs2,x)=>
     match Znc P T ops n l xs2 (Zvs tm o.dst x.s.p) (x.s.news++Za5 x.rm σ) with
     | ⟨ps,xs,plan,rest,tm,σ⟩=>⟨ps1++(ps2++ps),xs,some x::plan,rest,tm,σ⟩
    | none=>⟨[],xs,[],o::l,tm,σ⟩
   | some (ps1,xs1,false)=>
    match Znc P T ops n l xs1 (Zvs tm o.dst (.tup [])) σ with
    | ⟨ps,xs,plan,rest,tm,σ⟩=>⟨ps1++ps,xs,none::plan,rest,tm,σ⟩
   | none=>⟨[],xs,[],o::l,tm,σ⟩
  else ⟨[],xs,[],o::l,tm,σ⟩
theorem Z6u(hT:TOK P T){ops:Array Oper}{n:Nat}:∀ (l:List Oper) (xs:List Orc) (tm:List (Nat×PV)) (σ:List (Nat×Blk)),Zaj (Znc P T ops n l xs tm σ).ps ->
 ∃ pre,l=pre++(Znc P T ops n l xs tm σ).rest/\Zgi P ops n pre (Znc P T ops n l xs tm σ).plan tm σ /\
  Zid pre (Znc P T ops n l xs tm σ).plan tm=(Znc P T ops n l xs tm σ).tm/\Zlg (Znc P T ops n l xs tm σ).plan σ=(Znc P T ops n l xs tm σ).σ
 | [],xs,tm,σ,_=>⟨[],rfl,trivial,rfl,rfl⟩
 | o::l,xs,tm,σ,hc=>by
  have triv:∀ r:Zatj,r=⟨[],xs,[],o::l,tm,σ⟩->∃ pre,o::l=pre++r.rest/\Zgi P ops n pre r.plan tm σ/\Zid pre r.plan tm=r.tm/\Zlg r.plan σ=r.σ:=by
   rintro r rfl
   exact⟨[],rfl,trivial,rfl,rfl⟩
  rw [Znc] at hc⊢
  cases hd:Zali n o.dst with
  | false=>exact triv _ rfl
  | true=>
   have hdn:=Zaxw hd
   simp only [hd,cond_true] at hc⊢
   split at hc
   .rename_i ps1 xs1 hg
    split at hc
    .rename_i ps2 xs2 s h2
     obtain⟨c1,c2⟩:=Zw.1 hc
     obtain⟨c2,c3⟩:=Zw.1 c2
     obtain⟨pre,h1,h3,h4,h5⟩:=Z6u hT l xs2 (Zvs tm o.dst s.s.p) (s.s.news++Za5 s.rm σ) c3
     refine⟨o::pre,by rw [List.cons_append,<- h1],?_,?_,?_⟩
     .simp only [Zgi]
      exact⟨hdn,Zlm hg c1,fun s' hs'=>by cases hs';exact Zab4 hT h2 c2,h3⟩
     .simp only [Zid];exact h4
     .simp only [Zlg];exact h5
    .exact triv _ rfl
   .rename_i ps1 xs1 hg
    obtain⟨c1,c3⟩:=Zw.1 hc
    obtain⟨pre,h1,h3,h4,h5⟩:=Z6u hT l xs1 (Zvs tm o.dst (.tup [])) σ c3
    refine⟨o::pre,by rw [List.cons_append,<- h1],?_,?_,?_⟩
    .simp only [Zgi]
     exact⟨hdn,Zlm hg c1,(fun s' hs'=>by cases hs'),h3⟩
    .simp only [Zid];exact h4
    .simp only [Zlg];exact h5
   .exact triv _ rfl
def Zavo(P:Program)(T:TS)(ops:Array Oper)(st:St)(r:Zatj):Es:=
 bif Zug ops r.plan st.tm st.σ then
  match Z9g P T ops r.rest r.xs ⟨st.n,r.tm,r.σ⟩ with
  | some (qs,xs2,st2)=>some (r.ps++qs,xs2,st2)
  | none=>none
 else none
def Zab6(P:Program)(T:TS)(id:Nat)(ops:Array Oper)(draw:Bool)(xs:List Orc)(st:St):Es:=
 bif draw then
  match evAt (some id) xs st with
  | some (ps0,xs0,st0)=>
   match Zavo P T ops st0 (Znc P T ops st0.n ops.toList xs0 st0.tm st0.σ) with
   | some (ps,xs,st)=>some (ps0++ps,xs,st)
   | none=>none
  | none=>none
 else Z9g P T ops ops.toList xs st
theorem Zaqr(hm:P.follows .mixedOrders=true)(hT:TOK P T){ops:Array Oper}{draw:Bool}{id:Nat}{Q:Exit->St->Prop}{st st':St}(h:Zab6 P T id ops draw xs st=some (ps,xs',st'))(hc:Zaj ps)(hq:Q .normal st') :
 PW P (.region id ops draw) Q st:=by
 unfold Zab6 at h
 cases draw with
 | false=>
  simp only [cond_false] at h
  exact PW.region (Zab5 hT _ h hc hq)
 | true=>
  simp only [cond_true] at h
  split at h
  .rename_i ps0 xs0 st0 h0
   split at h
   .rename_i ps1 xs1 st1 h1
    cases h
    obtain⟨c0,c1⟩:=Zw.1 hc
    refine PW.weaken (Zar7 h0 c0) ?_
    unfold Zavo at h1
    have hbh:=Z9 h1;clear h1;obtain⟨hb,h1⟩:=hbh
    split at h1
    .rename_i qs xs2 st2 h2
     cases h1
     obtain⟨c1,c2⟩:=Zw.1 c1
     obtain⟨pre,e1,e2,e3,e4⟩:=Z6u hT ops.toList xs0 st0.tm st0.σ c1
     exact PW.region_draw hm _ pre _ e1 e2 hb (by rw [e3,e4];exact Zab5 hT _ h2 c2 hq)
    .cases h1
   .cases h
  .cases h
end
end Go.PW
namespace Go.PW
open Go.RowKit
inductive Kf where
 | seq (c:Code)
 | blk (id:Nat)
 | loop (c:Code)
 | scp
inductive Cfg where
 | code (c:Code) (K:List Kf)
 | head (c:Code) (K:List Kf)
 | done (e:Exit)
def PWL(P:Program)(c:Code)(Q:Exit->St->Prop)(st:St):Prop:=
 ∀ G a w,Rel G st a w->∀ b k cs,∃ e a' w',(∃ st',Q e st'/\Rel G st' a' w')/\Arrives P (lone (b.at a (.code c :: .inLoop c::k)) cs w) b k cs e a' w'
theorem PW.loopHead{P:Program}{c:Code}{Q:Exit->St->Prop}{st:St}(h:PWL P c Q st):PW P (.loop c) Q st:=by
 intro G a w hr b k cs
 obtain⟨e,a',w',hq,harr⟩:=h G a w hr b k cs
 exact⟨e,a',w',hq,.of_steps (.one step_loop) harr⟩
theorem PWL.round{P:Program}{c:Code}{Q:Exit->St->Prop}{st:St}(h:PW P c (Zxw (PWL P c Q) Q) st):PWL P c Q st:=by
 intro G a w hr b k cs
 obtain⟨e,a₁,w₁,⟨st',hq,hr'⟩,harr⟩:=h G a w hr b (.inLoop c::k) cs
 cases e with
 | normal=>
  obtain⟨e₂,a₂,w₂,hq₂,harr₂⟩:=hq G a₁ w₁ hr' b k cs
  exact⟨e₂,a₂,w₂,hq₂,.of_steps (Steps.trans harr (.one step_inLoop)) harr₂⟩
 | exit id=>exact⟨_,a₁,w₁,⟨st',hq,hr'⟩,.pass (x := .inLoop c) rfl (fun _ _ => .inl (by simp)) harr⟩
 | goto l=>exact⟨_,a₁,w₁,⟨st',hq,hr'⟩,.pass (x := .inLoop c) rfl (fun _ _ => .inl (by simp)) harr⟩
 | ret=>exact⟨_,a₁,w₁,⟨st',hq,hr'⟩,.pass (x := .inLoop c) rfl (fun _ _ => .inl (by simp)) harr⟩
 | panic ch=>exact⟨_,a₁,w₁,⟨st',hq,hr'⟩,.pass (x := .inLoop c) rfl (fun _ _ => .inl (by simp)) harr⟩
 | outgrown=>exact⟨_,a₁,w₁,⟨st',hq,hr'⟩,.pass (x := .inLoop c) rfl (fun _ _ => .inl (by simp)) harr⟩
def post(P:Program):List Kf->(Exit->St->Prop)->Exit->St->Prop
 | [],R=>R
 | .seq c::K,R=>Zxw (PW P c (post P K R)) (post P K R)
 | .blk id::K,R=>Zxp id (post P K R)
 | .loop c::K,R=>Zxw (PWL P c (post P K R)) (post P K R)
 | .scp::K,R=>NoGo (post P K R)
def Cfg.holds(P:Program)(R:Exit->St->Prop):Cfg->St->Prop
 | .code c K,st=>PW P c (post P K R) st
 | .head c K,st=>PWL P c (post P K R) st
 | .done e,st=>R e st
def Zup(id:Nat):List Kf->Option (List Kf)
 | []=>none
 | .blk i::K=>bif Nat.beq i id then some K else Zup id K
 | _::K=>Zup id K
theorem Zuq{P:Program}{R:Exit->St->Prop}{id:Nat}{st:St}:∀ {K K':List Kf},Zup id K=some K'->post P K' R .normal st->post P K R (.exit id) st
 | [],K',h,_=>by cases h
 | .blk i::K,K',h,hp=>by
  simp only [Zup] at h
  simp only [post,Zxp]
  cases hb:Nat.beq i id with
  | true=>
   have:i=id:=(Zu _ _).1 hb
   subst this
   simp only [hb,cond_true,Option.some.injEq] at h
   subst h
   simpa using hp
  | false=>
   simp only [hb,cond_false] at h
   have hne:¬ id=i:=fun e=>by subst e;simp at hb
   simp only [hne,if_false]
   exact Zuq h hp
 | .seq c::K,K',h,hp=>by simp only [Zup] at h;simp only [post,Zxw];exact Zuq h hp
 | .loop c::K,K',h,hp=>by simp only [Zup] at h;simp only [post,Zxw];exact Zuq h hp
 | .scp::K,K',h,hp=>by simp only [Zup] at h;simp only [post,NoGo];exact Zuq h hp
theorem Z6v{P:Program}{R:Exit->St->Prop}{st:St}:∀ {K:List Kf},R .ret st->post P K R .ret st
 | [],h=>h
 | .blk i::K,h=>by simp only [post,Zxp];exact Z6v h
 | .seq c::K,h=>by simp only [post,Zxw];exact Z6v h
 | .loop c::K,h=>by simp only [post,Zxw];exact Z6v h
 | .scp::K,h=>by simp only [post,NoGo];exact Z6v h
abbrev Er:=Option (List Prop×Cfg×St)
def ahead(ps:List Prop):Er->Er
 | some (qs,g,st)=>some (ps++qs,g,st)
 | none=>none
section
variable {P:Program} {T:TS} {R:Exit->St->Prop}
theorem Zab7{c:Code}{Q:Exit->St->Prop}{st st':St}(hw:Wk st st')(h:PWL P c Q st'):PWL P c Q st:=fun G a w hr=>h G a w (hw G a w hr)
def Zj2(R:Exit->St->Prop):Exit->St->Prop:=fun e st=>∃ st',Wk st st'/\R e st'
theorem PW.upto{c:Code}{st:St}(h:PW P c (Zj2 R) st):PW P c R st:=by
 intro G a w hr
 refine wp_mono (h G a w hr) ?_
 rintro e a' w' ⟨st',⟨st2,hw,hq⟩,hr'⟩
 exact⟨st2,hq,hw _ _ _ hr'⟩
def nav:List Nat->Code->List Kf->Option Cfg
 | [],.loop c,K=>some (.head c K)
 | [],c,K=>some (.code c K)
 | d::ds,c,K=>
  match c with
  | .seq a b=>bif Nat.beq d 0 then nav ds a (.seq b::K) else nav ds b K
  | .cond _ a b=>bif Nat.beq d 2 then nav ds a K else nav ds b K
  | .block id body=>nav ds body (.blk id::K)
  | .loop body=>nav ds body (.loop body::K)
  | .scope body=>nav ds body (.scp::K)
  | _=>none
def Zatk(rs:List RV)(st:St):Option (List Prop×PV):=
 match Zzw st rs with
 | some [p]=>Zfq st.σ p
 | some ps=>match Zjy st.σ ps with | some (cs,ds)=>some (cs,.tup ds) | none=>none
 | none=>none
theorem Zaxx{rs:List RV}{st:St}{ps:List Prop}{res:PV}(h:Zatk rs st=some (ps,res))(hc:Zaj ps):Zad0 rs [] res st:=by
 unfold Zatk at h
 split at h
 .rename_i p hp
  exact⟨[p],hp,Zvt.nil _,Zahq (fun _=>rfl) h hc⟩
 .rename_i qs hn hq
  split at h
  .rename_i cs ds hd
   cases h
   refine⟨qs,hq,Zvt.nil _,?_⟩
   unfold Zalb
   split
   .rename_i p;exact (hn p rfl).elim
   .exact⟨ds,rfl,Zqf (fun _=>rfl) hd hc⟩
  .cases h
 .cases h
mutual
theorem Frz.refl{σ σ':List (Nat×Blk)}:∀ p:PV,Frz σ σ' p p
 | .t _=>by simp [Frz]
 | .nils=>by simp [Frz]
 | .osl _ _=>by simp [Frz]
 | .bptr _ _=>by simp [Frz]
 | .rptr _ _ _ _=>by simp [Frz]
 | .vptr _=>by simp [Frz]
 | .agg cs=>by simp only [Frz];exact⟨cs,rfl,Zbi.refl cs⟩
 | .tup cs=>by simp only [Frz];exact⟨cs,rfl,Zbi.refl cs⟩
 | .fn _ cs=>by simp only [Frz];exact⟨cs,rfl,Zbi.refl cs⟩
 | .own _ _=>by simp [Frz]
theorem Zbi.refl{σ σ':List (Nat×Blk)}:∀ ps:List PV,Zbi σ σ' ps ps
 | []=>by simp [Zbi]
 | p::ps=>by simp only [Zbi];exact⟨p,ps,rfl,Frz.refl p,Zbi.refl ps⟩
end
def Zamu(rs:List RV)(ls:List Nat)(st:St):Option (List (Nat×Blk)×PV):=
 match Zll st.σ ls,Zzw st rs with
 | some σ',some [p]=>some (σ',p)
 | some σ',some ps=>some (σ',.tup ps)
 | _,_=>none
theorem Zavp{rs:List RV}{ls:List Nat}{st:St}{σ':List (Nat×Blk)}{res:PV}(h:Zamu rs ls st=some (σ',res)):Zad0 rs σ' res st:=by
 have hsub:∀ {σ':List (Nat×Blk)},Zll st.σ ls=some σ'->Zvt st.σ σ':=fun hp l o ho=>⟨o,Zjh hp l o ho,by cases o with
  | reg h=>rfl
  | xrow k i q es=>rfl
  | row k es=>rfl
  | mat k q es=>rfl
  | map ag es=>rfl
  | prow k i es cs=>exact⟨cs,rfl,Zbi.refl cs⟩
  | box cs=>exact⟨cs,rfl,Zbi.refl cs⟩⟩
 unfold Zamu at h
 split at h
 .rename_i s2 p hσ hp
  simp only [Option.some.injEq,Prod.mk.injEq] at h
  obtain⟨rfl,rfl⟩:=h
  exact⟨[p],hp,hsub hσ,Frz.refl p⟩
 .rename_i s2 qs hn hσ hq
  simp only [Option.some.injEq,Prod.mk.injEq] at h
  obtain⟨rfl,rfl⟩:=h
  refine⟨qs,hq,hsub hσ,?_⟩
  unfold Zalb
  split
  .rename_i p;exact (hn p rfl).elim
  .exact⟨qs,rfl,Zbi.refl qs⟩
 .cases h
end
end Go.PW
namespace Go.PW
open Go.RowKit
def Zmw{S R:Type}(step:S->Option (S ⊕ R)):Nat->S->Option R
 | 0,_=>none
 | n+1,s=>
  match step s with
  | none=>none
  | some (.inl s')=>Zmw step n s'
  | some (.inr r)=>some r
theorem Z4b{S R:Type}{step:S->Option (S ⊕ R)}:∀ {n m:Nat} {s:S} {r:R},n<=m->Zmw step n s=some r->Zmw step m s=some r
 | 0,m,s,r,_,h=>by cases h
 | n+1,0,s,r,hl,h=>by omega
 | n+1,m+1,s,r,hl,h=>by
  simp only [Zmw] at h⊢
  split at h
  .cases h
  .exact Z4b (by omega) h
  .exact h
open Classical in
noncomputable def Z4c{S R:Type}(step:S->Option (S ⊕ R))(s:S):Option R:=
 if h:∃ r,∃ n,Zmw step n s=some r then some (Classical.choose h) else none
theorem Z4d{S R:Type}{step:S->Option (S ⊕ R)}{s:S}{r:R}:Z4c step s=some r↔∃ n,Zmw step n s=some r:=by
 unfold Z4c
 constructor
 .intro h
  split at h
  .rename_i hx
   cases h
   exact Classical.choose_spec hx
  .cases h
 .rintro ⟨n,hn⟩
  have hx:∃ r,∃ n,Zmw step n s=some r:=⟨r,n,hn⟩
  rw [dif_pos hx]
  obtain⟨m,hm⟩:=Classical.choose_spec hx
  have h1:=Z4b (Nat.le_max_left n m) hn
  have h2:=Z4b (Nat.le_max_right n m) hm
  rw [<- h2,h1]
theorem Zar8{S R:Type}(step:S->Option (S ⊕ R))(s:S):Z4c step s=match step s with
 | none=>none
 | some (.inl s')=>Z4c step s'
 | some (.inr r)=>some r:=by
 apply Option.ext
 intro r
 rw [Z4d]
 constructor
 .rintro ⟨n,hn⟩
  cases n with
  | zero=>cases hn
  | succ n=>
   simp only [Zmw] at hn
   split at hn
   .cases hn
   .exact Z4d.2 ⟨n,hn⟩
   .exact hn
 .intro h
  split at h
  .cases h
  .rename_i s' hs
   obtain⟨n,hn⟩:=Z4d.1 h
   exact⟨n+1,by simp only [Zmw,hs];exact hn⟩
  .rename_i r' hs
   exact⟨1,by simp only [Zmw,hs];exact h⟩
noncomputable def goO{S R:Type}(step:S->Option (S ⊕ R))(n:Nat):S->Option R ⊕ S:=
 Nat.rec (motive:=fun _=>S->Option R ⊕ S) (fun s => .inr s) (fun _ ih s=>match step s with | none => .inl none | some (.inl s')=>ih s' | some (.inr r) => .inl (some r)) n
theorem Zavq{S R:Type}{step:S->Option (S ⊕ R)}:∀ (n:Nat) (s:S),(match goO step n s with | .inl o=>o | .inr s'=>Z4c step s')=Z4c step s
 | 0,s=>rfl
 | n+1,s=>by
  rw [Zar8]
  show (match (match step s with | none=>Sum.inl none | some (.inl s')=>goO step n s' | some (.inr r) => .inl (some r)) with | .inl o=>o | .inr s'=>Z4c step s')=_
  cases step s with
  | none=>rfl
  | some y=>
   cases y with
   | inl s'=>exact Zavq n s'
   | inr r=>rfl
noncomputable def Za6{S R:Type}(step:S->Option (S ⊕ R))(s:S):Option R:=
 match goO step 1000000000000 s with
 | .inl o=>o
 | .inr s'=>Z4c step s'
theorem Z6w{S R:Type}(step:S->Option (S ⊕ R))(s:S):Za6 step s=Z4c step s:=Zavq _ s
theorem Zab8{S R:Type}{step:S->Option (S ⊕ R)}{s:S}{r:R}:Za6 step s=some r↔∃ n,Zmw step n s=some r:=by rw [Z6w];exact Z4d
theorem Z9h{S R:Type}(step:S->Option (S ⊕ R))(s:S):Za6 step s=match step s with
 | none=>none
 | some (.inl s')=>Za6 step s'
 | some (.inr r)=>some r:=by
 rw [Z6w,Zar8]
 cases step s with
 | none=>rfl
 | some y=>cases y with
  | inl s'=>exact (Z6w step s').symm
  | inr r=>rfl
theorem Zek{S R:Type}{step:S->Option (S ⊕ R)}{s s':S}(h:step s=some (.inl s')):Za6 step s=Za6 step s':=by rw [Z9h,h]
theorem Zbe{S R:Type}{step:S->Option (S ⊕ R)}{s:S}{r:R}(h:step s=some (.inr r)):Za6 step s=some r:=by rw [Z9h,h]
noncomputable def Znd{S R:Type}(step:S->Option (S ⊕ R)):S ⊕ R->Option R
 | .inl s=>Za6 step s
 | .inr r=>some r
theorem Zit{α β:Type}{o:Option α}{k:α->Option β}{r:β}{C:Prop}(h:o.bind k=some r)(f:∀ x,o=some x->k x=some r->C):C:=by
 cases o with
 | none=>cases h
 | some x=>exact f x rfl h
theorem Zoi{β:Type}{b:Bool}{x y:Option β}{r:β}{C:Prop}(h:(bif b then x else y)=some r)(f:b=true->x=some r->C)(g:b=false->y=some r->C):C:=by
 cases b with
 | true=>exact f rfl h
 | false=>exact g rfl h
def idx? {α:Type} (xs:List α) (i:Int):Option α:=if 0<=i then xs[i.toNat]? else none
def app? {α:Type} (bytes:Nat) (xs ys:List α):Option (List α):=if (xs.length+ys.length)*bytes<=140737488355328/\xs.length+ys.length<=9223372036854775807 then some (xs++ys) else none
def ok? (b:Bool):Option Unit:=if b then some () else none
theorem Zar9{α β:Type}(f:α->β)(xs:List α):(((xs.map f).length:Nat):Int)=(xs.length:Int):=by rw [List.length_map]
theorem all_map{α:Type}(f:α->List Zb)(k:Nat)(h:∀ x,(f x).length=k)(xs:List α):∀ el,el∈xs.map f->el.length=k:=by
 intro el hel
 obtain⟨x,_,rfl⟩:=List.mem_map.1 hel
 exact h x
theorem Z2x{α:Type}{xs:List α}{i:Int}{x:α}(h:idx? xs i=some x):0<=i:=by
 unfold idx? at h
 split at h
 .assumption
 .cases h
theorem Z2y{α β:Type}{xs:List α}{i:Int}{x:α}(f:α->β)(h:idx? xs i=some x):(xs.map f)[i.toNat]?=some (f x):=by
 unfold idx? at h
 split at h
 .simp [h]
 .cases h
theorem Zamv{α β:Type}{xs:List α}{i:Int}{x:α}(f:α->β)(h:idx? xs i=some x):i < ((xs.map f).length:Nat):=by
 unfold idx? at h
 split at h
 .have:=(List.getElem?_eq_some_iff.1 h).1
  rw [List.length_map];omega
 .cases h
theorem Zah0{α β:Type}{b:Nat}{xs ys zs:List α}(f:α->β)(h:app? b xs ys=some zs):xs.map f++ys.map f=zs.map f:=by
 unfold app? at h
 split at h
 .cases h;simp
 .cases h
theorem Zasa{α β:Type}{b:Nat}{ys zs:List α}(f:α->β)(h:app? b [] ys=some zs):ys.map f=zs.map f:=by simpa using Zah0 f h
theorem Zah1{α β:Type}{b:Nat}{xs ys zs:List α}(f:α->β)(h:app? b xs ys=some zs):(zs.map f).length<=9223372036854775807:=by
 unfold app? at h
 split at h
 .cases h;simp;omega
 .cases h
theorem Zz2{α β:Type}{b:Nat}{xs ys zs:List α}(f:α->β)(h:app? b xs ys=some zs):(zs.map f).length*b<=140737488355328:=by
 unfold app? at h
 split at h
 .cases h;simp;omega
 .cases h
theorem Za02{b:Bool}{u:Unit}(h:ok? b=some u):b=true:=by
 unfold ok? at h
 split at h
 .assumption
 .cases h
theorem Zazh{p:Prop} [Decidable p] {u:Unit} (h:ok? (decide p)=some u):p:=of_decide_eq_true (Za02 h)
def slice? {α:Type} (xs:List α) (l h:Int):Option (List α):=if 0<=l/\l<=h/\h<=xs.length then some ((xs.take h.toNat).drop l.toNat) else none
def copy? {α:Type} (dst src:List α):Option (List α):=if src.length<=dst.length then some (src++dst.drop src.length) else none
def make? {α:Type} (bytes:Nat) (z:α) (m c:Int):Option (List α):=if 0<=m/\m<=c/\(bytes:Int)*c<=281474976710656/\c<=9223372036854775807 then some (List.replicate m.toNat z) else none
theorem Zazi{α:Type}{xs zs:List α}{l h:Int}(e:slice? xs l h=some zs):0<=l:=by
 unfold slice? at e;split at e
 .rename_i c;exact c.1
 .cases e
theorem Zazj{α:Type}{xs zs:List α}{l h:Int}(e:slice? xs l h=some zs):l<=h:=by
 unfold slice? at e;split at e
 .rename_i c;exact c.2.1
 .cases e
theorem Zazk{α β:Type}{xs zs:List α}{l h:Int}(f:α->β)(e:slice? xs l h=some zs):h<=((xs.map f).length:Nat):=by
 unfold slice? at e;split at e
 .rename_i c;rw [List.length_map];exact c.2.2
 .cases e
theorem Zavr{α β:Type}{xs zs:List α}{l h:Int}(f:α->β)(e:slice? xs l h=some zs):((xs.map f).take h.toNat).drop l.toNat=zs.map f:=by
 unfold slice? at e;split at e
 .cases e;simp [List.map_drop,List.map_take]
 .cases e
theorem Zxh{α:Type}{b:Nat}{z:α}{m c:Int}{zs:List α}(e:make? b z m c=some zs):0<=m/\m<=c/\(b:Int)*c<=281474976710656/\c<=9223372036854775807:=by
 unfold make? at e;split at e
 .assumption
 .cases e
theorem Zaxy{α β:Type}{b:Nat}{z:α}{m c:Int}{zs:List α}(f:α->β)(e:make? b z m c=some zs):m.toNat=(zs.map f).length:=by
 unfold make? at e;split at e
 .cases e;simp
 .cases e
theorem Zaxz{α β:Type}{b:Nat}{z:α}{m c:Int}{zs:List α}(f:α->β)(e:make? b z m c=some zs):List.replicate (zs.map f).length (f z)=zs.map f:=by
 unfold make? at e;split at e
 .cases e;simp
 .cases e
theorem Za0g{α β:Type}(f:α->β){xs:List α}(h:xs≠[]):xs.map f≠[]:=by simpa using h
theorem FnG.split0{P:Program}{f:FuncId}{es:List (List Zb)}{rest:List PV}{res:PV}{σ σ':List (Nat×Blk)}(h1:es≠[]->FnG P f σ (.t (.sl es)::rest) σ' res)(h2:es=[]->∀ a c,FnG P f σ (.t (.con (.slice a 0 c))::rest) σ' res):FnG P f σ (.t (.sl es)::rest) σ' res:=by
 by_cases he:es=[]
 .refine⟨(h2 he none 0).1,fun A β w vals hl hr=>?_⟩
  have hv:=(hr.tm 0 (.t (.sl es)) (by simp [idx,PW.get])).2
  subst he
  simp only [VR,Zx] at hv
  obtain⟨a,cap,hv,_⟩:=hv
  refine (h2 rfl a cap).2 A β w vals hl ?_
  exact { defers := hr.defers, sz := hr.sz, base := hr.base, os := hr.os, tape := hr.tape, output := hr.output, old := hr.old, A := hr.A, gl := hr.gl, inj := hr.inj, sep := hr.sep, fix := hr.fix, row0 := hr.row0, blk := hr.blk,
          tm:=fun i p hp=>by
           by_cases hi:i=0
           .subst hi
            simp only [idx,PW.get,Nat.beq_eq,cond_true,Option.some.injEq] at hp
            have hp:PV.t (.con (.slice a 0 cap))=p:=by simpa using hp
            subst hp
            exact⟨by simp,by simp only [VR,Zx];exact⟨hv,rfl,rfl⟩⟩
           .refine hr.tm i p ?_
            simp only [idx,PW.get,Zdi (Ne.symm hi),cond_false] at hp⊢
            exact hp }
 .exact h1 he
def set? {α:Type} (xs:List α) (i:Int) (x:α):Option (List α):=if 0<=i/\i.toNat < xs.length then some (xs.set i.toNat x) else none
theorem Zazl{α β:Type}{z z2:List α}{i:Int}{x':α}(f:α->β)(h:set? z i x'=some z2):(List.map f z2)[i.toNat]?=some (f x'):=by
 unfold set? at h
 split at h
 .rename_i c;cases h;simp [c.2]
 .cases h
theorem Za0h{α:Type}{z z2:List α}{i:Int}{x x':α}{q:Nat}{ts:List Zb}(f:α->List Zb)(h:set? z i x'=some z2)(hs:splice (f x) q ts=f x'):(List.map f z).set i.toNat (splice (f x) q ts)=List.map f z2:=by
 unfold set? at h
 split at h
 .cases h;rw [hs,List.map_set]
 .cases h
theorem Zazm{α β:Type}{z z2:List α}{i:Int}{x':α}(f:α->β)(h:set? z i x'=some z2):(List.map f z).set i.toNat (f x')=List.map f z2:=by
 unfold set? at h
 split at h
 .cases h;rw [List.map_set]
 .cases h
theorem Zah2{α β:Type}{z z2:List α}{i:Int}{x':α}(f:α->β)(h:set? z i x'=some z2):(List.map f z).length=(List.map f z2).length:=by
 unfold set? at h
 split at h
 .cases h;simp
 .cases h
theorem Zax0{α:Type}(f:α->List Zb)(h:∀ x,(f x).all Zb.scal=true)(z:List α):∀ el,el∈List.map f z->∀ x,x∈el->Zb.scal x=true:=by
 intro el hel x hx
 obtain⟨y,_,rfl⟩:=List.mem_map.1 hel
 exact List.all_eq_true.1 (h y) x hx
def cB(b:Bool):List Zb:=[.bool b]
def cI(k:IntKind)(n:Int):List Zb:=[.int k n]
def cS(s:List UInt8):List Zb:=[.str s]
def cL{α:Type}(f:α->List Zb)(xs:List α):List Zb:=[.sl (xs.map f)]
structure A3 (α:Type) where
 (a0 a1 a2:α)
 deriving DecidableEq,Inhabited
structure A5 (α:Type) where
 (a0 a1 a2 a3 a4:α)
 deriving DecidableEq,Inhabited
structure A6 (α:Type) where
 (a0 a1 a2 a3 a4 a5:α)
 deriving DecidableEq,Inhabited
def cA3{α:Type}(f:α->List Zb)(x:A3 α):List Zb:=f x.a0++(f x.a1++f x.a2)
def A3.list{α:Type}(x:A3 α):List α:=[x.a0,x.a1,x.a2]
def cA5{α:Type}(f:α->List Zb)(x:A5 α):List Zb:=f x.a0++(f x.a1++(f x.a2++(f x.a3++f x.a4)))
def A5.list{α:Type}(x:A5 α):List α:=[x.a0,x.a1,x.a2,x.a3,x.a4]
def cA6{α:Type}(f:α->List Zb)(x:A6 α):List Zb:=f x.a0++(f x.a1++(f x.a2++(f x.a3++(f x.a4++f x.a5))))
def A6.list{α:Type}(x:A6 α):List α:=[x.a0,x.a1,x.a2,x.a3,x.a4,x.a5]
theorem Zax1{k:Nat}{mid:List PV}{p:PV}(pre post:List PV)(h:Zec false 1 k mid=some p):Zec false 1 (pre.length+k) (pre++(mid++post))=some p:=by
 simp only [Zec,cond_false] at h⊢
 rw [List.getElem?_append_right (by omega),Nat.add_sub_cancel_left,List.getElem?_append_left (List.getElem?_eq_some_iff.1 h).1]
 exact h
theorem Z4e{α:Type}{xs:List α}{i:Int}{x:α}(h:idx? xs i=some x):xs[i.toNat]?=some x:=by
 have:=Z2y id h
 simpa using this
def bytes? (s:List UInt8):Option (List Int):=if s.length<=9223372036854775807 then some (s.map fun b=>(b.toNat:Int)) else none
def shlI(k:IntKind)(a b:Int):Int:=k.wrap (a*2 ^ (min b.toNat k.bits))
def Zrp(k:IntKind)(a b:Int):Int:=k.wrap (a.tdiv b)
def Ok{S R:Type}(P:Program)(rs:List RV)(sr:R->List (Nat×Blk))(res:R->PV)(cfg:S->Cfg)(stf:S->PW.St)(r:R):S ⊕ R->Prop
 | .inl s=>(cfg s).holds P (Zj2 (Zxy rs (sr r) (res r))) (stf s)
 | .inr r'=>r'=r
theorem Za03{S R:Type}{P:Program}{rs:List RV}{sr:R->List (Nat×Blk)}{res:R->PV}{cfg:S->Cfg}{stf:S->PW.St}{r:R}{step:S->Option (S ⊕ R)}(hstep:∀ s y,step s=some y->Ok P rs sr res cfg stf r y->(cfg s).holds P (Zj2 (Zxy rs (sr r) (res r))) (stf s)){y:S ⊕ R}
 (h:Znd step y=some r):Ok P rs sr res cfg stf r y:=by
 have key:∀ (n:Nat) (s:S),Zmw step n s=some r->(cfg s).holds P (Zj2 (Zxy rs (sr r) (res r))) (stf s):=by
  intro n
  induction n with
  | zero=>intro s h;cases h
  | succ n ih=>
   intro s h
   simp only [Zmw] at h
   split at h
   .cases h
   .rename_i s' hs;exact hstep s _ hs (ih s' h)
   .rename_i r' hs;cases h;exact hstep s _ hs (show Ok P rs sr res cfg stf r (.inr r) from rfl)
 cases y with
 | inl s=>obtain⟨n,hn⟩:=Zab8.1 h;exact key n s hn
 | inr r'=>have:some r'=some r:=h;cases this;exact (show Ok P rs sr res cfg stf r (.inr r) from rfl)
section
variable {P:Program} {T:TS} {S R:Type} {rs:List RV} {sr:R->List (Nat×Blk)} {res:R->PV} {cfg:S->Cfg} {stf:S->PW.St} {r:R} {y:S ⊕ R} {g:Cfg} {st:PW.St} {C:Prop}
end
def rvOK(T:TS):List RV->Bool
 | []=>true
 | .t _::r=>rvOK T r
 | .c _ t ag sz::r=>(match get T t with | some i=>(i.agg==ag)&&Nat.beq i.size sz | none=>false)&&rvOK T r
theorem Zah3{P:Program}{T:TS}(hT:TOK P T):∀ (rs:List RV),rvOK T rs=true->∀ x t ag sz,RV.c x t ag sz∈rs->TyF P t ag sz
 | [],_,x,t,ag,sz,h=>by cases h
 | .t i::r,hb,x,t,ag,sz,h=>by
  simp only [rvOK] at hb
  rcases List.mem_cons.1 h with h | h
  .cases h
  .exact Zah3 hT r hb x t ag sz h
 | .c x0 t0 ag0 sz0::r,hb,x,t,ag,sz,h=>by
  simp only [rvOK,Bool.and_eq_true] at hb
  rcases List.mem_cons.1 h with h | h
  .cases h
   have h1:=hb.1
   split at h1
   .rename_i i hi
    simp only [Bool.and_eq_true,Zu,beq_iff_eq] at h1
    have:=(hT _ i hi).ty
    rw [h1.1,h1.2] at this
    exact this
   .cases h1
  .exact Zah3 hT r hb.2 x t ag sz h
theorem FnG.of_cfg {P : Program} {T : TS} (hT : TOK P T) {f : FuncId} {args : List PV} {σ σ' : List (Nat × Blk)} {res : PV} {fn : Func} {c : Code} (hf : P.funcs[f]? = some fn) (hb : fn.body = some c) (hname : (fn.name == "runtime.NumGoroutine") = false)
 (n:Nat) (hn:fn.ntmps=n) (hna:args.length<=n) (rs:List RV) (hres:fn.results=(rs.map RV.to).toArray) (hrv:rvOK T rs=true) (h:(Cfg.code c []).holds P (Zj2 (Zxy rs σ' res)) ⟨n,idx 0 args,σ⟩):FnG P f σ args σ' res:=
 FnG.of_pw hf hb hname n hn hna rs hres (Zah3 hT rs hrv) (PW.upto h)
theorem FnG.frozen{P:Program}{f:FuncId}{args:List PV}{σ1:List (Nat×Blk)}{res q:PV}{C:Prop}(h:FnG P f [] args σ1 res)(c:C)(hq:(Zfq σ1 res).map (fun x=>(Zaj x.1,x.2))=some (C,q)):Fn P f args q:=by
 simp only [Option.map_eq_some_iff,Prod.mk.injEq] at hq
 obtain⟨⟨cs,p⟩,h1,h2,h3⟩:=hq
 simp only at h2 h3
 subst h3
 exact h.toFn (Zahq (fun _=>rfl) h1 (by rw [h2];exact c))
theorem Zatl{α:Type}(pre l post:List α)(k:Nat)(hk:k < l.length)(p:α):splice (pre++(l++post)) (pre.length+k) [p]=pre++(l.set k p++post):=by
 unfold splice
 rw [List.take_length_add_append,List.length_cons,List.length_nil,show pre.length+k+(0+1)=pre.length+(k+1) by omega,List.drop_length_add_append,List.take_append_of_le_length (by omega),List.drop_append_of_le_length (by omega),List.set_eq_take_append_cons_drop,if_pos hk]
 simp
def A5.set? {α:Type} (x:A5 α) (i:Int) (v:α):Option (A5 α):=if 0<=i/\i < 5 then (match x.list.set i.toNat v with | [a0,a1,a2,a3,a4]=>some ⟨a0,a1,a2,a3,a4⟩ | _=>none) else none
theorem Za0i{α:Type}(f:α->Zb){x y:A5 α}{i:Int}{v:α}(pre post:List PV)(h:x.set? i v=some y):(pre.length+i.toNat*1+1<=(pre++((cA5 (fun a=>[f a]) x).map PV.t++post)).length)/\splice (pre++((cA5 (fun a=>[f a]) x).map PV.t++post)) (pre.length+i.toNat*1) [.t (f v)]=pre++((cA5 (fun a=>[f a]) y).map PV.t++post):=by
 unfold A5.set? at h
 split at h
 .rename_i hi
  have hl:i.toNat < (x.list.map fun a=>PV.t (f a)).length:=by simp [A5.list];omega
  have e1:(cA5 (fun a=>[f a]) x).map PV.t=x.list.map fun a=>PV.t (f a):=rfl
  have e2:(cA5 (fun a=>[f a]) y).map PV.t=y.list.map fun a=>PV.t (f a):=rfl
  have hy:y.list=x.list.set i.toNat v:=by
   split at h
   .rename_i heq
    cases h
    rw [heq];rfl
   .cases h
  rw [e1,e2,Nat.mul_one,Zatl _ _ _ _ hl,hy,List.map_set]
  refine⟨?_,rfl⟩
  rw [List.length_append,List.length_append]
  omega
 .cases h
theorem Zazn{α:Type}{x:A5 α}{i:Int}{v:α}(h0:0<=i)(h1:i < 5):∃ y,x.set? i v=some y/\y.list=x.list.set i.toNat v:=by
 have hl:(x.list.set i.toNat v).length=5:=by simp [A5.list]
 unfold A5.set?
 rw [if_pos ⟨h0,h1⟩]
 generalize x.list.set i.toNat v=l at hl
 match l,hl with
 | [a0,a1,a2,a3,a4],_=>exact⟨⟨a0,a1,a2,a3,a4⟩,rfl,rfl⟩
def str? (xs:List Int):Option (List UInt8):=if xs≠[]/\∀ n,n∈xs->0<=n/\n < 256 then some (xs.map fun n=>UInt8.ofNat n.toNat) else none
theorem Zajh{xs:List Int}{s:List UInt8}(h:str? xs=some s):Ziy s=List.map (cI .u8) xs/\s≠[]:=by
 unfold str? at h
 split at h
 .rename_i hc
  cases h
  refine⟨?_,by simpa using hc.1⟩
  simp only [Ziy,List.map_map]
  refine List.map_congr_left fun n hn=>?_
  obtain⟨h0,h1⟩:=hc.2 n hn
  simp only [Function.comp,cI]
  have:(UInt8.ofNat n.toNat).toNat=n.toNat:=by simp;omega
  rw [this]
  congr 1
  congr 1
  omega
 .cases h
theorem Zz3{xs zs:List UInt8}{l h:Int}(e:slice? xs l h=some zs):0<=l/\l<=h/\h<=(xs.length:Int)/\(xs.take h.toNat).drop l.toNat=zs:=by
 unfold slice? at e
 split at e
 .rename_i c;exact⟨c.1,c.2.1,c.2.2,Option.some.inj e⟩
 .cases e
end Go.PW
namespace Go.PW
open Go.RowKit
def Zur(P:Program):List Field->Nat->Nat->Bool
 | [],off,Zalj=>Nat.beq off Zalj
 | f::fs,off,Zalj=>Nat.beq f.offset off&&Zur P fs (off+P.cellsOf f.type) Zalj
def Zo7(P:Program):Nat->TypeId->Bool
 | 0,_=>false
 | d+1,t=>
  match P.underlying t with
  | some .bool=>true
  | some (.int _)=>true
  | some .string=>true
  | some (.slice e)=>Zo7 P d e&&Nat.blt 0 (P.cellsOf e)
  | some (.struct fs)=>(fs.toList.all fun f=>Zo7 P d f.type)&&Zur P fs.toList 0 (P.cellsOf t)
  | some (.array n e)=>Zo7 P d e&&Nat.beq (n*P.cellsOf e) (P.cellsOf t)
  | _=>false
def Seq(Q:TypeId->List Zb->Prop):List TypeId->List Zb->Prop
 | [],ts=>ts=[]
 | t::l,ts=>∃ a b,ts=a++b/\Q t a/\Seq Q l b
def WT(P:Program):Nat->TypeId->List Zb->Prop
 | 0,_,_=>False
 | d+1,t,ts=>
  match P.underlying t with
  | some .bool=>∃ b,ts=[.bool b]
  | some (.int k)=>∃ n,ts=[.int k n]/\(Lit.int k n).wf=true
  | some .string=>∃ s,ts=[.str s]/\(s.length<=maxLen/\s.length<=reachBytes)
  | some (.slice e)=>∃ es,ts=[.sl es]/\(es.length<=maxLen/\es.length*P.bytesOf e<=reachBytes)/\∀ el∈es,WT P d e el
  | some (.struct fs)=>Seq (WT P d) (fs.toList.map (·.type)) ts
  | some (.array n e)=>Seq (WT P d) (List.replicate n e) ts
  | _=>False
def Rd(w:World):Ctx:=⟨fun _=>none,fun b=>b < w.heap.size,w,[]⟩
theorem Zamw{I:Nat->Prop}{w:World}{b k:Nat}{Q:List Zb->Prop}:∀ (n off:Nat),(∀ i,i < n->∃ ts,ts.length=k/\Z1 I w b ts (off+i*k)/\Q ts)->∃ es,es.length=n/\Zm I w b es off/\∀ el∈es,Q el
 | 0,off,_=>⟨[],rfl,trivial,fun _ h=>by cases h⟩
 | n+1,off,h=>by
  obtain⟨t0,h0,hc,hq⟩:=h 0 (by omega)
  obtain⟨es,h1,h2,h3⟩:=Zamw (I:=I) (w:=w) (b:=b) (k:=k) (Q:=Q) n (off+k) (fun i hi=>by
   obtain⟨ts,g1,g2,g3⟩:=h (i+1) (by omega)
   exact⟨ts,g1,by rwa [show off+(i+1)*k=off+k+i*k by rw [Nat.add_mul,Nat.one_mul];omega] at g2,g3⟩)
  refine⟨t0::es,by simp [h1],?_,fun el hel=>?_⟩
  .simp only [Zm]
   exact⟨by simpa using hc,by rw [h0];exact h2⟩
  .rcases List.mem_cons.1 hel with h | h
   .subst h;exact hq
   .exact h3 el h
theorem mapM_mem'{α β:Type}{f:α->Option β}:∀ {l:List α} {xs:List β},l.mapM f=some xs->∀ a∈l,∃ x,f a=some x/\x∈xs
 | [],_,_,a,h=>by cases h
 | b::l,xs,h,a,ha=>by
  rw [List.mapM_cons] at h
  simp only [bind,Option.bind_eq_some_iff,pure,Option.some.injEq] at h
  obtain⟨y,hy,ys,hys,rfl⟩:=h
  rcases List.mem_cons.1 ha with e | e
  .subst e;exact⟨y,hy,by simp⟩
  .obtain⟨x,h1,h2⟩:=mapM_mem' hys a e
   exact⟨x,h1,by simp [h2]⟩
section
variable {P:Program} {w:World}
theorem Zaem{Q:TypeId->List Zb->Prop}{cs:List Value}:∀ (fs:List Field) (off:Nat),Zur P fs off cs.length=true->off<=cs.length ->
 (∀ f∈fs,∃ ts,VRs (Rd w) (ts.map .t) ((cs.drop f.offset).take (P.cellsOf f.type))/\Q f.type ts)->∃ ts:List Zb,VRs (Rd w) (ts.map .t) (cs.drop off)/\Seq Q (fs.map (·.type)) ts
 | [],off,h,_,_=>by
  simp only [Zur,Zu] at h
  exact⟨[],by simp [VRs,h],rfl⟩
 | f::fs,off,h,hle,hf=>by
  simp only [Zur,Bool.and_eq_true,Zu] at h
  obtain⟨h1,h2⟩:=h
  obtain⟨a,ha,hq⟩:=hf f (by simp)
  rw [h1] at ha
  have hle2:off+P.cellsOf f.type<=cs.length:=by
   have:∀ (fs:List Field) (o:Nat),Zur P fs o cs.length=true->o<=cs.length:=by
    intro fs
    induction fs with
    | nil=>intro o h;simp only [Zur,Zu] at h;omega
    | cons g fs ih=>intro o h;simp only [Zur,Bool.and_eq_true] at h;have:=ih _ h.2;omega
   exact this fs _ h2
  obtain⟨b,hb,hs⟩:=Zaem (Q:=Q) fs (off+P.cellsOf f.type) h2 hle2 (fun g hg=>hf g (List.mem_cons_of_mem _ hg))
  refine⟨a++b,?_,a,b,rfl,hq,hs⟩
  rw [List.map_append]
  have:=ha.append hb
  rwa [show (cs.drop off).take (P.cellsOf f.type)++cs.drop (off+P.cellsOf f.type)=cs.drop off by rw [<- List.drop_drop];exact List.take_append_drop _ _] at this
theorem Zaji{Q:TypeId->List Zb->Prop}{cs:List Value}{e k:Nat}:∀ (n off:Nat),off+n*k=cs.length ->
 (∀ i,i < n->∃ ts,VRs (Rd w) (ts.map .t) ((cs.drop (off+i*k)).take k)/\Q e ts)->∃ ts:List Zb,VRs (Rd w) (ts.map .t) (cs.drop off)/\Seq Q (List.replicate n e) ts
 | 0,off,h,_=>⟨[],by simp [VRs,show off=cs.length by omega],rfl⟩
 | n+1,off,h,hf=>by
  have e1:(n+1)*k=n*k+k:=by rw [Nat.add_mul,Nat.one_mul]
  obtain⟨a,ha,hq⟩:=hf 0 (by omega)
  rw [Nat.zero_mul,Nat.add_zero] at ha
  obtain⟨b,hb,hs⟩:=Zaji (Q:=Q) (cs:=cs) (e:=e) (k:=k) n (off+k) (by omega) (fun i hi=>by
   obtain⟨ts,g1,g2⟩:=hf (i+1) (by omega)
   exact⟨ts,by rwa [show off+(i+1)*k=off+k+i*k by rw [Nat.add_mul,Nat.one_mul];omega] at g1,g2⟩)
  refine⟨a++b,?_,a,b,rfl,hq,hs⟩
  rw [List.map_append]
  have:=ha.append hb
  rwa [show (cs.drop off).take k++cs.drop (off+k)=cs.drop off by rw [<- List.drop_drop];exact List.take_append_drop _ _] at this
theorem Zs6{H:Type}{e:TypeId}{d:DataW H}{n:Nat}:∀ {ds:List (DataW H)},d∈ds->n∈d.weights P e->n∈DataW.weightsAll P e ds
 | [],h,_=>by cases h
 | y::ds,h,hn=>by
  simp only [DataW.weightsAll,List.mem_append]
  rcases List.mem_cons.1 h with h | h
  .subst h;exact .inl hn
  .exact .inr (Zs6 h hn)
theorem Zrq{H:Type}{t:TypeId}{d:DataW H}{n:Nat}:∀ {ts:List TypeId} {ds:List (DataW H)} {i:Nat},ts[i]?=some t->ds[i]?=some d->n∈d.weights P t->n∈DataW.weightsEach P ts ds
 | [],_,_,h,_,_=>by simp at h
 | _::_,[],_,_,h,_=>by simp at h
 | u::ts,y::ds,0,ht,hd,hn=>by
  simp only [List.getElem?_cons_zero,Option.some.injEq] at ht hd
  subst ht;subst hd
  simp only [DataW.weightsEach,List.mem_append]
  exact .inl hn
 | u::ts,y::ds,i+1,ht,hd,hn=>by
  simp only [DataW.weightsEach,List.mem_append]
  exact .inr (Zrq (by simpa using ht) (by simpa using hd) hn)
theorem Zxi{H:Type}{enc:TypeId×Value->H}:∀ (D fuel:Nat) (t:TypeId) (cs:List Value) (x:DataW H×List MemPlace),DataW.trod enc P w 0 (fun _=>true) true fuel t cs=some x->Zo7 P D t=true->(∀ n∈x.1.weights P t,n<=reachBytes) ->
 ∃ ts:List Zb,VRs (Rd w) (ts.map .t) cs/\WT P D t ts
 | 0,_,_,_,_,_,hp,_=>by simp [Zo7] at hp
 | D+1,fuel,t,cs,x,h,hp,hwt=>by
  unfold Zo7 at hp
  unfold WT
  cases hu:P.underlying t with
  | none=>simp [hu] at hp
  | some u=>
   simp only [hu] at hp⊢
   cases u<;>simp only [Bool.false_eq_true] at hp
   case bool=>
    obtain⟨b,rfl,_⟩:=DataW.trod_bool hu h
    exact⟨[.bool b],by simp [VRs,VR,Zx],b,rfl⟩
   case int k=>
    obtain⟨n,rfl,_,hw⟩:=DataW.trod_int hu h
    exact⟨[.int k n],by simp [VRs,VR,Zx],n,rfl,hw⟩
   case string=>
    obtain⟨s,rfl,rfl,hl⟩:=DataW.trod_string hu h
    refine⟨[.str s.data.toList],by simp [VRs,VR,Zx],_,rfl,by rw [Array.length_toList];exact hl,hwt _ (by simp [DataW.weights])⟩
   case slice e=>
    obtain⟨hp1,hp2⟩:=Bool.and_eq_true_iff.1 hp
    rw [Nat.blt_eq] at hp2
    rcases DataW.trod_slice hu h with ⟨rfl,_⟩ | ⟨a,len,cap,elems,rest,n,_,rfl,rfl,_,hlc,hcm,hel,hE,_⟩
    .refine⟨[.sl []],?_,[],rfl,⟨Nat.zero_le _,by simp⟩,fun _ h=>by cases h⟩
     simp only [List.map_cons,List.map_nil,VRs,VR,Zx]
     exact⟨_,_,rfl,⟨none,0,rfl,Nat.le_refl _,Nat.zero_le _,.inl trivial⟩,rfl⟩
    .by_cases h0:len=0
     .subst h0
      refine⟨[.sl []],?_,[],rfl,⟨Nat.zero_le _,by simp⟩,fun _ h=>by cases h⟩
      simp only [List.map_cons,List.map_nil,VRs,VR,Zx]
      exact⟨_,_,rfl,⟨some a,cap,rfl,hlc,hcm,.inl trivial⟩,rfl⟩
     .have hwl:(elems.length+rest.length)*P.bytesOf e<=reachBytes:=hwt _ (by simp [DataW.weights,hu])
      have hone:∀ i,i < len->∃ cs' y,w.cells? 0 (a.add (i*P.cellsOf e)) (P.cellsOf e)=some cs'/\DataW.trod enc P w 0 (fun _=>true) true n e cs'=some y/\∀ m∈y.1.weights P e,m<=reachBytes:=by
       intro i hi
       have:=hE i hi
       have hlt:i < elems.length:=by omega
       rw [List.getElem?_eq_getElem hlt] at this
       obtain⟨cs',h1,h2⟩:=Option.bind_eq_some_iff.1 this
       refine⟨cs',_,h1,h2,fun m hm=>hwt m ?_⟩
       simp only [DataW.weights,hu]
       exact List.mem_cons_of_mem _ (List.mem_append.2 (.inl (Zs6 (List.mem_map.2 ⟨_,List.getElem_mem hlt,rfl⟩) hm)))
      have hspot:a.spot=none:=by
       obtain⟨cs',y,h1,_,_⟩:=hone 0 (by omega)
       obtain⟨_,hl,hc⟩:=World.cells?_some h1
       have:=hc 0 hp2
       rw [List.getElem?_eq_getElem (by omega)] at this
       have e0:(a.add (0*P.cellsOf e)).add 0=a:=by simp [Addr.add]
       rw [e0] at this
       unfold World.cell? at this
       split at this
       .split at this
        .cases this
        .rename_i hs;simpa using hs
       .cases this
      obtain⟨b,off,spot⟩:=a
      simp only at hspot
      subst hspot
      have hbl:b < w.heap.size:=by
       obtain⟨cs',y,h1,_,_⟩:=hone 0 (by omega)
       have:=World.cells?_block h1 hp2
       simpa [Addr.add] using this
      obtain⟨es,g1,g2,g3⟩:=Zamw (I:=(Rd w).I) (w:=w) (b:=b) (k:=P.cellsOf e) (Q:=WT P D e) len off (fun i hi=>by
       obtain⟨cs',y,h1,h2,hy⟩:=hone i hi
       obtain⟨ts,ht,hw⟩:=Zxi D n e cs' y h2 hp1 hy
       obtain⟨_,hl,hc⟩:=World.cells?_some h1
       refine⟨ts,by have:=ht.length;simp at this;omega,Zgb (c:=Rd w) ht (fun j v hj=>?_),hw⟩
       have hjl:j < P.cellsOf e:=by rw [<- hl];exact (List.getElem?_eq_some_iff.1 hj).1
       have:=hc j hjl
       rw [Addr.add_mid,Addr.add_mid] at this
       exact this.trans hj)
      refine⟨[.sl es],?_,es,rfl,⟨by omega,Nat.le_trans (Nat.mul_le_mul_right _ (by omega)) hwl⟩,g3⟩
      simp only [List.map_cons,List.map_nil,VRs,VR,Zx]
      exact⟨_,_,rfl,⟨some ⟨b,off,none⟩,cap,by rw [g1],by omega,hcm,.inr ⟨b,off,rfl,hbl,g2⟩⟩,rfl⟩
   case struct fs=>
    obtain⟨hp1,hp2⟩:=Bool.and_eq_true_iff.1 hp
    obtain⟨xs,n,_,rfl,hl,hlen,hf⟩:=DataW.trod_struct hu h
    rw [<- hl] at hp2
    have:=Zaem (Q:=WT P D) fs.toList 0 hp2 (Nat.zero_le _) (fun f hfm=>by
     obtain⟨i,hi⟩:=List.mem_iff_getElem?.1 hfm
     have hi':fs[i]?=some f:=by simpa using hi
     have hlt:i < xs.length:=by rw [hlen];exact (Array.getElem?_eq_some_iff.1 hi').1
     have h2:=hf i f hi'
     rw [List.getElem?_eq_getElem hlt] at h2
     refine Zxi D n f.type _ _ h2 (List.all_eq_true.1 hp1 f hfm) (fun m hm=>hwt m ?_)
     simp only [DataW.weights,hu]
     exact Zrq (i:=i) (t:=f.type) (d:=xs[i].1) (by simp [hi]) (by simp [List.getElem?_eq_getElem hlt]) hm)
    simpa using this
   case array n e=>
    obtain⟨hp1,hp2⟩:=Bool.and_eq_true_iff.1 hp
    cases fuel with
    | zero=>simp [DataW.trod] at h
    | succ m=>
     unfold DataW.trod at h
     simp only [hu] at h
     have harr:cs.length=P.cellsOf t/\∃ xs,(List.range n).mapM (fun i=>DataW.trod enc P w 0 (fun _=>true) true m e ((cs.drop (i*P.cellsOf e)).take (P.cellsOf e)))=some xs/\x.1 = .agg (xs.map (·.1)):=by
      split at h
      .rename_i hl
       simp only [Option.map_eq_some_iff] at h
       obtain⟨xs,h1,h2⟩:=h
       exact⟨hl,xs,h1,by rw [<- h2]⟩
      .cases h
     obtain⟨hl,xs,hx,hx1⟩:=harr
     have hwx:∀ y∈xs,∀ k∈y.1.weights P e,k<=reachBytes:=fun y hy k hk=>hwt k (by
      rw [hx1]
      simp only [DataW.weights,hu]
      exact Zs6 (List.mem_map.2 ⟨y,hy,rfl⟩) hk)
     have:=Zaji (w:=w) (Q:=WT P D) (cs:=cs) (e:=e) (k:=P.cellsOf e) n 0 (by rw [hl];have:=(Zu _ _).1 hp2;omega) (fun i hi=>by
      obtain⟨y,hy,hym⟩:=mapM_mem' hx i (by simpa using hi)
      rw [Nat.zero_add]
      exact Zxi D m e _ _ hy hp1 (hwx y hym))
     simpa using this
end
end Go.PW
namespace Go.PW
open Go.RowKit Go.ChangeShapes Go.WideShapes Go.ChangeAt
def oneT:List Zb->PV
 | [x] => .t x
 | _ => .nils
def Z4f(P:Program)(t:TypeId)(ts:List Zb):PV:=
 match P.underlying t with
 | some (.struct _) => .agg (ts.map .t)
 | some (.array _ _) => .agg (ts.map .t)
 | _=>oneT ts
section
variable {H:Type} {enc:TypeId×Value->H} {P:Program} {w:World}
theorem Zax4{D base:Nat}{t:TypeId}{v:Value}{d:DataW H}{p:List MemPlace}(hval:Value.okWide P w .any base t v)(hd:DataW.Trod enc P w 0 (fun _=>true) true t v d p)(hp:Zo7 P D t=true)(hwt:∀ n∈d.weights P t,n<=reachBytes) :
 ∃ ts,VR (Rd w) (Z4f P t ts) v/\WT P D t ts:=by
 obtain⟨fuel,hd⟩:=hd
 obtain⟨ts,hr,hw⟩:=Zxi D fuel t _ _ hd hp hwt
 refine⟨ts,?_,hw⟩
 unfold Z4f
 unfold Value.okWide at hval
 have one:∀ u,v.cells.toList=[u]->(∀ cs,v ≠ .agg cs)->u=v:=by
  intro u hu hne
  cases v<;>first | exact absurd rfl (hne _) | (simp [Value.cells] at hu;exact hu.symm)
 have key:(∀ cs,v ≠ .agg cs)->(∃ x,ts=[x])->VR (Rd w) (oneT ts) v:=by
  rintro hne ⟨x,rfl⟩
  simp only [List.map_cons,List.map_nil,VRs] at hr
  obtain⟨u,rest,he,hv,hrest⟩:=hr
  subst hrest
  have:=one u he hne
  subst this
  exact hv
 cases D with
 | zero=>simp [Zo7] at hp
 | succ D=>
  unfold WT at hw
  unfold Zo7 at hp
  cases hu:P.underlying t with
  | none=>simp [hu] at hp
  | some u=>
   simp only [hu] at hp hval hw⊢
   cases u<;>simp only [Bool.false_eq_true] at hp hval hw⊢
   case struct fs=>
    obtain⟨cs,rfl,_⟩:=hval
    simp only [VR]
    exact⟨cs.toList,by simp,by simpa [Value.cells] using hr⟩
   case array n e=>
    obtain⟨cs,rfl,_⟩:=hval
    simp only [VR]
    exact⟨cs.toList,by simp,by simpa [Value.cells] using hr⟩
   all_goals
    refine key (fun cs e=>?_) ?_
    .subst e
     simp [Cell.okWide,Cell.ok,hu] at hval
    .first
     | (obtain⟨b,hb⟩:=hw;exact⟨_,hb⟩)
     | (obtain⟨b,hb,_⟩:=hw;exact⟨_,hb⟩)
theorem Zavs{f:FuncId}{qs:List PV}{W:World}{args:Array Value}(hgl:Zak9 W)(hf:Fn P f qs (.t (.bool true)))(hv:VRs (Rd W) qs args.toList) :
 Calls P f args W fun e W'=>e = .returned (.bool true)/\Below W.heap.size W W':=by
 have:=Zabu hf (fun b=>b < W.heap.size) (fun b hb=>hb) (fun g k hg=>(hgl g k hg).1) (w:=W) (vals:=args.toList) hgl hv
 rw [Array.toArray_toList] at this
 refine this.mono ?_
 rintro e W' ⟨v,rfl,hr,hs,hb,h1,h2,h3⟩
 simp only [VR,Zx] at hr
 subst hr
 exact⟨rfl,h1,h2,h3,hs,hb⟩
end
end Go.PW
namespace Go.PW
open Go.RowKit
theorem Z6x{n:Int}(h0 : -9223372036854775808<=n)(h1:n < 9223372036854775808):IntKind.wrap .i64 n=n:=by
 simp only [IntKind.wrap,IntKind.bits,IntKind.signed,Bool.true_and,ge_iff_le,decide_eq_true_eq]
 rcases Int.lt_or_le n 0 with h | h
 .have:n % (2 ^ 64:Int)=n+2 ^ 64:=by
   rw [<- Int.add_emod_right]
   exact Int.emod_eq_of_lt (by omega) (by omega)
  rw [this,if_pos (by omega)]
  omega
 .have:n % (2 ^ 64:Int)=n:=Int.emod_eq_of_lt h (by omega)
  rw [this,if_neg (by omega)]
theorem Zaz{i n:Nat}(h:i < n)(hn:n<=4611686018427387904):IntKind.wrap .i64 ((i:Int)+1)=((i+1:Nat):Int):=by
 rw [Z6x (by omega) (by omega)];omega
theorem Zak{α:Type}{b:List α}{j:Nat}{x:α}(h:b[j]?=some x):idx? b (j:Int)=some x:=by
 unfold idx?
 rw [if_pos (by omega)]
 simpa using h
theorem Zaen{α:Type}{k:Nat}{a b:List α}(h:(a.length+b.length)*k<=140737488355328)(hk:0 < k):app? k a b=some (a++b):=by
 have:a.length+b.length<=(a.length+b.length)*k:=Nat.le_mul_of_pos_right _ hk
 unfold app?
 rw [if_pos ⟨h,by omega⟩]
theorem Zdr{α:Type}{k:Nat}{b:List α}(h:b.length*k<=reachBytes)(hk:0 < k):app? k [] b=some b:=by
 have hr:reachBytes=140737488351232:=rfl
 rw [hr] at h
 exact Zaen (a:=[]) (by simp;omega) hk
theorem Za0j{α:Type}(b:List α)(i:Nat)(x:α)(h:i < b.length):set? b (i:Int) x=some (b.set i x):=by
 unfold set?
 rw [if_pos ⟨by omega,by simpa using h⟩]
 simp
theorem scan{S R:Type}{step:S->Option (S ⊕ R)}{st:Nat->S}{bad:R}(n:Nat)(q:Nat->Bool)(h:∀ i,i < n->step (st i)=some (bif q i then .inl (st (i+1)) else .inr bad)) :
 Za6 step (st 0)=bif (List.range n).all q then Za6 step (st n) else some bad:=by
 have key:∀ (d i:Nat),i+d=n->Za6 step (st i)=bif (List.range' i d).all q then Za6 step (st n) else some bad:=by
  intro d
  induction d with
  | zero=>intro i hi;rw [show i=n by omega];rfl
  | succ d ih=>
   intro i hi
   rw [Z9h,h i (by omega),List.range'_succ,List.all_cons]
   cases hq:q i with
   | true=>simp only [cond_true,Bool.true_and];exact ih (i+1) (by omega)
   | false=>rfl
 rw [key n 0 (by omega),List.range_eq_range']
theorem Zmx{S R α:Type}{step:S->Option (S ⊕ R)}{st:Nat->α->S}(n:Nat)(f:Nat->α)(h:∀ i,i < n->step (st i (f i))=some (.inl (st (i+1) (f (i+1))))):Za6 step (st 0 (f 0))=Za6 step (st n (f n)):=by
 have key:∀ (d i:Nat),i+d=n->Za6 step (st i (f i))=Za6 step (st n (f n)):=by
  intro d
  induction d with
  | zero=>intro i hi;rw [show i=n by omega]
  | succ d ih=>intro i hi;rw [Zek (h i (by omega))];exact ih (i+1) (by omega)
 exact key n 0 (by omega)
theorem Zamx{α:Type} [DecidableEq α] (a b:List α) (hl:a.length=b.length):((List.range a.length).all fun i=>decide (a[i]?=b[i]?))=decide (a=b):=by
 rw [Bool.eq_iff_iff,List.all_eq_true,decide_eq_true_eq]
 constructor
 .intro h
  apply List.ext_getElem?
  intro i
  rcases Nat.lt_or_ge i a.length with hi | hi
  .exact of_decide_eq_true (h i (List.mem_range.2 hi))
  .rw [List.getElem?_eq_none hi,List.getElem?_eq_none (by omega)]
 .rintro rfl i _
  simp
theorem Zaeo(x y:Bool)(r s:List Zb):Z2 (cB x++r) (cB y++s)=(decide (x=y)&&Z2 r s):=by
 have:(x==y)=decide (x=y):=by cases x<;>cases y<;>rfl
 simp only [cB,List.cons_append,List.nil_append,Z2,Zxx,this]
theorem Zi0(k:IntKind)(x y:Int)(r s:List Zb):Z2 (cI k x++r) (cI k y++s)=(decide (x=y)&&Z2 r s):=by
 simp only [cI,List.cons_append,List.nil_append,Z2,Zxx]
 try rfl
theorem Zavt(x y:List UInt8)(r s:List Zb):Z2 (cS x++r) (cS y++s)=(decide (x=y)&&Z2 r s):=by
 simp only [cS,List.cons_append,List.nil_append,Z2,Zxx]
 congr 1
 by_cases h:x=y
 .subst h;simp
 .rw [decide_eq_false h];exact beq_eq_false_iff_ne.2 h
theorem Zasb{α:Type} [DecidableEq α] {f:α->List Zb} (hf:∀ x y r s,Z2 (f x++r) (f y++s)=(decide (x=y)&&Z2 r s)) (x y:A3 α) (r s:List Zb):Z2 (cA3 f x++r) (cA3 f y++s)=(decide (x=y)&&Z2 r s):=by
 obtain⟨a0,a1,a2⟩:=x
 obtain⟨b0,b1,b2⟩:=y
 simp only [cA3,List.append_assoc,hf,A3.mk.injEq,Bool.decide_and,Bool.and_assoc]
theorem Zazo{α:Type} [DecidableEq α] {f:α->List Zb} (hf:∀ x y r s,Z2 (f x++r) (f y++s)=(decide (x=y)&&Z2 r s)) (x y:A5 α) (r s:List Zb):Z2 (cA5 f x++r) (cA5 f y++s)=(decide (x=y)&&Z2 r s):=by
 obtain⟨a0,a1,a2,a3,a4⟩:=x
 obtain⟨b0,b1,b2,b3,b4⟩:=y
 simp only [cA5,List.append_assoc,hf,A5.mk.injEq,Bool.decide_and,Bool.and_assoc]
theorem Zazp{α:Type} [DecidableEq α] {f:α->List Zb} (hf:∀ x y r s,Z2 (f x++r) (f y++s)=(decide (x=y)&&Z2 r s)) (x y:A6 α) (r s:List Zb):Z2 (cA6 f x++r) (cA6 f y++s)=(decide (x=y)&&Z2 r s):=by
 obtain⟨a0,a1,a2,a3,a4,a5⟩:=x
 obtain⟨b0,b1,b2,b3,b4,b5⟩:=y
 simp only [cA6,List.append_assoc,hf,A6.mk.injEq,Bool.decide_and,Bool.and_assoc]
theorem Zha{α:Type} [DecidableEq α] {f:α->List Zb} (hf:∀ x y r s,Z2 (f x++r) (f y++s)=(decide (x=y)&&Z2 r s)) (x y:α):Z2 (f x) (f y)=decide (x=y):=by
 have:=hf x y [] []
 simpa [Z2] using this
section
variable {P:Program}
theorem Z0{t:TypeId}{k:IntKind}(hu:P.underlying t=some (.int k))(d:Nat)(ts:List Zb)(h:WT P d t ts):∃ n,ts=cI k n/\(k.min<=n/\n<=k.max):=by
 cases d with
 | zero=>cases h
 | succ d=>
  simp only [WT,hu] at h
  obtain⟨n,rfl,h⟩:=h
  simp only [Lit.wf,Bool.and_eq_true,decide_eq_true_eq] at h
  exact⟨n,rfl,h⟩
theorem Zgv{t:TypeId}(hu:P.underlying t=some .bool)(d:Nat)(ts:List Zb)(h:WT P d t ts):∃ b,ts=cB b/\True:=by
 cases d with
 | zero=>cases h
 | succ d=>
  simp only [WT,hu] at h
  obtain⟨b,rfl⟩:=h
  exact⟨b,rfl,trivial⟩
theorem Z6y{t:TypeId}(hu:P.underlying t=some .string)(d:Nat)(ts:List Zb)(h:WT P d t ts):∃ s,ts=cS s/\s.length<=reachBytes:=by
 cases d with
 | zero=>cases h
 | succ d=>
  simp only [WT,hu] at h
  obtain⟨b,rfl,_,h⟩:=h
  exact⟨b,rfl,h⟩
def OkL{α:Type}(k:Nat)(ok:α->Prop)(xs:List α):Prop:=xs.length*k<=reachBytes/\∀ x,x∈xs->ok x
theorem Zen{α:Type}{f:α->List Zb}{ok:α->Prop}{t e k:Nat}(hu:P.underlying t=some (.slice e))(hb:P.bytesOf e=k)(he:∀ d ts,WT P d e ts->∃ x,ts=f x/\ok x)(d:Nat)(ts:List Zb)(h:WT P d t ts):∃ xs,ts=cL f xs/\OkL k ok xs:=by
 cases d with
 | zero=>cases h
 | succ d=>
  simp only [WT,hu] at h
  obtain⟨es,rfl,⟨_,h1⟩,h2⟩:=h
  have:∀ es:List (List Zb),(∀ el∈es,WT P d e el)->∃ xs:List α,es=List.map f xs/\∀ x∈xs,ok x:=by
   intro es
   induction es with
   | nil=>intro _;exact⟨[],rfl,fun _ h=>by cases h⟩
   | cons el es ih=>
    intro h
    obtain⟨x,rfl,hx⟩:=he d el (h el (by simp))
    obtain⟨xs,rfl,hxs⟩:=ih (fun el' hel=>h el' (List.mem_cons_of_mem _ hel))
    exact⟨x::xs,rfl,fun y hy=>by
     rcases List.mem_cons.1 hy with e | e
     .subst e;exact hx
     .exact hxs y e⟩
  obtain⟨xs,rfl,hxs⟩:=this es h2
  exact⟨xs,rfl,by rw [List.length_map,hb] at h1;exact h1,hxs⟩
def OkA3{α:Type}(ok:α->Prop)(x:A3 α):Prop:=ok x.a0/\ok x.a1/\ok x.a2
def OkA5{α:Type}(ok:α->Prop)(x:A5 α):Prop:=ok x.a0/\ok x.a1/\ok x.a2/\ok x.a3/\ok x.a4
def OkA6{α:Type}(ok:α->Prop)(x:A6 α):Prop:=ok x.a0/\ok x.a1/\ok x.a2/\ok x.a3/\ok x.a4/\ok x.a5
theorem Zaym{α:Type}{f:α->List Zb}{ok:α->Prop}{t e:Nat}(hu:P.underlying t=some (.array 3 e))(he:∀ d ts,WT P d e ts->∃ x,ts=f x/\ok x)(d:Nat)(ts:List Zb)(h:WT P d t ts):∃ x,ts=cA3 f x/\OkA3 ok x:=by
 cases d with
 | zero=>cases h
 | succ d=>
  simp only [WT,hu,List.replicate,Seq] at h
  obtain⟨_,_,rfl,h0,_,_,rfl,h1,_,_,rfl,h2,rfl⟩:=h
  obtain⟨x0,rfl,o0⟩:=he d _ h0
  obtain⟨x1,rfl,o1⟩:=he d _ h1
  obtain⟨x2,rfl,o2⟩:=he d _ h2
  exact⟨⟨x0,x1,x2⟩,by simp [cA3],o0,o1,o2⟩
theorem Za04{α:Type}{f:α->List Zb}{ok:α->Prop}{t e:Nat}(hu:P.underlying t=some (.array 5 e))(he:∀ d ts,WT P d e ts->∃ x,ts=f x/\ok x)(d:Nat)(ts:List Zb)(h:WT P d t ts):∃ x,ts=cA5 f x/\OkA5 ok x:=by
 cases d with
 | zero=>cases h
 | succ d=>
  simp only [WT,hu,List.replicate,Seq] at h
  obtain⟨_,_,rfl,h0,_,_,rfl,h1,_,_,rfl,h2,_,_,rfl,h3,_,_,rfl,h4,rfl⟩:=h
  obtain⟨x0,rfl,o0⟩:=he d _ h0
  obtain⟨x1,rfl,o1⟩:=he d _ h1
  obtain⟨x2,rfl,o2⟩:=he d _ h2
  obtain⟨x3,rfl,o3⟩:=he d _ h3
  obtain⟨x4,rfl,o4⟩:=he d _ h4
  exact⟨⟨x0,x1,x2,x3,x4⟩,by simp [cA5],o0,o1,o2,o3,o4⟩
theorem Zayn{α:Type}{f:α->List Zb}{ok:α->Prop}{t e:Nat}(hu:P.underlying t=some (.array 6 e))(he:∀ d ts,WT P d e ts->∃ x,ts=f x/\ok x)(d:Nat)(ts:List Zb)(h:WT P d t ts):∃ x,ts=cA6 f x/\OkA6 ok x:=by
 cases d with
 | zero=>cases h
 | succ d=>
  simp only [WT,hu,List.replicate,Seq] at h
  obtain⟨_,_,rfl,h0,_,_,rfl,h1,_,_,rfl,h2,_,_,rfl,h3,_,_,rfl,h4,_,_,rfl,h5,rfl⟩:=h
  obtain⟨x0,rfl,o0⟩:=he d _ h0
  obtain⟨x1,rfl,o1⟩:=he d _ h1
  obtain⟨x2,rfl,o2⟩:=he d _ h2
  obtain⟨x3,rfl,o3⟩:=he d _ h3
  obtain⟨x4,rfl,o4⟩:=he d _ h4
  obtain⟨x5,rfl,o5⟩:=he d _ h5
  exact⟨⟨x0,x1,x2,x3,x4,x5⟩,by simp [cA6],o0,o1,o2,o3,o4,o5⟩
theorem Zamy{H:Type}{enc:TypeId×Value->H}{w:World}{α:Type}{f:α->List Zb}{ok:α->Prop}{base D t:Nat}{v:Value}{d:DataW H}{p:List MemPlace}(he:∀ d ts,WT P d t ts->∃ x,ts=f x/\ok x)(hp:Zo7 P D t=true)
 (hval:Value.okWide P w .any base t v) (hd:DataW.Trod enc P w 0 (fun _=>true) true t v d p) (hwt:∀ n∈d.weights P t,n<=reachBytes):∃ x,ok x/\VR (Rd w) (Z4f P t (f x)) v:=by
 obtain⟨ts,hv,hw⟩:=Zax4 hval hd hp hwt
 obtain⟨x,rfl,hx⟩:=he D ts hw
 exact⟨x,hx,hv⟩
theorem Zavu{t:Nat}{fs:Array Field}(hu:P.underlying t=some (.struct fs))(ts:List Zb):Z4f P t ts = .agg (ts.map .t):=by simp [Z4f,hu]
theorem Za0m{t:Nat}{k:IntKind}(hu:P.underlying t=some (.int k))(n:Int):Z4f P t (cI k n) = .t (.int k n):=by simp [Z4f,hu,oneT,cI]
end
theorem Zaep{H:Type}{P:Program}{ts:List TypeId}{ds:List (DataW H)}(h:(DataW.weightsEach P ts ds).all (· <= reachBytes)=true){i t:Nat}{d:DataW H}(ht:ts[i]?=some t)(hd:ds[i]?=some d):∀ n∈d.weights P t,n<=reachBytes:=by
 intro n hn
 have:=List.all_eq_true.1 h n (Zrq ht hd hn)
 simpa using this
end Go.PW
namespace Go.PW
theorem Zef{S R:Type}(step:S->Option (S ⊕ R))(r:R):Znd step (.inr r)=some r:=rfl
theorem Zbf{S R:Type}(step:S->Option (S ⊕ R))(s:S):Znd step (.inl s)=Za6 step s:=rfl
theorem Zii{α:Type}(b:Bool)(x y:α):(bif !b then x else y)=bif b then y else x:=by cases b<;>rfl
theorem Zh3(a b:Int):(a==b)=decide (a=b):=rfl
theorem Zasc(a b:Int):(a != b)=decide (a≠b):=by
 show (!(decide (a=b)))=_
 by_cases h:a=b<;>simp [h]
theorem Zj5(a b:List UInt8):(a==b)=decide (a=b):=by
 by_cases h:a=b
 .subst h;simp
 .rw [decide_eq_false h];exact beq_eq_false_iff_ne.2 h
theorem Zg3{α β:Type}(b:Bool)(x y:Option α)(f:α->Option β):(bif b then x else y).bind f=bif b then x.bind f else y.bind f:=by cases b<;>rfl
theorem Zamz{S R α:Type}{step:S->Option (S ⊕ R)}{st:Nat->S}{bad:R}:∀ (xs:List α) (p:α->Bool) (_:∀ i x,xs[i]?=some x->step (st i)=some (bif p x then .inl (st (i+1)) else .inr bad)),
 Za6 step (st 0)=bif xs.all p then Za6 step (st xs.length) else some bad
 | [],_,_=>rfl
 | x::xs,p,h=>by
  have h0:=h 0 x rfl
  cases hp:p x with
  | false=>
   simp only [hp,cond_false] at h0
   rw [Zbe h0]
   simp [hp]
  | true=>
   simp only [hp,cond_true] at h0
   rw [Zek h0,Zamz (st:=fun i=>st (i+1)) xs p (fun i y hy=>h (i+1) y (by simpa using hy))]
   simp [hp]
theorem Zus{S R α:Type}{step:S->Option (S ⊕ R)}:∀ (xs:List α) (st:Nat->S) (hit:Nat->R) (p:α->Bool) (_:∀ i x,xs[i]?=some x->step (st i)=some (bif p x then .inr (hit i) else .inl (st (i+1)))),
 (xs.any p=true/\∃ i,i < xs.length/\Za6 step (st 0)=some (hit i))\/(xs.any p=false/\Za6 step (st 0)=Za6 step (st xs.length))
 | [],_,_,_,_ => .inr ⟨rfl,rfl⟩
 | x::xs,st,hit,p,h=>by
  have h0:=h 0 x rfl
  cases hp:p x with
  | true=>
   simp only [hp,cond_true] at h0
   exact .inl ⟨by simp [hp],0,by simp,Zbe h0⟩
  | false=>
   simp only [hp,cond_false] at h0
   rcases Zus xs (fun i=>st (i+1)) (fun i=>hit (i+1)) p (fun i y hy=>h (i+1) y (by simpa using hy)) with ⟨h1,i,h2,h3⟩ | ⟨h1,h2⟩
   .exact .inl ⟨by simp [hp,h1],i+1,by simpa using h2,by rw [Zek h0];exact h3⟩
   .exact .inr ⟨by simp [hp,h1],by rw [Zek h0];exact h2⟩
theorem Zalj{S R β:Type}{step:S->Option (S ⊕ R)}{st:Nat->β->S}{Q:Nat->β->Prop}{post:R->Prop}(n:Nat)
 (h:∀ i b,i < n->Q i b->(∃ b',step (st i b)=some (.inl (st (i+1) b'))/\Q (i+1) b')\/∃ r,step (st i b)=some (.inr r)/\post r)
 (hend:∀ b,Q n b->∃ r,Za6 step (st n b)=some r/\post r):∀ b,Q 0 b->∃ r,Za6 step (st 0 b)=some r/\post r:=by
 have key:∀ d i b,i+d=n->Q i b->∃ r,Za6 step (st i b)=some r/\post r:=by
  intro d
  induction d with
  | zero => intro i b hi hq; obtain rfl : i = n := by omega
            exact hend b hq
  | succ d ih=>
   intro i b hi hq
   rcases h i b (by omega) hq with ⟨b',h1,h2⟩ | ⟨r,h1,h2⟩
   .rw [Zek h1];exact ih (i+1) b' (by omega) h2
   .exact⟨r,Zbe h1,h2⟩
 exact fun b hq=>key n 0 b (by omega) hq
section
variable {S:Type} {step:S->Option (S ⊕ Bool)} {b r:Bool} {k:Option (S ⊕ Bool)}
theorem Zaeq(h:b=false->k.bind (Znd step)=some r):(bif b then some (.inr false) else k).bind (Znd step)=some (!b&&r):=by
 cases b
 .simpa using h rfl
 .rfl
end
end Go.PW
namespace Go.PW
def Tot{α:Type}(o:Option α)(Q:α->Prop):Prop:=∃ a,o=some a/\Q a
theorem Tot.mono{α:Type}{o:Option α}{P Q:α->Prop}(h:Tot o P)(f:∀ a,P a->Q a):Tot o Q:=by
 obtain⟨a,h1,h2⟩:=h
 exact⟨a,h1,f a h2⟩
theorem tB{α β:Type}{o:Option α}{k:α->Option β}{P:α->Prop}{Q:β->Prop}(h:Tot o P)(f:∀ a,P a->Tot (k a) Q):Tot (o.bind k) Q:=by
 obtain⟨a,rfl,h2⟩:=h
 exact f a h2
theorem tF{α:Type}{b:Bool}{x y:Option α}{Q:α->Prop}(h:b=true->Tot x Q)(g:b=false->Tot y Q):Tot (bif b then x else y) Q:=by
 cases b
 .exact g rfl
 .exact h rfl
theorem Tot.eq{α:Type}{o:Option α}{a:α}(h:Tot o (fun x=>x=a)):o=some a:=by
 obtain⟨x,h1,rfl⟩:=h
 exact h1
theorem tI{α:Type}{xs:List α}{i:Int}(h0:0<=i)(h1:i < xs.length):Tot (idx? xs i) fun x=>x∈xs/\xs[i.toNat]?=some x:=by
 have h:=List.getElem?_eq_getElem (show i.toNat < xs.length by omega)
 refine⟨xs[i.toNat],?_,List.getElem_mem _,h⟩
 unfold idx?
 rw [if_pos h0,h]
theorem tA{α:Type}{k:Nat}{a b:List α}(h:(a.length+b.length)*k<=140737488355328)(hk:0 < k):Tot (app? k a b) fun z=>z=a++b:=⟨_,Zaen h hk,rfl⟩
theorem Tot.some{α:Type}{o:Option α}{Q:α->Prop}(h:Tot o Q):∃ a,o=some a:=by
 obtain⟨a,h,_⟩:=h
 exact⟨a,h⟩
theorem Tot.stop{S R:Type}{step:S->Option (S ⊕ R)}{s:S}{r:R}{Q:R->Prop}(h:step s = .some (.inr r))(hq:Q r):Tot (Za6 step s) Q:=⟨r,Zbe h,hq⟩
abbrev M6:=Nat×Nat×Nat×Nat×Nat×Nat
def lt6(x y:M6):Prop:=x.1 < y.1\/(x.1=y.1/\(x.2.1 < y.2.1\/(x.2.1=y.2.1/\(x.2.2.1 < y.2.2.1\/(x.2.2.1=y.2.2.1/\(x.2.2.2.1 < y.2.2.2.1\/(x.2.2.2.1=y.2.2.2.1/\(x.2.2.2.2.1 < y.2.2.2.2.1\/(x.2.2.2.2.1=y.2.2.2.2.1/\x.2.2.2.2.2 < y.2.2.2.2.2)))))))))
def le6(x y:M6):Prop:=lt6 x y\/(x.1=y.1/\x.2.1=y.2.1/\x.2.2.1=y.2.2.1/\x.2.2.2.1=y.2.2.2.1/\x.2.2.2.2.1=y.2.2.2.2.1/\x.2.2.2.2.2=y.2.2.2.2.2)
theorem Za0n{x y z:M6}(h:lt6 x y)(g:le6 y z):lt6 x z:=by
 unfold le6 lt6 at g
 unfold lt6 at *
 omega
theorem Za0o:WellFounded lt6:=by
 have h:WellFounded (Prod.Lex (fun a b:Nat=>a < b) (Prod.Lex (fun a b:Nat=>a < b) (Prod.Lex (fun a b:Nat=>a < b) (Prod.Lex (fun a b:Nat=>a < b) (Prod.Lex (fun a b:Nat=>a < b) (fun a b:Nat=>a < b)))))):=
  (Prod.lex ⟨_,Nat.lt_wfRel.wf⟩ (Prod.lex ⟨_,Nat.lt_wfRel.wf⟩ (Prod.lex ⟨_,Nat.lt_wfRel.wf⟩ (Prod.lex ⟨_,Nat.lt_wfRel.wf⟩ (Prod.lex ⟨_,Nat.lt_wfRel.wf⟩ ⟨_,Nat.lt_wfRel.wf⟩))))).wf
 refine Subrelation.wf ?_ h
 rintro ⟨a1,a2,a3,a4,a5,a6⟩ ⟨b1,b2,b3,b4,b5,b6⟩ h
 unfold lt6 at h
 simp only at h
 rcases h with h | ⟨rfl,h | ⟨rfl,h | ⟨rfl,h | ⟨rfl,h | ⟨rfl,h⟩⟩⟩⟩⟩
 .exact .left _ _ h
 .exact .right _ (.left _ _ h)
 .exact .right _ (.right _ (.left _ _ h))
 .exact .right _ (.right _ (.right _ (.left _ _ h)))
 .exact .right _ (.right _ (.right _ (.right _ (.left _ _ h))))
 .exact .right _ (.right _ (.right _ (.right _ (.right _ h))))
def Nx{S R:Type}(Inv:S->Prop)(μ:S->M6)(m:M6)(post:R->Prop):S ⊕ R->Prop
 | .inl s=>Inv s/\lt6 (μ s) m
 | .inr r=>post r
section
variable {S R:Type} {Inv:S->Prop} {μ:S->M6} {m m':M6} {post:R->Prop}
theorem tL{s:S}(h:Inv s)(hm:lt6 (μ s) m):Tot (.some (.inl s)) (Nx Inv μ m post):=⟨_,rfl,h,hm⟩
theorem tR{r:R}(h:post r):Tot (.some (.inr r)) (Nx Inv μ m post):=⟨_,rfl,h⟩
theorem Tot.join{o:Option (S ⊕ R)}(h:Tot o (Nx Inv μ m' post))(hm:le6 m' m):Tot o (Nx Inv μ m post):=h.mono fun y hy=>by
 cases y with
 | inl s=>exact⟨hy.1,Za0n hy.2 hm⟩
 | inr r=>exact hy
theorem Tot.fin{step:S->Option (S ⊕ R)}{o:Option (S ⊕ R)}(h0:Tot o (Nx Inv μ m post))(hs:∀ s,Inv s->Tot (step s) (Nx Inv μ (μ s) post)):Tot (o.bind (Znd step)) post:=by
 have key:∀ x:M6,∀ s,μ s=x->Inv s->Tot (Za6 step s) post:=fun x=>Za0o.induction (C:=fun x=>∀ s,μ s=x->Inv s->Tot (Za6 step s) post) x (fun x ih s hx hi=>by
  subst hx
  obtain⟨y,h1,h2⟩:=hs s hi
  cases y with
  | inl s'=>rw [Zek h1];exact ih _ h2.2 s' rfl h2.1
  | inr r=>exact⟨r,Zbe h1,h2⟩)
 obtain⟨y,rfl,h2⟩:=h0
 cases y with
 | inl s=>exact key _ s rfl h2.1
 | inr r=>exact⟨r,rfl,h2⟩
end
theorem tD{α:Type}{p:Prop} [Decidable p] {x y:Option α} {Q:α->Prop} (h:p->Tot x Q) (g:¬ p->Tot y Q):Tot (bif decide p then x else y) Q:=by
 by_cases hp:p
 .rw [decide_eq_true hp];exact h hp
 .rw [decide_eq_false hp];exact g hp
theorem tE{α:Type}{a b:Int}{x y:Option α}{Q:α->Prop}(h:a=b->Tot x Q)(g:a≠b->Tot y Q):Tot (bif (a==b) then x else y) Q:=by
 rw [Zh3];exact tD h g
theorem tN{α:Type}{a b:Int}{x y:Option α}{Q:α->Prop}(h:a≠b->Tot x Q)(g:a=b->Tot y Q):Tot (bif (a != b) then x else y) Q:=by
 rw [Zasc];exact tD h (fun e=>g (by omega))
theorem tO{α:Type}{b:Bool}{x y:Option α}{Q:α->Prop}(h:b=false->Tot x Q)(g:b=true->Tot y Q):Tot (bif !b then x else y) Q:=by
 cases b
 .exact h rfl
 .exact g rfl
theorem tK{p:Prop} [Decidable p] (h:p):Tot (ok? (decide p)) fun _=>p:=⟨(),by rw [decide_eq_true h];rfl,h⟩
theorem Tot.slice{α:Type}{xs:List α}{l h:Int}(h0:0<=l)(h1:l<=h)(h2:h<=xs.length):Tot (slice? xs l h) fun z=>(z.length:Int)=h - l/\(∀ x,x∈z->x∈xs)/\z=(xs.take h.toNat).drop l.toNat:=by
 refine⟨(xs.take h.toNat).drop l.toNat,?_,?_,fun x hx=>List.mem_of_mem_take (List.mem_of_mem_drop hx),rfl⟩
 .unfold slice?;rw [if_pos ⟨h0,h1,h2⟩]
 .rw [List.length_drop,List.length_take];omega
theorem Tot.copy{α:Type}{x y:List α}(h:y.length<=x.length):Tot (copy? x y) fun z=>z.length=x.length/\(∀ e,e∈z->e∈y\/e∈x)/\z=y++x.drop y.length:=by
 refine⟨y++x.drop y.length,?_,?_,fun e he=>?_,rfl⟩
 .unfold copy?;rw [if_pos h]
 .rw [List.length_append,List.length_drop];omega
 .rcases List.mem_append.1 he with h | h
  .exact .inl h
  .exact .inr (List.mem_of_mem_drop h)
theorem Tot.set{α:Type}{z:List α}{i:Int}{x:α}(h0:0<=i)(h1:i < z.length):Tot (set? z i x) fun y=>y.length=z.length/\(∀ e,e∈y->e=x\/e∈z)/\y=z.set i.toNat x:=by
 refine⟨z.set i.toNat x,?_,List.length_set ..,fun e he=>?_,rfl⟩
 .unfold set?;rw [if_pos ⟨h0,by omega⟩]
 .rcases List.mem_or_eq_of_mem_set he with h | h
  .exact .inr h
  .exact .inl h
theorem Tot.bytes{s:List UInt8}(h:s.length<=9223372036854775807):Tot (bytes? s) fun z=>z.length=s.length:=by
 unfold bytes?
 rw [if_pos h]
 exact⟨_,rfl,List.length_map ..⟩
theorem Tot.str{xs:List Int}(h:xs≠[])(h2:∀ n,n∈xs->0<=n/\n < 256):Tot (str? xs) fun s=>s.length=xs.length:=by
 unfold str?
 rw [if_pos ⟨h,h2⟩]
 exact⟨_,rfl,List.length_map ..⟩
theorem Tot.setA5{α:Type}{x:A5 α}{i:Int}{v:α}(h0:0<=i)(h1:i < 5):Tot (x.set? i v) fun y=>y.list=x.list.set i.toNat v:=Zazn h0 h1
theorem Za05(n:Int):(-9223372036854775808<=n->n < 9223372036854775808->IntKind.wrap .i64 n=n):=fun h1 h2=>Z6x h1 h2
theorem Za06(n:Int) : -9223372036854775808<=IntKind.wrap .i64 n/\IntKind.wrap .i64 n < 9223372036854775808:=by
 simp only [IntKind.wrap,IntKind.bits,IntKind.signed,Bool.true_and,ge_iff_le,decide_eq_true_eq]
 have h1:=Int.emod_nonneg n (show (2 ^ 64:Int)≠0 by decide)
 have h2:=Int.emod_lt_of_pos n (show (0:Int) < 2 ^ 64 by decide)
 split<;>omega
theorem Zah4(n:Int):0<=IntKind.wrap .u64 n/\IntKind.wrap .u64 n < 18446744073709551616:=by
 simp only [IntKind.wrap,IntKind.bits,IntKind.signed]
 have h1:=Int.emod_nonneg n (show (2 ^ 64:Int)≠0 by decide)
 have h2:=Int.emod_lt_of_pos n (show (0:Int) < 2 ^ 64 by decide)
 simp only [Bool.false_and,Bool.false_eq_true,if_false]
 omega
theorem Zavv(n:Int):0<=IntKind.wrap .u8 n/\IntKind.wrap .u8 n < 256:=by
 simp only [IntKind.wrap,IntKind.bits,IntKind.signed]
 have h1:=Int.emod_nonneg n (show (2 ^ 8:Int)≠0 by decide)
 have h2:=Int.emod_lt_of_pos n (show (0:Int) < 2 ^ 8 by decide)
 simp only [Bool.false_and,Bool.false_eq_true,if_false]
 omega
def SzL{α:Type}(k:Nat)(P:α->Prop)(xs:List α):Prop:=xs.length*k<=140737488351232/\∀ x,x∈xs->P x
def SzS(s:List UInt8):Prop:=s.length<=281474976710656
def SzT(s:List UInt8):Prop:=s.length<=562949953421312
theorem SzS.t{s:List UInt8}(h:SzS s):SzT s:=Nat.le_trans h (by decide)
theorem SzS.nil:SzS []:=Nat.zero_le _
theorem SzT.nil:SzT []:=Nat.zero_le _
theorem SzS.lit{s:List UInt8}(h:s.length<=1000):SzS s:=Nat.le_trans h (by decide)
def SzN(s:List UInt8):Prop:=s.length<=100
theorem SzN.t{s:List UInt8}(h:SzN s):SzT s:=Nat.le_trans h (by decide)
theorem SzN.s{s:List UInt8}(h:SzN s):SzS s:=Nat.le_trans h (by decide)
theorem SzN.nil:SzN []:=Nat.zero_le _
theorem shl_ne'{i:Int}(h0:0<=i)(h1:i < 6):shlI .i64 1 i≠0:=by
 have:i=0\/i=1\/i=2\/i=3\/i=4\/i=5:=by omega
 rcases this with h | h | h | h | h | h<;>subst h<;>decide
theorem Zaer{s:List UInt8}(h:s.length<=reachBytes):SzS s:=Nat.le_trans h (by decide)
theorem Za0p{s:List UInt8}(h:s.length<=reachBytes):SzT s:=Nat.le_trans h (by decide)
theorem Zfh{α:Type}{k:Nat}{P Q:α->Prop}{xs:List α}(h:OkL k P xs)(f:∀ x,P x->Q x):SzL k Q xs:=⟨h.1,fun x hx=>f x (h.2 x hx)⟩
theorem int_bne'(a b:Int):(a != b) = !decide (a=b):=rfl
theorem Zg4(a b:Bool):(a==b)=decide (a=b):=by cases a<;>cases b<;>rfl
theorem Zf4(p q:Prop) [Decidable p] [Decidable q]:(bif decide p then some (decide q) else some false)=some (decide (p/\q)):=by
 by_cases hp:p<;>by_cases hq:q<;>simp [hp,hq]
theorem Zqg{α:Type}{b:List α}{i:Nat}{x:α}(h:b[i]?=some x):set? b (i:Int) x=some b:=by
 obtain⟨hi,he⟩:=List.getElem?_eq_some_iff.1 h
 rw [Za0j b i x hi]
 congr 1
 subst he
 exact List.set_getElem_self hi
theorem Zs7{α:Type}{b:List α}{i k:Nat}{x:α}(h:b[i]?=some x)(hb:b.length*k<=140737488351232)(hk:0 < k):app? k (b.take i) [x]=some (b.take (i+1)):=by
 obtain⟨hi,he⟩:=List.getElem?_eq_some_iff.1 h
 have hl:(b.take i).length=i:=by simp;omega
 rw [Zaen (by
  rw [hl]
  have:(i+1)*k<=b.length*k:=Nat.mul_le_mul_right _ (by omega)
  simp only [List.length_cons,List.length_nil,Nat.zero_add]
  omega) hk]
 congr 1
 rw [List.take_add_one,h];rfl
theorem Z2z(x y:A6 Int):Z2 (cA6 (cI .i64) x) (cA6 (cI .i64) y)=decide (x=y):=Zha (Zazp (Zi0 .i64)) x y
theorem mem_cons'{α:Type}{P:α->Prop}{a:α}{l:List α}(h:P a)(g:∀ x,x∈l->P x):∀ x,x∈a::l->P x:=fun x hx=>by
 rcases List.mem_cons.1 hx with h' | h'
 .rw [h'];exact h
 .exact g x h'
theorem SzL.nt{k:Nat}{xs:List (List UInt8)}(h:SzL k SzN xs):SzL k SzT xs:=⟨h.1,fun x hx=>SzN.t (h.2 x hx)⟩
theorem SzL.nil{α:Type}{k:Nat}{P:α->Prop}:SzL k P ([]:List α):=⟨by simp,fun x h=>by cases h⟩
theorem SzL.app{α:Type}{k:Nat}{P:α->Prop}{a b z:List α}(h:z=a++b)(hl:z.length*k<=140737488351232)(ha:∀ x,x∈a->P x)(hb:∀ x,x∈b->P x):SzL k P z:=⟨hl,fun x hx=>by
 subst h
 rcases List.mem_append.1 hx with h | h
 .exact ha x h
 .exact hb x h⟩
theorem Zij{α:Type} [DecidableEq α] {a b:List α} (h:a.length≠b.length):decide (a=b)=false:=decide_eq_false (fun e=>h (by rw [e]))
theorem Zh4{α β:Type}(a:List α)(b:List β):((a.length:Int) != (b.length:Int))=decide (a.length≠b.length):=by
 rw [Zasc,decide_eq_decide];omega
theorem Zazq{S R α:Type} [DecidableEq α] {step:S->Option (S ⊕ R)} {st:Nat->S} {bad:R} (a b:List α) (hl:a.length=b.length)
 (h:∀ i x y,a[i]?=some x->b[i]?=some y->step (st i)=some (bif decide (x=y) then .inl (st (i+1)) else .inr bad)) :
 Za6 step (st 0)=bif decide (a=b) then Za6 step (st a.length) else some bad:=by
 have hs:=scan (st:=st) (step:=step) (bad:=bad) a.length (fun i=>decide (a[i]?=b[i]?)) (fun i hi=>by
  have e1:=List.getElem?_eq_getElem hi
  have e2:=List.getElem?_eq_getElem (show i < b.length by omega)
  rw [h i _ _ e1 e2,e1,e2]
  simp only [Option.some.injEq])
 rw [hs,Zamx a b hl]
theorem Zds{S R α:Type} [DecidableEq α] {step:S->Option (S ⊕ R)} {st:Nat->S} {bad:R} (a b:List α) (hl:a.length=b.length)
 (h:∀ i x y,a[i]?=some x->b[i]?=some y->x∈a->step (st i)=some (bif decide (x=y) then .inl (st (i+1)) else .inr bad)) :
 Za6 step (st 0)=bif decide (a=b) then Za6 step (st a.length) else some bad:=
 Zazq a b hl fun i x y hx hy=>h i x y hx hy (List.mem_of_getElem? hx)
end Go.PW
namespace Go.PW
theorem Zayo{α:Type}{l:List α}{v w:Int}{k:Nat}{x y:α}(h0:0<=v)(hw:w=v+1)(hk:(k:Int) < w)(hy:l[k]?=some y)(hx:l[v.toNat]?=some x):(k:Int) < v\/y=x:=by
 by_cases h:(k:Int) < v
 .exact .inl h
 .right
  have:k=v.toNat:=by omega
  subst this
  exact Option.some.inj (hy.symm.trans hx)
def DI{α:Type}(b v:List α)(p:α->Bool)(i j:Int):Prop:=v.length=b.length/\0<=i/\i<=j/\v.take i.toNat=(b.take j.toNat).filter p/\v.drop j.toNat=b.drop j.toNat
theorem DI.at{α:Type}{b v:List α}{p:α->Bool}{i j:Int}{x:α}(h:DI b v p i j)(hx:v[j.toNat]?=some x):b[j.toNat]?=some x:=by
 have:(v.drop j.toNat)[0]?=(b.drop j.toNat)[0]?:=by rw [h.2.2.2.2]
 simpa [List.getElem?_drop,hx] using this.symm
theorem Tot.we{α:Type}{o:Option α}{P:α->Prop}(h:Tot o P):Tot o fun a=>P a/\o = .some a:=by
 obtain⟨a,h1,h2⟩:=h
 exact⟨a,h1,h2,h1⟩
end Go.PW
namespace Go.PW
open Go.RowKit
inductive LT (S R:Type):Type 1 where
 | ret (r:R) (ds:List Orc)
 | go (s:S) (ds:List Orc)
 | jn (k:Nat) (s:S) (ds:List Orc) (t:LT S R)
 | br (b:Bool) (t e:LT S R)
 | cs (b:Bool) (t e:LT S R)
 | op {α:Type} (o:Option α) (xs:α->List Orc) (fs gs:α->List Prop) (h:∀ x,o=some x->Zaj (fs x)/\Zaj (gs x)) (k:α->LT S R)
 | ev (xs:List Orc) (fs:List Prop) (h:Zaj fs) (t:LT S R)
 | us (ns:List Nat) (t:LT S R)
 | kn (ns:List Nat) (t:LT S R)
 | kg (n:Nat) (t:LT S R)
 | no
def LT.den{S R:Type}:LT S R->Option (S ⊕ R)
 | .ret r _=>some (.inr r)
 | .go s _=>some (.inl s)
 | .jn _ _ _ t=>t.den
 | .br b t e=>bif b then t.den else e.den
 | .cs b t e=>bif b then t.den else e.den
 | .op o _ _ _ _ k=>o.bind fun x=>(k x).den
 | .ev _ _ _ t=>t.den
 | .us _ t=>t.den
 | .kn _ t=>t.den
 | .kg _ t=>t.den
 | .no=>none
inductive E:Type 2 where
 | done
 | fail
 | eq {α:Type} (a b:α) (r:E)
 | teq {α:Type 1} (a b:α) (r:E)
 | two (x y:E)
 | all {α:Type} (k:α->E)
inductive XE:Type 2 where
 | done
 | bad (b:Bool)
 | eq {α:Type} (a:α) (r:XE)
 | teq {α:Type 1} (a:α) (r:XE)
 | two (x y:XE)
 | all {α:Type} (k:α->XE)
noncomputable def E.l(e:E):XE:=E.rec (motive:=fun _=>XE) .done (.bad true) (fun a _ _ r => .eq a r) (fun a _ _ r => .teq a r) (fun _ _ x y => .two x y) (fun _ k => .all k) e
noncomputable def E.r(e:E):XE:=E.rec (motive:=fun _=>XE) .done (.bad false) (fun _ b _ r => .eq b r) (fun _ b _ r => .teq b r) (fun _ _ x y => .two x y) (fun _ k => .all k) e
def E.ok:E->Prop
 | .done=>True
 | .fail=>False
 | .eq a b r=>a=b/\r.ok
 | .teq a b r=>a=b/\r.ok
 | .two x y=>x.ok/\y.ok
 | .all k=>∀ x,(k x).ok
theorem E.sound:∀ e:E,e.l=e.r->e.ok
 | .done,_=>trivial
 | .fail,h=>by cases h
 | .eq a b r,h=>by
  have h:XE.eq a r.l=XE.eq b r.r:=h
  simp only [XE.eq.injEq,heq_eq_eq,true_and] at h
  exact⟨h.1,E.sound r h.2⟩
 | .teq a b r,h=>by
  have h:XE.teq a r.l=XE.teq b r.r:=h
  simp only [XE.teq.injEq,heq_eq_eq,true_and] at h
  exact⟨h.1,E.sound r h.2⟩
 | .two x y,h=>by
  have h:XE.two x.l y.l=XE.two x.r y.r:=h
  simp only [XE.two.injEq] at h
  exact⟨E.sound x h.1,E.sound y h.2⟩
 | .all k,h=>by
  have h:XE.all (fun x=>(k x).l)=XE.all (fun x=>(k x).r):=h
  simp only [XE.all.injEq,heq_eq_eq,true_and] at h
  exact fun x=>E.sound (k x) (congrFun h x)
def cds:List Prop->List Prop->(List Prop->E)->E
 | [],fs,k=>k fs
 | p::ps,f::fs,k => .eq p f (cds ps fs k)
 | _::_,[],_ => .fail
theorem Zut:∀ {ps fs:List Prop} {k:List Prop->E},(cds ps fs k).ok->Zaj fs->∃ fs',Zaj ps/\Zaj fs'/\(k fs').ok
 | [],fs,k,h,hf=>⟨fs,trivial,hf,h⟩
 | p::ps,f::fs,k,h,hf=>by
  obtain⟨rfl,h⟩:=h
  obtain⟨fs',h1,h2,h3⟩:=Zut h hf.2
  exact⟨fs',⟨hf.1,h1⟩,h2,h3⟩
 | _::_,[],_,h,_=>h.elim
inductive Sg where
 | cnd (e:Bool) (a b:Code) (K:List Kf)
 | at_ (g:Cfg)
abbrev Esg:=Option (List Prop×List Orc×Sg×St)
def Zam0(ps:List Prop):Esg->Esg
 | some (qs,xs,g,st)=>some (ps++qs,xs,g,st)
 | none=>none
def Zms(P:Program)(T:TS):Nat->Option Code->List Kf->List Orc->Option Nat->St->Esg
 | 0,_,_,_,_,_=>none
 | n+1,none,K,xs,sp,st=>
  match K with
  | []=>some ([],xs,.at_ (.done .normal),st)
  | .seq c::K=>
   match sp,xs with
   | some 0,[]=>some ([],xs,.at_ (.code c K),st)
   | some (k+1),[]=>Zms P T n (some c) K xs (some k) st
   | sp,xs=>Zms P T n (some c) K xs sp st
  | .blk _::K=>Zms P T n none K xs sp st
  | .scp::K=>Zms P T n none K xs sp st
  | .loop c::K=>some ([],xs,.at_ (.head c K),st)
 | n+1,some c,K,xs,sp,st=>
  match c with
  | .skip=>Zms P T n none K xs sp st
  | .label _=>Zms P T n none K xs sp st
  | .region id ops draw=>
   match Zab6 P T id ops draw xs st with
   | some (ps,xs',st')=>Zam0 ps (Zms P T n none K xs' sp st')
   | none=>none
  | .seq a b=>Zms P T n (some a) (.seq b::K) xs sp st
  | .cond (.tmp t) a b=>
   match get st.tm t with
   | some (.t (.bool e))=>some ([],xs,.cnd e a b K,st)
   | _=>none
  | .cond (.const (.bool v)) a b=>Zms P T n (some (bif v then a else b)) K xs sp st
  | .block id body=>Zms P T n (some body) (.blk id::K) xs sp st
  | .loop body=>some ([],xs,.at_ (.head body K),st)
  | .scope body=>Zms P T n (some body) (.scp::K) xs sp st
  | .exit id=>
   match Zup id K with
   | some K'=>Zms P T n none K' xs sp st
   | none=>none
  | .ret=>some ([],xs,.at_ (.done .ret),st)
  | _=>none
def seg(P:Program)(T:TS)(g:Cfg)(xs:List Orc)(sp:Option Nat)(st:St):Esg:=
 match g with
 | .code c K=>Zms P T 400 (some c) K xs sp st
 | .head c K=>Zms P T 400 (some c) (.loop c::K) xs sp st
 | .done _=>none
section
variable {P:Program} {T:TS} {R:Exit->St->Prop}
theorem Zatm{qs ps:List Prop}{xs:List Orc}{r:Esg}{g:Sg}{st:St}(h:Zam0 qs r=some (ps,xs,g,st)):∃ ps',ps=qs++ps'/\r=some (ps',xs,g,st):=by
 unfold Zam0 at h
 split at h
 .cases h;exact⟨_,rfl,rfl⟩
 .cases h
def Sg.holds(P:Program)(R:Exit->St->Prop)(st:St):Sg->Prop
 | .cnd e a b K=>PW P (bif e then a else b) (post P K R) st
 | .at_ g=>g.holds P R st
theorem Zi5(hm:P.follows .mixedOrders=true)(hT:TOK P T):∀ (n:Nat) (oc:Option Code) (K:List Kf) (xs:List Orc) (sp:Option Nat) (st:St) {xs':List Orc} {st':St} {g:Sg} {ps:List Prop},
 Zms P T n oc K xs sp st=some (ps,xs',g,st')->Zaj ps->g.holds P (Zj2 R) st' ->
  match oc with
  | some c=>PW P c (post P K (Zj2 R)) st
  | none=>post P K (Zj2 R) .normal st
 | 0,oc,K,xs,sp,st,xs',st',g,ps,h,_,_=>by simp [Zms] at h
 | n+1,none,K,xs,sp,st,xs',st',g,ps,h,hc,hg=>by
  simp only [Zms] at h
  simp only
  split at h
  .cases h;exact hg
  .simp only [post,Zxw]
   split at h
   .cases h;exact hg
   .exact Zi5 hm hT n (some _) _ _ _ _ h hc hg
   .exact Zi5 hm hT n (some _) _ _ _ _ h hc hg
  .simp only [post,Zxp]
   exact Zi5 hm hT n none _ _ _ _ h hc hg
  .simp only [post,NoGo]
   exact Zi5 hm hT n none _ _ _ _ h hc hg
  .cases h;simp only [post,Zxw];exact hg
 | n+1,some c,K,xs,sp,st,xs',st',g,ps,h,hc,hg=>by
  simp only [Zms] at h
  simp only
  split at h
  .exact PW.skip (Zi5 hm hT n none _ _ _ _ h hc hg)
  .exact PW.label (Zi5 hm hT n none _ _ _ _ h hc hg)
  .split at h
   .rename_i ps1 xs1 st1 h1
    obtain⟨ps2,rfl,h2⟩:=Zatm h
    obtain⟨c1,c2⟩:=Zw.1 hc
    exact Zaqr hm hT h1 c1 (Zi5 hm hT n none _ _ _ _ h2 c2 hg)
   .cases h
  .exact PW.seq (by
    have:=Zi5 hm hT n (some _) _ _ _ _ h hc hg
    simpa only [post] using this)
  .split at h
   .rename_i e he
    cases h
    have hg:PW P (bif e then _ else _) (post P K (Zj2 R)) st:=hg
    refine PW.cond rfl he (fun hb=>?_) (fun hb=>?_)
    .subst hb;exact hg
    .subst hb;exact hg
   .cases h
  .rename_i v a b
   have:=Zi5 hm hT n (some _) _ _ _ _ h hc hg
   exact PW.condConst (fun hb=>by subst hb;exact this) (fun hb=>by subst hb;exact this)
  .exact PW.block (by
    have:=Zi5 hm hT n (some _) _ _ _ _ h hc hg
    simpa only [post] using this)
  .cases h;exact PW.loopHead hg
  .exact PW.scope (by
    have:=Zi5 hm hT n (some _) _ _ _ _ h hc hg
    simpa only [post] using this)
  .split at h
   .rename_i K' hu
    exact PW.exit (Zuq hu (Zi5 hm hT n none _ _ _ _ h hc hg))
   .cases h
  .cases h
   obtain⟨s2,hw2,hr⟩:=hg
   exact PW.ret (Z6v ⟨s2,hw2,hr⟩)
  .cases h
theorem Zaes(hm:P.follows .mixedOrders=true)(hT:TOK P T){g:Cfg}{xs xs':List Orc}{sp:Option Nat}{st st':St}{z:Sg}{ps:List Prop}(h:seg P T g xs sp st=some (ps,xs',z,st'))(hc:Zaj ps)(hg:z.holds P (Zj2 R) st'):g.holds P (Zj2 R) st:=by
 unfold seg at h
 split at h
 .exact Zi5 hm hT _ (some _) _ _ _ _ h hc hg
 .have:=Zi5 hm hT _ (some _) _ _ _ _ h hc hg
  exact PWL.round (by simpa only [post] using this)
 .cases h
theorem Cfg.weaken{g:Cfg}{st st':St}(hw:Wk st st')(h:g.holds P (Zj2 R) st'):g.holds P (Zj2 R) st:=by
 cases g with
 | code c K=>exact PW.weaken hw h
 | head c K=>exact Zab7 hw h
 | done e=>obtain⟨s,h1,h2⟩:=h;exact⟨s,hw.trans h1,h2⟩
end
structure LF (S R:Type) where
 f:Nat
 rs:List RV
 own:Bool
 dirs:S->List Nat
 stf:S->PW.St
 sr:R->List (Nat×Blk)
 res:R->PV
 body:S->LT S R
section
variable {S R:Type}
def Z6z(P:Program)(f:Nat):Code:=((P.funcs[f]?).bind (·.body)).getD .skip
def LF.cfg(F:LF S R)(P:Program)(s:S):Cfg:=(nav (F.dirs s) (Z6z P F.f) []).getD (.done .normal)
noncomputable def LF.step(F:LF S R)(s:S):Option (S ⊕ R):=(F.body s).den
noncomputable def LF.run(F:LF S R)(t:LT S R):Option R:=t.den.bind (Znd F.step)
def Z4g{α:Type}:List (Nat×α)->List Nat
 | []=>[]
 | (k,_)::r=>k::Z4g r
def kgo(P:Program)(T:TS)(kn:List (Bool×Bool)):List Nat->Cfg->List Orc->List Prop->PW.St->(Cfg->List Orc->List Prop->PW.St->E)->E
 | [],g,xs,fs,st,k=>k g xs fs st
 | n::ns,g,xs,fs,st,k=>
  match seg P T g xs none st with
  | some (ps,xs',.cnd c a b K,st')=>cds ps fs fun fs'=>
   match n with
   | 0=>bif c then kgo P T kn ns (.code a K) xs' fs' st' k else kgo P T kn ns (.code b K) xs' fs' st' k
   | i+1=>
    match kn[i]? with
    | some (d,v) => .eq c d (bif v then kgo P T kn ns (.code a K) xs' fs' st' k else kgo P T kn ns (.code b K) xs' fs' st' k)
    | none => .fail
  | _ => .fail
def endE(P:Program)(T:TS)(sp:Option Nat)(g:Cfg)(xs:List Orc)(fs:List Prop)(st:PW.St)(ds:List Orc)(g1:Cfg)(st1:PW.St)(rest:E):E:=
 match seg P T g xs sp st with
 | some (ps,[],.at_ g',st')=>cds ps fs fun fs'=>
  match Zll st'.tm (Z4g st1.tm) with
  | some tm=>
   match Zbr ds ⟨st'.n,tm,st'.σ⟩ with
   | some (qs,[],st2)=>cds qs fs' fun _=>
    match Zll st2.tm (Z4g st1.tm),Zll st2.σ (Z4g st1.σ) with
    | some tm2,some σ => .eq (g',st2.n,tm2,σ) (g1,st1.n,st1.tm,st1.σ) rest
    | _,_ => .fail
   | _ => .fail
  | none => .fail
 | _ => .fail
def Zato:Exit->Bool
 | .ret=>true
 | .normal=>true
 | _=>false
def retE(P:Program)(T:TS)(F:LF S R)(g:Cfg)(xs:List Orc)(fs:List Prop)(st:PW.St)(ds:List Orc)(r:R):E:=
 match seg P T g xs none st with
 | some (ps,[],.at_ (.done e),st')=>bif Zato e then cds ps fs fun fs'=>
  match Zbr ds st' with
  | some (qs,[],st2)=>cds qs fs' fun fs2=>
   bif F.own then
    match Zamu F.rs (Z4g (F.sr r)) st2 with
    | some (σ,p) => .eq (σ,p) (F.sr r,F.res r) .done
    | none => .fail
   else
    match Zatk F.rs st2 with
    | some (q2,p)=>cds q2 fs2 fun _ => .eq (([]:List (Nat×Blk)),p) (F.sr r,F.res r) .done
    | none => .fail
  | _ => .fail
  else .fail
 | _ => .fail
def brE(P:Program)(T:TS)(g:Cfg)(xs:List Orc)(fs:List Prop)(st:PW.St)(b:Bool)(x y:Cfg->List Orc->List Prop->PW.St->E):E:=
 match seg P T g xs none st with
 | some (ps,xs',.cnd c A B K,st')=>cds ps fs fun fs' => .eq c b (.two (x (.code A K) xs' fs' st') (y (.code B K) xs' fs' st'))
 | _ => .fail
structure Kn where
 bs:List (Bool×Bool)
 gs:List Prop
structure Kn.OK (k:Kn):Prop where
 b:∀ p∈k.bs,p.1=p.2
 g:∀ p∈k.gs,p
theorem Zam1:∀ {ps:List Prop},Zaj ps->∀ p∈ps,p
 | p::ps,h,q,hq=>by
  rcases List.mem_cons.1 hq with rfl | hq
  .exact h.1
  .exact Zam1 h.2 q hq
def Zaet(gs:List Prop):List Nat->Option (List Prop)
 | []=>some []
 | n::ns=>
  match gs[n]?,Zaet gs ns with
  | some p,some ps=>some (p::ps)
  | _,_=>none
theorem Zam2{gs:List Prop}(h:∀ p∈gs,p):∀ {ns:List Nat} {ps:List Prop},Zaet gs ns=some ps->Zaj ps
 | [],ps,hp=>by cases hp;trivial
 | n::ns,ps,hp=>by
  simp only [Zaet] at hp
  split at hp
  .rename_i p qs h1 h2
   cases hp
   exact⟨h p (List.mem_of_getElem? h1),Zam2 h h2⟩
  .cases hp
theorem Kn.OK.br{k:Kn}(h:k.OK)(b:Bool):(Kn.mk (k.bs++[(b,b)]) k.gs).OK:=⟨fun p hp=>by
 rcases List.mem_append.1 hp with hp | hp
 .exact h.b p hp
 .rw [List.mem_singleton.1 hp],h.g⟩
theorem Kn.OK.op{k:Kn}(h:k.OK){gs:List Prop}(hg:Zaj gs):(Kn.mk k.bs (k.gs++gs)).OK:=⟨h.b,fun p hp=>by
 rcases List.mem_append.1 hp with hp | hp
 .exact h.g p hp
 .exact Zam1 hg p hp⟩
noncomputable def chk(P:Program)(T:TS)(F:LF S R)(t:LT S R):Cfg->List Orc->List Prop->Kn->PW.St->E:=
 LT.rec (motive:=fun _=>Cfg->List Orc->List Prop->Kn->PW.St->E)
  (fun r ds g xs fs _ st=>retE P T F g xs fs st ds r)
  (fun s ds g xs fs _ st=>endE P T none g xs fs st ds (F.cfg P s) (F.stf s) .done)
  (fun k s ds t _ g xs fs _ st=>endE P T (some k) g xs fs st ds (F.cfg P s) (F.stf s) (.teq t (F.body s) .done))
  (fun b _ _ x y g xs fs kn st=>brE P T g xs fs st b (fun g xs fs st=>x g xs fs ⟨kn.bs++[(b,true)],kn.gs⟩ st) (fun g xs fs st=>y g xs fs ⟨kn.bs++[(b,false)],kn.gs⟩ st))
  (fun b _ _ x y g xs fs kn st => .two (x g xs fs ⟨kn.bs++[(b,true)],kn.gs⟩ st) (y g xs fs ⟨kn.bs++[(b,false)],kn.gs⟩ st))
  (fun _ X Fs Gs _ _ k g xs fs kn st => .all fun x=>k x g (xs++X x) (fs++Fs x) ⟨kn.bs,kn.gs++Gs x⟩ st)
  (fun X Fs _ _ k g xs fs kn st=>k g (xs++X) (fs++Fs) kn st)
  (fun ns _ k g xs fs kn st=>match Zaet kn.gs ns with | some qs=>k g xs (fs++qs) kn st | none => .fail)
  (fun ns _ k g xs fs kn st=>kgo P T kn.bs ns g xs fs st fun g xs fs st=>k g xs fs kn st)
  (fun n _ k g xs fs kn st=>match kn.bs[n]? with | some (d,v)=>k g (xs++[.br v]) (fs++[d=v]) kn st | none => .fail)
  (fun _ _ _ _ _ => .done)
  t
section
variable {P:Program} {T:TS} {Q:Exit->PW.St->Prop}
theorem Z60(hm:P.follows .mixedOrders=true)(hT:TOK P T){kn:List (Bool×Bool)}(hk:∀ p∈kn,p.1=p.2){k:Cfg->List Orc->List Prop->PW.St->E}(H:∀ g xs fs st,(k g xs fs st).ok->Zaj fs->g.holds P (Zj2 Q) st) :
 ∀ (ns:List Nat) (g:Cfg) (xs:List Orc) (fs:List Prop) (st:PW.St),(kgo P T kn ns g xs fs st k).ok->Zaj fs->g.holds P (Zj2 Q) st
 | [],g,xs,fs,st,h,hf=>H g xs fs st h hf
 | n::ns,g,xs,fs,st,h,hf=>by
  simp only [kgo] at h
  split at h
  .rename_i ps xs' c a b K st' hs
   obtain⟨fs',h1,h2,h3⟩:=Zut h hf
   refine Zaes hm hT hs h1 ?_
   show PW P (bif c then a else b) (post P K (Zj2 Q)) st'
   split at h3
   .cases c with
    | true=>exact Z60 hm hT hk H ns _ _ _ _ h3 h2
    | false=>exact Z60 hm hT hk H ns _ _ _ _ h3 h2
   .split at h3
    .rename_i d v hd
     obtain⟨rfl,h3⟩:=h3
     have:c=v:=hk _ (List.mem_of_getElem? hd)
     subst this
     cases c with
     | true=>exact Z60 hm hT hk H ns _ _ _ _ h3 h2
     | false=>exact Z60 hm hT hk H ns _ _ _ _ h3 h2
    .exact h3.elim
  .exact h.elim
theorem Zasd(hm:P.follows .mixedOrders=true)(hT:TOK P T){sp:Option Nat}{g g1:Cfg}{xs:List Orc}{fs:List Prop}{st st1:PW.St}{ds:List Orc}{rest:E}(h:(endE P T sp g xs fs st ds g1 st1 rest).ok)(hf:Zaj fs):(g1.holds P (Zj2 Q) st1->g.holds P (Zj2 Q) st)/\rest.ok:=by
 unfold endE at h
 split at h
 .rename_i ps g' st' hs
  obtain⟨fs',h1,h2,h3⟩:=Zut h hf
  split at h3
  .rename_i tm ht
   split at h3
   .rename_i qs st2 hd
    obtain⟨fs2,h4,_,h5⟩:=Zut h3 h2
    split at h5
    .rename_i tm2 σ ht2 hσ
     obtain⟨h6,h7⟩:=h5
     refine⟨fun hg=>Zaes hm hT hs h1 (show g'.holds P (Zj2 Q) st' from ?_),h7⟩
     simp only [Prod.mk.injEq] at h6
     obtain⟨rfl,e1,e2,e3⟩:=h6
     have hp:Zll st'.σ (Z4g st'.σ)=Zll st'.σ (Z4g st'.σ):=rfl
     have w1:Wk st' ⟨st'.n,tm,st'.σ⟩:=fun _ _ _ ⟨β,h⟩=>⟨β,h.sub (Nat.le_refl _) (fun i p hp=>⟨Zjh ht i p hp,(h.tm i p (Zjh ht i p hp)).1⟩) (fun l o ho=>ho)⟩
     have w2:=Zcj _ _ hd h4
     have w3:Wk st2 ⟨st2.n,tm2,σ⟩:=fun _ _ _ ⟨β,h⟩=>⟨β,h.sub (Nat.le_refl _) (fun i p hp=>⟨Zjh ht2 i p hp,(h.tm i p (Zjh ht2 i p hp)).1⟩) (fun l o ho=>Zjh hσ l o ho)⟩
     have e:(⟨st2.n,tm2,σ⟩:PW.St)=st1:=by rw [e1,e2,e3]
     exact Cfg.weaken ((w1.trans w2).trans w3) (e▸hg)
    .exact h5.elim
   .exact h3.elim
  .exact h3.elim
 .exact h.elim
theorem Zazr(hm:P.follows .mixedOrders=true)(hT:TOK P T){F:LF S R}{g:Cfg}{xs:List Orc}{fs:List Prop}{st:PW.St}{ds:List Orc}{r:R}(h:(retE P T F g xs fs st ds r).ok)(hf:Zaj fs):g.holds P (Zj2 (Zxy F.rs (F.sr r) (F.res r))) st:=by
 unfold retE at h
 split at h
 .rename_i ps e st' hs
  have he:Zato e=true:=by cases hb:Zato e with | true=>rfl | false=>rw [hb] at h;exact h.elim
  rw [he,cond_true] at h
  have hR:∀ st2,Zad0 F.rs (F.sr r) (F.res r) st2->Zxy F.rs (F.sr r) (F.res r) e st2:=fun st2 h=>by
   cases e<;>first | exact h | cases he
  obtain⟨fs',h1,h2,h3⟩:=Zut h hf
  split at h3
  .rename_i qs st2 hd
   obtain⟨fs2,h4,h6,h5⟩:=Zut h3 h2
   refine Zaes hm hT hs h1 (show Zj2 (Zxy F.rs (F.sr r) (F.res r)) e st' from ?_)
   refine⟨st2,Zcj _ _ hd h4,hR st2 ?_⟩
   cases ho:F.own with
   | true=>
    simp only [ho,cond_true] at h5
    split at h5
    .rename_i σ p hr
     have:=Zavp hr
     obtain⟨h7,_⟩:=h5
     simp only [Prod.mk.injEq] at h7
     rw [h7.1,h7.2] at this
     exact this
    .exact h5.elim
   | false=>
    simp only [ho,cond_false] at h5
    split at h5
    .rename_i q2 p hr
     obtain⟨_,h7,_,h8⟩:=Zut h5 h6
     have:=Zaxx hr h7
     obtain⟨h9,_⟩:=h8
     simp only [Prod.mk.injEq] at h9
     rw [h9.1,h9.2] at this
     exact this
    .exact h5.elim
  .exact h3.elim
 .exact h.elim
theorem Zavw{ps:List Prop}{p:Prop}(h:Zaj ps)(hp:p):Zaj (ps++[p]):=Zw.2 ⟨h,hp,trivial⟩
theorem Zavx(hm:P.follows .mixedOrders=true)(hT:TOK P T)(F:LF S R)(J:∀ s,(chk P T F (F.body s) (F.cfg P s) [] [] ⟨[],[]⟩ (F.stf s)).ok){r:R} :
 ∀ (t:LT S R) (g:Cfg) (xs:List Orc) (fs:List Prop) (kn:Kn) (st:PW.St) (y:S ⊕ R),(chk P T F t g xs fs kn st).ok->Zaj fs->kn.OK->t.den=some y ->
  Ok P F.rs F.sr F.res (F.cfg P) F.stf r y->g.holds P (Zj2 (Zxy F.rs (F.sr r) (F.res r))) st:=by
 intro t
 induction t with
 | ret r' ds=>
  intro g xs fs kn st y h hf hk hd hy
  cases hd
  have hy:r'=r:=hy
  subst hy
  exact Zazr hm hT h hf
 | go s ds=>
  intro g xs fs kn st y h hf hk hd hy
  cases hd
  exact (Zasd hm hT h hf).1 hy
 | jn k s ds t ih=>
  intro g xs fs kn st y h hf hk hd hy
  have h2:=Zasd (Q:=Zxy F.rs (F.sr r) (F.res r)) hm hT h hf
  refine h2.1 (ih _ [] [] ⟨[],[]⟩ _ y ?_ trivial ⟨(fun _ hp=>nomatch hp),(fun _ hp=>nomatch hp)⟩ hd hy)
  rw [h2.2.1]
  exact J s
 | br b t e ih1 ih2=>
  intro g xs fs kn st y h hf hk hd hy
  have h:(brE P T g xs fs st b (fun g xs fs st=>chk P T F t g xs fs ⟨kn.bs++[(b,true)],kn.gs⟩ st) (fun g xs fs st=>chk P T F e g xs fs ⟨kn.bs++[(b,false)],kn.gs⟩ st)).ok:=h
  unfold brE at h
  split at h
  .rename_i ps xs' c A B K st' hs
   obtain⟨fs',h1,h2,h3⟩:=Zut h hf
   obtain⟨rfl,h4,h5⟩:=h3
   refine Zaes hm hT hs h1 ?_
   show PW P (bif c then A else B) (post P K _) st'
   cases c with
   | true=>exact ih1 (.code A K) xs' fs' _ st' y h4 h2 (hk.br true) hd hy
   | false=>exact ih2 (.code B K) xs' fs' _ st' y h5 h2 (hk.br false) hd hy
  .exact h.elim
 | cs b t e ih1 ih2=>
  intro g xs fs kn st y h hf hk hd hy
  have h:(chk P T F t g xs fs ⟨kn.bs++[(b,true)],kn.gs⟩ st).ok/\(chk P T F e g xs fs ⟨kn.bs++[(b,false)],kn.gs⟩ st).ok:=h
  cases b with
  | true=>exact ih1 g xs fs _ st y h.1 hf (hk.br true) hd hy
  | false=>exact ih2 g xs fs _ st y h.2 hf (hk.br false) hd hy
 | op o X Fs Gs hx k ih=>
  intro g xs fs kn st y h hf hk hd hy
  have h:∀ x,(chk P T F (k x) g (xs++X x) (fs++Fs x) ⟨kn.bs,kn.gs++Gs x⟩ st).ok:=h
  cases o with
  | none=>cases hd
  | some x=>exact ih x g _ _ _ st y (h x) (Zw.2 ⟨hf,(hx x rfl).1⟩) (hk.op (hx x rfl).2) hd hy
 | ev X Fs hx t ih=>
  intro g xs fs kn st y h hf hk hd hy
  exact ih g _ _ kn st y h (Zw.2 ⟨hf,hx⟩) hk hd hy
 | us ns t ih=>
  intro g xs fs kn st y h hf hk hd hy
  have h:E.ok (match Zaet kn.gs ns with | some qs=>chk P T F t g xs (fs++qs) kn st | none => .fail):=h
  split at h
  .rename_i qs hq
   exact ih g _ _ kn st y h (Zw.2 ⟨hf,Zam2 hk.g hq⟩) hk hd hy
  .exact h.elim
 | kn ns t ih=>
  intro g xs fs kn st y h hf hk hd hy
  exact Z60 hm hT hk.b (fun g xs fs st h hf=>ih g xs fs kn st y h hf hk hd hy) ns g xs fs st h hf
 | kg n t ih=>
  intro g xs fs kn st y h hf hk hd hy
  have h:E.ok (match kn.bs[n]? with | some (d,v)=>chk P T F t g (xs++[Orc.br v]) (fs++[d=v]) kn st | none => .fail):=h
  split at h
  .rename_i d v hv
   exact ih g _ _ kn st y h (Zavw hf (hk.b _ (List.mem_of_getElem? hv))) hk hd hy
  .exact h.elim
 | no=>
  intro g xs fs kn st y h hf hk hd hy
  cases hd
end
end
end Go.PW
