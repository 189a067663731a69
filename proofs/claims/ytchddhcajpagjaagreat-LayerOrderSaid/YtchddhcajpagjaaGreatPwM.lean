import Derived.Test.YtchddhcajpagjaaGreatPwLq
set_option linter.all false
namespace Go.PW
open Go.RowKit
inductive TK where
 | bool
 | int (k:IntKind)
 | str
 | slice (e:Nat)
 | struct (fs:List (Nat×Nat))
 | arr (n e:Nat)
 | map (k e:Nat)
 | ptr
 | other
structure Zqf where
 agg:Bool
 size:Nat
 bytes:Nat
 zero:Option (List PV)
 k:TK
 flat:Option (Nat×List LK)
abbrev TS:=List (Nat×Zqf)
def TKOK(P:Program)(t:Nat):TK->Prop
 | .bool=>P.underlying t=some .bool
 | .int k=>P.underlying t=some (.int k)
 | .str=>P.underlying t=some .string
 | .slice e=>P.underlying t=some (.slice e)
 | .struct fs=>∃ fs',P.underlying t=some (.struct fs')/\fs'.toList.map (fun f=>(f.offset,f.type))=fs
 | .arr n e=>P.underlying t=some (.array n e)
 | .map k e=>P.underlying t=some (.map k e)
 | .ptr=>P.underlying t=some (.pointer (P.pointee t))
 | .other=>True
structure Zabb (P:Program) (t:Nat) (i:Zqf):Prop where
 ty:TyF P t i.agg i.size
 by_:(P.info? t).map (fun i=>(i.size,i.bytes))=some (i.size,i.bytes)
 z:∀ z,i.zero=some z->Zi6 P t=some z
 k:TKOK P t i.k
 fl:∀ d ks,i.flat=some (d,ks)->d<=10000/\Zjh P d t=some ks/\i.agg=true/\P.eqGuardType P.depth t=false
def TOK(P:Program)(T:TS):Prop:=∀ t i,get T t=some i->Zabb P t i
def TAll(P:Program):TS->Prop
 | []=>True
 | (t,i)::T=>Zabb P t i/\TAll P T
theorem TOK.of_all{P:Program}:∀ {T:TS},TAll P T->TOK P T
 | [],_,t,i,h=>by cases h
 | (u,j)::T,hall,t,i,h=>by
  simp only [get] at h
  cases hb:Nat.beq u t with
  | true=>
   have:u=t:=(Z1 _ _).1 hb
   subst this
   simp only [hb,cond_true,Option.some.injEq] at h
   subst h
   exact hall.1
  | false=>simp only [hb,cond_false] at h;exact TOK.of_all hall.2 t i h
inductive Orc where
 | br (b:Bool)
 | cs (c:List Zf)
 | es (e:List (List Zf))
 | num (n:Int)
 | lab (l:Nat)
 | call (r:PV)
 | nat (n:Nat)
 | byte (b:UInt8)
 | lit
 | frz (l:Nat)
 | pick (ks ls:List Nat)
 | own (t l k:Nat)
 | ahead (d:Nat)
 | relen (l:Nat)
 | cell (d:Nat) (c:List Zf)
 | stop
 | callO (S:Bool) (ls:List Nat) (d:Nat) (fr:List (Nat×Blk)) (r:PV)
 | callU (S:Bool) (ls:List Nat) (d:Nat) (s1:List (Nat×Blk)) (r:PV)
 | relab (l m:Nat)
 | ownc (t j l k:Nat)
 | ownb (b j l k:Nat)
 | nilt (t:Nat)
 | niltc (t j:Nat)
 | niltb (b j:Nat)
 | stopAt (k:Nat)
 | sp (cs:List PV)
 | mp (es:List (Int×List Zf))
 | tomat (l:Nat)
 | callC (l b:Nat)
 | opn (l i:Nat) (e:List Zf)
 | cls (l:Nat) (es:List (List Zf))
abbrev Ev:=Option (List Prop×List Orc×Stp)
def ev0(xs:List Orc)(p:PV):Ev:=some ([],xs,⟨[],p,[]⟩)
def ev1(ps:List Prop)(xs:List Orc)(p:PV):Ev:=some (ps,xs,⟨[],p,[]⟩)
def Zaec(a b:IntKind):Bool:=decide (a=b)
def Za21(op:BinOp)(k k':IntKind)(a b:Int)(xs:List Orc):Ev:=
 match op with
 | .shl=>ev1 [¬ b < 0] xs (.t (.int k (k.wrap (a*2 ^ (min b.toNat k.bits)))))
 | .shr=>ev1 [¬ b < 0] xs (.t (.int k (a.fdiv (2 ^ (min b.toNat k.bits)))))
 | .quo=>bif Zaec k k' then ev1 [b≠0] xs (.t (.int k (k.wrap (a.tdiv b)))) else none
 | .rem=>bif Zaec k k' then ev1 [b≠0] xs (.t (.int k (a.tmod b))) else none
 | _=>bif Zaec k k' then
  match Zaa5 op k a b with
  | some r=>ev0 xs (.t r)
  | none=>none
  else none
def Za22(T:TS)(op:BinOp)(xT:Nat)(px py:PV)(xs:List Orc):Ev:=
 match px,py with
 | .t (.int k a),.t (.int k' b)=>Za21 op k k' a b xs
 | .t (.str a),.t (.str b)=>
  match op with
  | .add=>ev1 [a.length+b.length<=9223372036854775807] xs (.t (.str (a++b)))
  | _=>
   match Zaui op a b with
   | some r=>ev0 xs (.t r)
   | none=>none
 | .t (.bool a),.t (.bool b)=>
  match (get T xT).map (·.k),op with
  | some TK.bool,.eql=>ev0 xs (.t (.bool (a==b)))
  | some TK.bool,.neq=>ev0 xs (.t (.bool (!(a==b))))
  | _,_=>none
 | .agg as,.agg bs=>
  match Znx as,Znx bs,(get T xT).bind (·.flat) with
  | some as,some bs,some (_,ks)=>
   bif fits ks as&&fits ks bs then
    match eqOp op (Zy as bs) with
    | some r=>ev0 xs (.t (.bool r))
    | none=>none
   else none
  | _,_,_=>none
 | _,_=>none
section
variable {P:Program} {T:TS} {o:Oper} {tm:List (Nat×PV)} {Z:List (Nat×Blk)} {xs xs':List Orc} {ps:List Prop} {s:Stp}
theorem Zce{p:PV}(h:ev0 xs p=some (ps,xs',s)):ps=[]/\xs'=xs/\s=⟨[],p,[]⟩:=by
 simp only [ev0,Option.some.injEq,Prod.mk.injEq] at h
 exact⟨h.1.symm,h.2.1.symm,h.2.2.symm⟩
theorem Zd7{qs:List Prop}{p:PV}(h:ev1 qs xs p=some (ps,xs',s)):ps=qs/\xs'=xs/\s=⟨[],p,[]⟩:=by
 simp only [ev1,Option.some.injEq,Prod.mk.injEq] at h
 exact⟨h.1.symm,h.2.1.symm,h.2.2.symm⟩
theorem Za90{op:BinOp}{xT yT:TypeId}{x y:Operand}{k k':IntKind}{a b:Int}(ho:o.op = .binOp op xT x y yT)(hx:Zp tm x=some (.t (.int k a)))(hy:Zp tm y=some (.t (.int k' b)))
 (h:Za21 op k k' a b xs=some (ps,xs',s)) (hc:Zak ps):Zas P o tm Z s.need s.p s.news:=by
 unfold Za21 at h
 split at h
 .obtain⟨rfl,rfl,rfl⟩:=Zd7 h
  exact Zauk ho hx hy (by simp [Zaj8,hc.1])
 .obtain⟨rfl,rfl,rfl⟩:=Zd7 h
  exact Zauk ho hx hy (by simp [Zaj8,hc.1])
 .cases hk:Zaec k k' with
  | false=>simp [hk] at h
  | true=>
   simp only [hk,cond_true] at h
   have:k=k':=of_decide_eq_true hk
   subst this
   obtain⟨rfl,rfl,rfl⟩:=Zd7 h
   exact Zauj ho hx hy (by have:=hc.1;simp [Zaa5,this])
 .cases hk:Zaec k k' with
  | false=>simp [hk] at h
  | true=>
   simp only [hk,cond_true] at h
   have:k=k':=of_decide_eq_true hk
   subst this
   obtain⟨rfl,rfl,rfl⟩:=Zd7 h
   exact Zauj ho hx hy (by have:=hc.1;simp [Zaa5,this])
 .cases hk:Zaec k k' with
  | false=>simp [hk] at h
  | true=>
   simp only [hk,cond_true] at h
   have:k=k':=of_decide_eq_true hk
   subst this
   split at h
   .rename_i r hr
    obtain⟨rfl,rfl,rfl⟩:=Zce h
    exact Zauj ho hx hy hr
   .cases h
theorem Za91(hT:TOK P T){op:BinOp}{xT yT:TypeId}{x y:Operand}{px py:PV}(ho:o.op = .binOp op xT x y yT)(hx:Zp tm x=some px)(hy:Zp tm y=some py)
 (h:Za22 T op xT px py xs=some (ps,xs',s)) (hc:Zak ps):Zas P o tm Z s.need s.p s.news:=by
 unfold Za22 at h
 split at h
 .exact Za90 ho hx hy h hc
 .split at h
  .obtain⟨rfl,rfl,rfl⟩:=Zd7 h
   exact Za5x ho hx hy hc.1
  .split at h
   .rename_i r hr
    obtain⟨rfl,rfl,rfl⟩:=Zce h
    exact Zbf0 ho hx hy hr
   .cases h
 .split at h
  .rename_i hk
   obtain⟨rfl,rfl,rfl⟩:=Zce h
   simp only [Option.map_eq_some_iff] at hk
   obtain⟨i,hi,hik⟩:=hk
   have:=(hT _ _ hi).k
   rw [hik] at this
   exact Zaqs ho this hx hy (.inl ⟨rfl,rfl⟩)
  .rename_i hk
   obtain⟨rfl,rfl,rfl⟩:=Zce h
   simp only [Option.map_eq_some_iff] at hk
   obtain⟨i,hi,hik⟩:=hk
   have:=(hT _ _ hi).k
   rw [hik] at this
   exact Zaqs ho this hx hy (.inr ⟨rfl,rfl⟩)
  .cases h
 .split at h
  .rename_i as bs d ks ha hb hf
   cases hfit:(fits ks as&&fits ks bs) with
   | false=>simp [hfit] at h
   | true=>
    simp only [hfit,cond_true] at h
    simp only [Bool.and_eq_true] at hfit
    split at h
    .rename_i r hr
     obtain⟨rfl,rfl,rfl⟩:=Zce h
     simp only [Option.bind_eq_some_iff] at hf
     obtain⟨i,hi,hf⟩:=hf
     have hok:=hT _ _ hi
     obtain⟨hd,hfl,hag,hgt⟩:=hok.fl _ _ hf
     have e1:=Zpp ha
     have e2:=Zpp hb
     subst e1;subst e2
     obtain⟨dd,hu,hdr⟩:=hok.ty.und
     exact Za85 d ks ho hd hfl ⟨dd,hu,by rw [hdr];exact hag⟩ hgt hx hy hfit.1 hfit.2 hr
    .cases h
  .cases h
 .cases h
theorem TOK.size{t:Nat}{i:Zqf}(hT:TOK P T)(h:get T t=some i):∃ inf,P.info? t=some inf/\inf.size=i.size:=(hT t i h).ty.info
theorem TOK.fieldInfo{t f q:Nat}{i j:Zqf}{fs:List (Nat×Nat)}{fT:Nat}(hT:TOK P T)(h:get T t=some i)(hk:i.k = .struct fs)(hf:fs[f]?=some (q,fT))(hj:get T fT=some j):PW.fieldInfo P t f=some (q,j.size):=by
 have:=(hT t i h).k
 rw [hk] at this
 obtain⟨fs',hu,hfs⟩:=this
 subst hfs
 simp only [List.getElem?_map,Option.map_eq_some_iff] at hf
 obtain⟨fl,hfl,he⟩:=hf
 cases he
 obtain⟨inf,hi,hs⟩:=hT.size hj
 simp only [PW.fieldInfo,hu]
 have:fs'[f]?=some fl:=by simpa using hfl
 simp [this,hi,hs]
theorem TOK.arrInfo{t n e:Nat}{i j:Zqf}(hT:TOK P T)(h:get T t=some i)(hk:i.k = .arr n e)(hj:get T e=some j):PW.arrInfo P t=some (n,j.size):=by
 have:=(hT t i h).k
 rw [hk] at this
 obtain⟨inf,hi,hs⟩:=hT.size hj
 have hu:P.underlying t=some (.array n e):=this
 simp [PW.arrInfo,hu,hi,hs]
theorem TOK.slInfo{t e:Nat}{i j:Zqf}(hT:TOK P T)(h:get T t=some i)(hk:i.k = .slice e)(hj:get T e=some j):PW.slInfo P t=some j.size:=by
 have:=(hT t i h).k
 rw [hk] at this
 obtain⟨inf,hi,hs⟩:=hT.size hj
 have hu:P.underlying t=some (.slice e):=this
 simp [PW.slInfo,hu,hi,hs]
def Zdz(T:TS)(t:Nat):Option (Nat×Zqf):=
 match get T t with
 | some ⟨_,_,_,_,.slice e,_⟩=>(get T e).map fun j=>(e,j)
 | _=>none
theorem Zcn{t e:Nat}{j:Zqf}(h:Zdz T t=some (e,j)):∃ i,get T t=some i/\i.k = .slice e/\get T e=some j:=by
 unfold Zdz at h
 split at h
 .rename_i hi
  simp only [Option.map_eq_some_iff] at h
  obtain⟨j',hj,he⟩:=h
  cases he
  exact⟨_,hi,rfl,hj⟩
 .cases h
def Zaed(T:TS)(t:Nat):Option (Nat×Nat×Zqf):=
 match get T t with
 | some ⟨_,_,_,_,.arr n e,_⟩=>(get T e).map fun j=>(n,e,j)
 | _=>none
theorem Z2j{t n e:Nat}{j:Zqf}(h:Zaed T t=some (n,e,j)):∃ i,get T t=some i/\i.k = .arr n e/\get T e=some j:=by
 unfold Zaed at h
 split at h
 .rename_i hi
  simp only [Option.map_eq_some_iff] at h
  obtain⟨j',hj,he⟩:=h
  cases he
  exact⟨_,hi,rfl,hj⟩
 .cases h
def Z51(T:TS)(t f:Nat):Option (Nat×Zqf):=
 match get T t with
 | some ⟨_,_,_,_,.struct fs,_⟩=>(fs[f]?).bind fun x=>(get T x.2).map fun j=>(x.1,j)
 | _=>none
theorem Z4q{t f q:Nat}{j:Zqf}(h:Z51 T t f=some (q,j)):∃ i fs fT,get T t=some i/\i.k = .struct fs/\fs[f]?=some (q,fT)/\get T fT=some j:=by
 unfold Z51 at h
 split at h
 .rename_i hi
  simp only [Option.bind_eq_some_iff,Option.map_eq_some_iff] at h
  obtain⟨⟨x1,x2⟩,hx,j',hj,he⟩:=h
  cases he
  exact⟨_,_,_,hi,rfl,hx,hj⟩
 .cases h
theorem Zzj{t e:Nat}{j:Zqf}{z:List PV}(hT:TOK P T)(h:Zdz T t=some (e,j))(hz:j.zero=some z)(hpos:Nat.blt 0 j.size=true)(hl:Nat.beq z.length j.size=true):ElF P t e j.size j.bytes z:=by
 obtain⟨i,hi,hk,hj⟩:=Zcn h
 have h1:=(hT t i hi).k
 rw [hk] at h1
 exact { und:=h1,info:=(hT e j hj).by_,z:=(hT e j hj).z z hz,pos:=(by rw [Nat.blt_eq] at hpos;exact hpos),len:=(Z1 _ _).1 hl }
end
end Go.PW
