import Derived.Test.YtchddhcajpagjaaGreatPwQ
import Derived.Lib.IndexMore
set_option linter.all false
namespace Go.PW
open Go.RowKit
def Zpt{S R:Type}(step:S->Option (S ⊕ R)):Nat->S->Option R
 | 0,_=>none
 | n+1,s=>
  match step s with
  | none=>none
  | some (.inl s')=>Zpt step n s'
  | some (.inr r)=>some r
theorem Z7w{S R:Type}{step:S->Option (S ⊕ R)}:∀ {n m:Nat} {s:S} {r:R},n<=m->Zpt step n s=some r->Zpt step m s=some r
 | 0,m,s,r,_,h=>by cases h
 | n+1,0,s,r,hl,h=>by omega
 | n+1,m+1,s,r,hl,h=>by
  simp only [Zpt] at h ⊢
  split at h
  .cases h
  .exact Z7w O h
  .exact h
open Classical in
noncomputable def Z7x{S R:Type}(step:S->Option (S ⊕ R))(s:S):Option R:=
 if h:∃ r,∃ n,Zpt step n s=some r then some (Classical.choose h) else none
theorem Z7y{S R:Type}{step:S->Option (S ⊕ R)}{s:S}{r:R}:Z7x step s=some r↔∃ n,Zpt step n s=some r:=by
 unfold Z7x
 constructor
 .intro h
  split at h
  .rename_i hx
   cases h
   exact Classical.choose_spec hx
  .cases h
 .rintro ⟨n,hn⟩
  have hx:∃ r,∃ n,Zpt step n s=some r:=⟨r,n,hn⟩
  rw [dif_pos hx]
  obtain⟨m,hm⟩:=Classical.choose_spec hx
  have h1:=Z7w (Nat.le_max_left n m) hn
  have h2:=Z7w (Nat.le_max_right n m) hm
  rw [<- h2,h1]
theorem Za1i{S R:Type}(step:S->Option (S ⊕ R))(s:S):Z7x step s=match step s with
 | none=>none
 | some (.inl s')=>Z7x step s'
 | some (.inr r)=>some r:=by
 apply Option.ext
 intro r
 rw [Z7y]
 constructor
 .rintro ⟨n,hn⟩
  cases n with
  | zero=>cases hn
  | succ n=>
   simp only [Zpt] at hn
   split at hn
   .cases hn
   .exact Z7y.2 ⟨n,hn⟩
   .exact hn
 .intro h
  split at h
  .cases h
  .rename_i s' hs
   obtain⟨n,hn⟩:=Z7y.1 h
   exact⟨n+1,by simp only [Zpt,hs];exact hn⟩
  .rename_i r' hs
   exact⟨1,by simp only [Zpt,hs];exact h⟩
noncomputable def goO{S R:Type}(step:S->Option (S ⊕ R))(n:Nat):S->Option R ⊕ S:=
 Nat.rec (motive:=fun _=>S->Option R ⊕ S) (fun s => .inr s) (fun _ ih s=>match step s with | none => .inl none | some (.inl s')=>ih s' | some (.inr r) => .inl (some r)) n
theorem Za6u{S R:Type}{step:S->Option (S ⊕ R)}:∀ (n:Nat) (s:S),(match goO step n s with | .inl o=>o | .inr s'=>Z7x step s')=Z7x step s
 | 0,s=>rfl
 | n+1,s=>by
  rw [Za1i]
  show (match (match step s with | none=>Sum.inl none | some (.inl s')=>goO step n s' | some (.inr r) => .inl (some r)) with | .inl o=>o | .inr s'=>Z7x step s')=_
  cases step s with
  | none=>rfl
  | some y=>
   cases y with
   | inl s'=>exact Za6u n s'
   | inr r=>rfl
noncomputable def Zc3{S R:Type}(step:S->Option (S ⊕ R))(s:S):Option R:=
 match goO step 1000000000000 s with
 | .inl o=>o
 | .inr s'=>Z7x step s'
theorem Zabf{S R:Type}(step:S->Option (S ⊕ R))(s:S):Zc3 step s=Z7x step s:=Za6u _ s
theorem Zbah{S R:Type}{step:S->Option (S ⊕ R)}{s:S}{r:R}:Zc3 step s=some r↔∃ n,Zpt step n s=some r:=by rw [Zabf];exact Z7y
theorem Zaox{S R:Type}(step:S->Option (S ⊕ R))(s:S):Zc3 step s=match step s with
 | none=>none
 | some (.inl s')=>Zc3 step s'
 | some (.inr r)=>some r:=by
 rw [Zabf,Za1i]
 cases step s with
 | none=>rfl
 | some y=>cases y with
  | inl s'=>exact (Zabf step s').symm
  | inr r=>rfl
theorem Zku{S R:Type}{step:S->Option (S ⊕ R)}{s s':S}(h:step s=some (.inl s')):Zc3 step s=Zc3 step s':=by rw [Zaox,h]
theorem Zdu{S R:Type}{step:S->Option (S ⊕ R)}{s:S}{r:R}(h:step s=some (.inr r)):Zc3 step s=some r:=by rw [Zaox,h]
noncomputable def Zhm{S R:Type}(step:S->Option (S ⊕ R)):S ⊕ R->Option R
 | .inl s=>Zc3 step s
 | .inr r=>some r
def idx? {α:Type} (xs:List α) (i:Int):Option α:=if 0<=i then xs[i.toNat]? else none
def app? {α:Type} (bytes:Nat) (xs ys:List α):Option (List α):=if (xs.length+ys.length)*bytes<=140737488355328/\xs.length+ys.length<=9223372036854775807 then some (xs++ys) else none
def ok? (b:Bool):Option Unit:=if b then some () else none
theorem Za1j{α β:Type}(f:α->β)(xs:List α):(((xs.map f).length:Nat):Int)=(xs.length:Int):=by rw [List.length_map]
theorem all_map{α:Type}(f:α->List Zf)(k:Nat)(h:∀ x,(f x).length=k)(xs:List α):∀ el,el∈xs.map f->el.length=k:=by
 intro el hel
 obtain⟨x,_,rfl⟩:=List.mem_map.1 hel
 exact h x
theorem Zor{α:Type}{xs:List α}{i:Int}{x:α}(h:idx? xs i=some x):0<=i:=by
 unfold idx? at h
 split at h
 .assumption
 .cases h
theorem Zuy{α β:Type}{xs:List α}{i:Int}{x:α}(f:α->β)(h:idx? xs i=some x):(xs.map f)[i.toNat]?=some (f x):=by
 unfold idx? at h
 split at h
 .simp [h]
 .cases h
theorem Zwj{α β:Type}{xs:List α}{i:Int}{x:α}(f:α->β)(h:idx? xs i=some x):i < ((xs.map f).length:Nat):=by
 unfold idx? at h
 split at h
 .have:=(List.getElem?_eq_some_iff.1 h).1
  rw [List.length_map];omega
 .cases h
theorem Za1k{α β:Type}{b:Nat}{xs ys zs:List α}(f:α->β)(h:app? b xs ys=some zs):xs.map f++ys.map f=zs.map f:=by
 unfold app? at h
 split at h
 .cases h;simp
 .cases h
theorem Zbed{α β:Type}{b:Nat}{ys zs:List α}(f:α->β)(h:app? b [] ys=some zs):ys.map f=zs.map f:=by simpa using Za1k f h
theorem Zbee{α β:Type}{b:Nat}{xs ys zs:List α}(f:α->β)(h:app? b xs ys=some zs):(zs.map f).length<=9223372036854775807:=by
 unfold app? at h
 split at h
 .cases h;simp;omega
 .cases h
theorem Zaq6{α β:Type}{b:Nat}{xs ys zs:List α}(f:α->β)(h:app? b xs ys=some zs):(zs.map f).length*b<=140737488355328:=by
 unfold app? at h
 split at h
 .cases h;simp;omega
 .cases h
theorem Zbkw{b:Bool}{u:Unit}(h:ok? b=some u):b=true:=by
 unfold ok? at h
 split at h
 .assumption
 .cases h
theorem Zbef{p:Prop} [Decidable p] {u:Unit} (h:ok? (decide p)=some u):p:=of_decide_eq_true (Zbkw h)
def slice? {α:Type} (xs:List α) (l h:Int):Option (List α):=if 0<=l/\l<=h/\h<=xs.length then some ((xs.take h.toNat).drop l.toNat) else none
def copy? {α:Type} (dst src:List α):Option (List α):=if src.length<=dst.length then some (src++dst.drop src.length) else none
def make? {α:Type} (bytes:Nat) (z:α) (m c:Int):Option (List α):=if 0<=m/\m<=c/\(bytes:Int)*c<=281474976710656/\c<=9223372036854775807 then some (List.replicate m.toNat z) else none
theorem Zbeg{α:Type}{xs zs:List α}{l h:Int}(e:slice? xs l h=some zs):0<=l:=by
 unfold slice? at e;split at e
 .rename_i c;exact c.1
 .cases e
theorem Za1l{α:Type}{xs zs:List α}{l h:Int}(e:slice? xs l h=some zs):l<=h:=by
 unfold slice? at e;split at e
 .rename_i c;exact c.2.1
 .cases e
theorem Za1m{α β:Type}{xs zs:List α}{l h:Int}(f:α->β)(e:slice? xs l h=some zs):h<=((xs.map f).length:Nat):=by
 unfold slice? at e;split at e
 .rename_i c;rw [List.length_map];exact c.2.2
 .cases e
theorem Zaq7{α β:Type}{xs zs:List α}{l h:Int}(f:α->β)(e:slice? xs l h=some zs):((xs.map f).take h.toNat).drop l.toNat=zs.map f:=by
 unfold slice? at e;split at e
 .cases e;simp [List.map_drop,List.map_take]
 .cases e
theorem Zkd{α:Type}{b:Nat}{z:α}{m c:Int}{zs:List α}(e:make? b z m c=some zs):0<=m/\m<=c/\(b:Int)*c<=281474976710656/\c<=9223372036854775807:=by
 unfold make? at e;split at e
 .assumption
 .cases e
theorem Zavo{α β:Type}{b:Nat}{z:α}{m c:Int}{zs:List α}(f:α->β)(e:make? b z m c=some zs):m.toNat=(zs.map f).length:=by
 unfold make? at e;split at e
 .cases e;simp
 .cases e
theorem Zaid{α β:Type}{b:Nat}{z:α}{m c:Int}{zs:List α}(f:α->β)(e:make? b z m c=some zs):List.replicate (zs.map f).length (f z)=zs.map f:=by
 unfold make? at e;split at e
 .cases e;simp
 .cases e
theorem Zbge{α β:Type}(f:α->β){xs:List α}(h:xs≠[]):xs.map f≠[]:=by simpa using h
theorem FnG.split0{P:Program}{f:FuncId}{es:List (List Zf)}{rest:List PV}{res:PV}{Z Z':List (Nat×Blk)}(h1:es≠[]->FnG P f Z (.t (.sl es)::rest) Z' res)(h2:es=[]->∀ a c,FnG P f Z (.t (.con (.slice a 0 c))::rest) Z' res):FnG P f Z (.t (.sl es)::rest) Z' res:=by
 by_cases he:es=[]
 .refine⟨(h2 he none 0).1,fun A β w vals hl hr=>?_⟩
  have hv:=(hr.tm 0 (.t (.sl es)) (by simp [idx,PW.get])).2
  subst he
  simp only [VR,Z0] at hv
  obtain⟨a,cap,hv,_⟩:=hv
  refine (h2 rfl a cap).2 A β w vals hl ?_
  exact { defers := hr.defers, sz := hr.sz, base := hr.base, os := hr.os, tape := hr.tape, output := hr.output, old := hr.old, A := hr.A, gl := hr.gl, inj := hr.inj, sep := hr.sep, fix := hr.fix, row0 := hr.row0, blk := hr.blk,
          tm:=fun i p hp=>by
           by_cases hi:i=0
           .subst hi
            simp only [idx,PW.get,Nat.beq_eq,cond_true,Option.some.injEq] at hp
            have hp:PV.t (.con (.slice a 0 cap))=p:=by simpa using hp
            subst hp
            exact⟨by simp,by simp only [VR,Z0];exact⟨hv,rfl⟩⟩
           .refine hr.tm i p ?_
            simp only [idx,PW.get,Zgf (Ne.symm hi),cond_false] at hp ⊢
            exact hp }
 .exact h1 he
def set? {α:Type} (xs:List α) (i:Int) (x:α):Option (List α):=if 0<=i/\i.toNat < xs.length then some (xs.set i.toNat x) else none
def set2? {α:Type} (z0 xs:List α) (i:Int) (x:α):Option (List α):=if xs.length=z0.length then set? xs i x else none
theorem Zru{α:Type}{z0 z z2:List α}{i:Int}{x:α}(h:set2? z0 z i x=some z2):z.length=z0.length/\set? z i x=some z2:=by
 unfold set2? at h
 split at h
 .rename_i e;exact⟨e,h⟩
 .cases h
theorem Za1n{α β:Type}{z z2:List α}{i:Int}{x':α}(f:α->β)(h:set? z i x'=some z2):(List.map f z2)[i.toNat]?=some (f x'):=by
 unfold set? at h
 split at h
 .rename_i c;cases h;simp [c.2]
 .cases h
theorem Zavp{α:Type}{z z2:List α}{i:Int}{x x':α}{q:Nat}{ts:List Zf}(f:α->List Zf)(h:set? z i x'=some z2)(hs:splice (f x) q ts=f x'):(List.map f z).set i.toNat (splice (f x) q ts)=List.map f z2:=by
 unfold set? at h
 split at h
 .cases h;rw [hs,List.map_set]
 .cases h
theorem Za1o{α β:Type}{z z2:List α}{i:Int}{x':α}(f:α->β)(h:set? z i x'=some z2):(List.map f z).set i.toNat (f x')=List.map f z2:=by
 unfold set? at h
 split at h
 .cases h;rw [List.map_set]
 .cases h
theorem Zuz{α β:Type}{z z2:List α}{i:Int}{x':α}(f:α->β)(h:set? z i x'=some z2):(List.map f z).length=(List.map f z2).length:=by
 unfold set? at h
 split at h
 .cases h;simp
 .cases h
theorem Zrv{α:Type}(f:α->List Zf)(h:∀ x,(f x).all Zf.scal=true)(z:List α):∀ el,el∈List.map f z->∀ x,x∈el->Zf.scal x=true:=by
 intro el hel x hx
 obtain⟨y,_,rfl⟩:=List.mem_map.1 hel
 exact List.all_eq_true.1 (h y) x hx
theorem VRs.of_getD{c:Ctx}:∀ {args:List PV} {vals:List Value},vals.length=args.length->(∀ i p,args[i]?=some p->VR c p (vals.getD i undef))->VRs c args vals
 | [],[],_,_=>by simp [VRs]
 | p::args,v::vals,hl,h=>by
  simp only [VRs]
  exact⟨v,vals,rfl,by simpa using h 0 p rfl,VRs.of_getD (by simpa using hl) (fun i q hq=>by simpa using h (i+1) q (by simpa using hq))⟩
 | [],_::_,hl,_=>by simp at hl
 | _::_,[],hl,_=>by simp at hl
theorem FnG.ofW{P:Program}{f:FuncId}{args:List PV}{res:PV}(hok:FnOk P f)
 (h:∀ (w:World) (vals:List Value),Zaj4 w->(∃ c:Ctx,VRs c args vals)->Calls P f vals.toArray w fun e w'=>∃ v,e = .returned v/\w'=w/\∀ c,VR c res v):Fn P f args res:=by
 refine⟨hok,fun A β w vals hlen hr=>?_⟩
 have hv:VRs (ctx (Zbr β [] A w) β w []) args vals:=VRs.of_getD hlen (fun i p hp=>by
  have:=(hr.tm i p (by rw [Zzy];simpa using hp)).2
  simpa [List.getD_eq_getElem?_getD,Array.getD_eq_getD_getElem?] using this)
 refine (h w vals hr.glw ⟨_,hv⟩).mono ?_
 rintro e w' ⟨v,rfl,rfl,hres⟩
 refine⟨v,β,rfl,{ defers:=rfl,sz:=by simp,base:=hr.base,os:=hr.os,tape:=hr.tape,output:=hr.output,old:=hr.old,A:=hr.A,gl:=hr.gl,inj:=hr.inj,sep:=hr.sep,fix:=hr.fix,row0:=hr.row0,blk:=hr.blk,tm:=fun i p hp=>?_ }⟩
 simp only [PW.get] at hp
 cases hb:Nat.beq 0 i with
 | true=>
  have:0=i:=(Z1 _ _).1 hb
  subst this
  simp only [hb,cond_true,Option.some.injEq] at hp
  subst hp
  exact⟨by simp,by simpa using hres _⟩
 | false=>simp [hb] at hp
def strings_Contains(s sub:List UInt8):Option Bool:=if s.length < 4294967281 then some (Lib.contains s sub) else none
def cB(b:Bool):List Zf:=[.bool b]
def cI(k:IntKind)(n:Int):List Zf:=[.int k n]
def cS(s:List UInt8):List Zf:=[.str s]
def cL{α:Type}(f:α->List Zf)(xs:List α):List Zf:=[.sl (xs.map f)]
structure A2 (α:Type) where
 (a0 a1:α)
 deriving DecidableEq,Inhabited
structure A3 (α:Type) where
 (a0 a1 a2:α)
 deriving DecidableEq,Inhabited
structure A5 (α:Type) where
 (a0 a1 a2 a3 a4:α)
 deriving DecidableEq,Inhabited
structure A6 (α:Type) where
 (a0 a1 a2 a3 a4 a5:α)
 deriving DecidableEq,Inhabited
def A2.list{α:Type}(x:A2 α):List α:=[x.a0,x.a1]
def cA3{α:Type}(f:α->List Zf)(x:A3 α):List Zf:=f x.a0++(f x.a1++f x.a2)
def A3.list{α:Type}(x:A3 α):List α:=[x.a0,x.a1,x.a2]
def cA5{α:Type}(f:α->List Zf)(x:A5 α):List Zf:=f x.a0++(f x.a1++(f x.a2++(f x.a3++f x.a4)))
def A5.list{α:Type}(x:A5 α):List α:=[x.a0,x.a1,x.a2,x.a3,x.a4]
def cA6{α:Type}(f:α->List Zf)(x:A6 α):List Zf:=f x.a0++(f x.a1++(f x.a2++(f x.a3++(f x.a4++f x.a5))))
def A6.list{α:Type}(x:A6 α):List α:=[x.a0,x.a1,x.a2,x.a3,x.a4,x.a5]
theorem Zbai{k:Nat}{mid:List PV}{p:PV}(pre post:List PV)(h:Zda false 1 k mid=some p):Zda false 1 (pre.length+k) (pre++(mid++post))=some p:=by
 simp only [Zda,cond_false] at h ⊢
 rw [List.getElem?_append_right O,Nat.add_sub_cancel_left,List.getElem?_append_left (List.getElem?_eq_some_iff.1 h).1]
 exact h
theorem Zbaj{α:Type}{xs:List α}{i:Int}{x:α}(h:idx? xs i=some x):xs[i.toNat]?=some x:=by
 have:=Zuy id h
 simpa using this
def bytes? (s:List UInt8):Option (List Int):=if s.length<=9223372036854775807 then some (s.map fun b=>(b.toNat:Int)) else none
theorem Za6v{s:List UInt8}{z:List Int}(h:bytes? s=some z):Zf2 s=List.map (cI .u8) z:=by
 unfold bytes? at h
 split at h
 .cases h;simp [Zf2,cI]
 .cases h
theorem Za6w{s:List UInt8}{z:List Int}(h:bytes? s=some z):s.length<=9223372036854775807:=by
 unfold bytes? at h
 split at h
 .rename_i hl;exact hl
 .cases h
def Z0a(k:IntKind)(a b:Int):Int:=k.wrap (a*2 ^ (min b.toNat k.bits))
def shrI(k:IntKind)(a b:Int):Int:=a.fdiv (2 ^ (min b.toNat k.bits))
def Zqg(k:IntKind)(a b:Int):Int:=k.wrap (a.tdiv b)
def Ok{S R:Type}(P:Program)(rs:List RV)(sr:R->List (Nat×Blk))(res:R->PV)(cfg:S->Cfg)(stf:S->PW.St)(r:R):S ⊕ R->Prop
 | .inl s=>(cfg s).holds P (Zjv (Zz4 rs (sr r) (res r))) (stf s)
 | .inr r'=>r'=r
theorem Zbkx{S R:Type}{P:Program}{rs:List RV}{sr:R->List (Nat×Blk)}{res:R->PV}{cfg:S->Cfg}{stf:S->PW.St}{r:R}{step:S->Option (S ⊕ R)}(hstep:∀ s y,step s=some y->Ok P rs sr res cfg stf r y->(cfg s).holds P (Zjv (Zz4 rs (sr r) (res r))) (stf s)){y:S ⊕ R}
 (h:Zhm step y=some r):Ok P rs sr res cfg stf r y:=by
 have key:∀ (n:Nat) (s:S),Zpt step n s=some r->(cfg s).holds P (Zjv (Zz4 rs (sr r) (res r))) (stf s):=by
  intro n
  induction n with
  | zero=>intro s h;cases h
  | succ n ih=>
   intro s h
   simp only [Zpt] at h
   split at h
   .cases h
   .rename_i s' hs;exact hstep s _ hs (ih s' h)
   .rename_i r' hs;cases h;exact hstep s _ hs (show Ok P rs sr res cfg stf r (.inr r) from rfl)
 cases y with
 | inl s=>obtain⟨n,hn⟩:=Zbah.1 h;exact key n s hn
 | inr r'=>have:some r'=some r:=h;cases this;exact (show Ok P rs sr res cfg stf r (.inr r) from rfl)
section
variable {P:Program} {T:TS} {S R:Type} {rs:List RV} {sr:R->List (Nat×Blk)} {res:R->PV} {cfg:S->Cfg} {stf:S->PW.St} {r:R} {y:S ⊕ R} {g:Cfg} {st:PW.St} {C:Prop}
end
def rvOK(T:TS):List RV->Bool
 | []=>true
 | .t _::r=>rvOK T r
 | .c _ t ag sz::r=>(match get T t with | some i=>(i.agg==ag)&&Nat.beq i.size sz | none=>false)&&rvOK T r
theorem Zaoy{P:Program}{T:TS}(hT:TOK P T):∀ (rs:List RV),rvOK T rs=true->∀ x t ag sz,RV.c x t ag sz∈rs->TyF P t ag sz
 | [],_,x,t,ag,sz,h=>by cases h
 | .t i::r,hb,x,t,ag,sz,h=>by
  simp only [rvOK] at hb
  rcases List.mem_cons.1 h with h | h
  .cases h
  .exact Zaoy hT r hb x t ag sz h
 | .c x0 t0 ag0 sz0::r,hb,x,t,ag,sz,h=>by
  simp only [rvOK,Bool.and_eq_true] at hb
  rcases List.mem_cons.1 h with h | h
  .cases h
   have h1:=hb.1
   split at h1
   .rename_i i hi
    simp only [Bool.and_eq_true,Z1,beq_iff_eq] at h1
    have:=(hT _ i hi).ty
    rw [h1.1,h1.2] at this
    exact this
   .cases h1
  .exact Zaoy hT r hb.2 x t ag sz h
theorem FnG.of_cfg {P : Program} {T : TS} (hT : TOK P T) {f : FuncId} {args : List PV} {Z Z' : List (Nat × Blk)} {res : PV} {fn : Func} {c : Code} (hf : P.funcs[f]? = some fn) (hb : fn.body = some c) (hname : (fn.name == "runtime.NumGoroutine") = false)
 (n:Nat) (hn:fn.ntmps=n) (hna:args.length<=n) (rs:List RV) (hres:fn.results=(rs.map RV.to).toArray) (hrv:rvOK T rs=true) (h:(Cfg.code c []).holds P (Zjv (Zz4 rs Z' res)) ⟨n,idx 0 args,Z⟩):FnG P f Z args Z' res:=
 FnG.of_pw hf hb hname n hn hna rs hres (Zaoy hT rs hrv) (PW.Zg3 h)
theorem FnG.frozen{P:Program}{f:FuncId}{args:List PV}{σ1:List (Nat×Blk)}{res q:PV}{C:Prop}(h:FnG P f [] args σ1 res)(c:C)(hq:(Zec σ1 res).map (fun x=>(Zak x.1,x.2))=some (C,q)):Fn P f args q:=by
 simp only [Option.map_eq_some_iff,Prod.mk.injEq] at hq
 obtain⟨⟨cs,p⟩,h1,h2,h3⟩:=hq
 simp only at h2 h3
 subst h3
 exact h.toFn (Zaoo (fun _=>rfl) h1 (by rw [h2];exact c))
theorem Za3m{α:Type}(pre l post:List α)(k:Nat)(hk:k < l.length)(p:α):splice (pre++(l++post)) (pre.length+k) [p]=pre++(l.set k p++post):=by
 unfold splice
 rw [List.take_length_add_append,List.length_cons,List.length_nil,show pre.length+k+(0+1)=pre.length+(k+1) by omega,List.drop_length_add_append,List.take_append_of_le_length O,List.drop_append_of_le_length O,List.set_eq_take_append_cons_drop,if_pos hk]
 simp
def A5.set? {α:Type} (x:A5 α) (i:Int) (v:α):Option (A5 α):=if 0<=i/\i < 5 then (match x.list.set i.toNat v with | [a0,a1,a2,a3,a4]=>some ⟨a0,a1,a2,a3,a4⟩ | _=>none) else none
theorem Zbgf{α:Type}(f:α->Zf){x y:A5 α}{i:Int}{v:α}(pre post:List PV)(h:x.set? i v=some y):(pre.length+i.toNat*1+1<=(pre++((cA5 (fun a=>[f a]) x).map PV.t++post)).length)/\splice (pre++((cA5 (fun a=>[f a]) x).map PV.t++post)) (pre.length+i.toNat*1) [.t (f v)]=pre++((cA5 (fun a=>[f a]) y).map PV.t++post):=by
 unfold A5.set? at h
 split at h
 .rename_i hi
  have hl:i.toNat < (x.list.map fun a=>PV.t (f a)).length:=by simp [A5.list];omega
  have e1:(cA5 (fun a=>[f a]) x).map PV.t=x.list.map fun a=>PV.t (f a):=rfl
  have e2:(cA5 (fun a=>[f a]) y).map PV.t=y.list.map fun a=>PV.t (f a):=rfl
  have hy:y.list=x.list.set i.toNat v:=by
   split at h
   .rename_i heq
    cases h
    rw [heq];rfl
   .cases h
  rw [e1,e2,Nat.mul_one,Za3m _ _ _ _ hl,hy,List.map_set]
  refine⟨?_,rfl⟩
  rw [List.length_append,List.length_append]
  omega
 .cases h
theorem Zbeh{α:Type}{x:A5 α}{i:Int}{v:α}(h0:0<=i)(h1:i < 5):∃ y,x.set? i v=some y/\y.list=x.list.set i.toNat v:=by
 have hl:(x.list.set i.toNat v).length=5:=by simp [A5.list]
 unfold A5.set?
 rw [if_pos ⟨h0,h1⟩]
 generalize x.list.set i.toNat v=l at hl
 match l,hl with
 | [a0,a1,a2,a3,a4],_=>exact⟨⟨a0,a1,a2,a3,a4⟩,rfl,rfl⟩
def str? (xs:List Int):Option (List UInt8):=if xs≠[]/\∀ n,n∈xs->0<=n/\n < 256 then some (xs.map fun n=>UInt8.ofNat n.toNat) else none
theorem Zaq8{xs:List Int}{s:List UInt8}(h:str? xs=some s):Zf2 s=List.map (cI .u8) xs/\s≠[]:=by
 unfold str? at h
 split at h
 .rename_i hc
  cases h
  refine⟨?_,by simpa using hc.1⟩
  simp only [Zf2,List.map_map]
  refine List.map_congr_left fun n hn=>?_
  obtain⟨h0,h1⟩:=hc.2 n hn
  simp only [Function.comp,cI]
  have:(UInt8.ofNat n.toNat).toNat=n.toNat:=by simp;omega
  rw [this]
  congr 1
  congr 1
  omega
 .cases h
theorem Z2m{xs zs:List UInt8}{l h:Int}(e:slice? xs l h=some zs):0<=l/\l<=h/\h<=(xs.length:Int)/\(xs.take h.toNat).drop l.toNat=zs:=by
 unfold slice? at e
 split at e
 .rename_i c;exact⟨c.1,c.2.1,c.2.2,Option.some.inj e⟩
 .cases e
def clr? {α:Type} (xs:List α) (i:Int) (z:α):Option (List α):=if 0<=i/\i<=xs.length then some (xs.take i.toNat++List.replicate (xs.length - i.toNat) z) else none
theorem Zbcj{α:Type}{xs zs:List α}{i:Int}{z:α}(e:clr? xs i z=some zs):0<=i:=by
 unfold clr? at e;split at e
 .rename_i c;exact c.1
 .cases e
theorem Zbck{α β:Type}{xs zs:List α}{i:Int}{z:α}(f:α->β)(e:clr? xs i z=some zs):i<=((xs.map f).length:Nat):=by
 unfold clr? at e;split at e
 .rename_i c;rw [List.length_map];exact c.2
 .cases e
theorem Zbei{α β:Type}{xs zs:List α}{i:Int}{z:α}(f:α->β)(e:clr? xs i z=some zs):(xs.map f).take i.toNat++List.replicate ((xs.map f).length - i.toNat) (f z)=zs.map f:=by
 unfold clr? at e;split at e
 .cases e;simp [List.map_take]
 .cases e
theorem Zbej{α β:Type}{xs zs:List α}{i:Int}{z:α}(f:α->β)(e:clr? xs i z=some zs):(xs.map f).length=(zs.map f).length:=by
 unfold clr? at e;split at e
 .rename_i c;cases e;simp;omega
 .cases e
theorem Zbek{α β:Type}{xs zs:List α}{i:Int}(f:α->β)(e:slice? xs 0 i=some zs):i.toNat=(zs.map f).length:=by
 unfold slice? at e;split at e
 .rename_i c;cases e;simp;omega
 .cases e
theorem Zbel{α β:Type}{xs zs:List α}{i:Int}(f:α->β)(e:slice? xs 0 i=some zs):(xs.map f).take i.toNat=zs.map f:=Zaq7 f e
def setM? {α:Type} (xs:List (List α)) (i:Int) (y:List α) (j:Int) (v:α):Option (List (List α)):=some (xs.set i.toNat (y.set j.toNat v))
theorem Zbak{α:Type}{xs zs:List (List α)}{i j:Int}{y:List α}{v:α}(f:α->List Zf)(e:setM? xs i y j v=some zs):(xs.map (cL f)).set i.toNat [.sl ((y.map f).set j.toNat (f v))]=zs.map (cL f):=by
 cases e
 rw [List.map_set]
 show _=(xs.map (cL f)).set i.toNat [.sl ((y.set j.toNat v).map f)]
 rw [List.map_set]
theorem Zbal{α:Type}{xs zs:List (List α)}{i j:Int}{y:List α}{v:α}(f:α->List Zf)(e:setM? xs i y j v=some zs):(xs.map (cL f)).length=(zs.map (cL f)).length:=by
 cases e;simp
end Go.PW
