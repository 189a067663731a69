import Derived.Test.YtchddhcajpagjaaGreatPwF
set_option linter.all false
namespace Go.PW
open Go.RowKit
def Zl9:Value->Option PV
 | .bool b=>some (.t (.bool b))
 | .int k n=>some (.t (.int k n))
 | .string s=>some (.t (.str s.data.toList))
 | .slice none 0 0=>some .nils
 | .pointer none=>some (.t (.con (.pointer none)))
 | .nilFunc=>some (.t (.con .nilFunc))
 | .nilIface=>some (.t (.con .nilIface))
 | .map none=>some (.t (.con (.map none)))
 | _=>none
def Zae4:List (Nat×GK)->Nat->Option PV
 | [],_=>none
 | (j,.cells ts)::l,g=>bif Nat.beq j g then some (.vptr ts) else Zae4 l g
 | (_,.anyInt)::l,g=>Zae4 l g
theorem Z4b:∀ {l:List (Nat×GK)} {g:Nat} {p:PV},Zae4 l g=some p->∃ ts,(g,GK.cells ts)∈l/\p = .vptr ts
 | [],g,p,h=>by cases h
 | (j,.cells ts)::l,g,p,h=>by
  simp only [Zae4] at h
  cases hb:Nat.beq j g with
  | true=>
   simp only [hb,cond_true,Option.some.injEq] at h
   have:=(Z1 _ _).1 hb
   subst this
   exact⟨ts,by simp,h.symm⟩
  | false=>
   simp only [hb,cond_false] at h
   obtain⟨ts',h1,h2⟩:=Z4b h
   exact⟨ts',List.mem_cons_of_mem _ h1,h2⟩
 | (_,.anyInt)::l,g,p,h=>by
  simp only [Zae4] at h
  obtain⟨ts',h1,h2⟩:=Z4b h
  exact⟨ts',List.mem_cons_of_mem _ h1,h2⟩
def Zp(ρ:List (Nat×PV)):Operand->Option PV
 | .tmp t=>get ρ t
 | .const v=>Zl9 v
 | .func f=>some (.fn f [])
 | .global g=>Zae4 gset g
theorem Zaku{c:Ctx}{v:Value}{p:PV}(h:Zl9 v=some p):VR c p v:=by
 unfold Zl9 at h
 split at h<;>cases h<;>simp [VR,Z0,Value.oneCell']
theorem Zaya{v:Value}{p:PV}(h:Zl9 v=some p):p.one=true:=by
 unfold Zl9 at h
 split at h<;>cases h<;>rfl
theorem Zma{G:Frm}{β:Nat->Option Nat}{n:Nat}{ρ tm:List (Nat×PV)}{σ:List (Nat×Blk)}{a:Act}{w:World}(h:Zan G β ⟨n,tm,σ⟩ a w){x:Operand}{p:PV}
 (hx:Zp ρ x=some p) (hag:∀ t q,x = .tmp t->get ρ t=some q->get tm t=some q):VR (ctx G β w σ) p (a.eval x):=by
 cases x with
 | tmp t=>exact (h.tm t p (hag t p rfl hx)).2
 | const v=>exact Zaku hx
 | func f=>simp only [Zp,Option.some.injEq] at hx;subst hx;simp only [VR,VRs,Act.eval];exact⟨[],rfl,rfl⟩
 | global g=>
  simp only [Zp] at hx
  obtain⟨ts,hm,rfl⟩:=Z4b hx
  have h1:=h.glI hm
  have h2:=(h.glw g _ hm).2
  simp only [VR,Act.eval]
  exact⟨g,0,rfl,fun _=>h1,Zx.mono (fun b hb=>hb.elim) rfl ts 0 h2⟩
section
variable {P:Program} {o:Oper} {ρ:List (Nat×PV)} {σ:List (Nat×Blk)}
theorem Zbx {need : List Nat} {p : PV} (h : ∀ (G : Frm) (β : Nat -> Option Nat) (n : Nat) (tm : List (Nat × PV)) (σ' : List (Nat × Blk)) (a : Act) (w : World),
      (∀ x q,x∈o.op.operands->Zp ρ x=some q->VR (ctx G β w σ') q (a.eval x))->(∀ l,l∈need->get σ' l=get σ l)->Zan G β ⟨n,tm,σ'⟩ a w ->
      ∃ v,(execOp a.eval o).run P w = .ok (.value v) w/\VR (ctx G β w σ') p v):Zas P o ρ σ need p []:=by
 intro G n tm σ' a w K Q hag hneed _ hr hK
 obtain⟨β,hr⟩:=hr
 obtain⟨v,hv,hp⟩:=h G β n tm σ' a w (fun x q hx hq=>Zma hr hq (fun t r ht hr'=>hag t r (ht▸hx) hr')) hneed hr
 unfold Oper.wp
 rw [hv]
 exact hK v w ⟨β,hr,hp⟩
theorem Za7p{x:Operand}{p:PV}(ho:o.op = .move x)(hx:Zp ρ x=some p):Zas P o ρ σ [] p []:=
 Zbx fun G β n tm σ' a w hop _ _=>⟨a.eval x,by simp [execOp,ho],hop x p (by simp [ho,Op.operands]) hx⟩
theorem Za2x{x:Operand}{p:PV}(ho:o.op = .assign x)(hx:Zp ρ x=some p):Zas P o ρ σ [] p []:=
 Zbx fun G β n tm σ' a w hop _ _=>⟨a.eval x,by simp [execOp,ho],hop x p (by simp [ho,Op.operands]) hx⟩
theorem Za7q{c x y:Operand}{b:Bool}{p:PV}(ho:o.op = .pick c x y)(hc:Zp ρ c=some (.t (.bool b)))(hp:Zp ρ (bif b then x else y)=some p):Zas P o ρ σ [] p []:=
 Zbx fun G β n tm σ' a w hop _ _=>by
  have h1:=hop c _ (by simp [ho,Op.operands]) hc
  simp only [VR,Z0] at h1
  refine⟨if b then a.eval x else a.eval y,by cases b<;>simp [execOp,ho,h1,asBool],?_⟩
  cases b
  .exact hop y p (by simp [ho,Op.operands]) hp
  .exact hop x p (by simp [ho,Op.operands]) hp
def Zbf(op:BinOp)(k:IntKind)(a b:Int):Int:=
 k.wrap (match op with
  | .and=>(BitVec.ofInt k.bits a &&& BitVec.ofInt k.bits b).toNat
  | .or=>(BitVec.ofInt k.bits a ||| BitVec.ofInt k.bits b).toNat
  | .xor=>(BitVec.ofInt k.bits a ^^^ BitVec.ofInt k.bits b).toNat
  | _=>(BitVec.ofInt k.bits a &&& ~~~BitVec.ofInt k.bits b).toNat)
def Zacg(op:BinOp)(k:IntKind)(a b:Int):Option Zd:=
 match op with
 | .add=>some (.int k (k.wrap (a+b)))
 | .sub=>some (.int k (k.wrap (a - b)))
 | .mul=>some (.int k (k.wrap (a*b)))
 | .quo=>if b=0 then none else some (.int k (k.wrap (a.tdiv b)))
 | .rem=>if b=0 then none else some (.int k (a.tmod b))
 | .and=>some (.int k (Zbf .and k a b))
 | .or=>some (.int k (Zbf .or k a b))
 | .xor=>some (.int k (Zbf .xor k a b))
 | .andNot=>some (.int k (Zbf .andNot k a b))
 | .eql=>some (.bool (a==b))
 | .neq=>some (.bool (a != b))
 | .lss=>some (.bool (decide (a < b)))
 | .leq=>some (.bool (decide (a<=b)))
 | .gtr=>some (.bool (decide (a > b)))
 | .geq=>some (.bool (decide (a>=b)))
 | _=>none
def Zakv(op:BinOp)(k:IntKind)(a b:Int):Option Zd:=
 if b < 0 then none else
 match op with
 | .shl=>some (.int k (k.wrap (a*2 ^ (min b.toNat k.bits))))
 | .shr=>some (.int k (a.fdiv (2 ^ (min b.toNat k.bits))))
 | _=>none
def Zatj(op:BinOp)(a b:List UInt8):Option Zd:=
 match op with
 | .eql=>some (.bool (a==b))
 | .neq=>some (.bool (!(a==b)))
 | .lss=>some (.bool (Op.bytesLess a b))
 | .leq=>some (.bool (Op.bytesLess a b||a==b))
 | .gtr=>some (.bool (!(Op.bytesLess a b||a==b)))
 | .geq=>some (.bool (!Op.bytesLess a b))
 | _=>none
theorem Zfj{op:BinOp}{t:TypeId}{x y:Operand}{u v:Value}(w:World)(h:match u,v with | .nilIface,.nilIface=>False | .agg _,.agg _=>False | _,_=>True) :
 (eqGuard op t x y u v).run P w = .ok () w:=by
 unfold eqGuard
 cases op<;>simp only [Bool.not_true,Bool.not_false,if_true,Bool.false_eq_true,if_false,Sem.run_bind,Sem.run_pure,Result.andThen_ok] <;>
  (cases u<;>cases v<;>first | exact h.elim | rfl)
theorem Zatk{op:BinOp}{xT yT:TypeId}{x y:Operand}{k:IntKind}{a b:Int}{r:Zd}(ho:o.op = .binOp op xT x y yT)(hx:Zp ρ x=some (.t (.int k a)))(hy:Zp ρ y=some (.t (.int k b)))
 (hr:Zacg op k a b=some r):Zas P o ρ σ [] (.t r) []:=
 Zbx fun G β n tm σ' A w hop _ _=>by
  have h1:=hop x _ (by simp [ho,Op.operands]) hx
  have h2:=hop y _ (by simp [ho,Op.operands]) hy
  simp only [VR,Z0] at h1 h2
  have hg:=Zfj (P:=P) (op:=op) (t:=xT) (x:=x) (y:=y) (u := .int k a) (v := .int k b) w trivial
  cases op<;>simp only [Zacg] at hr
  case quo=>
   split at hr
   .cases hr
   .rename_i hb
    cases hr
    exact⟨_,by simp [execOp,ho,h1,h2,hg,binOp,Op.intDiv,hb];rfl,by simp [VR,Z0]⟩
  case rem=>
   split at hr
   .cases hr
   .rename_i hb
    cases hr
    exact⟨_,by simp [execOp,ho,h1,h2,hg,binOp,Op.intDiv,hb];rfl,by simp [VR,Z0]⟩
  case shl=>cases hr
  case shr=>cases hr
  all_goals
   cases hr
   exact⟨_,by simp [execOp,ho,h1,h2,hg,binOp,Op.intArith,Op.intBits,Op.intCmp];rfl,by simp [VR,Z0,Zbf]⟩
theorem Zatl{op:BinOp}{xT yT:TypeId}{x y:Operand}{k k':IntKind}{a b:Int}{r:Zd}(ho:o.op = .binOp op xT x y yT)(hx:Zp ρ x=some (.t (.int k a)))(hy:Zp ρ y=some (.t (.int k' b)))
 (hr:Zakv op k a b=some r):Zas P o ρ σ [] (.t r) []:=
 Zbx fun G β n tm σ' A w hop _ _=>by
  have h1:=hop x _ (by simp [ho,Op.operands]) hx
  have h2:=hop y _ (by simp [ho,Op.operands]) hy
  simp only [VR,Z0] at h1 h2
  have hg:=Zfj (P:=P) (op:=op) (t:=xT) (x:=x) (y:=y) (u := .int k a) (v := .int k' b) w trivial
  unfold Zakv at hr
  split at hr
  .cases hr
  rename_i hb
  cases op<;>simp only at hr<;>cases hr
  all_goals exact⟨_,by simp [execOp,ho,h1,h2,hg,binOp,Op.shift,hb];rfl,by simp [VR,Z0]⟩
theorem Za8y{op:BinOp}{xT yT:TypeId}{x y:Operand}{a b:List UInt8}{r:Zd}(ho:o.op = .binOp op xT x y yT)(hx:Zp ρ x=some (.t (.str a)))(hy:Zp ρ y=some (.t (.str b)))
 (hr:Zatj op a b=some r):Zas P o ρ σ [] (.t r) []:=
 Zbx fun G β n tm σ' A w hop _ _=>by
  have h1:=hop x _ (by simp [ho,Op.operands]) hx
  have h2:=hop y _ (by simp [ho,Op.operands]) hy
  simp only [VR,Z0] at h1 h2
  have hg:=Zfj (P:=P) (op:=op) (t:=xT) (x:=x) (y:=y) (u := .string ⟨a.toArray⟩) (v := .string ⟨b.toArray⟩) w trivial
  cases op<;>simp only [Zatj] at hr<;>cases hr
  all_goals exact⟨_,by simp [execOp,ho,h1,h2,hg,binOp,Op.stringOp,ByteArray.toList_eq];rfl,by simp [VR,Z0]⟩
theorem Za2y{xT yT:TypeId}{x y:Operand}{a b:List UInt8}(ho:o.op = .binOp .add xT x y yT)(hx:Zp ρ x=some (.t (.str a)))(hy:Zp ρ y=some (.t (.str b)))
 (hl:a.length+b.length<=9223372036854775807):Zas P o ρ σ [] (.t (.str (a++b))) []:=
 Zbx fun G β n tm σ' A w hop _ _=>by
  have h1:=hop x _ (by simp [ho,Op.operands]) hx
  have h2:=hop y _ (by simp [ho,Op.operands]) hy
  simp only [VR,Z0] at h1 h2
  have hg:=Zfj (P:=P) (op := .add) (t:=xT) (x:=x) (y:=y) (u := .string ⟨a.toArray⟩) (v := .string ⟨b.toArray⟩) w trivial
  have hsz:¬ (((⟨a.toArray⟩:ByteArray).size+(⟨b.toArray⟩:ByteArray).size:Nat):Int) > IntKind.i64.max:=by
   have e1:(⟨a.toArray⟩:ByteArray).size=a.length:=by simp [ByteArray.size]
   have e2:(⟨b.toArray⟩:ByteArray).size=b.length:=by simp [ByteArray.size]
   rw [e1,e2]
   have:IntKind.i64.max=9223372036854775807:=by rfl
   omega
  refine⟨.string ⟨(a++b).toArray⟩,?_,by simp [VR,Z0]⟩
  have happ:(⟨a.toArray⟩:ByteArray)++(⟨b.toArray⟩:ByteArray)=⟨(a++b).toArray⟩:=by
   apply ByteArray.ext
   simp
  simp only [execOp,ho,h1,h2,Sem.run_bind,hg,Result.andThen_ok,binOp,Op.stringOp,hsz,if_false,Sem.run_pure,happ]
theorem Zaqm{op:BinOp}{xT yT:TypeId}{x y:Operand}{a b r:Bool}(ho:o.op = .binOp op xT x y yT)(hT:P.underlying xT=some .bool)(hx:Zp ρ x=some (.t (.bool a)))(hy:Zp ρ y=some (.t (.bool b)))
 (hr:(op = .eql/\r=(a==b))\/(op = .neq/\r = !(a==b))):Zas P o ρ σ [] (.t (.bool r)) []:=
 Zbx fun G β n tm σ' A w hop _ _=>by
  have h1:=hop x _ (by simp [ho,Op.operands]) hx
  have h2:=hop y _ (by simp [ho,Op.operands]) hy
  simp only [VR,Z0] at h1 h2
  have hg:=Zfj (P:=P) (op:=op) (t:=xT) (x:=x) (y:=y) (u := .bool a) (v := .bool b) w trivial
  have he:(Op.equal xT (.bool a) (.bool b)).run P w = .ok (a==b) w:=run_equalIn_bool' w 9999 xT a b hT
  refine⟨.bool r,?_,by simp [VR,Z0]⟩
  rcases hr with ⟨rfl,rfl⟩ | ⟨rfl,rfl⟩<;>simp [execOp,ho,h1,h2,hg,binOp,he]
theorem Zaoq{c:Ctx}:∀ {ts:List Zd} {vs:List Value} {ks:List LK},VRs c (ts.map PV.t) vs->fits ks ts=true->vs=ts.map Znc
 | [],vs,_,h,_=>by simpa [VRs] using h
 | t::ts,vs,ks,h,hf=>by
  cases ks with
  | nil=>simp [fits] at hf
  | cons k ks=>
   simp only [List.map_cons,VRs] at h
   obtain⟨v,rest,rfl,hv,hr⟩:=h
   simp only [fits,Bool.and_eq_true] at hf
   rw [Zaoq hr hf.2]
   have:v=Znc t:=by
    simp only [VR] at hv
    cases t<;>cases k<;>simp only [LK.fits,Bool.false_eq_true,false_and] at hf<;>simpa [Z0,Znc] using hv
   rw [this];rfl
def eqOp(op:BinOp)(r:Bool):Option Bool:=
 match op with
 | .eql=>some r
 | .neq=>some (!r)
 | _=>none
theorem Za43{op:BinOp}{xT yT:TypeId}{x y:Operand}{as bs:List Zd}{r:Bool}(d:Nat)(ks:List LK)(ho:o.op = .binOp op xT x y yT)(hd:d<=10000)(hT:Zkg P d xT=some ks)
 (hagg:∃ k,P.underlying xT=some k/\k.isRow=true) (hgt:P.eqGuardType P.depth xT=false)
 (hx:Zp ρ x=some (.agg (as.map .t))) (hy:Zp ρ y=some (.agg (bs.map .t))) (ha:fits ks as=true) (hb:fits ks bs=true) (hr:eqOp op (Z5 as bs)=some r):Zas P o ρ σ [] (.t (.bool r)) []:=
 Zbx fun G β n tm σ' A w hop _ _=>by
  have h1:=hop x _ (by simp [ho,Op.operands]) hx
  have h2:=hop y _ (by simp [ho,Op.operands]) hy
  simp only [VR] at h1 h2
  obtain⟨vs,h1,hv1⟩:=h1
  obtain⟨us,h2,hv2⟩:=h2
  have e1:=Zaoq hv1 ha
  have e2:=Zaoq hv2 hb
  subst e1;subst e2
  obtain⟨k,hk,hrow⟩:=hagg
  have hp1:Znd P xT as = .agg (as.map Znc).toArray:=by cases k<;>simp_all [Znd]
  have hp2:Znd P xT bs = .agg (bs.map Znc).toArray:=by cases k<;>simp_all [Znd]
  have he:=Z9e (P:=P) (10000 - d) d xT ks hT w as bs ha hb
  rw [show 10000 - d+d=10000 by omega,hp1,hp2] at he
  have hg:=run_eqGuard_agg (P:=P) w op xT x y (as.map Znc).toArray (bs.map Znc).toArray hgt
  refine⟨.bool r,?_,by simp [VR,Z0]⟩
  cases op<;>simp only [eqOp] at hr<;>cases hr
  .simp only [execOp,ho,h1,h2,Sem.run_bind,hg,Result.andThen_ok,run_eql_struct,he,Sem.run_pure]
  .simp only [execOp,ho,h1,h2,Sem.run_bind,hg,Result.andThen_ok,run_neq_struct,he,Sem.run_pure]
theorem Za8z{t:TypeId}{x:Operand}{b:Bool}(ho:o.op = .unOp .not t x)(hx:Zp ρ x=some (.t (.bool b))):Zas P o ρ σ [] (.t (.bool (!b))) []:=
 Zbx fun G β n tm σ' A w hop _ _=>by
  have h1:=hop x _ (by simp [ho,Op.operands]) hx
  simp only [VR,Z0] at h1
  exact⟨_,by simp [execOp,ho,h1,Op.unary];rfl,by simp [VR,Z0]⟩
theorem Za80{t:TypeId}{x:Operand}{k:IntKind}{a:Int}(ho:o.op = .unOp .neg t x)(hx:Zp ρ x=some (.t (.int k a))):Zas P o ρ σ [] (.t (.int k (k.wrap (0 - a)))) []:=
 Zbx fun G β n tm σ' A w hop _ _=>by
  have h1:=hop x _ (by simp [ho,Op.operands]) hx
  simp only [VR,Z0] at h1
  exact⟨.int k (k.wrap (0 - a)),by simp only [execOp,ho,h1,Op.unary,Op.intArith,Sem.run_bind,Sem.run_pure,Result.andThen_ok],by simp [VR,Z0]⟩
theorem Za44{t:TypeId}{x:Operand}{k:IntKind}{a:Int}(ho:o.op = .unOp .xor t x)(hx:Zp ρ x=some (.t (.int k a))):Zas P o ρ σ [] (.t (.int k (Zbf .xor k (if k.signed then -1 else k.max) a))) []:=
 Zbx fun G β n tm σ' A w hop _ _=>by
  have h1:=hop x _ (by simp [ho,Op.operands]) hx
  simp only [VR,Z0] at h1
  exact⟨.int k (Zbf .xor k (if k.signed then -1 else k.max) a),by simp only [execOp,ho,h1,Op.unary,Op.intBits,Sem.run_bind,Sem.run_pure,Result.andThen_ok,Zbf],by simp [VR,Z0]⟩
theorem Za0o{s d:TypeId}{x:Operand}{k k':IntKind}{a:Int}(ho:o.op = .convert s d x)(hs:∃ ds,P.underlying s=some ds)(hd:P.underlying d=some (.int k'))(hx:Zp ρ x=some (.t (.int k a))) :
 Zas P o ρ σ [] (.t (.int k' (k'.wrap a))) []:=
 Zbx fun G β n tm σ' A w hop _ _=>by
  have h1:=hop x _ (by simp [ho,Op.operands]) hx
  simp only [VR,Z0] at h1
  obtain⟨ds,hs⟩:=hs
  refine⟨.int k' (k'.wrap a),?_,by simp [VR,Z0]⟩
  simp only [execOp,ho,h1,convert,Sem.run_bind,run_underlying hs,run_underlying hd,Result.andThen_ok,Conv.intToInt,Sem.run_pure]
theorem Za0p{s d:TypeId}{x:Operand}{a:List UInt8}(ho:o.op = .convert s d x)(hs:P.underlying s=some .string)(hd:P.underlying d=some .string)(hx:Zp ρ x=some (.t (.str a))) :
 Zas P o ρ σ [] (.t (.str a)) []:=
 Zbx fun G β n tm σ' A w hop _ _=>by
  have h1:=hop x _ (by simp [ho,Op.operands]) hx
  simp only [VR,Z0] at h1
  refine⟨.string ⟨a.toArray⟩,?_,by simp [VR,Z0]⟩
  simp only [execOp,ho,h1,convert,Sem.run_bind,run_underlying hs,run_underlying hd,Result.andThen_ok,Sem.run_pure]
theorem Za81{t:TypeId}{x:Operand}{es:List (List Zd)}{e:TypeId}(ho:o.op = .call { callee := .builtin .len,args := #[x],argTypes := #[t] })(hT:P.underlying t=some (.slice e))(hx:Zp ρ x=some (.t (.sl es))) :
 Zas P o ρ σ [] (.t (.int .i64 es.length)) []:=
 Zbx fun G β n tm σ' A w hop _ _=>by
  have h1:=hop x _ (by simp [ho,Op.operands,Call.operands]) hx
  simp only [VR,Z0] at h1
  obtain⟨a,cap,h1,_⟩:=h1
  exact⟨.int .i64 es.length,by simp [execOp,ho,resolve,invoke,builtin,Builtin.len_,h1,run_underlying hT,goInt],by simp [VR,Z0]⟩
theorem Za2z{t:TypeId}{x:Operand}{e:TypeId}(ho:o.op = .call { callee := .builtin .len,args := #[x],argTypes := #[t] })(hT:P.underlying t=some (.slice e))(hx:Zp ρ x=some .nils) :
 Zas P o ρ σ [] (.t (.int .i64 0)) []:=
 Zbx fun G β n tm σ' A w hop _ _=>by
  have h1:=hop x _ (by simp [ho,Op.operands,Call.operands]) hx
  simp only [VR] at h1
  obtain⟨a,h1⟩:=h1
  exact⟨.int .i64 0,by simp [execOp,ho,resolve,invoke,builtin,Builtin.len_,h1,run_underlying hT,goInt],by simp [VR,Z0]⟩
theorem Za20{t:TypeId}{x:Operand}{e:TypeId}{l m k:Nat}{es:List (List Zd)}(ho:o.op = .call { callee := .builtin .len,args := #[x],argTypes := #[t] })(hT:P.underlying t=some (.slice e))
 (hx:Zp ρ x=some (.osl l m)) (hg:get σ l=some (.row k es)) (hm:es.length=m):Zas P o ρ σ [l] (.t (.int .i64 m)) []:=
 Zbx fun G β n tm σ' A w hop hneed _=>by
  have h1:=hop x _ (by simp [ho,Op.operands,Call.operands]) hx
  simp only [VR] at h1
  obtain⟨a,cap,hv,_⟩:=(h1.1 k es (by rw [<- hg];exact hneed l (by simp))).2 hm.symm
  exact⟨.int .i64 m,by simp [execOp,ho,resolve,invoke,builtin,Builtin.len_,hv,run_underlying hT,goInt],by simp [VR,Z0]⟩
theorem Za21{t:TypeId}{x:Operand}{s:List UInt8}(ho:o.op = .call { callee := .builtin .len,args := #[x],argTypes := #[t] })(hT:P.underlying t=some .string)(hx:Zp ρ x=some (.t (.str s))) :
 Zas P o ρ σ [] (.t (.int .i64 s.length)) []:=
 Zbx fun G β n tm σ' A w hop _ _=>by
  have h1:=hop x _ (by simp [ho,Op.operands,Call.operands]) hx
  simp only [VR,Z0] at h1
  have e:((⟨s.toArray⟩:ByteArray).size:Nat)=s.length:=by simp [ByteArray.size]
  refine⟨.int .i64 s.length,?_,by simp [VR,Z0]⟩
  simp only [execOp,ho,resolve,invoke,builtin,Builtin.len_,List.map_toArray,List.map_cons,List.map_nil,Sem.run_bind,Sem.run_pure,Result.andThen_ok,h1]
  simp [run_underlying hT,goInt,e]
theorem VRs.drop{c:Ctx}:∀ {ps:List PV} {vs:List Value} (n:Nat),VRs c ps vs->VRs c (ps.drop n) (vs.drop n)
 | ps,vs,0,h=>by simpa using h
 | [],vs,n+1,h=>by simp only [VRs] at h;subst h;simp [VRs]
 | p::ps,vs,n+1,h=>by
  simp only [VRs] at h
  obtain⟨v,rest,rfl,_,hr⟩:=h
  simpa using VRs.drop n hr
theorem VRs.take{c:Ctx}:∀ {ps:List PV} {vs:List Value} (n:Nat),VRs c ps vs->VRs c (ps.take n) (vs.take n)
 | ps,vs,0,_=>by simp [VRs]
 | [],vs,n+1,h=>by simp only [VRs] at h;subst h;simp [VRs]
 | p::ps,vs,n+1,h=>by
  simp only [VRs] at h
  obtain⟨v,rest,rfl,hv,hr⟩:=h
  simp only [List.take_succ_cons,VRs]
  exact⟨v,_,rfl,hv,VRs.take n hr⟩
structure TyF (P:Program) (t:TypeId) (agg:Bool) (size:Nat):Prop where
 und:∃ d,P.underlying t=some d/\d.isRow=agg
 size:(P.info? t).map (·.size)=some size
theorem TyF.info{P:Program}{t:TypeId}{agg:Bool}{size:Nat}(h:TyF P t agg size):∃ i,P.info? t=some i/\i.size=size:=by
 cases hi:P.info? t with
 | none=>have:=h.size;simp [hi] at this
 | some i=>exact⟨i,rfl,by have:=h.size;simpa [hi] using this⟩
theorem TyF.run_isAgg{P:Program}{t:TypeId}{agg:Bool}{size:Nat}(h:TyF P t agg size)(w:World):(isAgg t).run P w = .ok agg w:=by
 obtain⟨d,hu,hd⟩:=h.und
 unfold isAgg
 rw [Sem.run_bind,run_underlying hu w]
 cases d<;>simp_all
theorem TyF.run_sizeOf{P:Program}{t:TypeId}{agg:Bool}{size:Nat}(h:TyF P t agg size)(w:World):(sizeOf t).run P w = .ok size w:=by
 obtain⟨i,hi,hs⟩:=h.info
 simp [sizeOf,typeInfo,hi,hs]
def Zdp(agg:Bool)(size off:Nat)(cs:List PV):Option PV:=
 bif agg then (bif Nat.ble (off+size) cs.length then some (.agg ((cs.drop off).take size)) else none) else cs[off]?
theorem Zaf9{c:Ctx}{t:TypeId}{agg:Bool}{size off:Nat}(hT:TyF P t agg size)(w:World){ps:List PV}{vs:List Value}(hv:VRs c ps vs){p:PV}(hp:Zdp agg size off ps=some p) :
 ∃ v,(part t vs.toArray off).run P w = .ok v w/\VR c p v:=by
 have hl:=hv.length
 cases agg with
 | false=>
  simp only [Zdp,cond_false] at hp
  obtain⟨v,hv1,hv2⟩:=hv.get off p hp
  exact⟨v,by simp [part,hT.run_isAgg w,hv1],hv2⟩
 | true=>
  simp only [Zdp,cond_true] at hp
  cases hb:Nat.ble (off+size) ps.length with
  | false=>simp [hb] at hp
  | true=>
   simp only [hb,cond_true,Option.some.injEq] at hp
   subst hp
   refine⟨.agg ((vs.drop off).take size).toArray,?_,?_⟩
   .simp [part,hT.run_isAgg w,hT.run_sizeOf w]
   .simp only [VR]
    exact⟨_,rfl,(hv.drop off).take size⟩
theorem Za45{xT fT:TypeId}{x:Operand}{i off:Nat}{cs:List PV}{p:PV}{agg:Bool}{size:Nat}(fs:Array Field)(f:Field)(ho:o.op = .field xT x i)(hT:P.underlying xT=some (.struct fs))(hf:fs[i]?=some f)
 (hft:f.type=fT) (hfo:f.offset=off) (hF:TyF P fT agg size) (hx:Zp ρ x=some (.agg cs)) (hp:Zdp agg size off cs=some p):Zas P o ρ σ [] p []:=
 Zbx fun G β n tm σ' A w hop _ _=>by
  have h1:=hop x _ (by simp [ho,Op.operands]) hx
  simp only [VR] at h1
  obtain⟨vs,h1,hv⟩:=h1
  subst hft;subst hfo
  obtain⟨v,hr,hv⟩:=Zaf9 hF w hv hp
  refine⟨v,?_,hv⟩
  simp only [execOp,ho,h1,Instr.field,Sem.run_bind,run_underlying hT,Result.andThen_ok,hf,asAgg,Sem.run_pure,hr]
theorem Za0q{x:Operand}{i:Nat}{cs:List PV}{p:PV}(ho:o.op = .extract x i)(hx:Zp ρ x=some (.tup cs))(hp:cs[i]?=some p):Zas P o ρ σ [] p []:=
 Zbx fun G β n tm σ' A w hop _ _=>by
  have h1:=hop x _ (by simp [ho,Op.operands]) hx
  simp only [VR] at h1
  obtain⟨vs,h1,hv⟩:=h1
  obtain⟨v,hv1,hv2⟩:=hv.get i p hp
  refine⟨v,?_,hv2⟩
  simp [execOp,ho,h1,Instr.extract,hv1]
theorem Zayb{x:Operand}{p:PV}(ho:o.op = .nilCheck x)(hx:Zp ρ x=some p)(hp:match p with | .bptr _ _=>False | .rptr _ _ _ _=>False | .vptr _=>True | _=>False):Zas P o ρ σ [] p []:=
 Zbx fun G β n tm σ' A w hop _ _=>by
  have h1:=hop x _ (by simp [ho,Op.operands]) hx
  cases p<;>simp only at hp
  simp only [VR] at h1 ⊢
  obtain⟨b,off,hv,h⟩:=h1
  exact⟨.pointer (some ⟨b,off,none⟩),by simp [execOp,ho,hv],b,off,rfl,h⟩
theorem Zayc{t:TypeId}{f:FuncId}{caps:Array Operand}{ps:List PV}(ho:o.op = .makeFunc (.func f) #[] caps)(hx:caps.toList.mapM (Zp ρ)=some ps):Zas P o ρ σ [] (.fn f ps) []:=
 Zbx fun G β n tm σ' A w hop _ _=>by
  refine⟨.func (.func f) #[] (caps.map A.eval),by simp [execOp,ho,Instr.makeFunc],?_⟩
  simp only [VR]
  refine⟨caps.toList.map A.eval,by rw [<- Array.toList_map],?_⟩
  have hall:∀ x∈caps.toList,∀ q,Zp ρ x=some q->VR (ctx G β w σ') q (A.eval x):=fun x hx q hq=>hop x q (by simp only [ho,Op.operands];simpa using hx) hq
  generalize caps.toList=l at hx hall
  clear hop ho t
  induction l generalizing ps with
  | nil=>simp at hx;subst hx;simp [VRs]
  | cons x l ih=>
   rw [List.mapM_cons] at hx
   simp only [bind,Option.bind_eq_some_iff,pure,Option.some.injEq] at hx
   obtain⟨q,hq,qs,hqs,rfl⟩:=hx
   simp only [List.map_cons,VRs]
   exact⟨_,_,rfl,hall x (by simp) q hq,ih hqs (fun y hy=>hall y (List.mem_cons_of_mem _ hy))⟩
end
end Go.PW
