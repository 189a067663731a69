import Derived.Test.YtchddhcajpagjaaGreatPwF
set_option linter.all false
namespace Go.PW
open Go.RowKit
def Zk8:Value->Option PV
 | .bool b=>some (.t (.bool b))
 | .int k n=>some (.t (.int k n))
 | .string s=>some (.t (.str s.data.toList))
 | .slice none 0 0=>some .nils
 | .pointer none=>some (.t (.con (.pointer none)))
 | .nilFunc=>some (.t (.con .nilFunc))
 | .nilIface=>some (.t (.con .nilIface))
 | .map none=>some (.t (.con (.map none)))
 | _=>none
def Zaea:List (Nat×GK)->Nat->Option PV
 | [],_=>none
 | (j,.cells ts)::l,g=>bif Nat.beq j g then some (.vptr ts) else Zaea l g
 | (_,.anyInt)::l,g=>Zaea l g
theorem Z2d:∀ {l:List (Nat×GK)} {g:Nat} {p:PV},Zaea l g=some p->∃ ts,(g,GK.cells ts)∈l/\p = .vptr ts
 | [],g,p,h=>by cases h
 | (j,.cells ts)::l,g,p,h=>by
  simp only [Zaea] at h
  cases hb:Nat.beq j g with
  | true=>
   simp only [hb,cond_true,Option.some.injEq] at h
   have:=(Z2 _ _).1 hb
   subst this
   exact⟨ts,by simp,h.symm⟩
  | false=>
   simp only [hb,cond_false] at h
   obtain⟨ts',h1,h2⟩:=Z2d h
   exact⟨ts',List.mem_cons_of_mem _ h1,h2⟩
 | (_,.anyInt)::l,g,p,h=>by
  simp only [Zaea] at h
  obtain⟨ts',h1,h2⟩:=Z2d h
  exact⟨ts',List.mem_cons_of_mem _ h1,h2⟩
def Zp(ρ:List (Nat×PV)):Operand->Option PV
 | .tmp t=>get ρ t
 | .const v=>Zk8 v
 | .func f=>some (.fn f [])
 | .global g=>Zaea gset g
theorem Zajw{c:Ctx}{v:Value}{p:PV}(h:Zk8 v=some p):VR c p v:=by
 unfold Zk8 at h
 split at h<;>cases h<;>simp [VR,Z1,Value.oneCell']
theorem Zayq{v:Value}{p:PV}(h:Zk8 v=some p):p.one=true:=by
 unfold Zk8 at h
 split at h<;>cases h<;>rfl
theorem Zk9{G:Frm}{β:Nat->Option Nat}{n:Nat}{ρ tm:List (Nat×PV)}{σ:List (Nat×Blk)}{a:Act}{w:World}(h:Zal G β ⟨n,tm,σ⟩ a w){x:Operand}{p:PV}
 (hx:Zp ρ x=some p) (hag:∀ t q,x = .tmp t->get ρ t=some q->get tm t=some q):VR (ctx G β w σ) p (a.eval x):=by
 cases x with
 | tmp t=>exact (h.tm t p (hag t p rfl hx)).2
 | const v=>exact Zajw hx
 | func f=>simp only [Zp,Option.some.injEq] at hx;subst hx;simp only [VR,VRs,Act.eval];exact⟨[],rfl,rfl⟩
 | global g=>
  simp only [Zp] at hx
  obtain⟨ts,hm,rfl⟩:=Z2d hx
  have h1:=h.glI hm
  have h2:=(h.glw g _ hm).2
  simp only [VR,Act.eval]
  exact⟨g,0,rfl,fun _=>h1,Zx.mono (fun b hb=>hb.elim) rfl ts 0 h2⟩
section
variable {P:Program} {o:Oper} {ρ:List (Nat×PV)} {σ:List (Nat×Blk)}
theorem Zbo {need : List Nat} {p : PV} (h : ∀ (G : Frm) (β : Nat -> Option Nat) (n : Nat) (tm : List (Nat × PV)) (σ' : List (Nat × Blk)) (a : Act) (w : World),
      (∀ x q,x∈o.op.operands->Zp ρ x=some q->VR (ctx G β w σ') q (a.eval x))->(∀ l,l∈need->get σ' l=get σ l)->Zal G β ⟨n,tm,σ'⟩ a w ->
      ∃ v,(execOp a.eval o).run P w = .ok (.value v) w/\VR (ctx G β w σ') p v):Zap P o ρ σ need p []:=by
 intro G n tm σ' a w K Q hag hneed _ hr hK
 obtain⟨β,hr⟩:=hr
 obtain⟨v,hv,hp⟩:=h G β n tm σ' a w (fun x q hx hq=>Zk9 hr hq (fun t r ht hr'=>hag t r (ht▸hx) hr')) hneed hr
 unfold Oper.wp
 rw [hv]
 exact hK v w ⟨β,hr,hp⟩
theorem Zbaz{x:Operand}{p:PV}(ho:o.op = .move x)(hx:Zp ρ x=some p):Zap P o ρ σ [] p []:=
 Zbo fun G β n tm σ' a w hop _ _=>⟨a.eval x,by simp [execOp,ho],hop x p (by simp [ho,Op.operands]) hx⟩
theorem Za3w{x:Operand}{p:PV}(ho:o.op = .assign x)(hx:Zp ρ x=some p):Zap P o ρ σ [] p []:=
 Zbo fun G β n tm σ' a w hop _ _=>⟨a.eval x,by simp [execOp,ho],hop x p (by simp [ho,Op.operands]) hx⟩
theorem Zba0{c x y:Operand}{b:Bool}{p:PV}(ho:o.op = .pick c x y)(hc:Zp ρ c=some (.t (.bool b)))(hp:Zp ρ (bif b then x else y)=some p):Zap P o ρ σ [] p []:=
 Zbo fun G β n tm σ' a w hop _ _=>by
  have h1:=hop c _ (by simp [ho,Op.operands]) hc
  simp only [VR,Z1] at h1
  refine⟨if b then a.eval x else a.eval y,by cases b<;>simp [execOp,ho,h1,asBool],?_⟩
  cases b
  .exact hop y p (by simp [ho,Op.operands]) hp
  .exact hop x p (by simp [ho,Op.operands]) hp
def Za6(op:BinOp)(k:IntKind)(a b:Int):Int:=
 k.wrap (match op with
  | .and=>(BitVec.ofInt k.bits a &&& BitVec.ofInt k.bits b).toNat
  | .or=>(BitVec.ofInt k.bits a ||| BitVec.ofInt k.bits b).toNat
  | .xor=>(BitVec.ofInt k.bits a ^^^ BitVec.ofInt k.bits b).toNat
  | _=>(BitVec.ofInt k.bits a &&& ~~~BitVec.ofInt k.bits b).toNat)
def Zaa3(op:BinOp)(k:IntKind)(a b:Int):Option Zf:=
 match op with
 | .add=>some (.int k (k.wrap (a+b)))
 | .sub=>some (.int k (k.wrap (a - b)))
 | .mul=>some (.int k (k.wrap (a*b)))
 | .quo=>if b=0 then none else some (.int k (k.wrap (a.tdiv b)))
 | .rem=>if b=0 then none else some (.int k (a.tmod b))
 | .and=>some (.int k (Za6 .and k a b))
 | .or=>some (.int k (Za6 .or k a b))
 | .xor=>some (.int k (Za6 .xor k a b))
 | .andNot=>some (.int k (Za6 .andNot k a b))
 | .eql=>some (.bool (a==b))
 | .neq=>some (.bool (a != b))
 | .lss=>some (.bool (decide (a < b)))
 | .leq=>some (.bool (decide (a<=b)))
 | .gtr=>some (.bool (decide (a > b)))
 | .geq=>some (.bool (decide (a>=b)))
 | _=>none
def Zajx(op:BinOp)(k:IntKind)(a b:Int):Option Zf:=
 if b < 0 then none else
 match op with
 | .shl=>some (.int k (k.wrap (a*2 ^ (min b.toNat k.bits))))
 | .shr=>some (.int k (a.fdiv (2 ^ (min b.toNat k.bits))))
 | _=>none
def Zato(op:BinOp)(a b:List UInt8):Option Zf:=
 match op with
 | .eql=>some (.bool (a==b))
 | .neq=>some (.bool (!(a==b)))
 | .lss=>some (.bool (Op.bytesLess a b))
 | .leq=>some (.bool (Op.bytesLess a b||a==b))
 | .gtr=>some (.bool (!(Op.bytesLess a b||a==b)))
 | .geq=>some (.bool (!Op.bytesLess a b))
 | _=>none
theorem Zfa{op:BinOp}{t:TypeId}{x y:Operand}{u v:Value}(w:World)(h:match u,v with | .nilIface,.nilIface=>False | .agg _,.agg _=>False | _,_=>True) :
 (eqGuard op t x y u v).run P w = .ok () w:=by
 unfold eqGuard
 cases op<;>simp only [Bool.not_true,Bool.not_false,if_true,Bool.false_eq_true,if_false,Sem.run_bind,Sem.run_pure,Result.andThen_ok] <;>
  (cases u<;>cases v<;>first | exact h.elim | rfl)
theorem Zatp{op:BinOp}{xT yT:TypeId}{x y:Operand}{k:IntKind}{a b:Int}{r:Zf}(ho:o.op = .binOp op xT x y yT)(hx:Zp ρ x=some (.t (.int k a)))(hy:Zp ρ y=some (.t (.int k b)))
 (hr:Zaa3 op k a b=some r):Zap P o ρ σ [] (.t r) []:=
 Zbo fun G β n tm σ' A w hop _ _=>by
  have h1:=hop x _ (by simp [ho,Op.operands]) hx
  have h2:=hop y _ (by simp [ho,Op.operands]) hy
  simp only [VR,Z1] at h1 h2
  have hg:=Zfa (P:=P) (op:=op) (t:=xT) (x:=x) (y:=y) (u := .int k a) (v := .int k b) w trivial
  cases op<;>simp only [Zaa3] at hr
  case quo=>
   split at hr
   .cases hr
   .rename_i hb
    cases hr
    exact⟨_,by simp [execOp,ho,h1,h2,hg,binOp,Op.intDiv,hb];rfl,by simp [VR,Z1]⟩
  case rem=>
   split at hr
   .cases hr
   .rename_i hb
    cases hr
    exact⟨_,by simp [execOp,ho,h1,h2,hg,binOp,Op.intDiv,hb];rfl,by simp [VR,Z1]⟩
  case shl=>cases hr
  case shr=>cases hr
  all_goals
   cases hr
   exact⟨_,by simp [execOp,ho,h1,h2,hg,binOp,Op.intArith,Op.intBits,Op.intCmp];rfl,by simp [VR,Z1,Za6]⟩
theorem Zatq{op:BinOp}{xT yT:TypeId}{x y:Operand}{k k':IntKind}{a b:Int}{r:Zf}(ho:o.op = .binOp op xT x y yT)(hx:Zp ρ x=some (.t (.int k a)))(hy:Zp ρ y=some (.t (.int k' b)))
 (hr:Zajx op k a b=some r):Zap P o ρ σ [] (.t r) []:=
 Zbo fun G β n tm σ' A w hop _ _=>by
  have h1:=hop x _ (by simp [ho,Op.operands]) hx
  have h2:=hop y _ (by simp [ho,Op.operands]) hy
  simp only [VR,Z1] at h1 h2
  have hg:=Zfa (P:=P) (op:=op) (t:=xT) (x:=x) (y:=y) (u := .int k a) (v := .int k' b) w trivial
  unfold Zajx at hr
  split at hr
  .cases hr
  rename_i hb
  cases op<;>simp only at hr<;>cases hr
  all_goals exact⟨_,by simp [execOp,ho,h1,h2,hg,binOp,Op.shift,hb];rfl,by simp [VR,Z1]⟩
theorem Zbcp{op:BinOp}{xT yT:TypeId}{x y:Operand}{a b:List UInt8}{r:Zf}(ho:o.op = .binOp op xT x y yT)(hx:Zp ρ x=some (.t (.str a)))(hy:Zp ρ y=some (.t (.str b)))
 (hr:Zato op a b=some r):Zap P o ρ σ [] (.t r) []:=
 Zbo fun G β n tm σ' A w hop _ _=>by
  have h1:=hop x _ (by simp [ho,Op.operands]) hx
  have h2:=hop y _ (by simp [ho,Op.operands]) hy
  simp only [VR,Z1] at h1 h2
  have hg:=Zfa (P:=P) (op:=op) (t:=xT) (x:=x) (y:=y) (u := .string ⟨a.toArray⟩) (v := .string ⟨b.toArray⟩) w trivial
  cases op<;>simp only [Zato] at hr<;>cases hr
  all_goals exact⟨_,by simp [execOp,ho,h1,h2,hg,binOp,Op.stringOp,ByteArray.toList_eq];rfl,by simp [VR,Z1]⟩
theorem Za3x{xT yT:TypeId}{x y:Operand}{a b:List UInt8}(ho:o.op = .binOp .add xT x y yT)(hx:Zp ρ x=some (.t (.str a)))(hy:Zp ρ y=some (.t (.str b)))
 (hl:a.length+b.length<=9223372036854775807):Zap P o ρ σ [] (.t (.str (a++b))) []:=
 Zbo fun G β n tm σ' A w hop _ _=>by
  have h1:=hop x _ (by simp [ho,Op.operands]) hx
  have h2:=hop y _ (by simp [ho,Op.operands]) hy
  simp only [VR,Z1] at h1 h2
  have hg:=Zfa (P:=P) (op := .add) (t:=xT) (x:=x) (y:=y) (u := .string ⟨a.toArray⟩) (v := .string ⟨b.toArray⟩) w trivial
  have hsz:¬ (((⟨a.toArray⟩:ByteArray).size+(⟨b.toArray⟩:ByteArray).size:Nat):Int) > IntKind.i64.max:=by
   have e1:(⟨a.toArray⟩:ByteArray).size=a.length:=by simp [ByteArray.size]
   have e2:(⟨b.toArray⟩:ByteArray).size=b.length:=by simp [ByteArray.size]
   rw [e1,e2]
   have:IntKind.i64.max=9223372036854775807:=by rfl
   omega
  refine⟨.string ⟨(a++b).toArray⟩,?_,by simp [VR,Z1]⟩
  have happ:(⟨a.toArray⟩:ByteArray)++(⟨b.toArray⟩:ByteArray)=⟨(a++b).toArray⟩:=by
   apply ByteArray.ext
   simp
  simp only [execOp,ho,h1,h2,Sem.run_bind,hg,Result.andThen_ok,binOp,Op.stringOp,hsz,if_false,Sem.run_pure,happ]
theorem Zap4{op:BinOp}{xT yT:TypeId}{x y:Operand}{a b r:Bool}(ho:o.op = .binOp op xT x y yT)(hT:P.underlying xT=some .bool)(hx:Zp ρ x=some (.t (.bool a)))(hy:Zp ρ y=some (.t (.bool b)))
 (hr:(op = .eql/\r=(a==b))\/(op = .neq/\r = !(a==b))):Zap P o ρ σ [] (.t (.bool r)) []:=
 Zbo fun G β n tm σ' A w hop _ _=>by
  have h1:=hop x _ (by simp [ho,Op.operands]) hx
  have h2:=hop y _ (by simp [ho,Op.operands]) hy
  simp only [VR,Z1] at h1 h2
  have hg:=Zfa (P:=P) (op:=op) (t:=xT) (x:=x) (y:=y) (u := .bool a) (v := .bool b) w trivial
  have he:(Op.equal xT (.bool a) (.bool b)).run P w = .ok (a==b) w:=run_equalIn_bool' w 9999 xT a b hT
  refine⟨.bool r,?_,by simp [VR,Z1]⟩
  rcases hr with ⟨rfl,rfl⟩ | ⟨rfl,rfl⟩<;>simp [execOp,ho,h1,h2,hg,binOp,he]
theorem Zan0{c:Ctx}:∀ {ts:List Zf} {vs:List Value} {ks:List LK},VRs c (ts.map PV.t) vs->fits ks ts=true->vs=ts.map Zmk
 | [],vs,_,h,_=>by simpa [VRs] using h
 | t::ts,vs,ks,h,hf=>by
  cases ks with
  | nil=>simp [fits] at hf
  | cons k ks=>
   simp only [List.map_cons,VRs] at h
   obtain⟨v,rest,rfl,hv,hr⟩:=h
   simp only [fits,Bool.and_eq_true] at hf
   rw [Zan0 hr hf.2]
   have:v=Zmk t:=by
    simp only [VR] at hv
    cases t<;>cases k<;>simp only [LK.fits,Bool.false_eq_true,false_and] at hf<;>simpa [Z1,Zmk] using hv
   rw [this];rfl
def eqOp(op:BinOp)(r:Bool):Option Bool:=
 match op with
 | .eql=>some r
 | .neq=>some (!r)
 | _=>none
theorem Za6n{op:BinOp}{xT yT:TypeId}{x y:Operand}{as bs:List Zf}{r:Bool}(d:Nat)(ks:List LK)(ho:o.op = .binOp op xT x y yT)(hd:d<=10000)(hT:Zjd P d xT=some ks)
 (hagg:∃ k,P.underlying xT=some k/\k.isRow=true) (hgt:P.eqGuardType P.depth xT=false)
 (hx:Zp ρ x=some (.agg (as.map .t))) (hy:Zp ρ y=some (.agg (bs.map .t))) (ha:fits ks as=true) (hb:fits ks bs=true) (hr:eqOp op (Z5 as bs)=some r):Zap P o ρ σ [] (.t (.bool r)) []:=
 Zbo fun G β n tm σ' A w hop _ _=>by
  have h1:=hop x _ (by simp [ho,Op.operands]) hx
  have h2:=hop y _ (by simp [ho,Op.operands]) hy
  simp only [VR] at h1 h2
  obtain⟨vs,h1,hv1⟩:=h1
  obtain⟨us,h2,hv2⟩:=h2
  have e1:=Zan0 hv1 ha
  have e2:=Zan0 hv2 hb
  subst e1;subst e2
  obtain⟨k,hk,hrow⟩:=hagg
  have hp1:Zml P xT as = .agg (as.map Zmk).toArray:=by cases k<;>simp_all [Zml]
  have hp2:Zml P xT bs = .agg (bs.map Zmk).toArray:=by cases k<;>simp_all [Zml]
  have he:=Z7r (P:=P) (10000 - d) d xT ks hT w as bs ha hb
  rw [show 10000 - d+d=10000 by omega,hp1,hp2] at he
  have hg:=run_eqGuard_agg (P:=P) w op xT x y (as.map Zmk).toArray (bs.map Zmk).toArray hgt
  refine⟨.bool r,?_,by simp [VR,Z1]⟩
  cases op<;>simp only [eqOp] at hr<;>cases hr
  .simp only [execOp,ho,h1,h2,Sem.run_bind,hg,Result.andThen_ok,run_eql_struct,he,Sem.run_pure]
  .simp only [execOp,ho,h1,h2,Sem.run_bind,hg,Result.andThen_ok,run_neq_struct,he,Sem.run_pure]
theorem Zbcq{t:TypeId}{x:Operand}{b:Bool}(ho:o.op = .unOp .not t x)(hx:Zp ρ x=some (.t (.bool b))):Zap P o ρ σ [] (.t (.bool (!b))) []:=
 Zbo fun G β n tm σ' A w hop _ _=>by
  have h1:=hop x _ (by simp [ho,Op.operands]) hx
  simp only [VR,Z1] at h1
  exact⟨_,by simp [execOp,ho,h1,Op.unary];rfl,by simp [VR,Z1]⟩
theorem Zbcr{t:TypeId}{x:Operand}{k:IntKind}{a:Int}(ho:o.op = .unOp .neg t x)(hx:Zp ρ x=some (.t (.int k a))):Zap P o ρ σ [] (.t (.int k (k.wrap (0 - a)))) []:=
 Zbo fun G β n tm σ' A w hop _ _=>by
  have h1:=hop x _ (by simp [ho,Op.operands]) hx
  simp only [VR,Z1] at h1
  exact⟨.int k (k.wrap (0 - a)),by simp only [execOp,ho,h1,Op.unary,Op.intArith,Sem.run_bind,Sem.run_pure,Result.andThen_ok],by simp [VR,Z1]⟩
theorem Za6o{t:TypeId}{x:Operand}{k:IntKind}{a:Int}(ho:o.op = .unOp .xor t x)(hx:Zp ρ x=some (.t (.int k a))):Zap P o ρ σ [] (.t (.int k (Za6 .xor k (if k.signed then -1 else k.max) a))) []:=
 Zbo fun G β n tm σ' A w hop _ _=>by
  have h1:=hop x _ (by simp [ho,Op.operands]) hx
  simp only [VR,Z1] at h1
  exact⟨.int k (Za6 .xor k (if k.signed then -1 else k.max) a),by simp only [execOp,ho,h1,Op.unary,Op.intBits,Sem.run_bind,Sem.run_pure,Result.andThen_ok,Za6],by simp [VR,Z1]⟩
theorem Za1b{s d:TypeId}{x:Operand}{k k':IntKind}{a:Int}(ho:o.op = .convert s d x)(hs:∃ ds,P.underlying s=some ds)(hd:P.underlying d=some (.int k'))(hx:Zp ρ x=some (.t (.int k a))) :
 Zap P o ρ σ [] (.t (.int k' (k'.wrap a))) []:=
 Zbo fun G β n tm σ' A w hop _ _=>by
  have h1:=hop x _ (by simp [ho,Op.operands]) hx
  simp only [VR,Z1] at h1
  obtain⟨ds,hs⟩:=hs
  refine⟨.int k' (k'.wrap a),?_,by simp [VR,Z1]⟩
  simp only [execOp,ho,h1,convert,Sem.run_bind,run_underlying hs,run_underlying hd,Result.andThen_ok,Conv.intToInt,Sem.run_pure]
theorem Za1c{s d:TypeId}{x:Operand}{a:List UInt8}(ho:o.op = .convert s d x)(hs:P.underlying s=some .string)(hd:P.underlying d=some .string)(hx:Zp ρ x=some (.t (.str a))) :
 Zap P o ρ σ [] (.t (.str a)) []:=
 Zbo fun G β n tm σ' A w hop _ _=>by
  have h1:=hop x _ (by simp [ho,Op.operands]) hx
  simp only [VR,Z1] at h1
  refine⟨.string ⟨a.toArray⟩,?_,by simp [VR,Z1]⟩
  simp only [execOp,ho,h1,convert,Sem.run_bind,run_underlying hs,run_underlying hd,Result.andThen_ok,Sem.run_pure]
theorem Zbcs{t:TypeId}{x:Operand}{es:List (List Zf)}{e:TypeId}(ho:o.op = .call { callee := .builtin .len,args := #[x],argTypes := #[t] })(hT:P.underlying t=some (.slice e))(hx:Zp ρ x=some (.t (.sl es))) :
 Zap P o ρ σ [] (.t (.int .i64 es.length)) []:=
 Zbo fun G β n tm σ' A w hop _ _=>by
  have h1:=hop x _ (by simp [ho,Op.operands,Call.operands]) hx
  simp only [VR,Z1] at h1
  obtain⟨a,cap,h1,_⟩:=h1
  exact⟨.int .i64 es.length,by simp [execOp,ho,resolve,invoke,builtin,Builtin.len_,h1,run_underlying hT,goInt],by simp [VR,Z1]⟩
theorem Za3y{t:TypeId}{x:Operand}{e:TypeId}(ho:o.op = .call { callee := .builtin .len,args := #[x],argTypes := #[t] })(hT:P.underlying t=some (.slice e))(hx:Zp ρ x=some .nils) :
 Zap P o ρ σ [] (.t (.int .i64 0)) []:=
 Zbo fun G β n tm σ' A w hop _ _=>by
  have h1:=hop x _ (by simp [ho,Op.operands,Call.operands]) hx
  simp only [VR] at h1
  obtain⟨a,h1⟩:=h1
  exact⟨.int .i64 0,by simp [execOp,ho,resolve,invoke,builtin,Builtin.len_,h1,run_underlying hT,goInt],by simp [VR,Z1]⟩
theorem Za3z{t:TypeId}{x:Operand}{e:TypeId}{l m k:Nat}{es:List (List Zf)}(ho:o.op = .call { callee := .builtin .len,args := #[x],argTypes := #[t] })(hT:P.underlying t=some (.slice e))
 (hx:Zp ρ x=some (.osl l m)) (hg:get σ l=some (.row k es)) (hm:es.length=m):Zap P o ρ σ [l] (.t (.int .i64 m)) []:=
 Zbo fun G β n tm σ' A w hop hneed _=>by
  have h1:=hop x _ (by simp [ho,Op.operands,Call.operands]) hx
  simp only [VR] at h1
  obtain⟨a,cap,hv,_⟩:=(h1.1 k es (by rw [<- hg];exact hneed l (by simp))).2 hm.symm
  exact⟨.int .i64 m,by simp [execOp,ho,resolve,invoke,builtin,Builtin.len_,hv,run_underlying hT,goInt],by simp [VR,Z1]⟩
theorem Za30{t:TypeId}{x:Operand}{s:List UInt8}(ho:o.op = .call { callee := .builtin .len,args := #[x],argTypes := #[t] })(hT:P.underlying t=some .string)(hx:Zp ρ x=some (.t (.str s))) :
 Zap P o ρ σ [] (.t (.int .i64 s.length)) []:=
 Zbo fun G β n tm σ' A w hop _ _=>by
  have h1:=hop x _ (by simp [ho,Op.operands,Call.operands]) hx
  simp only [VR,Z1] at h1
  have e:((⟨s.toArray⟩:ByteArray).size:Nat)=s.length:=by simp [ByteArray.size]
  refine⟨.int .i64 s.length,?_,by simp [VR,Z1]⟩
  simp only [execOp,ho,resolve,invoke,builtin,Builtin.len_,List.map_toArray,List.map_cons,List.map_nil,Sem.run_bind,Sem.run_pure,Result.andThen_ok,h1]
  simp [run_underlying hT,goInt,e]
theorem VRs.drop{c:Ctx}:∀ {ps:List PV} {vs:List Value} (n:Nat),VRs c ps vs->VRs c (ps.drop n) (vs.drop n)
 | ps,vs,0,h=>by simpa using h
 | [],vs,n+1,h=>by simp only [VRs] at h;subst h;simp [VRs]
 | p::ps,vs,n+1,h=>by
  simp only [VRs] at h
  obtain⟨v,rest,rfl,_,hr⟩:=h
  simpa using VRs.drop n hr
theorem VRs.take{c:Ctx}:∀ {ps:List PV} {vs:List Value} (n:Nat),VRs c ps vs->VRs c (ps.take n) (vs.take n)
 | ps,vs,0,_=>by simp [VRs]
 | [],vs,n+1,h=>by simp only [VRs] at h;subst h;simp [VRs]
 | p::ps,vs,n+1,h=>by
  simp only [VRs] at h
  obtain⟨v,rest,rfl,hv,hr⟩:=h
  simp only [List.take_succ_cons,VRs]
  exact⟨v,_,rfl,hv,VRs.take n hr⟩
structure TyF (P:Program) (t:TypeId) (agg:Bool) (size:Nat):Prop where
 und:∃ d,P.underlying t=some d/\d.isRow=agg
 size:(P.info? t).map (·.size)=some size
theorem TyF.info{P:Program}{t:TypeId}{agg:Bool}{size:Nat}(h:TyF P t agg size):∃ i,P.info? t=some i/\i.size=size:=by
 cases hi:P.info? t with
 | none=>have:=h.size;simp [hi] at this
 | some i=>exact⟨i,rfl,by have:=h.size;simpa [hi] using this⟩
theorem TyF.run_isAgg{P:Program}{t:TypeId}{agg:Bool}{size:Nat}(h:TyF P t agg size)(w:World):(isAgg t).run P w = .ok agg w:=by
 obtain⟨d,hu,hd⟩:=h.und
 unfold isAgg
 rw [Sem.run_bind,run_underlying hu w]
 cases d<;>simp_all
theorem TyF.run_sizeOf{P:Program}{t:TypeId}{agg:Bool}{size:Nat}(h:TyF P t agg size)(w:World):(sizeOf t).run P w = .ok size w:=by
 obtain⟨i,hi,hs⟩:=h.info
 simp [sizeOf,typeInfo,hi,hs]
def Zc8(agg:Bool)(size off:Nat)(cs:List PV):Option PV:=
 bif agg then (bif Nat.ble (off+size) cs.length then some (.agg ((cs.drop off).take size)) else none) else cs[off]?
theorem Zafb{c:Ctx}{t:TypeId}{agg:Bool}{size off:Nat}(hT:TyF P t agg size)(w:World){ps:List PV}{vs:List Value}(hv:VRs c ps vs){p:PV}(hp:Zc8 agg size off ps=some p) :
 ∃ v,(part t vs.toArray off).run P w = .ok v w/\VR c p v:=by
 have hl:=hv.length
 cases agg with
 | false=>
  simp only [Zc8,cond_false] at hp
  obtain⟨v,hv1,hv2⟩:=hv.get off p hp
  exact⟨v,by simp [part,hT.run_isAgg w,hv1],hv2⟩
 | true=>
  simp only [Zc8,cond_true] at hp
  cases hb:Nat.ble (off+size) ps.length with
  | false=>simp [hb] at hp
  | true=>
   simp only [hb,cond_true,Option.some.injEq] at hp
   subst hp
   refine⟨.agg ((vs.drop off).take size).toArray,?_,?_⟩
   .simp [part,hT.run_isAgg w,hT.run_sizeOf w]
   .simp only [VR]
    exact⟨_,rfl,(hv.drop off).take size⟩
theorem Za6p{xT fT:TypeId}{x:Operand}{i off:Nat}{cs:List PV}{p:PV}{agg:Bool}{size:Nat}(fs:Array Field)(f:Field)(ho:o.op = .field xT x i)(hT:P.underlying xT=some (.struct fs))(hf:fs[i]?=some f)
 (hft:f.type=fT) (hfo:f.offset=off) (hF:TyF P fT agg size) (hx:Zp ρ x=some (.agg cs)) (hp:Zc8 agg size off cs=some p):Zap P o ρ σ [] p []:=
 Zbo fun G β n tm σ' A w hop _ _=>by
  have h1:=hop x _ (by simp [ho,Op.operands]) hx
  simp only [VR] at h1
  obtain⟨vs,h1,hv⟩:=h1
  subst hft;subst hfo
  obtain⟨v,hr,hv⟩:=Zafb hF w hv hp
  refine⟨v,?_,hv⟩
  simp only [execOp,ho,h1,Instr.field,Sem.run_bind,run_underlying hT,Result.andThen_ok,hf,asAgg,Sem.run_pure,hr]
theorem Za1d{x:Operand}{i:Nat}{cs:List PV}{p:PV}(ho:o.op = .extract x i)(hx:Zp ρ x=some (.tup cs))(hp:cs[i]?=some p):Zap P o ρ σ [] p []:=
 Zbo fun G β n tm σ' A w hop _ _=>by
  have h1:=hop x _ (by simp [ho,Op.operands]) hx
  simp only [VR] at h1
  obtain⟨vs,h1,hv⟩:=h1
  obtain⟨v,hv1,hv2⟩:=hv.get i p hp
  refine⟨v,?_,hv2⟩
  simp [execOp,ho,h1,Instr.extract,hv1]
theorem Zayr{x:Operand}{p:PV}(ho:o.op = .nilCheck x)(hx:Zp ρ x=some p)(hp:match p with | .bptr _ _=>False | .rptr _ _ _ _=>False | .vptr _=>True | _=>False):Zap P o ρ σ [] p []:=
 Zbo fun G β n tm σ' A w hop _ _=>by
  have h1:=hop x _ (by simp [ho,Op.operands]) hx
  cases p<;>simp only at hp
  simp only [VR] at h1 ⊢
  obtain⟨b,off,hv,h⟩:=h1
  exact⟨.pointer (some ⟨b,off,none⟩),by simp [execOp,ho,hv],b,off,rfl,h⟩
theorem Zays{t:TypeId}{f:FuncId}{caps:Array Operand}{ps:List PV}(ho:o.op = .makeFunc (.func f) #[] caps)(hx:caps.toList.mapM (Zp ρ)=some ps):Zap P o ρ σ [] (.fn f ps) []:=
 Zbo fun G β n tm σ' A w hop _ _=>by
  refine⟨.func (.func f) #[] (caps.map A.eval),by simp [execOp,ho,Instr.makeFunc],?_⟩
  simp only [VR]
  refine⟨caps.toList.map A.eval,by rw [<- Array.toList_map],?_⟩
  have hall:∀ x∈caps.toList,∀ q,Zp ρ x=some q->VR (ctx G β w σ') q (A.eval x):=fun x hx q hq=>hop x q (by simp only [ho,Op.operands];simpa using hx) hq
  generalize caps.toList=l at hx hall
  clear hop ho t
  induction l generalizing ps with
  | nil=>simp at hx;subst hx;simp [VRs]
  | cons x l ih=>
   rw [List.mapM_cons] at hx
   simp only [bind,Option.bind_eq_some_iff,pure,Option.some.injEq] at hx
   obtain⟨q,hq,qs,hqs,rfl⟩:=hx
   simp only [List.map_cons,VRs]
   exact⟨_,_,rfl,hall x (by simp) q hq,ih hqs (fun y hy=>hall y (List.mem_cons_of_mem _ hy))⟩
end
end Go.PW
