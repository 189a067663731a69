import Derived.Test.YtchddhcajpagjaaGreatPwF
import Derived.Laws.MakeOwn
set_option linter.all false
namespace Go.PW
open Go.RowKit
def Zlg:Value->Option PV
 | .bool b=>some (.t (.bool b))
 | .int k n=>some (.t (.int k n))
 | .string s=>some (.t (.str s.data.toList))
 | .slice none 0 0=>some .nils
 | .pointer none=>some (.t (.con (.pointer none)))
 | .nilFunc=>some (.t (.con .nilFunc))
 | .nilIface=>some (.t (.con .nilIface))
 | .map none=>some (.t (.con (.map none)))
 | _=>none
def Zad5:List (Nat×GK)->Nat->Option PV
 | [],_=>none
 | (j,.cells ts)::l,g=>bif Nat.beq j g then some (.vptr ts) else Zad5 l g
 | (_,.anyInt)::l,g=>Zad5 l g
theorem Z2c:∀ {l:List (Nat×GK)} {g:Nat} {p:PV},Zad5 l g=some p->∃ ts,(g,GK.cells ts)∈l/\p = .vptr ts
 | [],g,p,h=>by cases h
 | (j,.cells ts)::l,g,p,h=>by
  simp only [Zad5] at h
  cases hb:Nat.beq j g with
  | true=>
   simp only [hb,cond_true,Option.some.injEq] at h
   have:=(Z1 _ _).1 hb
   subst this
   exact⟨ts,by simp,h.symm⟩
  | false=>
   simp only [hb,cond_false] at h
   obtain⟨ts',h1,h2⟩:=Z2c h
   exact⟨ts',List.mem_cons_of_mem _ h1,h2⟩
 | (_,.anyInt)::l,g,p,h=>by
  simp only [Zad5] at h
  obtain⟨ts',h1,h2⟩:=Z2c h
  exact⟨ts',List.mem_cons_of_mem _ h1,h2⟩
def Zp(ρ:List (Nat×PV)):Operand->Option PV
 | .tmp t=>get ρ t
 | .const v=>Zlg v
 | .func f=>some (.fn f [])
 | .global g=>Zad5 gset g
theorem Zaj7{c:Ctx}{v:Value}{p:PV}(h:Zlg v=some p):VR c p v:=by
 unfold Zlg at h
 split at h<;>cases h<;>simp [VR,Z0,Value.oneCell']
theorem Zazp{v:Value}{p:PV}(h:Zlg v=some p):p.one=true:=by
 unfold Zlg at h
 split at h<;>cases h<;>rfl
theorem Zlh{G:Frm}{β:Nat->Option Nat}{n:Nat}{ρ tm:List (Nat×PV)}{Z:List (Nat×Blk)}{a:Act}{w:World}(h:Zan G β ⟨n,tm,Z⟩ a w){x:Operand}{p:PV}
 (hx:Zp ρ x=some p) (hag:∀ t q,x = .tmp t->get ρ t=some q->get tm t=some q):VR (ctx G β w Z) p (a.eval x):=by
 cases x with
 | tmp t=>exact (h.tm t p (hag t p rfl hx)).2
 | const v=>exact Zaj7 hx
 | func f=>simp only [Zp,Option.some.injEq] at hx;subst hx;simp only [VR,VRs,Act.eval];exact⟨[],rfl,rfl⟩
 | global g=>
  simp only [Zp] at hx
  obtain⟨ts,hm,rfl⟩:=Z2c hx
  have h1:=h.glI hm
  have h2:=(h.glw g _ hm).2
  simp only [VR,Act.eval]
  exact⟨g,0,rfl,fun _=>h1,Zw.mono (fun b hb=>hb.elim) rfl ts 0 h2⟩
section
variable {P:Program} {o:Oper} {ρ:List (Nat×PV)} {Z:List (Nat×Blk)}
theorem Zbp {need : List Nat} {p : PV} (h : ∀ (G : Frm) (β : Nat -> Option Nat) (n : Nat) (tm : List (Nat × PV)) (Z' : List (Nat × Blk)) (a : Act) (w : World),
      (∀ x q,x∈o.op.operands->Zp ρ x=some q->VR (ctx G β w Z') q (a.eval x))->(∀ l,l∈need->get Z' l=get Z l)->Zan G β ⟨n,tm,Z'⟩ a w ->
      ∃ v,(execOp a.eval o).run P w = .ok (.value v) w/\VR (ctx G β w Z') p v):Zas P o ρ Z need p []:=by
 intro G n tm Z' a w K Q hag hneed _ hr hK
 obtain⟨β,hr⟩:=hr
 obtain⟨v,hv,hp⟩:=h G β n tm Z' a w (fun x q hx hq=>Zlh hr hq (fun t r ht hr'=>hag t r (ht▸hx) hr')) hneed hr
 unfold Oper.wp
 rw [hv]
 exact hK v w ⟨β,hr,hp⟩
theorem Zbdz{x:Operand}{p:PV}(ho:o.op = .move x)(hx:Zp ρ x=some p):Zas P o ρ Z [] p []:=
 Zbp fun G β n tm Z' a w hop _ _=>⟨a.eval x,by simp [execOp,ho],hop x p (by simp [ho,Op.operands]) hx⟩
theorem Za5w{x:Operand}{p:PV}(ho:o.op = .assign x)(hx:Zp ρ x=some p):Zas P o ρ Z [] p []:=
 Zbp fun G β n tm Z' a w hop _ _=>⟨a.eval x,by simp [execOp,ho],hop x p (by simp [ho,Op.operands]) hx⟩
theorem Zbd0{c x y:Operand}{b:Bool}{p:PV}(ho:o.op = .pick c x y)(hc:Zp ρ c=some (.t (.bool b)))(hp:Zp ρ (bif b then x else y)=some p):Zas P o ρ Z [] p []:=
 Zbp fun G β n tm Z' a w hop _ _=>by
  have h1:=hop c _ (by simp [ho,Op.operands]) hc
  simp only [VR,Z0] at h1
  refine⟨if b then a.eval x else a.eval y,by cases b<;>simp [execOp,ho,h1,asBool],?_⟩
  cases b
  .exact hop y p (by simp [ho,Op.operands]) hp
  .exact hop x p (by simp [ho,Op.operands]) hp
def Zay(op:BinOp)(k:IntKind)(a b:Int):Int:=
 k.wrap (match op with
  | .and=>(BitVec.ofInt k.bits a &&& BitVec.ofInt k.bits b).toNat
  | .or=>(BitVec.ofInt k.bits a ||| BitVec.ofInt k.bits b).toNat
  | .xor=>(BitVec.ofInt k.bits a ^^^ BitVec.ofInt k.bits b).toNat
  | _=>(BitVec.ofInt k.bits a &&& ~~~BitVec.ofInt k.bits b).toNat)
def Zaa5(op:BinOp)(k:IntKind)(a b:Int):Option Zf:=
 match op with
 | .add=>some (.int k (k.wrap (a+b)))
 | .sub=>some (.int k (k.wrap (a - b)))
 | .mul=>some (.int k (k.wrap (a*b)))
 | .quo=>if b=0 then none else some (.int k (k.wrap (a.tdiv b)))
 | .rem=>if b=0 then none else some (.int k (a.tmod b))
 | .and=>some (.int k (Zay .and k a b))
 | .or=>some (.int k (Zay .or k a b))
 | .xor=>some (.int k (Zay .xor k a b))
 | .andNot=>some (.int k (Zay .andNot k a b))
 | .eql=>some (.bool (a==b))
 | .neq=>some (.bool (a != b))
 | .lss=>some (.bool (decide (a < b)))
 | .leq=>some (.bool (decide (a<=b)))
 | .gtr=>some (.bool (decide (a > b)))
 | .geq=>some (.bool (decide (a>=b)))
 | _=>none
def Zaj8(op:BinOp)(k:IntKind)(a b:Int):Option Zf:=
 if b < 0 then none else
 match op with
 | .shl=>some (.int k (k.wrap (a*2 ^ (min b.toNat k.bits))))
 | .shr=>some (.int k (a.fdiv (2 ^ (min b.toNat k.bits))))
 | _=>none
def Zaui(op:BinOp)(a b:List UInt8):Option Zf:=
 match op with
 | .eql=>some (.bool (a==b))
 | .neq=>some (.bool (!(a==b)))
 | .lss=>some (.bool (Op.bytesLess a b))
 | .leq=>some (.bool (Op.bytesLess a b||a==b))
 | .gtr=>some (.bool (!(Op.bytesLess a b||a==b)))
 | .geq=>some (.bool (!Op.bytesLess a b))
 | _=>none
theorem Ze3{op:BinOp}{t:TypeId}{x y:Operand}{u v:Value}(w:World)(h:match u,v with | .nilIface,.nilIface=>False | .agg _,.agg _=>False | _,_=>True) :
 (eqGuard op t x y u v).run P w = .ok () w:=by
 unfold eqGuard
 cases op<;>simp only [Bool.not_true,Bool.not_false,if_true,Bool.false_eq_true,if_false,Sem.run_bind,Sem.run_pure,Result.andThen_ok] <;>
  (cases u<;>cases v<;>first | exact h.elim | rfl)
theorem Zauj{op:BinOp}{xT yT:TypeId}{x y:Operand}{k:IntKind}{a b:Int}{r:Zf}(ho:o.op = .binOp op xT x y yT)(hx:Zp ρ x=some (.t (.int k a)))(hy:Zp ρ y=some (.t (.int k b)))
 (hr:Zaa5 op k a b=some r):Zas P o ρ Z [] (.t r) []:=
 Zbp fun G β n tm Z' A w hop _ _=>by
  have h1:=hop x _ (by simp [ho,Op.operands]) hx
  have h2:=hop y _ (by simp [ho,Op.operands]) hy
  simp only [VR,Z0] at h1 h2
  have hg:=Ze3 (P:=P) (op:=op) (t:=xT) (x:=x) (y:=y) (u := .int k a) (v := .int k b) w trivial
  cases op<;>simp only [Zaa5] at hr
  case quo=>
   split at hr
   .cases hr
   .rename_i hb
    cases hr
    exact⟨_,by simp [execOp,ho,h1,h2,hg,binOp,Op.intDiv,hb];rfl,by simp [VR,Z0]⟩
  case rem=>
   split at hr
   .cases hr
   .rename_i hb
    cases hr
    exact⟨_,by simp [execOp,ho,h1,h2,hg,binOp,Op.intDiv,hb];rfl,by simp [VR,Z0]⟩
  case shl=>cases hr
  case shr=>cases hr
  all_goals
   cases hr
   exact⟨_,by simp [execOp,ho,h1,h2,hg,binOp,Op.intArith,Op.intBits,Op.intCmp];rfl,by simp [VR,Z0,Zay]⟩
theorem Zauk{op:BinOp}{xT yT:TypeId}{x y:Operand}{k k':IntKind}{a b:Int}{r:Zf}(ho:o.op = .binOp op xT x y yT)(hx:Zp ρ x=some (.t (.int k a)))(hy:Zp ρ y=some (.t (.int k' b)))
 (hr:Zaj8 op k a b=some r):Zas P o ρ Z [] (.t r) []:=
 Zbp fun G β n tm Z' A w hop _ _=>by
  have h1:=hop x _ (by simp [ho,Op.operands]) hx
  have h2:=hop y _ (by simp [ho,Op.operands]) hy
  simp only [VR,Z0] at h1 h2
  have hg:=Ze3 (P:=P) (op:=op) (t:=xT) (x:=x) (y:=y) (u := .int k a) (v := .int k' b) w trivial
  unfold Zaj8 at hr
  split at hr
  .cases hr
  rename_i hb
  cases op<;>simp only at hr<;>cases hr
  all_goals exact⟨_,by simp [execOp,ho,h1,h2,hg,binOp,Op.shift,hb];rfl,by simp [VR,Z0]⟩
theorem Zbf0{op:BinOp}{xT yT:TypeId}{x y:Operand}{a b:List UInt8}{r:Zf}(ho:o.op = .binOp op xT x y yT)(hx:Zp ρ x=some (.t (.str a)))(hy:Zp ρ y=some (.t (.str b)))
 (hr:Zaui op a b=some r):Zas P o ρ Z [] (.t r) []:=
 Zbp fun G β n tm Z' A w hop _ _=>by
  have h1:=hop x _ (by simp [ho,Op.operands]) hx
  have h2:=hop y _ (by simp [ho,Op.operands]) hy
  simp only [VR,Z0] at h1 h2
  have hg:=Ze3 (P:=P) (op:=op) (t:=xT) (x:=x) (y:=y) (u := .string ⟨a.toArray⟩) (v := .string ⟨b.toArray⟩) w trivial
  cases op<;>simp only [Zaui] at hr<;>cases hr
  all_goals exact⟨_,by simp [execOp,ho,h1,h2,hg,binOp,Op.stringOp,ByteArray.toList_eq];rfl,by simp [VR,Z0]⟩
theorem Za5x{xT yT:TypeId}{x y:Operand}{a b:List UInt8}(ho:o.op = .binOp .add xT x y yT)(hx:Zp ρ x=some (.t (.str a)))(hy:Zp ρ y=some (.t (.str b)))
 (hl:a.length+b.length<=9223372036854775807):Zas P o ρ Z [] (.t (.str (a++b))) []:=
 Zbp fun G β n tm Z' A w hop _ _=>by
  have h1:=hop x _ (by simp [ho,Op.operands]) hx
  have h2:=hop y _ (by simp [ho,Op.operands]) hy
  simp only [VR,Z0] at h1 h2
  have hg:=Ze3 (P:=P) (op := .add) (t:=xT) (x:=x) (y:=y) (u := .string ⟨a.toArray⟩) (v := .string ⟨b.toArray⟩) w trivial
  have hsz:¬ (((⟨a.toArray⟩:ByteArray).size+(⟨b.toArray⟩:ByteArray).size:Nat):Int) > IntKind.i64.max:=by
   have e1:(⟨a.toArray⟩:ByteArray).size=a.length:=by simp [ByteArray.size]
   have e2:(⟨b.toArray⟩:ByteArray).size=b.length:=by simp [ByteArray.size]
   rw [e1,e2]
   have:IntKind.i64.max=9223372036854775807:=by rfl
   omega
  refine⟨.string ⟨(a++b).toArray⟩,?_,by simp [VR,Z0]⟩
  have happ:(⟨a.toArray⟩:ByteArray)++(⟨b.toArray⟩:ByteArray)=⟨(a++b).toArray⟩:=by
   apply ByteArray.ext
   simp
  simp only [execOp,ho,h1,h2,Sem.run_bind,hg,Result.andThen_ok,binOp,Op.stringOp,hsz,if_false,Sem.run_pure,happ]
theorem Zaqs{op:BinOp}{xT yT:TypeId}{x y:Operand}{a b r:Bool}(ho:o.op = .binOp op xT x y yT)(hT:P.underlying xT=some .bool)(hx:Zp ρ x=some (.t (.bool a)))(hy:Zp ρ y=some (.t (.bool b)))
 (hr:(op = .eql/\r=(a==b))\/(op = .neq/\r = !(a==b))):Zas P o ρ Z [] (.t (.bool r)) []:=
 Zbp fun G β n tm Z' A w hop _ _=>by
  have h1:=hop x _ (by simp [ho,Op.operands]) hx
  have h2:=hop y _ (by simp [ho,Op.operands]) hy
  simp only [VR,Z0] at h1 h2
  have hg:=Ze3 (P:=P) (op:=op) (t:=xT) (x:=x) (y:=y) (u := .bool a) (v := .bool b) w trivial
  have he:(Op.equal xT (.bool a) (.bool b)).run P w = .ok (a==b) w:=run_equalIn_bool' w 9999 xT a b hT
  refine⟨.bool r,?_,by simp [VR,Z0]⟩
  rcases hr with ⟨rfl,rfl⟩ | ⟨rfl,rfl⟩<;>simp [execOp,ho,h1,h2,hg,binOp,he]
theorem Zaoj{c:Ctx}:∀ {ts:List Zf} {vs:List Value} {ks:List LK},VRs c (ts.map PV.t) vs->fits ks ts=true->vs=ts.map Zmr
 | [],vs,_,h,_=>by simpa [VRs] using h
 | t::ts,vs,ks,h,hf=>by
  cases ks with
  | nil=>simp [fits] at hf
  | cons k ks=>
   simp only [List.map_cons,VRs] at h
   obtain⟨v,rest,rfl,hv,hr⟩:=h
   simp only [fits,Bool.and_eq_true] at hf
   rw [Zaoj hr hf.2]
   have:v=Zmr t:=by
    simp only [VR] at hv
    cases t<;>cases k<;>simp only [LK.fits,Bool.false_eq_true,false_and] at hf<;>simpa [Z0,Zmr] using hv
   rw [this];rfl
def eqOp(op:BinOp)(r:Bool):Option Bool:=
 match op with
 | .eql=>some r
 | .neq=>some (!r)
 | _=>none
theorem Za85{op:BinOp}{xT yT:TypeId}{x y:Operand}{as bs:List Zf}{r:Bool}(d:Nat)(ks:List LK)(ho:o.op = .binOp op xT x y yT)(hd:d<=10000)(hT:Zjh P d xT=some ks)
 (hagg:∃ k,P.underlying xT=some k/\k.isRow=true) (hgt:P.eqGuardType P.depth xT=false)
 (hx:Zp ρ x=some (.agg (as.map .t))) (hy:Zp ρ y=some (.agg (bs.map .t))) (ha:fits ks as=true) (hb:fits ks bs=true) (hr:eqOp op (Zy as bs)=some r):Zas P o ρ Z [] (.t (.bool r)) []:=
 Zbp fun G β n tm Z' A w hop _ _=>by
  have h1:=hop x _ (by simp [ho,Op.operands]) hx
  have h2:=hop y _ (by simp [ho,Op.operands]) hy
  simp only [VR] at h1 h2
  obtain⟨vs,h1,hv1⟩:=h1
  obtain⟨us,h2,hv2⟩:=h2
  have e1:=Zaoj hv1 ha
  have e2:=Zaoj hv2 hb
  subst e1;subst e2
  obtain⟨k,hk,hrow⟩:=hagg
  have hp1:Zms P xT as = .agg (as.map Zmr).toArray:=by cases k<;>simp_all [Zms]
  have hp2:Zms P xT bs = .agg (bs.map Zmr).toArray:=by cases k<;>simp_all [Zms]
  have he:=Z7l (P:=P) (10000 - d) d xT ks hT w as bs ha hb
  rw [show 10000 - d+d=10000 by omega,hp1,hp2] at he
  have hg:=run_eqGuard_agg (P:=P) w op xT x y (as.map Zmr).toArray (bs.map Zmr).toArray hgt
  refine⟨.bool r,?_,by simp [VR,Z0]⟩
  cases op<;>simp only [eqOp] at hr<;>cases hr
  .simp only [execOp,ho,h1,h2,Sem.run_bind,hg,Result.andThen_ok,run_eql_struct,he,Sem.run_pure]
  .simp only [execOp,ho,h1,h2,Sem.run_bind,hg,Result.andThen_ok,run_neq_struct,he,Sem.run_pure]
theorem Zbf1{t:TypeId}{x:Operand}{b:Bool}(ho:o.op = .unOp .not t x)(hx:Zp ρ x=some (.t (.bool b))):Zas P o ρ Z [] (.t (.bool (!b))) []:=
 Zbp fun G β n tm Z' A w hop _ _=>by
  have h1:=hop x _ (by simp [ho,Op.operands]) hx
  simp only [VR,Z0] at h1
  exact⟨_,by simp [execOp,ho,h1,Op.unary];rfl,by simp [VR,Z0]⟩
theorem Zbf2{t:TypeId}{x:Operand}{k:IntKind}{a:Int}(ho:o.op = .unOp .neg t x)(hx:Zp ρ x=some (.t (.int k a))):Zas P o ρ Z [] (.t (.int k (k.wrap (0 - a)))) []:=
 Zbp fun G β n tm Z' A w hop _ _=>by
  have h1:=hop x _ (by simp [ho,Op.operands]) hx
  simp only [VR,Z0] at h1
  exact⟨.int k (k.wrap (0 - a)),by simp only [execOp,ho,h1,Op.unary,Op.intArith,Sem.run_bind,Sem.run_pure,Result.andThen_ok],by simp [VR,Z0]⟩
theorem Za86{t:TypeId}{x:Operand}{k:IntKind}{a:Int}(ho:o.op = .unOp .xor t x)(hx:Zp ρ x=some (.t (.int k a))):Zas P o ρ Z [] (.t (.int k (Zay .xor k (if k.signed then -1 else k.max) a))) []:=
 Zbp fun G β n tm Z' A w hop _ _=>by
  have h1:=hop x _ (by simp [ho,Op.operands]) hx
  simp only [VR,Z0] at h1
  exact⟨.int k (Zay .xor k (if k.signed then -1 else k.max) a),by simp only [execOp,ho,h1,Op.unary,Op.intBits,Sem.run_bind,Sem.run_pure,Result.andThen_ok,Zay],by simp [VR,Z0]⟩
theorem Za2p{s d:TypeId}{x:Operand}{k k':IntKind}{a:Int}(ho:o.op = .convert s d x)(hs:∃ ds,P.underlying s=some ds)(hd:P.underlying d=some (.int k'))(hx:Zp ρ x=some (.t (.int k a))) :
 Zas P o ρ Z [] (.t (.int k' (k'.wrap a))) []:=
 Zbp fun G β n tm Z' A w hop _ _=>by
  have h1:=hop x _ (by simp [ho,Op.operands]) hx
  simp only [VR,Z0] at h1
  obtain⟨ds,hs⟩:=hs
  refine⟨.int k' (k'.wrap a),?_,by simp [VR,Z0]⟩
  simp only [execOp,ho,h1,convert,Sem.run_bind,run_underlying hs,run_underlying hd,Result.andThen_ok,Conv.intToInt,Sem.run_pure]
theorem Za2q{s d:TypeId}{x:Operand}{a:List UInt8}(ho:o.op = .convert s d x)(hs:P.underlying s=some .string)(hd:P.underlying d=some .string)(hx:Zp ρ x=some (.t (.str a))) :
 Zas P o ρ Z [] (.t (.str a)) []:=
 Zbp fun G β n tm Z' A w hop _ _=>by
  have h1:=hop x _ (by simp [ho,Op.operands]) hx
  simp only [VR,Z0] at h1
  refine⟨.string ⟨a.toArray⟩,?_,by simp [VR,Z0]⟩
  simp only [execOp,ho,h1,convert,Sem.run_bind,run_underlying hs,run_underlying hd,Result.andThen_ok,Sem.run_pure]
theorem Zbf3{t:TypeId}{x:Operand}{es:List (List Zf)}{e:TypeId}(ho:o.op = .call { callee := .builtin .len,args := #[x],argTypes := #[t] })(hT:P.underlying t=some (.slice e))(hx:Zp ρ x=some (.t (.sl es))) :
 Zas P o ρ Z [] (.t (.int .i64 es.length)) []:=
 Zbp fun G β n tm Z' A w hop _ _=>by
  have h1:=hop x _ (by simp [ho,Op.operands,Call.operands]) hx
  simp only [VR,Z0] at h1
  obtain⟨a,cap,h1,_⟩:=h1
  exact⟨.int .i64 es.length,by simp [execOp,ho,resolve,invoke,builtin,Builtin.len_,h1,run_underlying hT,goInt],by simp [VR,Z0]⟩
theorem Za5y{t:TypeId}{x:Operand}{e:TypeId}(ho:o.op = .call { callee := .builtin .len,args := #[x],argTypes := #[t] })(hT:P.underlying t=some (.slice e))(hx:Zp ρ x=some .nils) :
 Zas P o ρ Z [] (.t (.int .i64 0)) []:=
 Zbp fun G β n tm Z' A w hop _ _=>by
  have h1:=hop x _ (by simp [ho,Op.operands,Call.operands]) hx
  simp only [VR] at h1
  obtain⟨a,h1⟩:=h1
  exact⟨.int .i64 0,by simp [execOp,ho,resolve,invoke,builtin,Builtin.len_,h1,run_underlying hT,goInt],by simp [VR,Z0]⟩
theorem Za5z{t:TypeId}{x:Operand}{e:TypeId}{l m k:Nat}{es:List (List Zf)}(ho:o.op = .call { callee := .builtin .len,args := #[x],argTypes := #[t] })(hT:P.underlying t=some (.slice e))
 (hx:Zp ρ x=some (.osl l m)) (hg:get Z l=some (.row k es)) (hm:es.length=m):Zas P o ρ Z [l] (.t (.int .i64 m)) []:=
 Zbp fun G β n tm Z' A w hop hneed _=>by
  have h1:=hop x _ (by simp [ho,Op.operands,Call.operands]) hx
  simp only [VR] at h1
  obtain⟨a,cap,hv,_⟩:=(h1.1 k es (by rw [<- hg];exact hneed l (by simp))).2 hm.symm
  exact⟨.int .i64 m,by simp [execOp,ho,resolve,invoke,builtin,Builtin.len_,hv,run_underlying hT,goInt],by simp [VR,Z0]⟩
theorem Za50{t:TypeId}{x:Operand}{s:List UInt8}(ho:o.op = .call { callee := .builtin .len,args := #[x],argTypes := #[t] })(hT:P.underlying t=some .string)(hx:Zp ρ x=some (.t (.str s))) :
 Zas P o ρ Z [] (.t (.int .i64 s.length)) []:=
 Zbp fun G β n tm Z' A w hop _ _=>by
  have h1:=hop x _ (by simp [ho,Op.operands,Call.operands]) hx
  simp only [VR,Z0] at h1
  have e:((⟨s.toArray⟩:ByteArray).size:Nat)=s.length:=by simp [ByteArray.size]
  refine⟨.int .i64 s.length,?_,by simp [VR,Z0]⟩
  simp only [execOp,ho,resolve,invoke,builtin,Builtin.len_,List.map_toArray,List.map_cons,List.map_nil,Sem.run_bind,Sem.run_pure,Result.andThen_ok,h1]
  simp [run_underlying hT,goInt,e]
theorem VRs.drop{c:Ctx}:∀ {ps:List PV} {vs:List Value} (n:Nat),VRs c ps vs->VRs c (ps.drop n) (vs.drop n)
 | ps,vs,0,h=>by simpa using h
 | [],vs,n+1,h=>by simp only [VRs] at h;subst h;simp [VRs]
 | p::ps,vs,n+1,h=>by
  simp only [VRs] at h
  obtain⟨v,rest,rfl,_,hr⟩:=h
  simpa using VRs.drop n hr
theorem VRs.take{c:Ctx}:∀ {ps:List PV} {vs:List Value} (n:Nat),VRs c ps vs->VRs c (ps.take n) (vs.take n)
 | ps,vs,0,_=>by simp [VRs]
 | [],vs,n+1,h=>by simp only [VRs] at h;subst h;simp [VRs]
 | p::ps,vs,n+1,h=>by
  simp only [VRs] at h
  obtain⟨v,rest,rfl,hv,hr⟩:=h
  simp only [List.take_succ_cons,VRs]
  exact⟨v,_,rfl,hv,VRs.take n hr⟩
structure TyF (P:Program) (t:TypeId) (agg:Bool) (size:Nat):Prop where
 und:∃ d,P.underlying t=some d/\d.isRow=agg
 size:(P.info? t).map (·.size)=some size
theorem TyF.info{P:Program}{t:TypeId}{agg:Bool}{size:Nat}(h:TyF P t agg size):∃ i,P.info? t=some i/\i.size=size:=by
 cases hi:P.info? t with
 | none=>have:=h.size;simp [hi] at this
 | some i=>exact⟨i,rfl,by have:=h.size;simpa [hi] using this⟩
theorem TyF.run_isAgg{P:Program}{t:TypeId}{agg:Bool}{size:Nat}(h:TyF P t agg size)(w:World):(isAgg t).run P w = .ok agg w:=by
 obtain⟨d,hu,hd⟩:=h.und
 unfold isAgg
 rw [Sem.run_bind,run_underlying hu w]
 cases d<;>simp_all
theorem TyF.run_sizeOf{P:Program}{t:TypeId}{agg:Bool}{size:Nat}(h:TyF P t agg size)(w:World):(sizeOf t).run P w = .ok size w:=by
 obtain⟨i,hi,hs⟩:=h.info
 simp [sizeOf,typeInfo,hi,hs]
def Zda(agg:Bool)(size off:Nat)(cs:List PV):Option PV:=
 bif agg then (bif Nat.ble (off+size) cs.length then some (.agg ((cs.drop off).take size)) else none) else cs[off]?
theorem Zafe{c:Ctx}{t:TypeId}{agg:Bool}{size off:Nat}(hT:TyF P t agg size)(w:World){ps:List PV}{vs:List Value}(hv:VRs c ps vs){p:PV}(hp:Zda agg size off ps=some p) :
 ∃ v,(part t vs.toArray off).run P w = .ok v w/\VR c p v:=by
 have hl:=hv.length
 cases agg with
 | false=>
  simp only [Zda,cond_false] at hp
  obtain⟨v,hv1,hv2⟩:=hv.get off p hp
  exact⟨v,by simp [part,hT.run_isAgg w,hv1],hv2⟩
 | true=>
  simp only [Zda,cond_true] at hp
  cases hb:Nat.ble (off+size) ps.length with
  | false=>simp [hb] at hp
  | true=>
   simp only [hb,cond_true,Option.some.injEq] at hp
   subst hp
   refine⟨.agg ((vs.drop off).take size).toArray,?_,?_⟩
   .simp [part,hT.run_isAgg w,hT.run_sizeOf w]
   .simp only [VR]
    exact⟨_,rfl,(hv.drop off).take size⟩
theorem Za87{xT fT:TypeId}{x:Operand}{i off:Nat}{cs:List PV}{p:PV}{agg:Bool}{size:Nat}(fs:Array Field)(f:Field)(ho:o.op = .field xT x i)(hT:P.underlying xT=some (.struct fs))(hf:fs[i]?=some f)
 (hft:f.type=fT) (hfo:f.offset=off) (hF:TyF P fT agg size) (hx:Zp ρ x=some (.agg cs)) (hp:Zda agg size off cs=some p):Zas P o ρ Z [] p []:=
 Zbp fun G β n tm Z' A w hop _ _=>by
  have h1:=hop x _ (by simp [ho,Op.operands]) hx
  simp only [VR] at h1
  obtain⟨vs,h1,hv⟩:=h1
  subst hft;subst hfo
  obtain⟨v,hr,hv⟩:=Zafe hF w hv hp
  refine⟨v,?_,hv⟩
  simp only [execOp,ho,h1,Instr.field,Sem.run_bind,run_underlying hT,Result.andThen_ok,hf,asAgg,Sem.run_pure,hr]
theorem Za2r{x:Operand}{i:Nat}{cs:List PV}{p:PV}(ho:o.op = .extract x i)(hx:Zp ρ x=some (.tup cs))(hp:cs[i]?=some p):Zas P o ρ Z [] p []:=
 Zbp fun G β n tm Z' A w hop _ _=>by
  have h1:=hop x _ (by simp [ho,Op.operands]) hx
  simp only [VR] at h1
  obtain⟨vs,h1,hv⟩:=h1
  obtain⟨v,hv1,hv2⟩:=hv.get i p hp
  refine⟨v,?_,hv2⟩
  simp [execOp,ho,h1,Instr.extract,hv1]
theorem Zazq{x:Operand}{p:PV}(ho:o.op = .nilCheck x)(hx:Zp ρ x=some p)(hp:match p with | .bptr _ _=>False | .rptr _ _ _ _=>False | .vptr _=>True | _=>False):Zas P o ρ Z [] p []:=
 Zbp fun G β n tm Z' A w hop _ _=>by
  have h1:=hop x _ (by simp [ho,Op.operands]) hx
  cases p<;>simp only at hp
  simp only [VR] at h1 ⊢
  obtain⟨b,off,hv,h⟩:=h1
  exact⟨.pointer (some ⟨b,off,none⟩),by simp [execOp,ho,hv],b,off,rfl,h⟩
theorem Zazr{t:TypeId}{f:FuncId}{caps:Array Operand}{ps:List PV}(ho:o.op = .makeFunc (.func f) #[] caps)(hx:caps.toList.mapM (Zp ρ)=some ps):Zas P o ρ Z [] (.fn f ps) []:=
 Zbp fun G β n tm Z' A w hop _ _=>by
  refine⟨.func (.func f) #[] (caps.map A.eval),by simp [execOp,ho,Instr.makeFunc],?_⟩
  simp only [VR]
  refine⟨caps.toList.map A.eval,by rw [<- Array.toList_map],?_⟩
  have hall:∀ x∈caps.toList,∀ q,Zp ρ x=some q->VR (ctx G β w Z') q (A.eval x):=fun x hx q hq=>hop x q (by simp only [ho,Op.operands];simpa using hx) hq
  generalize caps.toList=l at hx hall
  clear hop ho t
  induction l generalizing ps with
  | nil=>simp at hx;subst hx;simp [VRs]
  | cons x l ih=>
   rw [List.mapM_cons] at hx
   simp only [bind,Option.bind_eq_some_iff,pure,Option.some.injEq] at hx
   obtain⟨q,hq,qs,hqs,rfl⟩:=hx
   simp only [List.map_cons,VRs]
   exact⟨_,_,rfl,hall x (by simp) q hq,ih hqs (fun y hy=>hall y (List.mem_cons_of_mem _ hy))⟩
end
end Go.PW
namespace Go.PW
open Go.RowKit
def Z7:PV->List PV
 | .agg cs=>cs
 | p=>[p]
def splice{α:Type}(cells:List α)(off:Nat)(cs:List α):List α:=cells.take off++cs++cells.drop (off+cs.length)
def Zj6(places:List (Nat×Nat))(cells:List PV):List (Nat×PV)->Option (List PV)
 | []=>some cells
 | (i,p)::rest=>
  match places[i]? with
  | none=>none
  | some (off,size)=>bif Nat.beq (Z7 p).length size&&Nat.ble (off+size) cells.length then Zj6 places (splice cells off (Z7 p)) rest else none
theorem VR.cells{c:Ctx}{p:PV}{v:Value}(h:VR c p v):VRs c (Z7 p) v.cells.toList:=by
 cases p
 case agg cs=>simp only [VR] at h;obtain⟨vs,rfl,h⟩:=h;simpa [Z7,Value.cells] using h
 all_goals
  simp only [Z7,VRs]
  refine⟨v,[],?_,h,rfl⟩
  cases v<;>first
   | rfl
   | (exfalso;simp only [VR] at h;first
    | (have:=Z0.oneCell h;simp [Value.oneCell'] at this;done)
    | (obtain⟨a,h⟩:=h;cases h;done)
    | (obtain⟨_,a,m,cap,h⟩:=h;cases h;done)
    | (obtain⟨_,a,h⟩:=h;cases h;done)
    | (obtain⟨b,off,h,_⟩:=h;cases h;done)
    | (obtain⟨vs,h,_⟩:=h;cases h;done)
    | (cases h;done))
theorem Zaj9(off:Nat):∀ (L:List Value) (k:Nat) (A:Array Value),off+k+L.length<=A.size ->
 ((L.zipIdx k).foldl (fun cs (x:Value×Nat)=>cs.setIfInBounds (off+x.2) x.1) A).toList=A.toList.take (off+k)++L++A.toList.drop (off+k+L.length)
 | [],k,A,_=>by simp
 | v::L,k,A,h=>by
  simp only [List.length_cons] at h
  simp only [List.zipIdx_cons,List.foldl_cons]
  rw [Zaj9 off L (k+1) _ (by simp;omega)]
  have hlt:off+k < A.toList.length:=by simp;omega
  have e1:(A.setIfInBounds (off+k) v).toList=A.toList.take (off+k)++v::A.toList.drop (off+k+1):=by
   rw [Array.toList_setIfInBounds,List.set_eq_take_append_cons_drop,if_pos hlt]
  rw [e1]
  have hl:(A.toList.take (off+k)).length=off+k:=by rw [List.length_take];omega
  rw [show off+(k+1)=off+k+1 by omega]
  have t1:(A.toList.take (off+k)++v::A.toList.drop (off+k+1)).take (off+k+1)=A.toList.take (off+k)++[v]:=by
   rw [List.take_append,hl,show off+k+1 - (off+k)=1 by omega,List.take_of_length_le (by rw [hl];omega)]
   rfl
  have t2:(A.toList.take (off+k)++v::A.toList.drop (off+k+1)).drop (off+k+1+L.length)=A.toList.drop (off+k+(L.length+1)):=by
   rw [List.drop_append,hl,List.drop_eq_nil_of_le (by rw [hl];omega),List.nil_append,show off+k+1+L.length - (off+k)=L.length+1 by omega,List.drop_succ_cons,List.drop_drop]
   congr 1;omega
  rw [t1,t2]
  simp
theorem VRs.append{c:Ctx}:∀ {ps qs:List PV} {vs us:List Value},VRs c ps vs->VRs c qs us->VRs c (ps++qs) (vs++us)
 | [],qs,vs,us,h,k=>by simp only [VRs] at h;subst h;simpa using k
 | p::ps,qs,vs,us,h,k=>by
  simp only [VRs] at h
  obtain⟨v,rest,rfl,hv,hr⟩:=h
  simp only [List.cons_append,VRs]
  exact⟨v,_,rfl,hv,hr.append k⟩
def VPs(c:Ctx):List (Nat×PV)->List (Nat×Value)->Prop
 | [],vs=>vs=[]
 | (i,p)::ps,vs=>∃ v rest,vs=(i,v)::rest/\VR c p v/\VPs c ps rest
theorem Zad6{c:Ctx}(pl:List (Nat×Nat))(f:Nat->Option (Nat×Nat))(hf:∀ i x,pl[i]?=some x->f i=some x):∀ (parts:List (Nat×PV)) (vals:List (Nat×Value)) (cells:List PV) (vs:List Value) (out:List PV),
 VPs c parts vals->VRs c cells vs->Zj6 pl cells parts=some out->∃ us,Instr.fill f vs.toArray vals=some us.toArray/\VRs c out us
 | [],vals,cells,vs,out,hp,hv,h=>by
  simp only [VPs] at hp
  subst hp
  simp only [Zj6,Option.some.injEq] at h
  subst h
  exact⟨vs,rfl,hv⟩
 | (i,p)::parts,vals,cells,vs,out,hp,hv,h=>by
  simp only [VPs] at hp
  obtain⟨v,rest,rfl,hpv,hr⟩:=hp
  simp only [Zj6] at h
  cases hpl:pl[i]? with
  | none=>simp [hpl] at h
  | some x=>
   obtain⟨off,size⟩:=x
   simp only [hpl] at h
   have hc:=hpv.cells
   have hcl:=hc.length
   have hvl:=hv.length
   cases hb:Nat.beq (Z7 p).length size&&Nat.ble (off+size) cells.length with
   | false=>simp [hb] at h
   | true=>
    simp only [hb,cond_true] at h
    simp only [Bool.and_eq_true,Z1,Nat.ble_eq] at hb
    have hsz:v.cells.size=size:=by rw [<- Array.length_toList,hcl,hb.1]
    have hfill:(v.cells.zipIdx.foldl (fun cs (x:Value×Nat)=>cs.setIfInBounds (off+x.2) x.1) vs.toArray)=(splice vs off v.cells.toList).toArray:=by
     apply Array.ext'
     rw [<- Array.foldl_toList,Array.toList_zipIdx,Zaj9 off v.cells.toList 0 vs.toArray (by simp;omega)]
     simp [splice]
    obtain⟨us,hu,hus⟩:=Zad6 pl f hf parts rest (splice cells off (Z7 p)) (splice vs off v.cells.toList) out hr (((hv.take off).append hc).append (by rw [hcl];exact hv.drop _)) h
    refine⟨us,?_,hus⟩
    simp only [Instr.fill,hf i _ hpl]
    have hn:¬ (v.cells.size≠size\/off+v.cells.size > vs.toArray.size):=by simp;omega
    have hcond:(decide (v.cells.size≠size)||decide (off+v.cells.size > vs.toArray.size))=false:=by simp;omega
    rw [if_neg (by simpa using hn)]
    rw [hfill];exact hu
def Zsy(P:Program)(t:TypeId):Option (List (Nat×Nat)):=
 match P.underlying t with
 | some (.struct fs)=>fs.toList.mapM fun f=>(P.info? f.type).map fun i=>(f.offset,i.size)
 | _=>none
def Zaa6(P:Program)(t:TypeId):Option (List (Nat×Nat)):=
 match P.underlying t with
 | some (.array n e)=>(P.info? e).map fun i=>(List.range n).map fun j=>(j*i.size,i.size)
 | _=>none
def Zi6(P:Program)(t:TypeId):Option (List PV):=((P.info? t).bind (·.zero)).bind fun z=>z.cells.toList.mapM Zlg
theorem Zhk{c:Ctx}:∀ {vs:List Value} {ps:List PV},vs.mapM Zlg=some ps->VRs c ps vs
 | [],ps,h=>by simp at h;subst h;simp [VRs]
 | v::vs,ps,h=>by
  rw [List.mapM_cons] at h
  simp only [bind,Option.bind_eq_some_iff,pure,Option.some.injEq] at h
  obtain⟨p,hp,qs,hq,rfl⟩:=h
  simp only [VRs]
  exact⟨v,vs,rfl,Zaj7 hp,Zhk hq⟩
structure BuF (P:Program) (t:TypeId) (places:List (Nat×Nat)) (zero:List PV):Prop where
 pl:Zsy P t=some places\/Zaa6 P t=some places
 z:Zi6 P t=some zero
theorem BuF.run{P:Program}{t:TypeId}{places:List (Nat×Nat)}{zero out:List PV}(h:BuF P t places zero){c:Ctx}(w:World){parts:List (Nat×PV)}{vals:Array (Nat×Value)}
 (hp:VPs c parts vals.toList) (hf:Zj6 places zero parts=some out):∃ us,(Instr.build t vals).run P w = .ok (.agg us.toArray) w/\VRs c out us:=by
 have hz:=h.z
 unfold Zi6 at hz
 simp only [Option.bind_eq_some_iff] at hz
 obtain⟨z,⟨i,hi,hiz⟩,hz⟩:=hz
 have hzv:VRs c zero z.cells.toList:=Zhk hz
 rcases h.pl with hpl | hpl
 .unfold Zsy at hpl
  split at hpl
  .rename_i fs hu
   obtain⟨us,h1,h2⟩:=Zad6 (c:=c) places (fun x=>places.toArray[x]?) (fun j x hx=>by simpa using hx) parts vals.toList zero z.cells.toList out hp hzv hf
   refine⟨us,run_build w t vals us.toArray ?_,h2⟩
   simp only [Program.built,hi,hu,hiz,hpl]
   simpa using h1
  .cases hpl
 .unfold Zaa6 at hpl
  split at hpl
  .rename_i n e hu
   simp only [Option.map_eq_some_iff] at hpl
   obtain⟨ie,hie,rfl⟩:=hpl
   obtain⟨us,h1,h2⟩:=Zad6 (c:=c) _ (fun j=>some (j*ie.size,ie.size)) (fun j x hx=>by
    simp only [List.getElem?_map,Option.map_eq_some_iff] at hx
    obtain⟨j',hj,rfl⟩:=hx
    have:j'=j:=by
     rcases Nat.lt_or_ge j n with h | h
     .simpa [h] using hj.symm
     .simp [h] at hj
    rw [this]) parts vals.toList zero z.cells.toList out hp hzv hf
   refine⟨us,run_build w t vals us.toArray ?_,h2⟩
   simp only [Program.built,hi,hu,hiz,hie]
   simpa using h1
  .cases hpl
def Zgv(ρ:List (Nat×PV)):List (Nat×Operand)->Option (List (Nat×PV))
 | []=>some []
 | (i,x)::l=>
  match Zp ρ x,Zgv ρ l with
  | some p,some ps=>some ((i,p)::ps)
  | _,_=>none
section
variable {P:Program} {o:Oper} {ρ:List (Nat×PV)} {Z:List (Nat×Blk)}
theorem Zpo{c:Ctx}(f:Operand->Value):∀ (l:List (Nat×Operand)) (ps:List (Nat×PV)),(∀ x q,x∈l.map (·.2)->Zp ρ x=some q->VR c q (f x))->Zgv ρ l=some ps->VPs c ps (l.map fun (i,x)=>(i,f x))
 | [],ps,_,h=>by simp only [Zgv,Option.some.injEq] at h;subst h;simp [VPs]
 | (i,x)::l,ps,hop,h=>by
  simp only [Zgv] at h
  split at h
  .rename_i p qs hp hqs
   cases h
   simp only [List.map_cons,VPs]
   exact⟨f x,_,rfl,hop x p (by simp) hp,Zpo f l qs (fun y q hy=>hop y q (by simp only [List.map_cons,List.mem_cons];exact .inr hy)) hqs⟩
  .cases h
theorem Zaul{t:TypeId}{parts:Array (Nat×Operand)}{places:List (Nat×Nat)}{zero out:List PV}{ps:List (Nat×PV)}(ho:o.op = .build t parts)(hB:BuF P t places zero)
 (hp:Zgv ρ parts.toList=some ps) (hf:Zj6 places zero ps=some out):Zas P o ρ Z [] (.agg out) []:=
 Zbp fun G β n tm Z' A w hop _ _=>by
  have hv:=Zpo (ρ:=ρ) (c:=ctx G β w Z') A.eval parts.toList ps (fun x q hx hq=>hop x q (by simpa [ho,Op.operands] using hx) hq) hp
  obtain⟨us,h1,h2⟩:=hB.run (c:=ctx G β w Z') (vals:=parts.map fun (i,x)=>(i,A.eval x)) w (by rw [Array.toList_map];exact hv) hf
  refine⟨.agg us.toArray,?_,by simp only [VR];exact⟨us,rfl,h2⟩⟩
  simp only [execOp,ho,Sem.run_bind,h1,Result.andThen_ok,Sem.run_pure]
theorem Zap(w:World)(ob:Obj)(b:Nat)(h:b < w.heap.size):(w.alloc ob).heap[b]?=w.heap[b]?:=Below.heap_alloc w ob b h
theorem Zan.allocImm{G:Frm}{β:Nat->Option Nat}{st:St}{a:Act}{w:World}(h:Zan G β st a w)(ob:Obj):Zan G β st a (w.alloc ob) /\
 (∀ b,(ctx G β w st.Z).I b->(ctx G β (w.alloc ob) st.Z).I b/\(ctx G β (w.alloc ob) st.Z).w.heap[b]?=(ctx G β w st.Z).w.heap[b]?)/\(ctx G β (w.alloc ob) st.Z).I w.heap.size /\
 (∀ l,Zal (ctx G β w st.Z) (ctx G β (w.alloc ob) st.Z) l):=by
 have hlt:∀ b,Imm G β w st.Z b->b < w.heap.size:=fun b hb=>hb.1
 have hO:∀ l o,get st.Z l=some o->∀ b,Zae β (w.alloc ob) l o b->Zae β w l o b:=fun l o hl b ho=>ho.of_heap (fun b hb=>Zap w ob b (h.sep l o b hl (.inl hb)).1)
 have hI:∀ b,(ctx G β w st.Z).I b->(ctx G β (w.alloc ob) st.Z).I b/\(ctx G β (w.alloc ob) st.Z).w.heap[b]?=(ctx G β w st.Z).w.heap[b]?:=fun b hb=>by
  refine⟨?_,Zap w ob b (hlt b hb)⟩
  exact⟨by have:=hb.1;simp;omega,hb.2.1,fun l o hl ho=>hb.2.2 l o hl (hO l o hl b ho)⟩
 have hL:∀ l,Zal (ctx G β w st.Z) (ctx G β (w.alloc ob) st.Z) l:=fun l=>by
  cases hg:get st.Z l with
  | none=>exact Zal.none hg
  | some o=>exact Zal.same rfl rfl (fun b hb=>Zap w ob b (h.sep l o b hg (.inl hb)).1)
 refine⟨?_,hI,⟨by simp [ctx],.inl h.base,fun l o hl hb=>by have:=(h.sep l o _ hl (hO l o hl _ hb)).1;omega⟩,hL⟩
 exact { defers := h.defers, sz := h.sz, base := by simp; have := h.base; omega, os := h.os, tape := h.tape, output := h.output,
         old:=fun b hb ho=>(Zap w ob b (Nat.lt_of_lt_of_le hb h.base)).trans (h.old b hb ho),A:=h.A,gl:=h.gl,inj:=fun l l' o o' b hl hl' hb hb'=>h.inj l l' o o' b hl hl' (hO l o hl b hb) (hO l' o' hl' b hb'),
         sep:=fun l o b hl hb=>by have:=h.sep l o b hl (hO l o hl b hb);exact⟨by simp;omega,this.2⟩,
         fix:=h.fix,row0:=h.row0.step (fun l _=>hL l),
         blk:=fun l o hl=>BR.step hI rfl (fun b hb=>Zap w ob b (h.sep l o b hl hb).1) (fun m _=>hL m) (h.blk l o hl),
         tm:=fun i p hp=>⟨(h.tm i p hp).1,VR.step hI p _ (fun m _=>hL m) (h.tm i p hp).2⟩ }
def Zh4(β:Nat->Option Nat)(l b:Nat):Nat->Option Nat:=fun m=>if m=l then some b else β m
theorem Zde(β:Nat->Option Nat)(l b:Nat):Zh4 β l b l=some b:=by simp [Zh4]
theorem Zj7(β:Nat->Option Nat){l m:Nat}(b:Nat)(h:m≠l):Zh4 β l b m=β m:=by simp [Zh4,h]
theorem Zan.allocOwn{G:Frm}{β:Nat->Option Nat}{n:Nat}{tm:List (Nat×PV)}{Z:List (Nat×Blk)}{a:Act}{w:World}(h:Zan G β ⟨n,tm,Z⟩ a w)(cs:Array Value)(e:TypeId)(l:Nat)(blk:Blk)(hlab:1000<=l)(hflat:blk.flat)
 (hf1:∀ i q,get tm i=some q->q.has l=false) (hf2:∀ m y,get Z m=some y->m≠l/\y.has l=false)
 (hblk:(∀ b,(ctx G β w Z).I b->(ctx G (Zh4 β l w.heap.size) (w.alloc (.cells cs e)) ((l,blk)::Z)).I b/\(ctx G (Zh4 β l w.heap.size) (w.alloc (.cells cs e)) ((l,blk)::Z)).w.heap[b]?=(ctx G β w Z).w.heap[b]?) ->
  (∀ m,m≠l->Zal (ctx G β w Z) (ctx G (Zh4 β l w.heap.size) (w.alloc (.cells cs e)) ((l,blk)::Z)) m)->Za4 (w.alloc (.cells cs e)) w.heap.size cs.size ->
  BR (ctx G (Zh4 β l w.heap.size) (w.alloc (.cells cs e)) ((l,blk)::Z)) l blk) :
 Zan G (Zh4 β l w.heap.size) ⟨n,tm,(l,blk)::Z⟩ a (w.alloc (.cells cs e))/\Za4 (w.alloc (.cells cs e)) w.heap.size cs.size /\
 (∀ b,(ctx G β w Z).I b->(ctx G (Zh4 β l w.heap.size) (w.alloc (.cells cs e)) ((l,blk)::Z)).I b/\(ctx G (Zh4 β l w.heap.size) (w.alloc (.cells cs e)) ((l,blk)::Z)).w.heap[b]?=(ctx G β w Z).w.heap[b]?) /\
 (∀ m,m≠l->Zal (ctx G β w Z) (ctx G (Zh4 β l w.heap.size) (w.alloc (.cells cs e)) ((l,blk)::Z)) m):=by
 have hgl:∀ m,m≠l->get ((l,blk)::Z) m=get Z m:=fun m hm=>by simp [get,Zgf (Ne.symm hm)]
 have hgs:get ((l,blk)::Z) l=some blk:=by simp [get]
 have hgn:get Z l=none:=by
  cases hg:get Z l with
  | none=>rfl
  | some y=>exact absurd rfl (hf2 l y hg).1
 have hlt:∀ b,Imm G β w Z b->b < w.heap.size:=fun b hb=>hb.1
 have hO:∀ m o,m≠l->get Z m=some o->∀ b,Zae (Zh4 β l w.heap.size) (w.alloc (.cells cs e)) m o b->Zae β w m o b:=fun m o hm hg b ho=>ho.of (Zj7 β _ hm) (fun b hb=>Zap w _ b (h.sep m o b hg (.inl hb)).1)
 have hrow:Za4 (w.alloc (.cells cs e)) w.heap.size cs.size:=⟨cs,e,(0,0),heap_alloc_new w _,rfl,.inl rfl⟩
 have hI:∀ b,(ctx G β w Z).I b->(ctx G (Zh4 β l w.heap.size) (w.alloc (.cells cs e)) ((l,blk)::Z)).I b/\(ctx G (Zh4 β l w.heap.size) (w.alloc (.cells cs e)) ((l,blk)::Z)).w.heap[b]?=(ctx G β w Z).w.heap[b]?:=fun b hb=>by
  refine⟨?_,Zap w _ b (hlt b hb)⟩
  have hbl:=hlt b hb
  obtain⟨h1,h2,h3⟩:=hb
  .refine⟨by simp;omega,h2,fun m o hm=>?_⟩
   by_cases hml:m=l
   .subst hml
    rw [hgs] at hm
    cases hm
    intro hh
    have:=hh.flat hflat
    rw [Zde] at this
    cases this;omega
   .have hm':get Z m=some o:=by rw [<- hgl m hml];exact hm
    exact fun ho=>h3 m o hm' (hO m o hml hm' b ho)
 have hL:∀ m,m≠l->Zal (ctx G β w Z) (ctx G (Zh4 β l w.heap.size) (w.alloc (.cells cs e)) ((l,blk)::Z)) m:=fun m hm=>by
  have hg':get ((l,blk)::Z) m=get Z m:=hgl m hm
  cases hg:get Z m with
  | none=>exact Zal.none (hg'.trans hg)
  | some o=>exact Zal.same hg' (Zj7 β _ hm) (fun b hb=>Zap w _ b (h.sep m o b hg (.inl hb)).1)
 refine⟨?_,hrow,hI,hL⟩
 have hns:∀ m o,m≠l->get ((l,blk)::Z) m=some o->get Z m=some o:=fun m o hm hg=>(hgl m hm).symm.trans hg
 exact { defers := h.defers, sz := h.sz, base := by simp; have := h.base; omega, os := h.os, tape := h.tape, output := h.output,
         old:=fun b hb ho=>(Zap w _ b (Nat.lt_of_lt_of_le hb h.base)).trans (h.old b hb ho),A:=h.A,gl:=h.gl,
         inj:=fun m m' o o' b hm hm' hb hb'=>by
          by_cases h1:m=l
          .by_cases h2:m'=l
           .rw [h1,h2]
           .subst h1
            rw [hgs] at hm
            cases hm
            have hb:=hb.flat hflat
            simp only [Zde,Option.some.injEq] at hb
            have:=(h.sep m' o' b (hns m' o' h2 hm') (hO m' o' h2 (hns m' o' h2 hm') b hb')).1
            omega
          .by_cases h2:m'=l
           .subst h2
            rw [hgs] at hm'
            cases hm'
            have hb':=hb'.flat hflat
            simp only [Zde,Option.some.injEq] at hb'
            have:=(h.sep m o b (hns m o h1 hm) (hO m o h1 (hns m o h1 hm) b hb)).1
            omega
           .exact h.inj m m' o o' b (hns m o h1 hm) (hns m' o' h2 hm') (hO m o h1 (hns m o h1 hm) b hb) (hO m' o' h2 (hns m' o' h2 hm') b hb'),
         sep:=fun m o b hm hb=>by
          by_cases h1:m=l
          .subst h1
           rw [hgs] at hm
           cases hm
           have hb:=hb.flat hflat
           simp only [Zde,Option.some.injEq] at hb
           subst hb
           exact⟨by simp,.inl h.base⟩
          .have:=h.sep m o b (hns m o h1 hm) (hO m o h1 (hns m o h1 hm) b hb)
           exact⟨by simp;omega,this.2⟩,
         fix:=fun m cs' h1 hm=>by
          have h2:m≠l:=by omega
          rw [Zj7 β _ h2]
          exact h.fix m cs' h1 (hns m _ h2 hm),
         row0:=h.row0.step (fun m hm=>hL m O),
         blk:=fun m o hm=>by
          by_cases h1:m=l
          .subst h1
           simp only [hgs,Option.some.injEq] at hm
           subst hm
           exact hblk hI hL hrow
          .have hm':=hns m o h1 hm
           exact BR.step hI (Zj7 β _ h1) (fun b hb=>Zap w _ b (h.sep m o b hm' hb).1) (fun q hq=>hL q (fun e=>by subst e;rw [(hf2 m o hm').2] at hq;cases hq)) (h.blk m o hm'),
         tm:=fun i p hp=>⟨(h.tm i p hp).1,VR.step hI p _ (fun q hq=>hL q (fun e=>by subst e;rw [hf1 i p hp] at hq;cases hq)) (h.tm i p hp).2⟩ }
theorem Z5y {need : List Nat} {p : PV} {l : Nat} {blk : Blk} (h : ∀ (G : Frm) (β : Nat -> Option Nat) (n : Nat) (tm : List (Nat × PV)) (Z' : List (Nat × Blk)) (a : Act) (w : World),
      (∀ x q,x∈o.op.operands->Zp ρ x=some q->VR (ctx G β w Z') q (a.eval x)/\q.has l=false)->(∀ m,m∈need->get Z' m=get Z m) ->
      (∀ i q,get tm i=some q->q.has l=false)->(∀ m y,get Z' m=some y->m≠l/\y.has l=false)->Zan G β ⟨n,tm,Z'⟩ a w ->
      ∃ v w',(execOp a.eval o).run P w = .ok (.value v) w'/\∃ β',Zan G β' ⟨n,tm,(l,blk)::Z'⟩ a w'/\VR (ctx G β' w' ((l,blk)::Z')) p v)
 (hcl:∀ x q,x∈o.op.operands->(∀ t,x ≠ .tmp t)->Zp ρ x=some q->q.has l=false):Zas P o ρ Z need p [(l,blk)]:=by
 intro G n tm Z' a w K Q hag hneed hfresh hr hK
 obtain⟨β,hr⟩:=hr
 obtain⟨hf1,hf2⟩:=hfresh l blk (by simp)
 obtain⟨v,w',hv,hp⟩:=h G β n tm Z' a w (fun x q hx hq=>⟨Zlh hr hq (fun t r ht hr'=>hag t r (ht▸hx) hr'),by
  cases x with
  | tmp t=>exact hf1 t q (hag t q hx hq)
  | const _=>exact hcl _ q hx (fun t e=>by cases e) hq
  | global _=>exact hcl _ q hx (fun t e=>by cases e) hq
  | func _=>exact hcl _ q hx (fun t e=>by cases e) hq⟩) hneed hf1 hf2 hr
 unfold Oper.wp
 rw [hv]
 exact hK v w' hp
theorem Zazs{v:Value}{p:PV}(h:Zlg v=some p)(l:Nat):p.has l=false:=by
 unfold Zlg at h
 split at h<;>cases h<;>rfl
theorem Zz3{x:Operand}{q:PV}(l:Nat)(hx:∀ t,x ≠ .tmp t)(h:Zp ρ x=some q):q.has l=false:=by
 cases x with
 | tmp t=>exact absurd rfl (hx t)
 | const v=>exact Zazs h l
 | func f=>simp only [Zp,Option.some.injEq] at h;subst h;rfl
 | global g=>
  simp only [Zp] at h
  obtain⟨ts,_,rfl⟩:=Z2c h
  rfl
theorem VRs.cellsAt(w:World)(vs:List Value)(e:TypeId):Z5v (w.alloc (.cells vs.toArray e)) w.heap.size vs:=fun j v hv=>by
 rw [World.cell?_alloc_new];simpa using hv
theorem Zasn{p:PV}{l:Nat}(h:p.has l=false):PV.hasAny l (Z7 p)=false:=by
 cases p<;>simp_all [Z7,PV.has,PV.hasAny]
theorem Zbf4{T:TypeId}{x:Operand}{p:PV}(l:Nat)(hlab:1000<=l)(ho:o.op = .box T x)(hx:Zp ρ x=some p)(h1:(Z7 p).all PV.one=true):Zas P o ρ Z [] (.bptr l 0) [(l,.box (Z7 p))]:=
 Z5y (fun G β n tm Z' A w hop _ hf1 hf2 hr=>by
  obtain⟨hv,hhas⟩:=hop x p (by simp [ho,Op.operands]) hx
  have hc:=hv.cells
  obtain⟨hr',hrow,hI,hL⟩:=hr.allocOwn (A.eval x).cells T l (.box (Z7 p)) hlab trivial hf1 hf2 (fun hI hL hrow=>⟨w.heap.size,(A.eval x).cells.toList,Zde _ _ _,by rw [<- hc.length,Array.length_toList];exact hrow,
   fun j v hv'=>by
    show (w.alloc _).cell? _=_
    rw [World.cell?_alloc_new];simpa using hv',VRs.step hI _ _ (fun q hq=>hL q (fun e=>by subst e;rw [Zasn hhas] at hq;cases hq)) hc,h1⟩)
  refine⟨.pointer (some ⟨w.heap.size,0,none⟩),w.alloc (.cells (A.eval x).cells T),?_,_,hr',?_⟩
  .simp [execOp,ho,Instr.box,newVar,newRow]
  .simp only [VR]
   exact⟨fun cs hcs=>⟨w.heap.size,Zde _ _ _,rfl⟩,_,rfl⟩) (fun _ _ _ hx hq=>Zz3 l hx hq)
theorem Za88{T:TypeId}{zero:List PV}(l:Nat)(hlab:1000<=l)(ho:o.op = .alloc T)(hz:Zi6 P T=some zero):Zas P o ρ Z [] (.bptr l 0) [(l,.box zero)]:=
 Z5y (fun G β n tm Z' A w hop _ hf1 hf2 hr=>by
  unfold Zi6 at hz
  simp only [Option.bind_eq_some_iff] at hz
  obtain⟨z,⟨i,hi,hiz⟩,hz⟩:=hz
  have h1:zero.all PV.one=true:=by
   generalize z.cells.toList=vs at hz
   clear hf1 hf2 hop hr
   induction vs generalizing zero with
   | nil=>simp at hz;subst hz;rfl
   | cons v vs ih=>
    rw [List.mapM_cons] at hz
    simp only [bind,Option.bind_eq_some_iff,pure,Option.some.injEq] at hz
    obtain⟨p,hp,qs,hq,rfl⟩:=hz
    simp [Zazp hp,ih hq]
  have hc:∀ c:Ctx,VRs c zero z.cells.toList:=fun c=>Zhk hz
  obtain⟨hr',hrow,hI,hL⟩:=hr.allocOwn z.cells T l (.box zero) hlab trivial hf1 hf2 (fun hI hL hrow=>⟨w.heap.size,z.cells.toList,Zde _ _ _,by rw [<- (hc (ctx G β w Z')).length,Array.length_toList];exact hrow,
   fun j v hv'=>by
    show (w.alloc _).cell? _=_
    rw [World.cell?_alloc_new];simpa using hv',hc _,h1⟩)
  refine⟨.pointer (some ⟨w.heap.size,0,none⟩),w.alloc (.cells z.cells T),?_,_,hr',?_⟩
  .simp [execOp,ho,Instr.alloc,zeroValue,typeInfo,hi,hiz,newVar,newRow]
  .simp only [VR]
   exact⟨fun cs hcs=>⟨w.heap.size,Zde _ _ _,rfl⟩,_,rfl⟩) (fun _ _ _ hx hq=>Zz3 l hx hq)
def toT:PV->Option Zf
 | .t x=>some x
 | .nils=>some (.sl [])
 | _=>none
def Zeb:List PV->Option (List Zf)
 | []=>some []
 | p::ps=>
  match toT p,Zeb ps with
  | some t,some ts=>some (t::ts)
  | _,_=>none
def chunk(k:Nat):Nat->List Zf->List (List Zf)
 | 0,_=>[]
 | n+1,ts=>ts.take k::chunk k n (ts.drop k)
theorem Zaum{c:Ctx}{p:PV}{t:Zf}{v:Value}(h:toT p=some t)(hv:VR c p v):Z0 c.I c.w t v:=by
 cases p<;>simp only [toT,Option.some.injEq] at h<;>first | (subst h) | (cases h)
 .simpa [VR] using hv
 .simp only [VR] at hv
  obtain⟨a,rfl⟩:=hv
  simp only [Z0]
  exact⟨a,0,rfl,by simp,by simp [maxLen],.inl trivial⟩
theorem Z7m{c:Ctx}{b:Nat}:∀ {ps:List PV} {ts:List Zf} {vs:List Value} (off:Nat),Zeb ps=some ts->VRs c ps vs->(∀ j v,vs[j]?=some v->c.w.cell? ⟨b,off+j,none⟩=some v)->Zw c.I c.w b ts off
 | [],ts,vs,off,h,_,_=>by simp only [Zeb,Option.some.injEq] at h;subst h;simp [Zw]
 | p::ps,ts,vs,off,h,hv,hc=>by
  simp only [Zeb] at h
  split at h
  .rename_i t ts' ht hts
   cases h
   simp only [VRs] at hv
   obtain⟨v,rest,rfl,hv,hr⟩:=hv
   simp only [Zw]
   refine⟨⟨v,by simpa using hc 0 v rfl,Zaum ht hv⟩,Z7m (off+1) hts hr fun j u hu=>?_⟩
   have:=hc (j+1) u (by simpa using hu)
   rwa [show off+(j+1)=off+1+j by omega] at this
  .cases h
theorem Zw.split{I:Nat->Prop}{w:World}{b:Nat}:∀ (k:Nat) (ts:List Zf) (off:Nat),Zw I w b ts off->Zw I w b (ts.take k) off/\Zw I w b (ts.drop k) (off+(ts.take k).length)
 | 0,ts,off,h=>by simpa [Zw] using h
 | k+1,[],off,h=>by simp [Zw]
 | k+1,t::ts,off,h=>by
  simp only [Zw] at h
  obtain⟨h1,h2⟩:=Zw.split k ts (off+1) h.2
  simp only [List.take_succ_cons,List.drop_succ_cons,Zw,List.length_cons]
  exact⟨⟨h.1,h1⟩,by rwa [show off+((ts.take k).length+1)=off+1+(ts.take k).length by omega]⟩
theorem Zr.chunk{I:Nat->Prop}{w:World}{b k:Nat}:∀ (n:Nat) (ts:List Zf) (off:Nat),Zw I w b ts off->Zr I w b (chunk k n ts) off
 | 0,_,_,_=>by simp [PW.chunk,Zr]
 | n+1,ts,off,h=>by
  obtain⟨h1,h2⟩:=Zw.split k ts off h
  simp only [PW.chunk,Zr]
  exact⟨h1,Zr.chunk n _ _ h2⟩
theorem Zoh(k:Nat):∀ (n:Nat) (ts:List Zf),(chunk k n ts).length=n
 | 0,_=>rfl
 | n+1,ts=>by simp [PW.chunk,Zoh k n]
theorem Zaqt(k:Nat):∀ (n:Nat) (ts:List Zf),ts.length=n*k->∀ el,el∈chunk k n ts->el.length=k
 | 0,_,_,el,h=>by simp [PW.chunk] at h
 | n+1,ts,hl,el,h=>by
  rw [Nat.add_mul,Nat.one_mul] at hl
  simp only [PW.chunk,List.mem_cons] at h
  rcases h with h | h
  .subst h;simp;omega
  .exact Zaqt k n _ (by simp;omega) el h
structure ElF (P:Program) (t e:TypeId) (k bytes:Nat) (zero:List PV):Prop where
 und:P.underlying t=some (.slice e)
 info:(P.info? e).map (fun i=>(i.size,i.bytes))=some (k,bytes)
 z:Zi6 P e=some zero
 pos:0 < k
 len:zero.length=k
def rep{α:Type}:Nat->List α->List α
 | 0,_=>[]
 | n+1,l=>l++rep n l
def Zmi(k n:Nat):List (Nat×Nat):=(List.range n).map fun j=>(j*k,k)
theorem Z89{z:Array Value}{k:Nat}(hz:z.size=k)(hk:0 < k):∀ n,(madeCells z (n*k)).toList=rep n z.toList
 | 0=>by simp [madeCells,rep]
 | n+1=>by
  rw [rep,<- Z89 hz hk n]
  apply List.ext_getElem?
  intro j
  simp only [madeCells,Array.toList_map,Array.toList_range,List.getElem?_map]
  rcases Nat.lt_or_ge j k with h | h
  .rw [List.getElem?_append_left (by simp;omega)]
   have h1:j < (n+1)*k:=by rw [Nat.add_mul];omega
   simp [h1,hz,Nat.mod_eq_of_lt h,h]
  .rw [List.getElem?_append_right (by simp;omega)]
   simp only [Array.length_toList,hz,List.getElem?_map]
   have e1:(n+1)*k=n*k+k:=by rw [Nat.add_mul,Nat.one_mul]
   by_cases h2:j < (n+1)*k
   .have h3:j - k < n*k:=by omega
    rw [List.getElem?_range h2,List.getElem?_range h3]
    simp only [Option.map_some]
    have:j % k=(j - k) % k:=by rw [Nat.mod_eq_sub_mod h]
    rw [this]
   .have h3:¬ j - k < n*k:=by omega
    rw [List.getElem?_eq_none (by simp;omega),List.getElem?_eq_none (by simp;omega)]
theorem VRs.rep{c:Ctx}{ps:List PV}{vs:List Value}(h:VRs c ps vs):∀ n,VRs c (PW.rep n ps) (PW.rep n vs)
 | 0=>by simp [PW.rep,VRs]
 | n+1=>by simp only [PW.rep];exact h.append (h.rep n)
theorem Zad7{t e:TypeId}{k bytes:Nat}{zero:List PV}(hE:ElF P t e k bytes zero){c:Ctx}(w:World){len:Nat}{parts:List (Nat×PV)}{vals:Array (Nat×Value)}{out:List PV}(hp:VPs c parts vals.toList)
 (hsmall:len*k<=16777216) (hf:Zj6 (Zmi k len) (rep len zero) parts=some out) :
 ∃ us,(Instr.buildSlice t len vals).run P w = .ok (.slice (some ⟨w.heap.size,0,none⟩) len len) (w.alloc (.cells us.toArray e))/\VRs c out us:=by
 cases hi:P.info? e with
 | none=>have:=hE.info;simp [hi] at this
 | some i=>
  have hik:i.size=k:=by have:=hE.info;simp [hi] at this;exact this.1
  have hz:=hE.z
  unfold Zi6 at hz
  simp only [hi,Option.bind_some,Option.bind_eq_some_iff] at hz
  obtain⟨z,hiz,hz⟩:=hz
  have hzv:VRs c zero z.cells.toList:=Zhk hz
  have hzl:z.cells.size=k:=by have:=hzv.length;rw [hE.len] at this;simpa using this
  have hpos:=hE.pos
  have hrep:=hzv.rep len
  rw [<- Z89 hzl hpos len] at hrep
  obtain⟨us,h1,h2⟩:=Zad6 (c:=c) (Zmi k len) (fun j=>some (j*k,k)) (fun j x hx=>by
   simp only [Zmi,List.getElem?_map,Option.map_eq_some_iff] at hx
   obtain⟨j',hj,rfl⟩:=hx
   have:j'=j:=by
    rcases Nat.lt_or_ge j len with h | h
    .simpa [h] using hj.symm
    .simp [h] at hj
   rw [this]) parts vals.toList (rep len zero) _ out hp hrep hf
  refine⟨us,?_,h2⟩
  by_cases hn:len=0
  .subst hn
   have hmade:madeCells z.cells (0*k) = #[]:=by simp [madeCells]
   have h1':Instr.fill (fun j=>some (j*k,k)) #[] vals.toList=some us.toArray:=by rw [hmade] at h1;simpa using h1
   simp only [Instr.buildSlice,Sem.run_bind,run_underlying hE.und,Result.andThen_ok,sizeOf,typeInfo,run_program,hi,Sem.run_pure,Nat.zero_mul,hik]
   have hmap:∀ f:Nat->Value,Array.map f (Array.range 0) = #[]:=fun f=>by simp
   simp only [Nat.not_lt_zero,gt_iff_lt,if_false,if_true,Sem.run_bind,Sem.run_pure,Result.andThen_ok,hmap,h1',newRow]
   simp
  .have hne:¬ len*i.size=0:=by rw [hik];exact Nat.ne_of_gt (Nat.mul_pos O hpos)
   refine run_buildSlice w t e len vals us.toArray i z hE.und hi hiz (by rw [hik];omega) hne ?_
   rw [hik]
   rw [Array.toArray_toList] at h1
   exact h1
end
end Go.PW
