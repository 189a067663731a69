import Derived.Test.YtchddhcajpagjaaGreatPwW
set_option linter.all false
namespace Go.PW
open Go.RowKit
theorem Zge{n:Int}(h0 : -9223372036854775808<=n)(h1:n < 9223372036854775808):IntKind.wrap .i64 n=n:=by
 simp only [IntKind.wrap,IntKind.bits,IntKind.signed,Bool.true_and,ge_iff_le,decide_eq_true_eq]
 rcases Int.lt_or_le n 0 with h | h
 .have:n % (2 ^ 64:Int)=n+2 ^ 64:=by
   rw [<- Int.add_emod_right]
   exact Int.emod_eq_of_lt (by omega) (by omega)
  rw [this,if_pos (by omega)]
  omega
 .have:n % (2 ^ 64:Int)=n:=Int.emod_eq_of_lt h (by omega)
  rw [this,if_neg (by omega)]
theorem Z2r{i n:Nat}(h:i < n)(hn:n<=4611686018427387904):IntKind.wrap .i64 ((i:Int)+1)=((i+1:Nat):Int):=by
 rw [Zge (by omega) (by omega)];omega
theorem Zkf{α:Type}{b:List α}{j:Nat}{x:α}(h:b[j]?=some x):idx? b (j:Int)=some x:=by
 unfold idx?
 rw [if_pos (by omega)]
 simpa using h
theorem Zbe0{α:Type}(b:List α){j:Nat}(h:j < b.length):idx? b (j:Int)=some b[j]:=Zkf (List.getElem?_eq_getElem h)
theorem Za7b{α:Type}{k:Nat}{a b:List α}(h:(a.length+b.length)*k<=140737488355328)(hk:0 < k):app? k a b=some (a++b):=by
 have:a.length+b.length<=(a.length+b.length)*k:=Nat.le_mul_of_pos_right _ hk
 unfold app?
 rw [if_pos ⟨h,by omega⟩]
theorem scan{S R:Type}{step:S->Option (S ⊕ R)}{st:Nat->S}{bad:R}(n:Nat)(q:Nat->Bool)(h:∀ i,i < n->step (st i)=some (bif q i then .inl (st (i+1)) else .inr bad)) :
 Zc0 step (st 0)=bif (List.range n).all q then Zc0 step (st n) else some bad:=by
 have key:∀ (d i:Nat),i+d=n->Zc0 step (st i)=bif (List.range' i d).all q then Zc0 step (st n) else some bad:=by
  intro d
  induction d with
  | zero=>intro i hi;rw [show i=n by omega];rfl
  | succ d ih=>
   intro i hi
   rw [Zao2,h i (by omega),List.range'_succ,List.all_cons]
   cases hq:q i with
   | true=>simp only [cond_true,Bool.true_and];exact ih (i+1) (by omega)
   | false=>rfl
 rw [key n 0 (by omega),List.range_eq_range']
theorem Zabo(k:IntKind)(x y:Int)(r s:List Zh):Z1 (cI k x++r) (cI k y++s)=(decide (x=y)&&Z1 r s):=by
 simp only [cI,List.cons_append,List.nil_append,Z1,Zm5]
 try rfl
theorem Za7c(x y:List UInt8)(r s:List Zh):Z1 (cS x++r) (cS y++s)=(decide (x=y)&&Z1 r s):=by
 simp only [cS,List.cons_append,List.nil_append,Z1,Zm5]
 congr 1
 by_cases h:x=y
 .subst h;simp
 .rw [decide_eq_false h];exact beq_eq_false_iff_ne.2 h
theorem Zbe1{α:Type} [DecidableEq α] {f:α->List Zh} (hf:∀ x y r s,Z1 (f x++r) (f y++s)=(decide (x=y)&&Z1 r s)) (x y:A5 α) (r s:List Zh):Z1 (cA5 f x++r) (cA5 f y++s)=(decide (x=y)&&Z1 r s):=by
 obtain⟨a0,a1,a2,a3,a4⟩:=x
 obtain⟨b0,b1,b2,b3,b4⟩:=y
 simp only [cA5,List.append_assoc,hf,A5.mk.injEq,Bool.decide_and,Bool.and_assoc]
theorem Zabp{α:Type} [DecidableEq α] {f:α->List Zh} (hf:∀ x y r s,Z1 (f x++r) (f y++s)=(decide (x=y)&&Z1 r s)) (x y:α):Z1 (f x) (f y)=decide (x=y):=by
 have:=hf x y [] []
 simpa [Z1] using this
section
variable {P:Program}
theorem Zy{t:TypeId}{k:IntKind}(hu:P.underlying t=some (.int k))(d:Nat)(ts:List Zh)(h:WT P d t ts):∃ n,ts=cI k n/\(k.min<=n/\n<=k.max):=by
 cases d with
 | zero=>cases h
 | succ d=>
  simp only [WT,hu] at h
  obtain⟨n,rfl,h⟩:=h
  simp only [Lit.wf,Bool.and_eq_true,decide_eq_true_eq] at h
  exact⟨n,rfl,h⟩
theorem Zfh{t:TypeId}(hu:P.underlying t=some .bool)(d:Nat)(ts:List Zh)(h:WT P d t ts):∃ b,ts=cB b/\True:=by
 cases d with
 | zero=>cases h
 | succ d=>
  simp only [WT,hu] at h
  obtain⟨b,rfl⟩:=h
  exact⟨b,rfl,trivial⟩
theorem Zabq{t:TypeId}(hu:P.underlying t=some .string)(d:Nat)(ts:List Zh)(h:WT P d t ts):∃ s,ts=cS s/\s.length<=reachBytes:=by
 cases d with
 | zero=>cases h
 | succ d=>
  simp only [WT,hu] at h
  obtain⟨b,rfl,_,h⟩:=h
  exact⟨b,rfl,h⟩
def OkL{α:Type}(k:Nat)(ok:α->Prop)(xs:List α):Prop:=xs.length*k<=reachBytes/\∀ x,x∈xs->ok x
theorem Zd9{α:Type}{f:α->List Zh}{ok:α->Prop}{t e k:Nat}(hu:P.underlying t=some (.slice e))(hb:P.bytesOf e=k)(he:∀ d ts,WT P d e ts->∃ x,ts=f x/\ok x)(d:Nat)(ts:List Zh)(h:WT P d t ts):∃ xs,ts=cL f xs/\OkL k ok xs:=by
 cases d with
 | zero=>cases h
 | succ d=>
  simp only [WT,hu] at h
  obtain⟨es,rfl,⟨_,h1⟩,h2⟩:=h
  have:∀ es:List (List Zh),(∀ el∈es,WT P d e el)->∃ xs:List α,es=List.map f xs/\∀ x∈xs,ok x:=by
   intro es
   induction es with
   | nil=>intro _;exact⟨[],rfl,fun _ h=>by cases h⟩
   | cons el es ih=>
    intro h
    obtain⟨x,rfl,hx⟩:=he d el (h el (by simp))
    obtain⟨xs,rfl,hxs⟩:=ih (fun el' hel=>h el' (List.mem_cons_of_mem _ hel))
    exact⟨x::xs,rfl,fun y hy=>by
     rcases List.mem_cons.1 hy with e | e
     .subst e;exact hx
     .exact hxs y e⟩
  obtain⟨xs,rfl,hxs⟩:=this es h2
  exact⟨xs,rfl,by rw [List.length_map,hb] at h1;exact h1,hxs⟩
def OkA3{α:Type}(ok:α->Prop)(x:A3 α):Prop:=ok x.a0/\ok x.a1/\ok x.a2
def OkA5{α:Type}(ok:α->Prop)(x:A5 α):Prop:=ok x.a0/\ok x.a1/\ok x.a2/\ok x.a3/\ok x.a4
def OkA6{α:Type}(ok:α->Prop)(x:A6 α):Prop:=ok x.a0/\ok x.a1/\ok x.a2/\ok x.a3/\ok x.a4/\ok x.a5
theorem Zbcv{α:Type}{f:α->List Zh}{ok:α->Prop}{t e:Nat}(hu:P.underlying t=some (.array 3 e))(he:∀ d ts,WT P d e ts->∃ x,ts=f x/\ok x)(d:Nat)(ts:List Zh)(h:WT P d t ts):∃ x,ts=cA3 f x/\OkA3 ok x:=by
 cases d with
 | zero=>cases h
 | succ d=>
  simp only [WT,hu,List.replicate,Seq] at h
  obtain⟨_,_,rfl,h0,_,_,rfl,h1,_,_,rfl,h2,rfl⟩:=h
  obtain⟨x0,rfl,o0⟩:=he d _ h0
  obtain⟨x1,rfl,o1⟩:=he d _ h1
  obtain⟨x2,rfl,o2⟩:=he d _ h2
  exact⟨⟨x0,x1,x2⟩,by simp [cA3],o0,o1,o2⟩
theorem Zbk3{α:Type}{f:α->List Zh}{ok:α->Prop}{t e:Nat}(hu:P.underlying t=some (.array 5 e))(he:∀ d ts,WT P d e ts->∃ x,ts=f x/\ok x)(d:Nat)(ts:List Zh)(h:WT P d t ts):∃ x,ts=cA5 f x/\OkA5 ok x:=by
 cases d with
 | zero=>cases h
 | succ d=>
  simp only [WT,hu,List.replicate,Seq] at h
  obtain⟨_,_,rfl,h0,_,_,rfl,h1,_,_,rfl,h2,_,_,rfl,h3,_,_,rfl,h4,rfl⟩:=h
  obtain⟨x0,rfl,o0⟩:=he d _ h0
  obtain⟨x1,rfl,o1⟩:=he d _ h1
  obtain⟨x2,rfl,o2⟩:=he d _ h2
  obtain⟨x3,rfl,o3⟩:=he d _ h3
  obtain⟨x4,rfl,o4⟩:=he d _ h4
  exact⟨⟨x0,x1,x2,x3,x4⟩,by simp [cA5],o0,o1,o2,o3,o4⟩
theorem Zbcw{α:Type}{f:α->List Zh}{ok:α->Prop}{t e:Nat}(hu:P.underlying t=some (.array 6 e))(he:∀ d ts,WT P d e ts->∃ x,ts=f x/\ok x)(d:Nat)(ts:List Zh)(h:WT P d t ts):∃ x,ts=cA6 f x/\OkA6 ok x:=by
 cases d with
 | zero=>cases h
 | succ d=>
  simp only [WT,hu,List.replicate,Seq] at h
  obtain⟨_,_,rfl,h0,_,_,rfl,h1,_,_,rfl,h2,_,_,rfl,h3,_,_,rfl,h4,_,_,rfl,h5,rfl⟩:=h
  obtain⟨x0,rfl,o0⟩:=he d _ h0
  obtain⟨x1,rfl,o1⟩:=he d _ h1
  obtain⟨x2,rfl,o2⟩:=he d _ h2
  obtain⟨x3,rfl,o3⟩:=he d _ h3
  obtain⟨x4,rfl,o4⟩:=he d _ h4
  obtain⟨x5,rfl,o5⟩:=he d _ h5
  exact⟨⟨x0,x1,x2,x3,x4,x5⟩,by simp [cA6],o0,o1,o2,o3,o4,o5⟩
theorem Zav3{H:Type}{enc:TypeId×Value->H}{w:World}{α:Type}{f:α->List Zh}{ok:α->Prop}{base D t:Nat}{v:Value}{d:DataW H}{p:List MemPlace}(he:∀ d ts,WT P d t ts->∃ x,ts=f x/\ok x)(hp:Zqs P D t=true)
 (hval:Value.okWide P w .any base t v) (hd:DataW.Trod enc P w 0 (fun _=>true) true t v d p) (hwt:∀ n∈d.weights P t,n<=reachBytes):∃ x,ok x/\VR (Rd w) (Z75 P t (f x)) v:=by
 obtain⟨ts,hv,hw⟩:=Zbaw hval hd hp hwt
 obtain⟨x,rfl,hx⟩:=he D ts hw
 exact⟨x,hx,hv⟩
theorem Za7d{t:Nat}{fs:Array Field}(hu:P.underlying t=some (.struct fs))(ts:List Zh):Z75 P t ts = .agg (ts.map .t):=by simp [Z75,hu]
theorem Zbaz{α:Type}{f:α->List Zh}{t e:Nat}(hu:P.underlying t=some (.slice e))(xs:List α):Z75 P t (cL f xs) = .t (.sl (List.map f xs)):=by simp [Z75,hu,oneT,cL]
end
theorem Zak1{H:Type}{P:Program}{ts:List TypeId}{ds:List (DataW H)}(h:(DataW.weightsEach P ts ds).all (· <= reachBytes)=true){i t:Nat}{d:DataW H}(ht:ts[i]?=some t)(hd:ds[i]?=some d):∀ n∈d.weights P t,n<=reachBytes:=by
 intro n hn
 have:=List.all_eq_true.1 h n (Ztb ht hd hn)
 simpa using this
end Go.PW
