import Derived.Test.YtchddhcajpagjaaGreatPwW
set_option linter.all false
namespace Go.PW
open Go.RowKit
theorem Zfj{n:Int}(h0 : -9223372036854775808<=n)(h1:n < 9223372036854775808):IntKind.wrap .i64 n=n:=by
 simp only [IntKind.wrap,IntKind.bits,IntKind.signed,Bool.true_and,ge_iff_le,decide_eq_true_eq]
 rcases Int.lt_or_le n 0 with h | h
 .have:n % (2 ^ 64:Int)=n+2 ^ 64:=by
   rw [<- Int.add_emod_right]
   exact Int.emod_eq_of_lt O O
  rw [this,if_pos O]
  omega
 .have:n % (2 ^ 64:Int)=n:=Int.emod_eq_of_lt h O
  rw [this,if_neg O]
theorem Z2n{i n:Nat}(h:i < n)(hn:n<=4611686018427387904):IntKind.wrap .i64 ((i:Int)+1)=((i+1:Nat):Int):=by
 rw [Zfj O O];omega
theorem Zke{α:Type}{b:List α}{j:Nat}{x:α}(h:b[j]?=some x):idx? b (j:Int)=some x:=by
 unfold idx?
 rw [if_pos O]
 simpa using h
theorem Zbem{α:Type}(b:List α){j:Nat}(h:j < b.length):idx? b (j:Int)=some b[j]:=Zke (List.getElem?_eq_getElem h)
theorem Za6y{α:Type}{k:Nat}{a b:List α}(h:(a.length+b.length)*k<=140737488355328)(hk:0 < k):app? k a b=some (a++b):=by
 have:a.length+b.length<=(a.length+b.length)*k:=Nat.le_mul_of_pos_right _ hk
 unfold app?
 rw [if_pos ⟨h,by omega⟩]
theorem scan{S R:Type}{step:S->Option (S ⊕ R)}{st:Nat->S}{bad:R}(n:Nat)(q:Nat->Bool)(h:∀ i,i < n->step (st i)=some (bif q i then .inl (st (i+1)) else .inr bad)) :
 Zc3 step (st 0)=bif (List.range n).all q then Zc3 step (st n) else some bad:=by
 have key:∀ (d i:Nat),i+d=n->Zc3 step (st i)=bif (List.range' i d).all q then Zc3 step (st n) else some bad:=by
  intro d
  induction d with
  | zero=>intro i hi;rw [show i=n by omega];rfl
  | succ d ih=>
   intro i hi
   rw [Zaox,h i O,List.range'_succ,List.all_cons]
   cases hq:q i with
   | true=>simp only [cond_true,Bool.true_and];exact ih (i+1) O
   | false=>rfl
 rw [key n 0 O,List.range_eq_range']
theorem Zabh(k:IntKind)(x y:Int)(r s:List Zf):Zy (cI k x++r) (cI k y++s)=(decide (x=y)&&Zy r s):=by
 simp only [cI,List.cons_append,List.nil_append,Zy,Zm7]
 try rfl
theorem Za6z(x y:List UInt8)(r s:List Zf):Zy (cS x++r) (cS y++s)=(decide (x=y)&&Zy r s):=by
 simp only [cS,List.cons_append,List.nil_append,Zy,Zm7]
 congr 1
 by_cases h:x=y
 .subst h;simp
 .rw [decide_eq_false h];exact beq_eq_false_iff_ne.2 h
theorem Zben{α:Type} [DecidableEq α] {f:α->List Zf} (hf:∀ x y r s,Zy (f x++r) (f y++s)=(decide (x=y)&&Zy r s)) (x y:A5 α) (r s:List Zf):Zy (cA5 f x++r) (cA5 f y++s)=(decide (x=y)&&Zy r s):=by
 obtain⟨a0,a1,a2,a3,a4⟩:=x
 obtain⟨b0,b1,b2,b3,b4⟩:=y
 simp only [cA5,List.append_assoc,hf,A5.mk.injEq,Bool.decide_and,Bool.and_assoc]
theorem Zabi{α:Type} [DecidableEq α] {f:α->List Zf} (hf:∀ x y r s,Zy (f x++r) (f y++s)=(decide (x=y)&&Zy r s)) (x y:α):Zy (f x) (f y)=decide (x=y):=by
 have:=hf x y [] []
 simpa [Zy] using this
section
variable {P:Program}
theorem Zu{t:TypeId}{k:IntKind}(hu:P.underlying t=some (.int k))(d:Nat)(ts:List Zf)(h:WT P d t ts):∃ n,ts=cI k n/\(k.min<=n/\n<=k.max):=by
 cases d with
 | zero=>cases h
 | succ d=>
  simp only [WT,hu] at h
  obtain⟨n,rfl,h⟩:=h
  simp only [Lit.wf,Bool.and_eq_true,decide_eq_true_eq] at h
  exact⟨n,rfl,h⟩
theorem Zfg{t:TypeId}(hu:P.underlying t=some .bool)(d:Nat)(ts:List Zf)(h:WT P d t ts):∃ b,ts=cB b/\True:=by
 cases d with
 | zero=>cases h
 | succ d=>
  simp only [WT,hu] at h
  obtain⟨b,rfl⟩:=h
  exact⟨b,rfl,trivial⟩
theorem Zabj{t:TypeId}(hu:P.underlying t=some .string)(d:Nat)(ts:List Zf)(h:WT P d t ts):∃ s,ts=cS s/\s.length<=reachBytes:=by
 cases d with
 | zero=>cases h
 | succ d=>
  simp only [WT,hu] at h
  obtain⟨b,rfl,_,h⟩:=h
  exact⟨b,rfl,h⟩
def OkL{α:Type}(k:Nat)(ok:α->Prop)(xs:List α):Prop:=xs.length*k<=reachBytes/\∀ x,x∈xs->ok x
theorem Zd9{α:Type}{f:α->List Zf}{ok:α->Prop}{t e k:Nat}(hu:P.underlying t=some (.slice e))(hb:P.bytesOf e=k)(he:∀ d ts,WT P d e ts->∃ x,ts=f x/\ok x)(d:Nat)(ts:List Zf)(h:WT P d t ts):∃ xs,ts=cL f xs/\OkL k ok xs:=by
 cases d with
 | zero=>cases h
 | succ d=>
  simp only [WT,hu] at h
  obtain⟨es,rfl,⟨_,h1⟩,h2⟩:=h
  have:∀ es:List (List Zf),(∀ el∈es,WT P d e el)->∃ xs:List α,es=List.map f xs/\∀ x∈xs,ok x:=by
   intro es
   induction es with
   | nil=>intro _;exact⟨[],rfl,fun _ h=>by cases h⟩
   | cons el es ih=>
    intro h
    obtain⟨x,rfl,hx⟩:=he d el (h el (by simp))
    obtain⟨xs,rfl,hxs⟩:=ih (fun el' hel=>h el' (List.mem_cons_of_mem _ hel))
    exact⟨x::xs,rfl,fun y hy=>by
     rcases List.mem_cons.1 hy with e | e
     .subst e;exact hx
     .exact hxs y e⟩
  obtain⟨xs,rfl,hxs⟩:=this es h2
  exact⟨xs,rfl,by rw [List.length_map,hb] at h1;exact h1,hxs⟩
def OkA3{α:Type}(ok:α->Prop)(x:A3 α):Prop:=ok x.a0/\ok x.a1/\ok x.a2
def OkA5{α:Type}(ok:α->Prop)(x:A5 α):Prop:=ok x.a0/\ok x.a1/\ok x.a2/\ok x.a3/\ok x.a4
def OkA6{α:Type}(ok:α->Prop)(x:A6 α):Prop:=ok x.a0/\ok x.a1/\ok x.a2/\ok x.a3/\ok x.a4/\ok x.a5
theorem Zbcl{α:Type}{f:α->List Zf}{ok:α->Prop}{t e:Nat}(hu:P.underlying t=some (.array 3 e))(he:∀ d ts,WT P d e ts->∃ x,ts=f x/\ok x)(d:Nat)(ts:List Zf)(h:WT P d t ts):∃ x,ts=cA3 f x/\OkA3 ok x:=by
 cases d with
 | zero=>cases h
 | succ d=>
  simp only [WT,hu,List.replicate,Seq] at h
  obtain⟨_,_,rfl,h0,_,_,rfl,h1,_,_,rfl,h2,rfl⟩:=h
  obtain⟨x0,rfl,o0⟩:=he d _ h0
  obtain⟨x1,rfl,o1⟩:=he d _ h1
  obtain⟨x2,rfl,o2⟩:=he d _ h2
  exact⟨⟨x0,x1,x2⟩,by simp [cA3],o0,o1,o2⟩
theorem Zbky{α:Type}{f:α->List Zf}{ok:α->Prop}{t e:Nat}(hu:P.underlying t=some (.array 5 e))(he:∀ d ts,WT P d e ts->∃ x,ts=f x/\ok x)(d:Nat)(ts:List Zf)(h:WT P d t ts):∃ x,ts=cA5 f x/\OkA5 ok x:=by
 cases d with
 | zero=>cases h
 | succ d=>
  simp only [WT,hu,List.replicate,Seq] at h
  obtain⟨_,_,rfl,h0,_,_,rfl,h1,_,_,rfl,h2,_,_,rfl,h3,_,_,rfl,h4,rfl⟩:=h
  obtain⟨x0,rfl,o0⟩:=he d _ h0
  obtain⟨x1,rfl,o1⟩:=he d _ h1
  obtain⟨x2,rfl,o2⟩:=he d _ h2
  obtain⟨x3,rfl,o3⟩:=he d _ h3
  obtain⟨x4,rfl,o4⟩:=he d _ h4
  exact⟨⟨x0,x1,x2,x3,x4⟩,by simp [cA5],o0,o1,o2,o3,o4⟩
theorem Zbcm{α:Type}{f:α->List Zf}{ok:α->Prop}{t e:Nat}(hu:P.underlying t=some (.array 6 e))(he:∀ d ts,WT P d e ts->∃ x,ts=f x/\ok x)(d:Nat)(ts:List Zf)(h:WT P d t ts):∃ x,ts=cA6 f x/\OkA6 ok x:=by
 cases d with
 | zero=>cases h
 | succ d=>
  simp only [WT,hu,List.replicate,Seq] at h
  obtain⟨_,_,rfl,h0,_,_,rfl,h1,_,_,rfl,h2,_,_,rfl,h3,_,_,rfl,h4,_,_,rfl,h5,rfl⟩:=h
  obtain⟨x0,rfl,o0⟩:=he d _ h0
  obtain⟨x1,rfl,o1⟩:=he d _ h1
  obtain⟨x2,rfl,o2⟩:=he d _ h2
  obtain⟨x3,rfl,o3⟩:=he d _ h3
  obtain⟨x4,rfl,o4⟩:=he d _ h4
  obtain⟨x5,rfl,o5⟩:=he d _ h5
  exact⟨⟨x0,x1,x2,x3,x4,x5⟩,by simp [cA6],o0,o1,o2,o3,o4,o5⟩
theorem Zaif{H:Type}{enc:TypeId×Value->H}{w:World}{α:Type}{f:α->List Zf}{ok:α->Prop}{base D t:Nat}{v:Value}{d:DataW H}{p:List MemPlace}(he:∀ d ts,WT P d t ts->∃ x,ts=f x/\ok x)(hp:Zqr P D t=true)
 (hval:Value.okWide P w .any base t v) (hd:DataW.Trod enc P w 0 (fun _=>true) true t v d p) (hwt:∀ n∈d.weights P t,n<=reachBytes):∃ x,ok x/\VR (Rd w) (Zzl P t (f x)) v:=by
 obtain⟨ts,hv,hw⟩:=Zbam hval hd hp hwt
 obtain⟨x,rfl,hx⟩:=he D ts hw
 exact⟨x,hx,hv⟩
theorem Za60{t:Nat}{fs:Array Field}(hu:P.underlying t=some (.struct fs))(ts:List Zf):Zzl P t ts = .agg (ts.map .t):=by simp [Zzl,hu]
theorem Zbap{α:Type}{f:α->List Zf}{t e:Nat}(hu:P.underlying t=some (.slice e))(xs:List α):Zzl P t (cL f xs) = .t (.sl (List.map f xs)):=by simp [Zzl,hu,oneT,cL]
theorem Zbgh{t:Nat}{k:IntKind}(hu:P.underlying t=some (.int k))(n:Int):Zzl P t (cI k n) = .t (.int k n):=by simp [Zzl,hu,oneT,cI]
end
theorem Z7z{H:Type}{P:Program}{ts:List TypeId}{ds:List (DataW H)}(h:(DataW.weightsEach P ts ds).all (· <= reachBytes)=true){i t:Nat}{d:DataW H}(ht:ts[i]?=some t)(hd:ds[i]?=some d):∀ n∈d.weights P t,n<=reachBytes:=by
 intro n hn
 have:=List.all_eq_true.1 h n (Zs7 ht hd hn)
 simpa using this
end Go.PW
