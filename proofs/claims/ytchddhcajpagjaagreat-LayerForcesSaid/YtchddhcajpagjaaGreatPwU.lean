import Derived.Test.YtchddhcajpagjaaGreatPwS
import Derived.KernelRfl
set_option linter.all false
namespace Go.PW
theorem Zjg{S R:Type}(step:S->Option (S ⊕ R))(r:R):Zh0 step (.inr r)=some r:=rfl
theorem Zq8{S R:Type}(step:S->Option (S ⊕ R))(s:S):Zh0 step (.inl s)=Zcr step s:=rfl
theorem Z9f(a b:Int):(a==b)=decide (a=b):=rfl
theorem Za17(a b:Int):(a != b)=decide (a≠b):=by
 show (!(decide (a=b)))=_
 by_cases h:a=b<;>simp [h]
theorem Zaui(a b:List UInt8):(a==b)=decide (a=b):=by
 by_cases h:a=b
 .subst h;simp
 .rw [decide_eq_false h];exact beq_eq_false_iff_ne.2 h
theorem Z3l{S R α:Type}{step:S->Option (S ⊕ R)}{st:Nat->S}{bad:R}:∀ (xs:List α) (p:α->Bool) (_:∀ i x,xs[i]?=some x->step (st i)=some (bif p x then .inl (st (i+1)) else .inr bad)),
 Zcr step (st 0)=bif xs.all p then Zcr step (st xs.length) else some bad
 | [],_,_=>rfl
 | x::xs,p,h=>by
  have h0:=h 0 x rfl
  cases hp:p x with
  | false=>
   simp only [hp,cond_false] at h0
   rw [Zeb h0]
   simp [hp]
  | true=>
   simp only [hp,cond_true] at h0
   rw [Zjf h0,Z3l (st:=fun i=>st (i+1)) xs p (fun i y hy=>h (i+1) y (by simpa using hy))]
   simp [hp]
theorem Z6e{S R α:Type}{step:S->Option (S ⊕ R)}:∀ (xs:List α) (st:Nat->S) (hit:Nat->R) (p:α->Bool) (_:∀ i x,xs[i]?=some x->step (st i)=some (bif p x then .inr (hit i) else .inl (st (i+1)))),
 (xs.any p=true/\∃ i,i < xs.length/\Zcr step (st 0)=some (hit i))\/(xs.any p=false/\Zcr step (st 0)=Zcr step (st xs.length))
 | [],_,_,_,_ => .inr ⟨rfl,rfl⟩
 | x::xs,st,hit,p,h=>by
  have h0:=h 0 x rfl
  cases hp:p x with
  | true=>
   simp only [hp,cond_true] at h0
   exact .inl ⟨by simp [hp],0,by simp,Zeb h0⟩
  | false=>
   simp only [hp,cond_false] at h0
   rcases Z6e xs (fun i=>st (i+1)) (fun i=>hit (i+1)) p (fun i y hy=>h (i+1) y (by simpa using hy)) with ⟨h1,i,h2,h3⟩ | ⟨h1,h2⟩
   .exact .inl ⟨by simp [hp,h1],i+1,by simpa using h2,by rw [Zjf h0];exact h3⟩
   .exact .inr ⟨by simp [hp,h1],by rw [Zjf h0];exact h2⟩
theorem Zanq{S R β:Type}{step:S->Option (S ⊕ R)}{st:Nat->β->S}{Q:Nat->β->Prop}{post:R->Prop}(n:Nat)
 (h:∀ i b,i < n->Q i b->(∃ b',step (st i b)=some (.inl (st (i+1) b'))/\Q (i+1) b')\/∃ r,step (st i b)=some (.inr r)/\post r)
 (hend:∀ b,Q n b->∃ r,Zcr step (st n b)=some r/\post r):∀ b,Q 0 b->∃ r,Zcr step (st 0 b)=some r/\post r:=by
 have key:∀ d i b,i+d=n->Q i b->∃ r,Zcr step (st i b)=some r/\post r:=by
  intro d
  induction d with
  | zero => intro i b hi hq; obtain rfl : i = n := by omega
            exact hend b hq
  | succ d ih=>
   intro i b hi hq
   rcases h i b (by omega) hq with ⟨b',h1,h2⟩ | ⟨r,h1,h2⟩
   .rw [Zjf h1];exact ih (i+1) b' (by omega) h2
   .exact⟨r,Zeb h1,h2⟩
 exact fun b hq=>key n 0 b (by omega) hq
section
variable {S:Type} {step:S->Option (S ⊕ Bool)} {b r:Bool} {k:Option (S ⊕ Bool)}
theorem Z1y(h:b=true->k.bind (Zh0 step)=some r):(bif !b then some (.inr false) else k).bind (Zh0 step)=some (b&&r):=by
 cases b
 .rfl
 .simpa using h rfl
theorem Z1z(h:b=true->k.bind (Zh0 step)=some r):(bif b then k else some (.inr false)).bind (Zh0 step)=some (b&&r):=by
 cases b
 .rfl
 .simpa using h rfl
theorem Zbc(h:b=false->k.bind (Zh0 step)=some r):(bif b then some (.inr false) else k).bind (Zh0 step)=some (!b&&r):=by
 cases b
 .simpa using h rfl
 .rfl
end
theorem Za18{a b:Nat}(ha:a < 2 ^ 62)(hb:b < 2 ^ 62):Zax .and .i64 (a:Int) (b:Int)=((a &&& b:Nat):Int):=by
 have hle:a &&& b<=a:=Nat.and_le_left
 unfold Zax
 show IntKind.wrap .i64 (((BitVec.ofInt 64 (a:Int) &&& BitVec.ofInt 64 (b:Int)).toNat:Nat):Int)=_
 rw [BitVec.ofInt_natCast,BitVec.ofInt_natCast,BitVec.toNat_and,BitVec.toNat_ofNat,BitVec.toNat_ofNat,Nat.mod_eq_of_lt (by omega),Nat.mod_eq_of_lt (by omega)]
 exact Zgv (by omega) (by omega)
def Zwr:Nat->Nat->Nat->Bool
 | 0,_,_=>true
 | n+1,a,b=>if a % 2=1/\b % 2=1 then false else Zwr n (a / 2) (b / 2)
theorem Zae0:∀ (n a b:Nat),Zwr n a b=true↔∀ i,i < n->¬ (a.testBit i=true/\b.testBit i=true)
 | 0,a,b=>by simp [Zwr]
 | n+1,a,b=>by
  unfold Zwr
  have h0:∀ x:Nat,x.testBit 0=true↔x % 2=1:=fun x=>by simp [Nat.testBit_zero]
  by_cases h:a % 2=1/\b % 2=1
  .rw [if_pos h]
   constructor
   .intro h';cases h'
   .intro h';exact absurd ⟨(h0 a).2 h.1,(h0 b).2 h.2⟩ (h' 0 (by omega))
  .rw [if_neg h,Zae0 n]
   constructor
   .intro h' i hi
    cases i with
    | zero=>rw [h0,h0];exact h
    | succ i=>rw [Nat.testBit_succ,Nat.testBit_succ];exact h' i (by omega)
   .intro h' i hi
    have:=h' (i+1) (by omega)
    rwa [Nat.testBit_succ,Nat.testBit_succ] at this
theorem Zavu{n a b:Nat}(ha:a < 2 ^ n):Zwr n a b=decide ((a &&& b:Nat)=0):=by
 rw [Bool.eq_iff_iff,Zae0,decide_eq_true_eq]
 constructor
 .intro h
  refine Nat.eq_of_testBit_eq fun i=>?_
  rw [Nat.testBit_and,Nat.zero_testBit]
  by_cases hi:i < n
  .have:=h i hi
   cases h1:a.testBit i<;>cases h2:b.testBit i<;>simp_all
  .rw [Nat.testBit_lt_two_pow (Nat.lt_of_lt_of_le ha (Nat.pow_le_pow_right (by decide) (Nat.le_of_not_lt hi))),Bool.false_and]
 .intro h i _ ⟨h1,h2⟩
  have:(a &&& b).testBit i=true:=by rw [Nat.testBit_and,h1,h2];rfl
  rw [h,Nat.zero_testBit] at this
  cases this
theorem Zauj(a:Nat)(h:a < 2 ^ 62):Zmg .i64 (a:Int) 2=((a / 2:Nat):Int):=by
 unfold Zmg
 rw [show (2:Int)=((2:Nat):Int) from rfl,<- Int.ofNat_tdiv]
 exact Zgv (by omega) (by omega)
theorem Zauk(a:Nat):(Int.tmod (a:Int) 2==1)=decide (a % 2=1):=by
 rw [show (2:Int)=((2:Nat):Int) from rfl,<- Int.ofNat_tmod]
 rw [Z9f,decide_eq_decide]
 omega
end Go.PW
