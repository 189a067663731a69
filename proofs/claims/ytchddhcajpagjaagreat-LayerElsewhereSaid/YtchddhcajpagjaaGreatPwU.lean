import Derived.Test.YtchddhcajpagjaaGreatPwS
import Derived.KernelRfl
set_option linter.all false
namespace Go.PW
theorem Zfz{S R:Type}(step:S->Option (S ⊕ R))(r:R):Zhq step (.inr r)=some r:=rfl
theorem Zmo{S R:Type}(step:S->Option (S ⊕ R))(s:S):Zhq step (.inl s)=Zcz step s:=rfl
theorem Zauy{α:Type}(b:Bool)(x y:α):(bif !b then x else y)=bif b then y else x:=by cases b<;>rfl
theorem Zu2(a b:Int):(a==b)=decide (a=b):=rfl
theorem Za0o(a b:Int):(a != b)=decide (a≠b):=by
 show (!(decide (a=b)))=_
 by_cases h:a=b<;>simp [h]
theorem Za0p(a b:List UInt8):(a==b)=decide (a=b):=by
 by_cases h:a=b
 .subst h;simp
 .rw [decide_eq_false h];exact beq_eq_false_iff_ne.2 h
theorem Z0k{S R α:Type}{step:S->Option (S ⊕ R)}{st:Nat->S}{bad:R}:∀ (xs:List α) (p:α->Bool) (_:∀ i x,xs[i]?=some x->step (st i)=some (bif p x then .inl (st (i+1)) else .inr bad)),
 Zcz step (st 0)=bif xs.all p then Zcz step (st xs.length) else some bad
 | [],_,_=>rfl
 | x::xs,p,h=>by
  have h0:=h 0 x rfl
  cases hp:p x with
  | false=>
   simp only [hp,cond_false] at h0
   rw [Zdv h0]
   simp [hp]
  | true=>
   simp only [hp,cond_true] at h0
   rw [Zkn h0,Z0k (st:=fun i=>st (i+1)) xs p (fun i y hy=>h (i+1) y (by simpa using hy))]
   simp [hp]
theorem Zwk{S R α:Type}{step:S->Option (S ⊕ R)}:∀ (xs:List α) (st:Nat->S) (hit:Nat->R) (p:α->Bool) (_:∀ i x,xs[i]?=some x->step (st i)=some (bif p x then .inr (hit i) else .inl (st (i+1)))),
 (xs.any p=true/\∃ i,i < xs.length/\Zcz step (st 0)=some (hit i))\/(xs.any p=false/\Zcz step (st 0)=Zcz step (st xs.length))
 | [],_,_,_,_ => .inr ⟨rfl,rfl⟩
 | x::xs,st,hit,p,h=>by
  have h0:=h 0 x rfl
  cases hp:p x with
  | true=>
   simp only [hp,cond_true] at h0
   exact .inl ⟨by simp [hp],0,by simp,Zdv h0⟩
  | false=>
   simp only [hp,cond_false] at h0
   rcases Zwk xs (fun i=>st (i+1)) (fun i=>hit (i+1)) p (fun i y hy=>h (i+1) y (by simpa using hy)) with ⟨h1,i,h2,h3⟩ | ⟨h1,h2⟩
   .exact .inl ⟨by simp [hp,h1],i+1,by simpa using h2,by rw [Zkn h0];exact h3⟩
   .exact .inr ⟨by simp [hp,h1],by rw [Zkn h0];exact h2⟩
theorem Zate{S R β:Type}{step:S->Option (S ⊕ R)}{st:Nat->β->S}{Q:Nat->β->Prop}{post:R->Prop}(n:Nat)
 (h:∀ i b,i < n->Q i b->(∃ b',step (st i b)=some (.inl (st (i+1) b'))/\Q (i+1) b')\/∃ r,step (st i b)=some (.inr r)/\post r)
 (hend:∀ b,Q n b->∃ r,Zcz step (st n b)=some r/\post r):∀ b,Q 0 b->∃ r,Zcz step (st 0 b)=some r/\post r:=by
 have key:∀ d i b,i+d=n->Q i b->∃ r,Zcz step (st i b)=some r/\post r:=by
  intro d
  induction d with
  | zero => intro i b hi hq; obtain rfl : i = n := by omega
            exact hend b hq
  | succ d ih=>
   intro i b hi hq
   rcases h i b (by omega) hq with ⟨b',h1,h2⟩ | ⟨r,h1,h2⟩
   .rw [Zkn h1];exact ih (i+1) b' (by omega) h2
   .exact⟨r,Zdv h1,h2⟩
 exact fun b hq=>key n 0 b (by omega) hq
section
variable {S:Type} {step:S->Option (S ⊕ Bool)} {b r:Bool} {k:Option (S ⊕ Bool)}
theorem Zgk(h:b=true->k.bind (Zhq step)=some r):(bif !b then some (.inr false) else k).bind (Zhq step)=some (b&&r):=by
 cases b
 .rfl
 .simpa using h rfl
theorem Zla(h:b=true->k.bind (Zhq step)=some r):(bif b then k else some (.inr false)).bind (Zhq step)=some (b&&r):=by
 cases b
 .rfl
 .simpa using h rfl
theorem Zbt(h:b=false->k.bind (Zhq step)=some r):(bif b then some (.inr false) else k).bind (Zhq step)=some (!b&&r):=by
 cases b
 .simpa using h rfl
 .rfl
end
theorem Zbbo{a b:Nat}(ha:a < 2 ^ 62)(hb:b < 2 ^ 62):Za6 .and .i64 (a:Int) (b:Int)=((a &&& b:Nat):Int):=by
 have hle:a &&& b<=a:=Nat.and_le_left
 unfold Za6
 show IntKind.wrap .i64 (((BitVec.ofInt 64 (a:Int) &&& BitVec.ofInt 64 (b:Int)).toNat:Nat):Int)=_
 rw [BitVec.ofInt_natCast,BitVec.ofInt_natCast,BitVec.toNat_and,BitVec.toNat_ofNat,BitVec.toNat_ofNat,Nat.mod_eq_of_lt (by omega),Nat.mod_eq_of_lt (by omega)]
 exact Zgj (by omega) (by omega)
def Z0l:Nat->Nat->Nat->Bool
 | 0,_,_=>true
 | n+1,a,b=>if a % 2=1/\b % 2=1 then false else Z0l n (a / 2) (b / 2)
theorem Zakl:∀ (n a b:Nat),Z0l n a b=true↔∀ i,i < n->¬ (a.testBit i=true/\b.testBit i=true)
 | 0,a,b=>by simp [Z0l]
 | n+1,a,b=>by
  unfold Z0l
  have h0:∀ x:Nat,x.testBit 0=true↔x % 2=1:=fun x=>by simp [Nat.testBit_zero]
  by_cases h:a % 2=1/\b % 2=1
  .rw [if_pos h]
   constructor
   .intro h';cases h'
   .intro h';exact absurd ⟨(h0 a).2 h.1,(h0 b).2 h.2⟩ (h' 0 (by omega))
  .rw [if_neg h,Zakl n]
   constructor
   .intro h' i hi
    cases i with
    | zero=>rw [h0,h0];exact h
    | succ i=>rw [Nat.testBit_succ,Nat.testBit_succ];exact h' i (by omega)
   .intro h' i hi
    have:=h' (i+1) (by omega)
    rwa [Nat.testBit_succ,Nat.testBit_succ] at this
theorem Za19{n a b:Nat}(ha:a < 2 ^ n):Z0l n a b=decide ((a &&& b:Nat)=0):=by
 rw [Bool.eq_iff_iff,Zakl,decide_eq_true_eq]
 constructor
 .intro h
  refine Nat.eq_of_testBit_eq fun i=>?_
  rw [Nat.testBit_and,Nat.zero_testBit]
  by_cases hi:i < n
  .have:=h i hi
   cases h1:a.testBit i<;>cases h2:b.testBit i<;>simp_all
  .rw [Nat.testBit_lt_two_pow (Nat.lt_of_lt_of_le ha (Nat.pow_le_pow_right (by decide) (Nat.le_of_not_lt hi))),Bool.false_and]
 .intro h i _ ⟨h1,h2⟩
  have:(a &&& b).testBit i=true:=by rw [Nat.testBit_and,h1,h2];rfl
  rw [h,Nat.zero_testBit] at this
  cases this
theorem Za0q(a:Nat)(h:a < 2 ^ 62):Zqc .i64 (a:Int) 2=((a / 2:Nat):Int):=by
 unfold Zqc
 rw [show (2:Int)=((2:Nat):Int) from rfl,<- Int.ofNat_tdiv]
 exact Zgj (by omega) (by omega)
theorem Za0r(a:Nat):(Int.tmod (a:Int) 2==1)=decide (a % 2=1):=by
 rw [show (2:Int)=((2:Nat):Int) from rfl,<- Int.ofNat_tmod]
 rw [Zu2,decide_eq_decide]
 omega
end Go.PW
