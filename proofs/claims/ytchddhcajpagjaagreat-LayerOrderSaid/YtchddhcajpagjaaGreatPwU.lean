import Derived.Test.YtchddhcajpagjaaGreatPwS
import Derived.KernelRfl
set_option linter.all false
namespace Go.PW
theorem Zfw{S R:Type}(step:S->Option (S ⊕ R))(r:R):Zhm step (.inr r)=some r:=rfl
theorem Zmv{S R:Type}(step:S->Option (S ⊕ R))(s:S):Zhm step (.inl s)=Zc3 step s:=rfl
theorem Zavr{α:Type}(b:Bool)(x y:α):(bif !b then x else y)=bif b then y else x:=by cases b<;>rfl
theorem Zu1(a b:Int):(a==b)=decide (a=b):=rfl
theorem Za1p(a b:Int):(a != b)=decide (a≠b):=by
 show (!(decide (a=b)))=_
 by_cases h:a=b<;>simp [h]
theorem Za1q(a b:List UInt8):(a==b)=decide (a=b):=by
 by_cases h:a=b
 .subst h;simp
 .rw [decide_eq_false h];exact beq_eq_false_iff_ne.2 h
theorem Z0b{S R α:Type}{step:S->Option (S ⊕ R)}{st:Nat->S}{bad:R}:∀ (xs:List α) (p:α->Bool) (_:∀ i x,xs[i]?=some x->step (st i)=some (bif p x then .inl (st (i+1)) else .inr bad)),
 Zc3 step (st 0)=bif xs.all p then Zc3 step (st xs.length) else some bad
 | [],_,_=>rfl
 | x::xs,p,h=>by
  have h0:=h 0 x rfl
  cases hp:p x with
  | false=>
   simp only [hp,cond_false] at h0
   rw [Zdu h0]
   simp [hp]
  | true=>
   simp only [hp,cond_true] at h0
   rw [Zku h0,Z0b (st:=fun i=>st (i+1)) xs p (fun i y hy=>h (i+1) y (by simpa using hy))]
   simp [hp]
theorem Zwl{S R α:Type}{step:S->Option (S ⊕ R)}:∀ (xs:List α) (st:Nat->S) (hit:Nat->R) (p:α->Bool) (_:∀ i x,xs[i]?=some x->step (st i)=some (bif p x then .inr (hit i) else .inl (st (i+1)))),
 (xs.any p=true/\∃ i,i < xs.length/\Zc3 step (st 0)=some (hit i))\/(xs.any p=false/\Zc3 step (st 0)=Zc3 step (st xs.length))
 | [],_,_,_,_ => .inr ⟨rfl,rfl⟩
 | x::xs,st,hit,p,h=>by
  have h0:=h 0 x rfl
  cases hp:p x with
  | true=>
   simp only [hp,cond_true] at h0
   exact .inl ⟨by simp [hp],0,by simp,Zdu h0⟩
  | false=>
   simp only [hp,cond_false] at h0
   rcases Zwl xs (fun i=>st (i+1)) (fun i=>hit (i+1)) p (fun i y hy=>h (i+1) y (by simpa using hy)) with ⟨h1,i,h2,h3⟩ | ⟨h1,h2⟩
   .exact .inl ⟨by simp [hp,h1],i+1,by simpa using h2,by rw [Zku h0];exact h3⟩
   .exact .inr ⟨by simp [hp,h1],by rw [Zku h0];exact h2⟩
theorem Zat7{S R β:Type}{step:S->Option (S ⊕ R)}{st:Nat->β->S}{Q:Nat->β->Prop}{post:R->Prop}(n:Nat)
 (h:∀ i b,i < n->Q i b->(∃ b',step (st i b)=some (.inl (st (i+1) b'))/\Q (i+1) b')\/∃ r,step (st i b)=some (.inr r)/\post r)
 (hend:∀ b,Q n b->∃ r,Zc3 step (st n b)=some r/\post r):∀ b,Q 0 b->∃ r,Zc3 step (st 0 b)=some r/\post r:=by
 have key:∀ d i b,i+d=n->Q i b->∃ r,Zc3 step (st i b)=some r/\post r:=by
  intro d
  induction d with
  | zero => intro i b hi hq; obtain rfl : i = n := by omega
            exact hend b hq
  | succ d ih=>
   intro i b hi hq
   rcases h i b O hq with ⟨b',h1,h2⟩ | ⟨r,h1,h2⟩
   .rw [Zku h1];exact ih (i+1) b' O h2
   .exact⟨r,Zdu h1,h2⟩
 exact fun b hq=>key n 0 b O hq
section
variable {S:Type} {step:S->Option (S ⊕ Bool)} {b r:Bool} {k:Option (S ⊕ Bool)}
theorem Zgg(h:b=true->k.bind (Zhm step)=some r):(bif !b then some (.inr false) else k).bind (Zhm step)=some (b&&r):=by
 cases b
 .rfl
 .simpa using h rfl
theorem Zli(h:b=true->k.bind (Zhm step)=some r):(bif b then k else some (.inr false)).bind (Zhm step)=some (b&&r):=by
 cases b
 .rfl
 .simpa using h rfl
theorem Zbu(h:b=false->k.bind (Zhm step)=some r):(bif b then some (.inr false) else k).bind (Zhm step)=some (!b&&r):=by
 cases b
 .simpa using h rfl
 .rfl
end
theorem Zbeo{a b:Nat}(ha:a < 2 ^ 62)(hb:b < 2 ^ 62):Zay .and .i64 (a:Int) (b:Int)=((a &&& b:Nat):Int):=by
 have hle:a &&& b<=a:=Nat.and_le_left
 unfold Zay
 show IntKind.wrap .i64 (((BitVec.ofInt 64 (a:Int) &&& BitVec.ofInt 64 (b:Int)).toNat:Nat):Int)=_
 rw [BitVec.ofInt_natCast,BitVec.ofInt_natCast,BitVec.toNat_and,BitVec.toNat_ofNat,BitVec.toNat_ofNat,Nat.mod_eq_of_lt O,Nat.mod_eq_of_lt O]
 exact Zfj O O
def Z0c:Nat->Nat->Nat->Bool
 | 0,_,_=>true
 | n+1,a,b=>if a % 2=1/\b % 2=1 then false else Z0c n (a / 2) (b / 2)
theorem Zaku:∀ (n a b:Nat),Z0c n a b=true↔∀ i,i < n->¬ (a.testBit i=true/\b.testBit i=true)
 | 0,a,b=>by simp [Z0c]
 | n+1,a,b=>by
  unfold Z0c
  have h0:∀ x:Nat,x.testBit 0=true↔x % 2=1:=fun x=>by simp [Nat.testBit_zero]
  by_cases h:a % 2=1/\b % 2=1
  .rw [if_pos h]
   constructor
   .intro h';cases h'
   .intro h';exact absurd ⟨(h0 a).2 h.1,(h0 b).2 h.2⟩ (h' 0 O)
  .rw [if_neg h,Zaku n]
   constructor
   .intro h' i hi
    cases i with
    | zero=>rw [h0,h0];exact h
    | succ i=>rw [Nat.testBit_succ,Nat.testBit_succ];exact h' i O
   .intro h' i hi
    have:=h' (i+1) O
    rwa [Nat.testBit_succ,Nat.testBit_succ] at this
theorem Za3o{n a b:Nat}(ha:a < 2 ^ n):Z0c n a b=decide ((a &&& b:Nat)=0):=by
 rw [Bool.eq_iff_iff,Zaku,decide_eq_true_eq]
 constructor
 .intro h
  refine Nat.eq_of_testBit_eq fun i=>?_
  rw [Nat.testBit_and,Nat.zero_testBit]
  by_cases hi:i < n
  .have:=h i hi
   cases h1:a.testBit i<;>cases h2:b.testBit i<;>simp_all
  .rw [Nat.testBit_lt_two_pow (Nat.lt_of_lt_of_le ha (Nat.pow_le_pow_right (by decide) (Nat.le_of_not_lt hi))),Bool.false_and]
 .intro h i _ ⟨h1,h2⟩
  have:(a &&& b).testBit i=true:=by rw [Nat.testBit_and,h1,h2];rfl
  rw [h,Nat.zero_testBit] at this
  cases this
theorem Za1r(a:Nat)(h:a < 2 ^ 62):Zqg .i64 (a:Int) 2=((a / 2:Nat):Int):=by
 unfold Zqg
 rw [show (2:Int)=((2:Nat):Int) from rfl,<- Int.ofNat_tdiv]
 exact Zfj O O
theorem Za1s(a:Nat):(Int.tmod (a:Int) 2==1)=decide (a % 2=1):=by
 rw [show (2:Int)=((2:Nat):Int) from rfl,<- Int.ofNat_tmod]
 rw [Zu1,decide_eq_decide]
 omega
end Go.PW
