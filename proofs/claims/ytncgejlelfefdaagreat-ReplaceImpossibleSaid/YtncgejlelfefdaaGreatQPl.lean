import Derived.Test.YtncgejlelfefdaaGreatQPc
import Derived.Test.YtncgejlelfefdaaGreatPwX
set_option linter.all false
set_option maxRecDepth 100000
namespace Go.PW
abbrev Bnd(n:Nat):Prop:=n<=4611686018427387904
def Zua:Zb:=⟨[],⟨0,0,⟨0,0,0,0,0⟩⟩,0,⟨0,0,[]⟩,0,0,0,[],0⟩
def atV(all:List Zb)(i:Nat):Zb:=(all[i]?).getD Zua
theorem Zbvj(all:List Zb)(i:Nat):Za8i all (i:Int)=some (atV all i):=by
 (unfold Za8i LF.run;dsimp only [Za8g,LT.den];unfold atV)
 rw [decide_eq_false (show ¬ (i:Int) < 0 by omega)]
 by_cases h:i < all.length
 .rw [decide_eq_false (show ¬ (i:Int)>=(all.length:Int) by omega),Zbpk all h,List.getElem?_eq_getElem h];rfl
 .rw [decide_eq_true (show (i:Int)>=(all.length:Int) by omega),List.getElem?_eq_none (show all.length<=i by omega)];rfl
theorem Zbrn{all:List Zb}(ht:∀ t∈all,Bnd t.Line.Subs.length)(i:Nat):Bnd (atV all i).Line.Subs.length:=by
 unfold atV
 by_cases h:i < all.length
 .rw [List.getElem?_eq_getElem h];exact ht _ (List.getElem_mem h)
 .rw [List.getElem?_eq_none (show all.length<=i by omega)];exact Nat.zero_le _
def mat(all:List Zb)(you src:Int)(f:Zm)(i:Nat)(o:Zc):Bool:=Zrw o (atV all i) you src f
def Za4n(s:Za)(all:List Zb)(you src:Int)(f:Zm):List Int:=Z5y (mat all you src f) (fun o=>o.Id) 0 s.Objects
theorem Zbbw(s:Za)(all:List Zb)(you src:Int)(f:Zm)(hs:s.Objects.length*128<=reachBytes)(ht:∀ t∈all,Bnd t.Line.Subs.length):Z2e s all you src f=some (Za4n s all you src f):=by
 have hs':s.Objects.length*128<=140737488351232:=hs
 (unfold Z2e LF.run;dsimp only [Zauy,LT.den])
 have h:=Zbh5 (step:=Zaba.step) (st:=fun i acc => .L0 all you src s f acc (i:Int)) s.Objects (mat all you src f) (fun o=>o.Id) (fun i x acc hx ha=>by
  have hi:=(List.getElem?_eq_some_iff.1 hx).1
  show (Zqq _ _ _ _ _ _ _).den=_
  dsimp only [Zqq,LT.den]
  rw [decide_eq_true (show (i:Int) < (s.Objects.length:Int) by omega),cond_true,Zj0 hx,Option.bind_some,Zbvj,Option.bind_some,Zai1 _ _ _ _ _ (Zbrn ht i),Option.bind_some,Z3z hi (by omega)]
  show (bif mat all you src f i x then _ else _)=_
  cases mat all you src f i x with
  | true=>rw [cond_true,Zbh4 (by simp;omega) (by decide)];rfl
  | false=>rfl)
 refine Eq.trans h (Zd9 ?_)
 show (Zqq _ _ _ _ _ _ _).den=_
 dsimp only [Zqq,LT.den]
 rw [decide_eq_false (by omega)];rfl
end Go.PW
