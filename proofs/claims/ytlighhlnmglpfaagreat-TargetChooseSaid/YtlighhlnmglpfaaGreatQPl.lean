import Derived.Test.YtlighhlnmglpfaaGreatQPc
import Derived.Test.YtlighhlnmglpfaaGreatPwX
set_option linter.all false
set_option maxRecDepth 100000
namespace Go.PW
abbrev Bnd(n:Nat):Prop:=n≤4611686018427387904
def Zatd:Za:=⟨[],⟨0,0,⟨0,0,0,0,0⟩⟩,0,⟨0,0,[]⟩,0,0,0,[],0⟩
def atV(all:List Za)(i:Nat):Za:=(all[i]?).getD Zatd
theorem Zbla(all:List Za)(i:Nat):Za5e all (i:Int)=some (atV all i):=by
 (unfold Za5e LF.run;dsimp only [Za5c,LT.den];unfold atV)
 rw [decide_eq_false (show ¬ (i:Int) < 0 by omega)]
 by_cases h:i < all.length
 ·rw [decide_eq_false (show ¬ (i:Int)≥(all.length:Int) by omega),Za83 all h,List.getElem?_eq_getElem h];rfl
 ·rw [decide_eq_true (show (i:Int)≥(all.length:Int) by omega),List.getElem?_eq_none (show all.length≤i by omega)];rfl
theorem Zbdv{all:List Za}(ht:∀ t∈all,Bnd t.Line.Subs.length)(i:Nat):Bnd (atV all i).Line.Subs.length:=by
 unfold atV
 by_cases h:i < all.length
 ·rw [List.getElem?_eq_getElem h];exact ht _ (List.getElem_mem h)
 ·rw [List.getElem?_eq_none (show all.length≤i by omega)];exact Nat.zero_le _
def mat(all:List Za)(you src:Int)(f:Ze)(i:Nat)(o:Zl):Bool:=matV o (atV all i) you src f
def Zs6(s:Zb)(all:List Za)(you src:Int)(f:Ze):List Int:=Zx5 (mat all you src f) (fun o=>o.Id) 0 s.Objects
theorem Zbh7(s:Zb)(all:List Za)(you src:Int)(f:Ze)(hs:s.Objects.length*128≤reachBytes)(ht:∀ t∈all,Bnd t.Line.Subs.length):Zz9 s all you src f=some (Zs6 s all you src f):=by
 have hs':s.Objects.length*128≤140737488351232:=hs
 (unfold Zz9 LF.run;dsimp only [Zaf1,LT.den])
 have h:=Zayg (step:=Z2g.step) (st:=fun i acc => .L0 all you src f acc s.Objects (s.Objects.length:Int) (i:Int)) s.Objects (mat all you src f) (fun o=>o.Id) (fun i x acc hx ha=>by
  have hi:=(List.getElem?_eq_some_iff.1 hx).1
  have l1:∀ t,t=atV all i→(Zkw all you src f acc x t s.Objects (s.Objects.length:Int) (i:Int)).den=some (.inl (.L0 all you src f (bif mat all you src f i x then acc++[x.Id] else acc) s.Objects (s.Objects.length:Int) ((i+1:Nat):Int))):=by
   rintro t rfl
   dsimp only [Zkw,LT.den]
   rw [Zbfy _ _ _ _ _ (Zbdv ht i),Option.bind_some,Zws hi (by omega)]
   show (bif mat all you src f i x then _ else _)=_
   cases mat all you src f i x with
   | true=>rw [cond_true,Za28 (by simp;omega) (by decide)];rfl
   | false=>rfl
  show (Zkx _ _ _ _ _ _ _ _).den=_
  dsimp only [Zkx,LT.den]
  rw [decide_eq_true (show (i:Int) < (s.Objects.length:Int) by omega),cond_true,Zg2 hx,Option.bind_some]
  by_cases hl:i < all.length
  ·rw [decide_eq_true (show (i:Int) < (all.length:Int) by omega),cond_true,Za83 all hl,Option.bind_some];exact l1 _ (by simp [atV,List.getElem?_eq_getElem hl])
  ·rw [decide_eq_false (show ¬ (i:Int) < (all.length:Int) by omega),cond_false];exact l1 _ (by simp [atV,List.getElem?_eq_none (show all.length≤i by omega),Zatd]))
 refine Eq.trans h (Zcx ?_)
 show (Zkx _ _ _ _ _ _ _ _).den=_
 dsimp only [Zkx,LT.den]
 rw [decide_eq_false (by omega)];rfl
theorem Za8f(s:Zb)(all:List Za)(you src:Int)(f:Ze)(hs:s.Objects.length*128≤reachBytes)(ht:∀ t∈all,Bnd t.Line.Subs.length):Z2u s all you src f=some (Zs6 s all you src f):=by
 have hs':s.Objects.length*128≤140737488351232:=hs
 (unfold Z2u LF.run;dsimp only [Zasp,LT.den])
 have h:=Zayg (step:=Zaam.step) (st:=fun i acc => .L0 all you src s f acc (i:Int)) s.Objects (mat all you src f) (fun o=>o.Id) (fun i x acc hx ha=>by
  have hi:=(List.getElem?_eq_some_iff.1 hx).1
  show (Zpv _ _ _ _ _ _ _).den=_
  dsimp only [Zpv,LT.den]
  rw [decide_eq_true (show (i:Int) < (s.Objects.length:Int) by omega),cond_true,Zg2 hx,Option.bind_some,Zbla,Option.bind_some,Za5y _ _ _ _ _ (Zbdv ht i),Option.bind_some,Zws hi (by omega)]
  show (bif mat all you src f i x then _ else _)=_
  cases mat all you src f i x with
  | true=>rw [cond_true,Za28 (by simp;omega) (by decide)];rfl
  | false=>rfl)
 refine Eq.trans h (Zcx ?_)
 show (Zpv _ _ _ _ _ _ _).den=_
 dsimp only [Zpv,LT.den]
 rw [decide_eq_false (by omega)];rfl
end Go.PW
