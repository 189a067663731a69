import Derived.Test.YtiglnkgoicjjfaaGreatQX
set_option linter.all false
set_option maxRecDepth 100000
namespace Go.PW
theorem Zlz(a:List Z5)(h:a.length*152<=140737488351232):Zco a=some a:=by
 unfold Zco LF.run
 split
 .dsimp only [Zd5,LT.den];rw [Zdr h (by decide)];rfl
 .rename_i e;have:a=[]:=by simpa using e
  subst this;rfl
theorem Zdn(a:List Int)(h:a.length*8<=140737488351232):Zel a=some a:=by
 unfold Zel LF.run
 split
 .dsimp only [Zhd,LT.den];rw [Zdr h (by decide)];rfl
 .rename_i e;have:a=[]:=by simpa using e
  subst this;rfl
theorem Zl0(a:List Zp)(h:a.length*128<=140737488351232):Zcp a=some a:=by
 unfold Zcp LF.run
 split
 .dsimp only [Zd6,LT.den];rw [Zdr h (by decide)];rfl
 .rename_i e;have:a=[]:=by simpa using e
  subst this;rfl
theorem Zn7(a:List Zal)(h:a.length*824<=140737488351232):Zc4 a=some a:=by
 unfold Zc4 LF.run
 split
 .dsimp only [Zez,LT.den];rw [Zdr h (by decide)];rfl
 .rename_i e;have:a=[]:=by simpa using e
  subst this;rfl
theorem Zgm(a:List Zq)(h:a.length*176<=140737488351232):Zcu a=some a:=by
 unfold Zcu LF.run
 split
 .dsimp only [Ze7,LT.den];rw [Zdr h (by decide)];rfl
 .rename_i e;have:a=[]:=by simpa using e
  subst this;rfl
theorem Zn8(a:List Zbp)(h:a.length*144<=140737488351232):Ze8 a=some a:=by
 unfold Ze8 LF.run
 split
 .dsimp only [Zgf,LT.den];rw [Zdr h (by decide)];rfl
 .rename_i e;have:a=[]:=by simpa using e
  subst this;rfl
theorem Zl1(a:List Zv)(h:a.length*560<=140737488351232):Zej a=some a:=by
 unfold Zej LF.run
 split
 .dsimp only [Zfi,LT.den];rw [Zdr h (by decide)];rfl
 .rename_i e;have:a=[]:=by simpa using e
  subst this;rfl
theorem Zl2(a:List Zbj)(h:a.length*16<=140737488351232):Zb1 a=some a:=by
 unfold Zb1 LF.run
 split
 .dsimp only [Zd7,LT.den];rw [Zdr h (by decide)];rfl
 .rename_i e;have:a=[]:=by simpa using e
  subst this;rfl
theorem Zk5(a:List Zab)(h:a.length*768<=140737488351232):Zcg a=some a:=by
 unfold Zcg LF.run
 split
 .dsimp only [Zdo,LT.den];rw [Zdr h (by decide)];rfl
 .rename_i e;have:a=[]:=by simpa using e
  subst this;rfl
theorem Zn9(a:List Za1)(h:a.length*80<=140737488351232):Zc5 a=some a:=by
 unfold Zc5 LF.run
 split
 .dsimp only [Ze0,LT.den];rw [Zdr h (by decide)];rfl
 .rename_i e;have:a=[]:=by simpa using e
  subst this;rfl
theorem Zl3(a:List Zaf)(h:a.length*24<=140737488351232):Zcq a=some a:=by
 unfold Zcq LF.run
 split
 .dsimp only [Zd8,LT.den];rw [Zdr h (by decide)];rfl
 .rename_i e;have:a=[]:=by simpa using e
  subst this;rfl
theorem Zep(a b:List Int)(h:a.length*8<=140737488351232):Zj3 a b=some (decide (a=b)):=by
 (unfold Zj3 LF.run;dsimp only [Zm0,LT.den])
 rw [Zh4]
 by_cases hl:a.length=b.length
 .rw [decide_eq_false (show ¬ a.length≠b.length from fun e=>e hl),cond_false,Option.bind_some,Zbf]
  have r:=Zds (step:=Zhe.step) (st:=fun i:Nat=>Zfs.L0 a b (a.length:Int) (i:Int)) (bad:=false) a b hl (fun i x y hx hy hm=>by
   have hi:=(List.getElem?_eq_some_iff.1 hx).1
   show (Zfk _ _ _ _).den=_
   dsimp only [Zfk,LT.den]
   rw [decide_eq_true (show (i:Int) < (a.length:Int) by omega),cond_true,Zak hx,Option.bind_some,Zak hy,Option.bind_some,int_bne',Zaz hi (by omega)]
   cases decide (x=y)<;>rfl)
  refine Eq.trans r ?_
  have he:Za6 Zhe.step (Zfs.L0 a b (a.length:Int) (a.length:Int))=some true:=Zbe (by
   show (Zfk _ _ _ _).den=_
   dsimp only [Zfk,LT.den]
   rw [decide_eq_false (by omega)];rfl)
  rw [he]
  cases decide (a=b)<;>rfl
 .rw [decide_eq_true hl,Zij hl];rfl
theorem Zl4(a b:List Zp)(h:a.length*128<=140737488351232):Zf1 a b=some (decide (a=b)):=by
 (unfold Zf1 LF.run;dsimp only [Zh7,LT.den])
 rw [Zh4]
 by_cases hl:a.length=b.length
 .rw [decide_eq_false (show ¬ a.length≠b.length from fun e=>e hl),cond_false,Option.bind_some,Zbf]
  have r:=Zds (step:=Zd9.step) (st:=fun i:Nat=>Zc0.L0 a b (a.length:Int) (i:Int)) (bad:=false) a b hl (fun i x y hx hy hm=>by
   have hi:=(List.getElem?_eq_some_iff.1 hx).1
   show (Zcw _ _ _ _).den=_
   dsimp only [Zcw,LT.den]
   rw [decide_eq_true (show (i:Int) < (a.length:Int) by omega),cond_true,Zak hx,Option.bind_some,Zak hy,Option.bind_some,Z52,Zaz hi (by omega)]
   cases decide (x=y)<;>rfl)
  refine Eq.trans r ?_
  have he:Za6 Zd9.step (Zc0.L0 a b (a.length:Int) (a.length:Int))=some true:=Zbe (by
   show (Zcw _ _ _ _).den=_
   dsimp only [Zcw,LT.den]
   rw [decide_eq_false (by omega)];rfl)
  rw [he]
  cases decide (a=b)<;>rfl
 .rw [decide_eq_true hl,Zij hl];rfl
theorem Zl5(a b:List Zbj)(h:a.length*16<=140737488351232):Zf2 a b=some (decide (a=b)):=by
 (unfold Zf2 LF.run;dsimp only [Zh8,LT.den])
 rw [Zh4]
 by_cases hl:a.length=b.length
 .rw [decide_eq_false (show ¬ a.length≠b.length from fun e=>e hl),cond_false,Option.bind_some,Zbf]
  have r:=Zds (step:=Zea.step) (st:=fun i:Nat=>Zc1.L0 a b (a.length:Int) (i:Int)) (bad:=false) a b hl (fun i x y hx hy hm=>by
   have hi:=(List.getElem?_eq_some_iff.1 hx).1
   show (Zcx _ _ _ _).den=_
   dsimp only [Zcx,LT.den]
   rw [decide_eq_true (show (i:Int) < (a.length:Int) by omega),cond_true,Zak hx,Option.bind_some,Zak hy,Option.bind_some,Z53,Zaz hi (by omega)]
   cases decide (x=y)<;>rfl)
  refine Eq.trans r ?_
  have he:Za6 Zea.step (Zc1.L0 a b (a.length:Int) (a.length:Int))=some true:=Zbe (by
   show (Zcx _ _ _ _).den=_
   dsimp only [Zcx,LT.den]
   rw [decide_eq_false (by omega)];rfl)
  rw [he]
  cases decide (a=b)<;>rfl
 .rw [decide_eq_true hl,Zij hl];rfl
theorem Zgn(a b:List Zq)(h:a.length*176<=140737488351232):Zhg a b=some (decide (a=b)):=by
 (unfold Zhg LF.run;dsimp only [Zjl,LT.den])
 rw [Zh4]
 by_cases hl:a.length=b.length
 .rw [decide_eq_false (show ¬ a.length≠b.length from fun e=>e hl),cond_false,Option.bind_some,Zbf]
  have r:=Zds (step:=Zfb.step) (st:=fun i:Nat=>Zd1.L0 a b (a.length:Int) (i:Int)) (bad:=false) a b hl (fun i x y hx hy hm=>by
   have hi:=(List.getElem?_eq_some_iff.1 hx).1
   show (Zdp _ _ _ _).den=_
   dsimp only [Zdp,LT.den]
   rw [decide_eq_true (show (i:Int) < (a.length:Int) by omega),cond_true,Zak hx,Option.bind_some,Zak hy,Option.bind_some,Z45,Zaz hi (by omega)]
   cases decide (x=y)<;>rfl)
  refine Eq.trans r ?_
  have he:Za6 Zfb.step (Zd1.L0 a b (a.length:Int) (a.length:Int))=some true:=Zbe (by
   show (Zdp _ _ _ _).den=_
   dsimp only [Zdp,LT.den]
   rw [decide_eq_false (by omega)];rfl)
  rw [he]
  cases decide (a=b)<;>rfl
 .rw [decide_eq_true hl,Zij hl];rfl
theorem Zoa(a b:List Zbp)(h:a.length*144<=140737488351232):Zgz a b=some (decide (a=b)):=by
 (unfold Zgz LF.run;dsimp only [Zi7,LT.den])
 rw [Zh4]
 by_cases hl:a.length=b.length
 .rw [decide_eq_false (show ¬ a.length≠b.length from fun e=>e hl),cond_false,Option.bind_some,Zbf]
  have r:=Zds (step:=Ze1.step) (st:=fun i:Nat=>Zdl.L0 a b (a.length:Int) (i:Int)) (bad:=false) a b hl (fun i x y hx hy hm=>by
   have hi:=(List.getElem?_eq_some_iff.1 hx).1
   show (Zdg _ _ _ _).den=_
   dsimp only [Zdg,LT.den]
   rw [decide_eq_true (show (i:Int) < (a.length:Int) by omega),cond_true,Zak hx,Option.bind_some,Zak hy,Option.bind_some,Zabl,Zaz hi (by omega)]
   cases decide (x=y)<;>rfl)
  refine Eq.trans r ?_
  have he:Za6 Ze1.step (Zdl.L0 a b (a.length:Int) (a.length:Int))=some true:=Zbe (by
   show (Zdg _ _ _ _).den=_
   dsimp only [Zdg,LT.den]
   rw [decide_eq_false (by omega)];rfl)
  rw [he]
  cases decide (a=b)<;>rfl
 .rw [decide_eq_true hl,Zij hl];rfl
theorem Zl6(a b:List Zaf)(h:a.length*24<=140737488351232):Zf3 a b=some (decide (a=b)):=by
 (unfold Zf3 LF.run;dsimp only [Zh9,LT.den])
 rw [Zh4]
 by_cases hl:a.length=b.length
 .rw [decide_eq_false (show ¬ a.length≠b.length from fun e=>e hl),cond_false,Option.bind_some,Zbf]
  have r:=Zds (step:=Zeb.step) (st:=fun i:Nat=>Zc2.L0 a b (a.length:Int) (i:Int)) (bad:=false) a b hl (fun i x y hx hy hm=>by
   have hi:=(List.getElem?_eq_some_iff.1 hx).1
   show (Zcy _ _ _ _).den=_
   dsimp only [Zcy,LT.den]
   rw [decide_eq_true (show (i:Int) < (a.length:Int) by omega),cond_true,Zak hx,Option.bind_some,Zak hy,Option.bind_some,Z54,Zaz hi (by omega)]
   cases decide (x=y)<;>rfl)
  refine Eq.trans r ?_
  have he:Za6 Zeb.step (Zc2.L0 a b (a.length:Int) (a.length:Int))=some true:=Zbe (by
   show (Zcy _ _ _ _).den=_
   dsimp only [Zcy,LT.den]
   rw [decide_eq_false (by omega)];rfl)
  rw [he]
  cases decide (a=b)<;>rfl
 .rw [decide_eq_true hl,Zij hl];rfl
theorem Zadl(x y:Zc3)(hx:Zud x):Zv6 x y=some (decide (x=y)):=by
 (unfold Zv6 LF.run;dsimp only [Z0q,LT.den])
 simp only [Zep x.Graveyard y.Graveyard hx.1,Z2z,Zh3,Zg4,Zj5,int_bne',Zii,Option.bind_some,Zg3,Zef,Zf4]
 congr 1
 rw [decide_eq_decide]
 obtain⟨a0,a1,a2,a3,a4,a5,a6,a7⟩:=x
 obtain⟨b0,b1,b2,b3,b4,b5,b6,b7⟩:=y
 simp only [Zc3.mk.injEq]
 try simp only [and_assoc,and_comm,and_left_comm]
theorem Z8w(x y:Zv)(hx:Za2 x):Zsa x y=some (decide (x=y)):=by
 (unfold Zsa LF.run;dsimp only [Zw7,LT.den])
 simp only [Zgn x.Mods y.Mods hx.2.2.2.2.1,Zagp,Z51,Zp5,Z2z,Zh3,Zg4,Zj5,int_bne',Zii,Option.bind_some,Zg3,Zef,Zf4]
 congr 1
 rw [decide_eq_decide]
 obtain⟨a0,a1,a2,a3,a4,a5,a6,a7,a8⟩:=x
 obtain⟨b0,b1,b2,b3,b4,b5,b6,b7,b8⟩:=y
 simp only [Zv.mk.injEq]
theorem Ze5(a b:List Zv)(h:a.length*560<=140737488351232)(he:∀ x,x∈a->Za2 x):Zbm a b=some (decide (a=b)):=by
 (unfold Zbm LF.run;dsimp only [Zct,LT.den])
 rw [Zh4]
 by_cases hl:a.length=b.length
 .rw [decide_eq_false (show ¬ a.length≠b.length from fun e=>e hl),cond_false,Option.bind_some,Zbf]
  have r:=Zds (step:=Za0.step) (st:=fun i:Nat=>Zah.L0 b a (a.length:Int) (i:Int)) (bad:=false) a b hl (fun i x y hx hy hm=>by
   have hi:=(List.getElem?_eq_some_iff.1 hx).1
   show (Zag _ _ _ _).den=_
   dsimp only [Zag,LT.den]
   rw [decide_eq_true (show (i:Int) < (a.length:Int) by omega),cond_true,Zak hx,Option.bind_some,Zak hy,Option.bind_some,(Z8w x y (he x hm)),Option.bind_some,Zaz hi (by omega)]
   cases decide (x=y)<;>rfl)
  refine Eq.trans r ?_
  have he:Za6 Za0.step (Zah.L0 b a (a.length:Int) (a.length:Int))=some true:=Zbe (by
   show (Zag _ _ _ _).den=_
   dsimp only [Zag,LT.den]
   rw [decide_eq_false (by omega)];rfl)
  rw [he]
  cases decide (a=b)<;>rfl
 .rw [decide_eq_true hl,Zij hl];rfl
theorem Zsx(x y:Zs)(hx:Zbo x):Zqn x y=some (decide (x=y)):=by
 (unfold Zqn LF.run;dsimp only [Zvi,LT.den])
 simp only [Zgn x.Mods y.Mods hx.2.1.1,Zoa x.Specs y.Specs hx.2.2.2.1.1,Ze5 x.Effects y.Effects hx.2.2.2.2.1.1 hx.2.2.2.2.1.2,Zh3,Zg4,Zp5,Z8k,Z3n,Z3o,Option.bind_some,Zg3,Zef,Zf4]
 congr 1
 rw [decide_eq_decide]
 obtain⟨a0,a1,a2,a3,a4,a5,a6,a7,a8,a9⟩:=x
 obtain⟨b0,b1,b2,b3,b4,b5,b6,b7,b8,b9⟩:=y
 simp only [Zs.mk.injEq]
theorem Zadm(x y:Zal)(hx:Zd3 x):Zv7 x y=some (decide (x=y)):=by
 (unfold Zv7 LF.run;dsimp only [Z0s,LT.den])
 simp only [Zl5 x.Targets y.Targets hx.2.1,Zsx x.Ability y.Ability hx.1,Zse,Zh3,Zg4,Zj5,int_bne',Zii,Option.bind_some,Zg3,Zef,Zf4]
 congr 1
 rw [decide_eq_decide]
 obtain⟨a0,a1,a2,a3,a4,a5,a6,a7,a8⟩:=x
 obtain⟨b0,b1,b2,b3,b4,b5,b6,b7,b8⟩:=y
 simp only [Zal.mk.injEq]
 try simp only [and_assoc,and_comm,and_left_comm]
theorem Z6f(x y:Zab)(hx:Zfm x):Zqo x y=some (decide (x=y)):=by
 (unfold Zqo LF.run;dsimp only [Zvk,LT.den])
 simp only [Zsx x.Ability y.Ability hx,Zse,Zh3,Zg4,Zj5,int_bne',Zii,Option.bind_some,Zg3,Zef,Zf4]
 congr 1
 rw [decide_eq_decide]
 obtain⟨a0,a1,a2,a3⟩:=x
 obtain⟨b0,b1,b2,b3⟩:=y
 simp only [Zab.mk.injEq]
 try simp only [and_assoc,and_comm,and_left_comm]
theorem Zadn(x y:Za1)(hx:Zfn x):Zv8 x y=some (decide (x=y)):=by
 (unfold Zv8 LF.run;dsimp only [Z0u,LT.den])
 simp only [Zep x.Objects y.Objects hx.1.1,Zgn x.Mods y.Mods hx.2.1,Zh3,Zg4,Zj5,int_bne',Zii,Option.bind_some,Zg3,Zef,Zf4]
 congr 1
 rw [decide_eq_decide]
 obtain⟨a0,a1,a2,a3,a4,a5⟩:=x
 obtain⟨b0,b1,b2,b3,b4,b5⟩:=y
 simp only [Za1.mk.injEq]
 try simp only [and_assoc,and_comm,and_left_comm]
theorem Zfy(a b:List Zc3)(h:a.length*120<=140737488351232)(he:∀ x,x∈a->Zud x):Zb5 a b=some (decide (a=b)):=by
 (unfold Zb5 LF.run;dsimp only [Zdb,LT.den])
 rw [Zh4]
 by_cases hl:a.length=b.length
 .rw [decide_eq_false (show ¬ a.length≠b.length from fun e=>e hl),cond_false,Option.bind_some,Zbf]
  have r:=Zds (step:=Za9.step) (st:=fun i:Nat=>Zat.L0 b a (a.length:Int) (i:Int)) (bad:=false) a b hl (fun i x y hx hy hm=>by
   have hi:=(List.getElem?_eq_some_iff.1 hx).1
   show (Zao _ _ _ _).den=_
   dsimp only [Zao,LT.den]
   rw [decide_eq_true (show (i:Int) < (a.length:Int) by omega),cond_true,Zak hx,Option.bind_some,Zak hy,Option.bind_some,(Zadl x y (he x hm)),Option.bind_some,Zaz hi (by omega)]
   cases decide (x=y)<;>rfl)
  refine Eq.trans r ?_
  have he:Za6 Za9.step (Zat.L0 b a (a.length:Int) (a.length:Int))=some true:=Zbe (by
   show (Zao _ _ _ _).den=_
   dsimp only [Zao,LT.den]
   rw [decide_eq_false (by omega)];rfl)
  rw [he]
  cases decide (a=b)<;>rfl
 .rw [decide_eq_true hl,Zij hl];rfl
theorem Zfz(a b:List Zal)(h:a.length*824<=140737488351232)(he:∀ x,x∈a->Zd3 x):Zb6 a b=some (decide (a=b)):=by
 (unfold Zb6 LF.run;dsimp only [Zdc,LT.den])
 rw [Zh4]
 by_cases hl:a.length=b.length
 .rw [decide_eq_false (show ¬ a.length≠b.length from fun e=>e hl),cond_false,Option.bind_some,Zbf]
  have r:=Zds (step:=Zba.step) (st:=fun i:Nat=>Zau.L0 b a (a.length:Int) (i:Int)) (bad:=false) a b hl (fun i x y hx hy hm=>by
   have hi:=(List.getElem?_eq_some_iff.1 hx).1
   show (Zap _ _ _ _).den=_
   dsimp only [Zap,LT.den]
   rw [decide_eq_true (show (i:Int) < (a.length:Int) by omega),cond_true,Zak hx,Option.bind_some,Zak hy,Option.bind_some,(Zadm x y (he x hm)),Option.bind_some,Zaz hi (by omega)]
   cases decide (x=y)<;>rfl)
  refine Eq.trans r ?_
  have he:Za6 Zba.step (Zau.L0 b a (a.length:Int) (a.length:Int))=some true:=Zbe (by
   show (Zap _ _ _ _).den=_
   dsimp only [Zap,LT.den]
   rw [decide_eq_false (by omega)];rfl)
  rw [he]
  cases decide (a=b)<;>rfl
 .rw [decide_eq_true hl,Zij hl];rfl
theorem Zev(a b:List Zab)(h:a.length*768<=140737488351232)(he:∀ x,x∈a->Zfm x):Zbd a b=some (decide (a=b)):=by
 (unfold Zbd LF.run;dsimp only [Zck,LT.den])
 rw [Zh4]
 by_cases hl:a.length=b.length
 .rw [decide_eq_false (show ¬ a.length≠b.length from fun e=>e hl),cond_false,Option.bind_some,Zbf]
  have r:=Zds (step:=Zas.step) (st:=fun i:Nat=>Zae.L0 b a (a.length:Int) (i:Int)) (bad:=false) a b hl (fun i x y hx hy hm=>by
   have hi:=(List.getElem?_eq_some_iff.1 hx).1
   show (Zad _ _ _ _).den=_
   dsimp only [Zad,LT.den]
   rw [decide_eq_true (show (i:Int) < (a.length:Int) by omega),cond_true,Zak hx,Option.bind_some,Zak hy,Option.bind_some,(Z6f x y (he x hm)),Option.bind_some,Zaz hi (by omega)]
   cases decide (x=y)<;>rfl)
  refine Eq.trans r ?_
  have he:Za6 Zas.step (Zae.L0 b a (a.length:Int) (a.length:Int))=some true:=Zbe (by
   show (Zad _ _ _ _).den=_
   dsimp only [Zad,LT.den]
   rw [decide_eq_false (by omega)];rfl)
  rw [he]
  cases decide (a=b)<;>rfl
 .rw [decide_eq_true hl,Zij hl];rfl
theorem Zf0(a b:List Za1)(h:a.length*80<=140737488351232)(he:∀ x,x∈a->Zfn x):Zb7 a b=some (decide (a=b)):=by
 (unfold Zb7 LF.run;dsimp only [Zdd,LT.den])
 rw [Zh4]
 by_cases hl:a.length=b.length
 .rw [decide_eq_false (show ¬ a.length≠b.length from fun e=>e hl),cond_false,Option.bind_some,Zbf]
  have r:=Zds (step:=Zbb.step) (st:=fun i:Nat=>Zav.L0 b a (a.length:Int) (i:Int)) (bad:=false) a b hl (fun i x y hx hy hm=>by
   have hi:=(List.getElem?_eq_some_iff.1 hx).1
   show (Zaq _ _ _ _).den=_
   dsimp only [Zaq,LT.den]
   rw [decide_eq_true (show (i:Int) < (a.length:Int) by omega),cond_true,Zak hx,Option.bind_some,Zak hy,Option.bind_some,(Zadn x y (he x hm)),Option.bind_some,Zaz hi (by omega)]
   cases decide (x=y)<;>rfl)
  refine Eq.trans r ?_
  have he:Za6 Zbb.step (Zav.L0 b a (a.length:Int) (a.length:Int))=some true:=Zbe (by
   show (Zaq _ _ _ _).den=_
   dsimp only [Zaq,LT.den]
   rw [decide_eq_false (by omega)];rfl)
  rw [he]
  cases decide (a=b)<;>rfl
 .rw [decide_eq_true hl,Zij hl];rfl
theorem Z8x(x y:Zbc)(hx:Zj8 x):Zsb x y=some (decide (x=y)):=by
 (unfold Zsb LF.run;dsimp only [Zw9,LT.den])
 simp only [Zl6 x.Options y.Options hx.1,Zh3,Option.bind_some,Zg3,Zef,Zf4]
 congr 1
 rw [decide_eq_decide]
 obtain⟨a0,a1,a2,a3,a4,a5,a6⟩:=x
 obtain⟨b0,b1,b2,b3,b4,b5,b6⟩:=y
 simp only [Zbc.mk.injEq]
end Go.PW
set_option maxRecDepth 100000
namespace Go.PW
theorem Z8y(x:Z5)(h:Zde x):Zmy x=some x:=by
 (unfold Zmy LF.run;dsimp only [Zw4,LT.den])
 rw [Zdn _ h.1.1,Option.bind_some,Zdn _ h.2.1.1,Option.bind_some,Zdn _ h.2.2.1];rfl
theorem Zjo(a:List Int)(h:a.length*8<=140737488351232):Zth a=some a:=by
 (unfold Zth LF.run;dsimp only [Z4u,LT.den])
 rw [Zdr h (by decide)];rfl
theorem Zmu(a:Zs)(h:Zbo a):Zjs a=some a:=by
 have key:∀ Z,Za6 Zkb.step (.L0 a Z (a.Effects.length:Int) ((0:Nat):Int))=some a:=fun Z=>by
  have hl:a.Effects.length*560<=140737488351232:=h.2.2.2.2.1.1
  have r:=Zmx (step:=Zkb.step) (st:=fun i (_:Unit) => .L0 a Z (a.Effects.length:Int) (i:Int)) a.Effects.length (fun _=>()) (fun i hi=>by
   have hx:=List.getElem?_eq_getElem hi
   have hp:=h.2.2.2.2.1.2 _ (List.getElem_mem hi)
   generalize a.Effects[i]=x at hx hp
   obtain⟨x0,x1,x2,x3,x4,x5,x6,x7,x8⟩:=x
   show (Zie _ _ _ _).den=_
   dsimp only [Zie,LT.den]
   rw [decide_eq_true (show (i:Int) < (a.Effects.length:Int) by omega),cond_true,Zak hx,Option.bind_some]
   try dsimp only
   rw [Zgm _ hp.2.2.2.2.1,Option.bind_some,Zqg hx,Option.bind_some,Zaz hi (by omega)])
  refine Eq.trans r (Zbe ?_)
  show (Zie _ _ _ _).den=_
  dsimp only [Zie,LT.den]
  rw [decide_eq_false (show ¬ (a.Effects.length:Int) < (a.Effects.length:Int) by omega)]
  rfl
 (unfold Zjs LF.run;dsimp only [Zvf,LT.den])
 rw [Zgm _ h.2.1.1,Option.bind_some,Zn8 _ h.2.2.2.1.1,Option.bind_some,Zl1 _ h.2.2.2.2.1.1,Option.bind_some,Option.bind_some,Zbf]
 exact key _
theorem Z3t(a:Zs)(h:Zbo a):Z17 a=some a:=by
 have key:∀ Z,Za6 Zp3.step (.L0 a Z (⟨a.Kind,a.Filter,a.Mods,a.Price,a.Slow,a.Trigger,a.May,a.Specs,a.Effects.take 0,a.Replace⟩:Zs) ((0:Nat):Int))=some a:=fun Z=>by
  have hl:a.Effects.length*560<=140737488351232:=h.2.2.2.2.1.1
  have r:=Zmx (step:=Zp3.step) (st:=fun i (v:Zs) => .L0 a Z v (i:Int)) a.Effects.length (fun i=>(⟨a.Kind,a.Filter,a.Mods,a.Price,a.Slow,a.Trigger,a.May,a.Specs,a.Effects.take i,a.Replace⟩:Zs)) (fun i hi=>by
   have hx:=List.getElem?_eq_getElem hi
   have hp:=h.2.2.2.2.1.2 _ (List.getElem_mem hi)
   generalize a.Effects[i]=x at hx hp
   obtain⟨x0,x1,x2,x3,x4,x5,x6,x7,x8⟩:=x
   show (Zkz _ _ _ _).den=_
   dsimp only [Zkz,LT.den]
   rw [decide_eq_true (show (i:Int) < (a.Effects.length:Int) by omega),cond_true,Zak hx,Option.bind_some]
   try dsimp only
   rw [Zdr hp.2.2.2.2.1 (by decide),Option.bind_some,Zs7 hx hl (by decide),Option.bind_some,Zaz hi (by omega)])
  refine Eq.trans r (Zbe ?_)
  show (Zkz _ _ _ _).den=_
  dsimp only [Zkz,LT.den]
  rw [decide_eq_false (show ¬ (a.Effects.length:Int) < (a.Effects.length:Int) by omega),List.take_length]
  rfl
 (unfold Z17 LF.run;dsimp only [Z5t,LT.den])
 rw [Zdr h.2.1.1 (by decide),Option.bind_some,Zdr h.2.2.2.1.1 (by decide),Option.bind_some,Option.bind_some,Zbf]
 exact key _
theorem Zapz(s:Za)(h:Zt s):Z0o s=some s:=by
 have l3:∀ Z,Za6 Ze9.step (.L3 s Z (s.Conts.length:Int) ((0:Nat):Int))=some s:=fun Z=>by
  have hl:s.Conts.length*80<=140737488351232:=h.2.2.2.2.2.2.1.1
  have r:=Zmx (step:=Ze9.step) (st:=fun (i:Nat) (_:Unit) => .L3 s Z (s.Conts.length:Int) (i:Int)) s.Conts.length (fun _=>()) (fun i hi=>by
   have hx:=List.getElem?_eq_getElem hi
   have hp:=h.2.2.2.2.2.2.1.2 _ (List.getElem_mem hi)
   generalize s.Conts[i]=x at hx hp
   obtain⟨x0,x1,x2,x3,x4,x5⟩:=x
   show (Znv _ _ _ _).den=_
   dsimp only [Znv,LT.den]
   rw [decide_eq_true (show (i:Int) < (s.Conts.length:Int) by omega),cond_true,Zak hx,Option.bind_some]
   try dsimp only
   rw [Zdn _ hp.1.1,Option.bind_some,Zqg hx,Option.bind_some,Zak hx,Option.bind_some]
   try dsimp only
   rw [Zgm _ hp.2.1,Option.bind_some,Zqg hx,Option.bind_some,Zaz hi (by omega)])
  refine Eq.trans r ?_
  have e:Ze9.step (.L3 s Z (s.Conts.length:Int) (s.Conts.length:Int))=some (.inr s):=by
   show (Znv _ _ _ _).den=_
   dsimp only [Znv,LT.den]
   rw [decide_eq_false (show ¬ (s.Conts.length:Int) < (s.Conts.length:Int) by omega),cond_false]
   rw [Zdn _ h.2.2.2.2.2.2.2.1]
   rfl
  exact Zbe e
 have l2:∀ Z,Za6 Ze9.step (.L2 s Z (s.Waiting.length:Int) ((0:Nat):Int))=some s:=fun Z=>by
  have hl:s.Waiting.length*768<=140737488351232:=h.2.2.2.2.2.1.1
  have r:=Zmx (step:=Ze9.step) (st:=fun (i:Nat) (_:Unit) => .L2 s Z (s.Waiting.length:Int) (i:Int)) s.Waiting.length (fun _=>()) (fun i hi=>by
   have hx:=List.getElem?_eq_getElem hi
   have hp:=h.2.2.2.2.2.1.2 _ (List.getElem_mem hi)
   generalize s.Waiting[i]=x at hx hp
   obtain⟨x0,x1,x2,x3⟩:=x
   show (Znu _ _ _ _).den=_
   dsimp only [Znu,LT.den]
   rw [decide_eq_true (show (i:Int) < (s.Waiting.length:Int) by omega),cond_true,Zak hx,Option.bind_some]
   try dsimp only
   rw [Zmu _ hp,Option.bind_some,Zqg hx,Option.bind_some,Zaz hi (by omega)])
  refine Eq.trans r ?_
  have e:Ze9.step (.L2 s Z (s.Waiting.length:Int) (s.Waiting.length:Int))=some (.inl (.L3 s Z (s.Conts.length:Int) ((0:Nat):Int))):=by
   show (Znu _ _ _ _).den=_
   dsimp only [Znu,LT.den]
   rw [decide_eq_false (show ¬ (s.Waiting.length:Int) < (s.Waiting.length:Int) by omega),cond_false]
   rw [Zn9 _ h.2.2.2.2.2.2.1.1]
   rfl
  exact (Zek e).trans (l3 Z)
 have l1:∀ Z,Za6 Ze9.step (.L1 s Z (s.Stack.length:Int) ((0:Nat):Int))=some s:=fun Z=>by
  have hl:s.Stack.length*824<=140737488351232:=h.2.2.2.2.1.1
  have r:=Zmx (step:=Ze9.step) (st:=fun (i:Nat) (_:Unit) => .L1 s Z (s.Stack.length:Int) (i:Int)) s.Stack.length (fun _=>()) (fun i hi=>by
   have hx:=List.getElem?_eq_getElem hi
   have hp:=h.2.2.2.2.1.2 _ (List.getElem_mem hi)
   generalize s.Stack[i]=x at hx hp
   obtain⟨x0,x1,x2,x3,x4,x5,x6,x7,x8⟩:=x
   show (Znt _ _ _ _).den=_
   dsimp only [Znt,LT.den]
   rw [decide_eq_true (show (i:Int) < (s.Stack.length:Int) by omega),cond_true,Zak hx,Option.bind_some]
   try dsimp only
   rw [Zmu _ hp.1,Option.bind_some,Zqg hx,Option.bind_some,Zak hx,Option.bind_some]
   try dsimp only
   rw [Zl2 _ hp.2.1,Option.bind_some,Zqg hx,Option.bind_some,Zaz hi (by omega)])
  refine Eq.trans r ?_
  have e:Ze9.step (.L1 s Z (s.Stack.length:Int) (s.Stack.length:Int))=some (.inl (.L2 s Z (s.Waiting.length:Int) ((0:Nat):Int))):=by
   show (Znt _ _ _ _).den=_
   dsimp only [Znt,LT.den]
   rw [decide_eq_false (show ¬ (s.Stack.length:Int) < (s.Stack.length:Int) by omega),cond_false]
   rw [Zk5 _ h.2.2.2.2.2.1.1]
   rfl
  exact (Zek e).trans (l2 Z)
 have l0:∀ Z,Za6 Ze9.step (.L0 s Z (s.Players.length:Int) ((0:Nat):Int))=some s:=fun Z=>by
  have hl:s.Players.length*152<=140737488351232:=h.1.1
  have r:=Zmx (step:=Ze9.step) (st:=fun (i:Nat) (_:Unit) => .L0 s Z (s.Players.length:Int) (i:Int)) s.Players.length (fun _=>()) (fun i hi=>by
   have hx:=List.getElem?_eq_getElem hi
   have hp:=h.1.2 _ (List.getElem_mem hi)
   generalize s.Players[i]=x at hx hp
   obtain⟨x0,x1,x2,x3,x4,x5,x6,x7,x8⟩:=x
   show (Zns _ _ _ _).den=_
   dsimp only [Zns,LT.den]
   rw [decide_eq_true (show (i:Int) < (s.Players.length:Int) by omega),cond_true,Zak hx,Option.bind_some]
   try dsimp only
   rw [Z8y _ hp,Option.bind_some,Zqg hx,Option.bind_some,Zaz hi (by omega)])
  refine Eq.trans r ?_
  have e:Ze9.step (.L0 s Z (s.Players.length:Int) (s.Players.length:Int))=some (.inl (.L1 s Z (s.Stack.length:Int) ((0:Nat):Int))):=by
   show (Zns _ _ _ _).den=_
   dsimp only [Zns,LT.den]
   rw [decide_eq_false (show ¬ (s.Players.length:Int) < (s.Players.length:Int) by omega),cond_false]
   rw [Zl0 _ h.2.1.1,Option.bind_some,Zdn _ h.2.2.1.1,Option.bind_some,Zdn _ h.2.2.2.1.1,Option.bind_some,Zn7 _ h.2.2.2.2.1.1]
   rfl
  exact (Zek e).trans (l1 Z)
 (unfold Z0o LF.run;dsimp only [Zaa9,LT.den])
 rw [Zlz _ h.1.1,Option.bind_some,Option.bind_some,Zbf]
 exact l0 _
theorem Zabp(s:Za)(h:Zt s):Zy5 s=some s:=by
 have l3:∀ Z,Za6 Zfw.step (.L3 s Z (⟨s.Players,s.Objects,s.Battlefield,s.Exile,s.Stack,s.Waiting,s.Conts.take 0,s.Turn,s.Active,s.Step,s.Begun,s.Priority,s.Passes,s.NextId,s.NextStamp,s.Seed,s.Extra,s.Over,s.Winner⟩:Za) ((0:Nat):Int))=some s:=fun Z=>by
  have hl:s.Conts.length*80<=140737488351232:=h.2.2.2.2.2.2.1.1
  have r:=Zmx (step:=Zfw.step) (st:=fun (i:Nat) (v:Za) => .L3 s Z v (i:Int)) s.Conts.length (fun i=>(⟨s.Players,s.Objects,s.Battlefield,s.Exile,s.Stack,s.Waiting,s.Conts.take i,s.Turn,s.Active,s.Step,s.Begun,s.Priority,s.Passes,s.NextId,s.NextStamp,s.Seed,s.Extra,s.Over,s.Winner⟩:Za)) (fun i hi=>by
   have hx:=List.getElem?_eq_getElem hi
   have hp:=h.2.2.2.2.2.2.1.2 _ (List.getElem_mem hi)
   generalize s.Conts[i]=x at hx hp
   obtain⟨x0,x1,x2,x3,x4,x5⟩:=x
   show (Zpq _ _ _ _).den=_
   dsimp only [Zpq,LT.den]
   rw [decide_eq_true (show (i:Int) < (s.Conts.length:Int) by omega),cond_true,Zak hx,Option.bind_some]
   try dsimp only
   rw [Zjo _ hp.1.1,Option.bind_some,Zdr hp.2.1 (by decide),Option.bind_some,Zs7 hx hl (by decide),Option.bind_some,Zaz hi (by omega)])
  refine Eq.trans r ?_
  have e:Zfw.step (.L3 s Z (⟨s.Players,s.Objects,s.Battlefield,s.Exile,s.Stack,s.Waiting,s.Conts.take s.Conts.length,s.Turn,s.Active,s.Step,s.Begun,s.Priority,s.Passes,s.NextId,s.NextStamp,s.Seed,s.Extra,s.Over,s.Winner⟩:Za) (s.Conts.length:Int))=some (.inr s):=by
   show (Zpq _ _ _ _).den=_
   dsimp only [Zpq,LT.den]
   rw [decide_eq_false (show ¬ (s.Conts.length:Int) < (s.Conts.length:Int) by omega),cond_false,List.take_length]
   rw [Zjo _ h.2.2.2.2.2.2.2.1]
   rfl
  exact Zbe e
 have l2:∀ Z,Za6 Zfw.step (.L2 s Z (⟨s.Players,s.Objects,s.Battlefield,s.Exile,s.Stack,s.Waiting.take 0,s.Conts,s.Turn,s.Active,s.Step,s.Begun,s.Priority,s.Passes,s.NextId,s.NextStamp,s.Seed,s.Extra,s.Over,s.Winner⟩:Za) ((0:Nat):Int))=some s:=fun Z=>by
  have hl:s.Waiting.length*768<=140737488351232:=h.2.2.2.2.2.1.1
  have r:=Zmx (step:=Zfw.step) (st:=fun (i:Nat) (v:Za) => .L2 s Z v (i:Int)) s.Waiting.length (fun i=>(⟨s.Players,s.Objects,s.Battlefield,s.Exile,s.Stack,s.Waiting.take i,s.Conts,s.Turn,s.Active,s.Step,s.Begun,s.Priority,s.Passes,s.NextId,s.NextStamp,s.Seed,s.Extra,s.Over,s.Winner⟩:Za)) (fun i hi=>by
   have hx:=List.getElem?_eq_getElem hi
   have hp:=h.2.2.2.2.2.1.2 _ (List.getElem_mem hi)
   generalize s.Waiting[i]=x at hx hp
   obtain⟨x0,x1,x2,x3⟩:=x
   show (Zpp _ _ _ _).den=_
   dsimp only [Zpp,LT.den]
   rw [decide_eq_true (show (i:Int) < (s.Waiting.length:Int) by omega),cond_true,Zak hx,Option.bind_some]
   try dsimp only
   rw [Z3t _ hp,Option.bind_some,Zs7 hx hl (by decide),Option.bind_some,Zaz hi (by omega)])
  refine Eq.trans r ?_
  have e:Zfw.step (.L2 s Z (⟨s.Players,s.Objects,s.Battlefield,s.Exile,s.Stack,s.Waiting.take s.Waiting.length,s.Conts,s.Turn,s.Active,s.Step,s.Begun,s.Priority,s.Passes,s.NextId,s.NextStamp,s.Seed,s.Extra,s.Over,s.Winner⟩:Za) (s.Waiting.length:Int))=some (.inl (.L3 s Z (⟨s.Players,s.Objects,s.Battlefield,s.Exile,s.Stack,s.Waiting,s.Conts.take 0,s.Turn,s.Active,s.Step,s.Begun,s.Priority,s.Passes,s.NextId,s.NextStamp,s.Seed,s.Extra,s.Over,s.Winner⟩:Za) ((0:Nat):Int))):=by
   show (Zpp _ _ _ _).den=_
   dsimp only [Zpp,LT.den]
   rw [decide_eq_false (show ¬ (s.Waiting.length:Int) < (s.Waiting.length:Int) by omega),cond_false,List.take_length]
   rfl
  exact (Zek e).trans (l3 Z)
 have l1:∀ Z,Za6 Zfw.step (.L1 s Z (⟨s.Players,s.Objects,s.Battlefield,s.Exile,s.Stack.take 0,s.Waiting,s.Conts,s.Turn,s.Active,s.Step,s.Begun,s.Priority,s.Passes,s.NextId,s.NextStamp,s.Seed,s.Extra,s.Over,s.Winner⟩:Za) ((0:Nat):Int))=some s:=fun Z=>by
  have hl:s.Stack.length*824<=140737488351232:=h.2.2.2.2.1.1
  have r:=Zmx (step:=Zfw.step) (st:=fun (i:Nat) (v:Za) => .L1 s Z v (i:Int)) s.Stack.length (fun i=>(⟨s.Players,s.Objects,s.Battlefield,s.Exile,s.Stack.take i,s.Waiting,s.Conts,s.Turn,s.Active,s.Step,s.Begun,s.Priority,s.Passes,s.NextId,s.NextStamp,s.Seed,s.Extra,s.Over,s.Winner⟩:Za)) (fun i hi=>by
   have hx:=List.getElem?_eq_getElem hi
   have hp:=h.2.2.2.2.1.2 _ (List.getElem_mem hi)
   generalize s.Stack[i]=x at hx hp
   obtain⟨x0,x1,x2,x3,x4,x5,x6,x7,x8⟩:=x
   show (Zpo _ _ _ _).den=_
   dsimp only [Zpo,LT.den]
   rw [decide_eq_true (show (i:Int) < (s.Stack.length:Int) by omega),cond_true,Zak hx,Option.bind_some]
   try dsimp only
   rw [Z3t _ hp.1,Option.bind_some,Zdr hp.2.1 (by decide),Option.bind_some,Zs7 hx hl (by decide),Option.bind_some,Zaz hi (by omega)])
  refine Eq.trans r ?_
  have e:Zfw.step (.L1 s Z (⟨s.Players,s.Objects,s.Battlefield,s.Exile,s.Stack.take s.Stack.length,s.Waiting,s.Conts,s.Turn,s.Active,s.Step,s.Begun,s.Priority,s.Passes,s.NextId,s.NextStamp,s.Seed,s.Extra,s.Over,s.Winner⟩:Za) (s.Stack.length:Int))=some (.inl (.L2 s Z (⟨s.Players,s.Objects,s.Battlefield,s.Exile,s.Stack,s.Waiting.take 0,s.Conts,s.Turn,s.Active,s.Step,s.Begun,s.Priority,s.Passes,s.NextId,s.NextStamp,s.Seed,s.Extra,s.Over,s.Winner⟩:Za) ((0:Nat):Int))):=by
   show (Zpo _ _ _ _).den=_
   dsimp only [Zpo,LT.den]
   rw [decide_eq_false (show ¬ (s.Stack.length:Int) < (s.Stack.length:Int) by omega),cond_false,List.take_length]
   rfl
  exact (Zek e).trans (l2 Z)
 have l0:∀ Z,Za6 Zfw.step (.L0 s Z (⟨s.Players.take 0,s.Objects,s.Battlefield,s.Exile,s.Stack,s.Waiting,s.Conts,s.Turn,s.Active,s.Step,s.Begun,s.Priority,s.Passes,s.NextId,s.NextStamp,s.Seed,s.Extra,s.Over,s.Winner⟩:Za) ((0:Nat):Int))=some s:=fun Z=>by
  have hl:s.Players.length*152<=140737488351232:=h.1.1
  have r:=Zmx (step:=Zfw.step) (st:=fun (i:Nat) (v:Za) => .L0 s Z v (i:Int)) s.Players.length (fun i=>(⟨s.Players.take i,s.Objects,s.Battlefield,s.Exile,s.Stack,s.Waiting,s.Conts,s.Turn,s.Active,s.Step,s.Begun,s.Priority,s.Passes,s.NextId,s.NextStamp,s.Seed,s.Extra,s.Over,s.Winner⟩:Za)) (fun i hi=>by
   have hx:=List.getElem?_eq_getElem hi
   have hp:=h.1.2 _ (List.getElem_mem hi)
   generalize s.Players[i]=x at hx hp
   obtain⟨x0,x1,x2,x3,x4,x5,x6,x7,x8⟩:=x
   show (Zpn _ _ _ _).den=_
   dsimp only [Zpn,LT.den]
   rw [decide_eq_true (show (i:Int) < (s.Players.length:Int) by omega),cond_true,Zak hx,Option.bind_some]
   try dsimp only
   rw [Zjo _ hp.1.1,Option.bind_some,Zjo _ hp.2.1.1,Option.bind_some,Zjo _ hp.2.2.1,Option.bind_some,Zs7 hx hl (by decide),Option.bind_some,Zaz hi (by omega)])
  refine Eq.trans r ?_
  have e:Zfw.step (.L0 s Z (⟨s.Players.take s.Players.length,s.Objects,s.Battlefield,s.Exile,s.Stack,s.Waiting,s.Conts,s.Turn,s.Active,s.Step,s.Begun,s.Priority,s.Passes,s.NextId,s.NextStamp,s.Seed,s.Extra,s.Over,s.Winner⟩:Za) (s.Players.length:Int))=some (.inl (.L1 s Z (⟨s.Players,s.Objects,s.Battlefield,s.Exile,s.Stack.take 0,s.Waiting,s.Conts,s.Turn,s.Active,s.Step,s.Begun,s.Priority,s.Passes,s.NextId,s.NextStamp,s.Seed,s.Extra,s.Over,s.Winner⟩:Za) ((0:Nat):Int))):=by
   show (Zpn _ _ _ _).den=_
   dsimp only [Zpn,LT.den]
   rw [decide_eq_false (show ¬ (s.Players.length:Int) < (s.Players.length:Int) by omega),cond_false,List.take_length]
   rw [Zdr h.2.1.1 (by decide),Option.bind_some,Zjo _ h.2.2.1.1,Option.bind_some,Zjo _ h.2.2.2.1.1]
   rfl
  exact (Zek e).trans (l1 Z)
 (unfold Zy5 LF.run;dsimp only [Zagg,LT.den])
 rw [Option.bind_some,Zbf]
 exact l0 _
end Go.PW
set_option maxRecDepth 100000
namespace Go.PW
theorem Z05{S R α:Type}{step:S->Option (S ⊕ R)}:∀ (xs:List α) (st:Nat->S) (p:α->Bool) (K:Nat->α->Option R) (_:∀ i x,xs[i]?=some x->p x=true->Za6 step (st i)=K i x) (_:∀ i x,xs[i]?=some x->p x=false->step (st i)=some (.inl (st (i+1)))),
 (∃ i x,xs[i]?=some x/\xs.find? p=some x/\Za6 step (st 0)=K i x)\/(xs.find? p=none/\Za6 step (st 0)=Za6 step (st xs.length))
 | [],_,_,_,_,_ => .inr ⟨rfl,rfl⟩
 | x::xs,st,p,K,h1,h2=>by
  cases hp:p x with
  | true=>exact .inl ⟨0,x,rfl,by simp [hp],h1 0 x rfl hp⟩
  | false=>
   have e:=h2 0 x rfl hp
   rcases Z05 xs (fun i=>st (i+1)) p (fun i=>K (i+1)) (fun i y hy=>h1 (i+1) y (by simpa using hy)) (fun i y hy=>h2 (i+1) y (by simpa using hy)) with ⟨i,y,a,b,c⟩ | ⟨a,b⟩
   .exact .inl ⟨i+1,y,by simpa using a,by simp [hp,b],by rw [Zek e];exact c⟩
   .exact .inr ⟨by simp [hp,a],by rw [Zek e];exact b⟩
def fO(s:Za)(id:Int):Option Zp:=s.Objects.find? fun o=>o.Id==id
def zO:Zp:=⟨0,0,0,0,0,false,false,false,false,0,⟨0,0,0⟩,0,0,0,false,0,0⟩
theorem Z06(o:Zp)(id:Int):Zw6 o id=some (o.Id==id):=rfl
theorem Zap0(s:Za)(id:Int)(h:Zt s):Z78 s id=some (match fO s id with | some o=>(o,true) | none=>(zO,false)):=by
 have hl:s.Objects.length*128<=140737488351232:=h.2.1.1
 have hf:=Z05 (step:=Zan.step) s.Objects (fun i:Nat => .L0 s.Objects id (s.Objects.length:Int) (i:Int)) (fun o=>o.Id==id) (fun i _=>some ((i:Int),id)) (fun i x hx hp=>by
  have hi:=(List.getElem?_eq_some_iff.1 hx).1
  refine Zbe ?_
  show (Zam _ _ _ _).den=_
  dsimp only [Zam,LT.den]
  rw [decide_eq_true (show (i:Int) < (s.Objects.length:Int) by omega),cond_true,Zak hx,Option.bind_some,Z06,hp];rfl) (fun i x hx hp=>by
  have hi:=(List.getElem?_eq_some_iff.1 hx).1
  show (Zam _ _ _ _).den=_
  dsimp only [Zam,LT.den]
  rw [decide_eq_true (show (i:Int) < (s.Objects.length:Int) by omega),cond_true,Zak hx,Option.bind_some,Z06,hp,Zaz hi (by omega)];rfl)
 (unfold Z78 LF.run;dsimp only [Zaba,LT.den];unfold Zage LF.run;dsimp only [Z76,LT.den];unfold Zfa LF.run;dsimp only [Ze2,LT.den])
 rw [Option.bind_some (f:=Znd Zan.step),Zbf]
 rcases hf with ⟨i,x,hx,hfd,hr⟩ | ⟨hfd,hr⟩
 .rw [show Za6 Zan.step (.L0 s.Objects id (s.Objects.length:Int) 0)=some ((i:Int),id) from hr]
  simp only [Option.bind_some,Zef]
  rw [decide_eq_false (show ¬ (i:Int) < 0 by omega),cond_false,Zak hx]
  show some (x,true)=_
  rw [show fO s id=some x from hfd]
 .have he:Za6 Zan.step (.L0 s.Objects id (s.Objects.length:Int) (s.Objects.length:Int))=some (-1,id):=Zbe (by
   show (Zam _ _ _ _).den=_
   dsimp only [Zam,LT.den]
   rw [decide_eq_false (by omega)];rfl)
  rw [show Za6 Zan.step (.L0 s.Objects id (s.Objects.length:Int) 0)=some (-1,id) from hr.trans he]
  rw [show fO s id=none from hfd]
  rfl
theorem Zvp(l:List Int)(n:Int)(h:l.length*8<=140737488351232):Zjb l n=some (decide (n∈l)):=by
 have hf:=Zus (step:=Zdy.step) l (fun i:Nat => .L0 l n (l.length:Int) (i:Int)) (fun i=>(i:Int)) (fun w=>n==w) (fun i x hx=>by
  have hi:=(List.getElem?_eq_some_iff.1 hx).1
  show (Zfj _ _ _ _).den=_
  dsimp only [Zfj,LT.den]
  rw [decide_eq_true (show (i:Int) < (l.length:Int) by omega),cond_true,Zak hx,Option.bind_some,Zaz hi (by omega)]
  cases n==x<;>rfl)
 (unfold Zjb LF.run;dsimp only [Zkx,LT.den];unfold Zoy LF.run;dsimp only [Zmz,LT.den])
 rw [Option.bind_some (f:=Znd Zdy.step),Zbf]
 have hm:l.any (fun w=>n==w)=decide (n∈l):=by
  rw [Bool.eq_iff_iff];simp
 rw [<- hm]
 rcases hf with ⟨h1,i,h2,h3⟩ | ⟨h1,h2⟩
 .rw [show Za6 Zdy.step (.L0 l n (l.length:Int) 0)=some (i:Int) from h3,h1]
  simp only [Option.bind_some,Zef]
  rw [decide_eq_true (by omega)]
 .have he:Za6 Zdy.step (.L0 l n (l.length:Int) (l.length:Int))=some (-1):=Zbe (by
   show (Zfj _ _ _ _).den=_
   dsimp only [Zfj,LT.den]
   rw [decide_eq_false (by omega)];rfl)
  rw [show Za6 Zdy.step (.L0 l n (l.length:Int) 0)=some (-1) from h2.trans he,h1];rfl
theorem Zaub(l:List Int)(n:Int)(h:l.length*8<=140737488351232):Zaic l n=some (decide (n∈l)):=by
 have hf:=Zus (step:=Zkk.step) l (fun i:Nat => .L0 l n (i:Int)) (fun i=>(i:Int)) (fun w=>w==n) (fun i x hx=>by
  have hi:=(List.getElem?_eq_some_iff.1 hx).1
  show (Znx _ _ _).den=_
  dsimp only [Znx,LT.den]
  rw [decide_eq_true (show (i:Int) < (l.length:Int) by omega),cond_true,Zak hx,Option.bind_some,Zaz hi (by omega)]
  cases x==n<;>rfl)
 (unfold Zaic LF.run;dsimp only [Zaju,LT.den];unfold Zajt LF.run;dsimp only [Zabh,LT.den])
 rw [Option.bind_some (f:=Znd Zkk.step),Zbf]
 have hm:l.any (fun w=>w==n)=decide (n∈l):=by
  rw [Bool.eq_iff_iff];simp
 rw [<- hm]
 rcases hf with ⟨h1,i,h2,h3⟩ | ⟨h1,h2⟩
 .rw [show Za6 Zkk.step (.L0 l n 0)=some (i:Int) from h3,h1]
  simp only [Option.bind_some,Zef]
  rw [decide_eq_true (by omega)]
 .have he:Za6 Zkk.step (.L0 l n (l.length:Int))=some (-1):=Zbe (by
   show (Znx _ _ _).den=_
   dsimp only [Znx,LT.den]
   rw [decide_eq_false (by omega)];rfl)
  rw [show Za6 Zkk.step (.L0 l n 0)=some (-1) from h2.trans he,h1];rfl
def okP(s:Za)(p id:Int)(i:Nat):Bool:=match s.Players[i]? with
 | some x => !decide (id∈x.Library) && !(((i:Int) != p)&&decide (id∈x.Hand))
 | none=>true
def zK(s:Za)(p:Int)(o:Zp):Bool:=o.Zone != 2&&(o.Zone != 1||(decide (p>=0)&&decide (p < (s.Players.length:Int))))
def vK(s:Za)(p id:Int):Bool:=match fO s id with
 | some o=>(List.range s.Players.length).all (okP s p id)&&zK s p o
 | none=>false
theorem Zmm(s:Za)(p id:Int)(h:Zt s):Zxj s p id=some (vK s p id):=by
 have hl:s.Players.length*152<=140737488351232:=h.1.1
 (unfold Zxj LF.run;dsimp only [Z79,LT.den];unfold vK)
 rw [Zap0 s id h,Option.bind_some]
 cases fO s id with
 | none=>rfl
 | some o=>
  simp only [Bool.not_true,cond_false,Option.bind_some,Zbf]
  have hs:=scan (step:=Zr6.step) (st:=fun i:Nat => .L0 p id s o (s.Players.length:Int) (i:Int)) (bad:=false) s.Players.length (okP s p id) (fun i hi=>by
   have hx:=List.getElem?_eq_getElem hi
   have hp:=h.1.2 _ (List.getElem_mem hi)
   show (Zme _ _ _ _ _ _).den=_
   (dsimp only [Zme,LT.den];unfold okP)
   rw [decide_eq_true (show (i:Int) < (s.Players.length:Int) by omega),cond_true,Zak hx,Option.bind_some,Zvp _ _ hp.1.1,Option.bind_some,Zvp _ _ hp.2.1.1,Option.bind_some,Zaz hi (by omega),hx]
   dsimp only
   cases decide (id∈s.Players[i].Library)<;>cases (i:Int) != p<;>cases decide (id∈s.Players[i].Hand)<;>rfl)
  refine Eq.trans hs ?_
  have he:Za6 Zr6.step (.L0 p id s o (s.Players.length:Int) (s.Players.length:Int))=some (zK s p o):=Zbe (by
   show (Zme _ _ _ _ _ _).den=_
   (dsimp only [Zme,LT.den];unfold zK)
   rw [decide_eq_false (by omega),cond_false]
   cases o.Zone != 2<;>cases o.Zone != 1<;>cases decide (p>=0)<;>rfl)
  rw [he]
  cases (List.range s.Players.length).all (okP s p id)<;>rfl
def hK(s:Za)(p id:Int):Bool:=decide (p>=0)&&match s.Players[p.toNat]? with
 | some x=>decide (id∈x.Hand)
 | none=>false
def rK(s:Za)(p id:Int):Bool:=match fO s id with
 | some o=>o.Zone != 2&&(o.Zone != 1||hK s p id)
 | none=>false
theorem Zap1(s:Za)(p id:Int)(h:Zt s):Z8f s p id=some (rK s p id):=by
 have hl:s.Objects.length*128<=140737488351232:=h.2.1.1
 have hf:=Z05 (step:=Zub.step) s.Objects (fun i:Nat => .L0 p id s (i:Int)) (fun o=>o.Id==id) (fun i o=>some (o.Zone != 2&&(o.Zone != 1||hK s p id))) (fun i x hx hp=>by
  have hi:=(List.getElem?_eq_some_iff.1 hx).1
  refine Zbe ?_
  show (Zju _ _ _ _).den=_
  (dsimp only [Zju,LT.den];unfold hK)
  rw [decide_eq_true (show (i:Int) < (s.Objects.length:Int) by omega),cond_true,Zak hx,Option.bind_some,hp,cond_true]
  cases x.Zone != 2
  .rfl
  .cases x.Zone != 1
   .by_cases h0:p>=0
    .rw [decide_eq_true h0]
     by_cases h1:p < (s.Players.length:Int)
     .obtain⟨y,hy,hm,hg⟩:=tI (show 0<=p from h0) h1
      rw [decide_eq_true h1]
      simp only [cond_true,cond_false]
      rw [hy,Option.bind_some,Zaub _ _ (h.1.2 y hm).2.1.1,hg]
      rfl
     .rw [decide_eq_false h1,List.getElem?_eq_none (by omega)];rfl
    .rw [decide_eq_false h0];rfl
   .rfl) (fun i x hx hp=>by
  have hi:=(List.getElem?_eq_some_iff.1 hx).1
  show (Zju _ _ _ _).den=_
  dsimp only [Zju,LT.den]
  rw [decide_eq_true (show (i:Int) < (s.Objects.length:Int) by omega),cond_true,Zak hx,Option.bind_some,hp,Zaz hi (by omega)];rfl)
 (unfold Z8f LF.run;dsimp only [Zabi,LT.den];unfold rK)
 rw [Option.bind_some,Zbf]
 rcases hf with ⟨i,x,hx,hfd,hr⟩ | ⟨hfd,hr⟩
 .rw [show fO s id=some x from hfd];exact hr
 .have he:Za6 Zub.step (.L0 p id s (s.Objects.length:Int))=some false:=Zbe (by
   show (Zju _ _ _ _).den=_
   dsimp only [Zju,LT.den]
   rw [decide_eq_false (by omega)];rfl)
  rw [show fO s id=none from hfd];exact hr.trans he
structure VS (s:Za):Prop where
 lib:∀ (i:Nat) x,s.Players[i]?=some x->∀ id,id∈x.Library->∃ o,fO s id=some o/\o.Zone=2
 hand:∀ (i:Nat) x,s.Players[i]?=some x->∀ id,id∈x.Hand->∃ o,fO s id=some o/\o.Zone=1/\o.Owner=(i:Int)
 own:∀ id o,fO s id=some o->o.Zone=1->∃ x,0<=o.Owner/\s.Players[o.Owner.toNat]?=some x/\id∈x.Hand
theorem Za07{s:Za}(h:VS s)(p id:Int):vK s p id=rK s p id:=by
 (unfold vK;unfold rK)
 cases hf:fO s id with
 | none=>rfl
 | some o=>
  simp only
  by_cases h2:o.Zone=2
  .simp [zK,h2]
  .have e2:(o.Zone != 2)=true:=by rw [int_bne'];simp [h2]
   have hlib:∀ (i:Nat) x,s.Players[i]?=some x->id∉x.Library:=fun i x hx hm=>by
    obtain⟨o',h3,h4⟩:=h.lib i x hx id hm
    rw [hf] at h3;cases h3;exact h2 h4
   by_cases h1:o.Zone=1
   .have e1:(o.Zone != 1)=false:=by rw [int_bne'];simp [h1]
    simp only [zK,e2,e1,Bool.true_and,Bool.false_or]
    obtain⟨y,g0,g1,g2⟩:=h.own id o hf h1
    have hown:∀ (i:Nat) x,s.Players[i]?=some x->id∈x.Hand->o.Owner=(i:Int):=fun i x hx hm=>by
     obtain⟨o',h3,_,h5⟩:=h.hand i x hx id hm
     rw [hf] at h3;cases h3;exact h5
    have hall:(List.range s.Players.length).all (okP s p id)=decide (o.Owner=p):=by
     rw [Bool.eq_iff_iff,List.all_eq_true,decide_eq_true_eq]
     constructor
     .intro ha
      have hlt:=(List.getElem?_eq_some_iff.1 g1).1
      have:=ha o.Owner.toNat (List.mem_range.2 hlt)
      simp only [okP,g1,decide_eq_true g2,Bool.and_true,Bool.and_eq_true,Bool.not_eq_true',int_bne',Bool.not_eq_false',decide_eq_true_eq] at this
      omega
     .intro ha i hi
      have hlt:=List.mem_range.1 hi
      have hx:=List.getElem?_eq_getElem (List.mem_range.1 hi)
      simp only [okP,hx,decide_eq_false (hlib i _ hx),Bool.not_false,Bool.true_and,Bool.not_eq_true',int_bne']
      by_cases hm:id∈s.Players[i].Hand
      .have:=hown i _ hx hm
       rw [decide_eq_true (show (i:Int)=p by omega)];rfl
      .rw [decide_eq_false hm,Bool.and_false]
    rw [hall]
    unfold hK
    by_cases hp:o.Owner=p
    .subst hp
     have hlt:=(List.getElem?_eq_some_iff.1 g1).1
     simp only [g1,decide_eq_true g2,decide_eq_true (show o.Owner>=0 from g0)]
     rw [decide_eq_true (show o.Owner < (s.Players.length:Int) by omega)];simp
    .rw [decide_eq_false hp,Bool.false_and]
     symm
     rw [Bool.and_eq_false_iff]
     by_cases h0:p>=0
     .right
      cases hx:s.Players[p.toNat]? with
      | none=>rfl
      | some x=>
       simp only
       refine decide_eq_false fun hm=>hp ?_
       have:=hown _ x hx hm
       omega
     .left;exact decide_eq_false h0
   .have e1:(o.Zone != 1)=true:=by rw [int_bne'];simp [h1]
    simp only [zK,e2,e1,Bool.true_or,Bool.true_and,Bool.and_true]
    rw [List.all_eq_true]
    intro i hi
    have hlt:=List.mem_range.1 hi
    have hx:=List.getElem?_eq_getElem (List.mem_range.1 hi)
    have hm:id∉s.Players[i].Hand:=fun hm=>by
     obtain⟨o',h3,h4,_⟩:=h.hand i _ hx id hm
     rw [hf] at h3;cases h3;exact h1 h4
    simp [okP,hx,hlib i _ hx,hm]
end Go.PW
set_option maxRecDepth 100000
namespace Go.PW
abbrev Keep{S R:Type}(Inv:S->Prop)(post:R->Prop):S ⊕ R->Prop
 | .inl s=>Inv s
 | .inr r=>post r
theorem pc{S R:Type}{step:S->Option (S ⊕ R)}{Inv:S->Prop}{post:R->Prop}(h:∀ s y,Inv s->step s=some y->Keep Inv post y):∀ s r,Inv s->Za6 step s=some r->post r:=by
 intro s r hi hr
 obtain⟨n,hn⟩:=Zab8.1 hr
 clear hr
 induction n generalizing s with
 | zero=>cases hn
 | succ n ih=>
  simp only [Zmw] at hn
  cases hs:step s with
  | none=>rw [hs] at hn;cases hn
  | some y=>
   have hy:=h s y hi hs
   rw [hs] at hn
   cases y with
   | inl s'=>exact ih s' hy hn
   | inr r'=>cases hn;exact hy
theorem Zib{S:Type}{o:Option Bool}{k:Option (S ⊕ Bool)}{y:S ⊕ Bool}{C:Prop}(h:(o.bind fun b=>bif !b then some (.inr false) else k)=some y)(f:y = .inr false->C)(g:o=some true->k=some y->C):C:=by
 cases o with
 | none=>cases h
 | some b=>
  cases b
  .exact f (Option.some.inj h).symm
  .exact g rfl h
theorem Zauc{S:Type}{o:Option Bool}{k:Option (S ⊕ Bool)}{y:S ⊕ Bool}{C:Prop}(h:(o.bind fun b=>bif b then k else some (.inr false))=some y)(f:y = .inr false->C)(g:o=some true->k=some y->C):C:=by
 cases o with
 | none=>cases h
 | some b=>
  cases b
  .exact f (Option.some.inj h).symm
  .exact g rfl h
theorem Zic{S:Type}{c:Bool}{k:Option (S ⊕ Bool)}{y:S ⊕ Bool}{C:Prop}(h:(bif c then some (.inr false) else k)=some y)(f:y = .inr false->C)(g:c=false->k=some y->C):C:=by
 cases c
 .exact g rfl h
 .exact f (Option.some.inj h).symm
theorem Zap2(s:Za)(id:Int)(h:Zt s):∃ r:Int,Zvd s id=some r/\((r < 0/\fO s id=none)\/∃ o,0<=r/\idx? s.Objects r=some o/\fO s id=some o):=by
 have hl:s.Objects.length*128<=140737488351232:=h.2.1.1
 have hf:=Z05 (step:=Zt9.step) s.Objects (fun i:Nat => .L0 id s (i:Int)) (fun o=>o.Id==id) (fun i o=>some (i:Int)) (fun i x hx hp=>by
  have hi:=(List.getElem?_eq_some_iff.1 hx).1
  refine Zbe ?_
  show (Zhr _ _ _).den=_
  dsimp only [Zhr,LT.den]
  rw [decide_eq_true (show (i:Int) < (s.Objects.length:Int) by omega),cond_true,Zak hx,Option.bind_some,hp];rfl) (fun i x hx hp=>by
  have hi:=(List.getElem?_eq_some_iff.1 hx).1
  show (Zhr _ _ _).den=_
  dsimp only [Zhr,LT.den]
  rw [decide_eq_true (show (i:Int) < (s.Objects.length:Int) by omega),cond_true,Zak hx,Option.bind_some,hp,Zaz hi (by omega)];rfl)
 (unfold Zvd LF.run;dsimp only [Z1z,LT.den])
 rw [Option.bind_some,Zbf]
 rcases hf with ⟨i,x,hx,hfd,hr⟩ | ⟨hfd,hr⟩
 .exact⟨_,hr,.inr ⟨x,by omega,Zak hx,hfd⟩⟩
 .have he:Za6 Zt9.step (.L0 id s (s.Objects.length:Int))=some (-1):=Zbe (by
   show (Zhr _ _ _).den=_
   dsimp only [Zhr,LT.den]
   rw [decide_eq_false (by omega)];rfl)
  exact⟨_,hr.trans he,.inl ⟨by omega,hfd⟩⟩
theorem Zak2(s:Za)(id:Int)(h:Zt s):Zr4 s id=some (match fO s id with | some o=>(o,true) | none=>(zO,false)):=by
 (unfold Zr4 LF.run;dsimp only [Zyr,LT.den];unfold Z4p LF.run;dsimp only [Z4o,LT.den])
 obtain⟨r,e,h1 | ⟨o,h1,h2,h3⟩⟩:=Zap2 s id h
 .rw [e,Option.bind_some,decide_eq_true h1.1,h1.2];rfl
 .rw [e,Option.bind_some,decide_eq_false (show ¬ r < 0 by omega),cond_false,h2,h3];rfl
theorem Zaye(l:List Int)(n r:Int)(h:Zq5 l n=some r)(h0:r≠0):n∈l:=by
 (unfold Zq5 LF.run at h;dsimp only [Z10,LT.den] at h)
 rw [Option.bind_some,Zbf] at h
 refine pc (step:=Z11.step) (Inv:=fun g=>match g with | .L0 l' n' k i=>l'=l/\n'=n/\(k=0\/n∈l)) (post:=fun r=>r=0\/n∈l) ?_ _ _ ⟨rfl,rfl,.inl rfl⟩ h |>.resolve_left h0
 rintro ⟨l',n',k,i⟩ y ⟨rfl,rfl,hI⟩ hy
 change (Znj _ _ _ _).den=_ at hy
 dsimp only [Znj,LT.den] at hy
 refine Zoi hy (fun hc hy=>?_) (fun hc hy=>?_)
 .refine Zit hy (fun x hx hy=>?_)
  refine Zoi hy (fun h1 hy=>?_) (fun h1 hy=>?_)
  .cases hy
   refine⟨rfl,rfl,.inr ?_⟩
   have e:x=n':=by simpa using h1
   rw [<- e]
   exact List.mem_of_getElem? (Z4e hx)
  .cases hy;exact⟨rfl,rfl,hI⟩
 .cases hy;exact hI
def PL(s:Za)(z ow:Int)(x:Int):Prop:=∃ o,fO s x=some o/\o.Zone=z/\(0<=ow->o.Owner=ow)
theorem Zado{α:Type}{l:List α}{i:Int}{x:α}{P:α->Prop}(h0:0<=i)(hx:idx? l i=some x)(hI:∀ (j:Nat) y,(j:Int) < i->l[j]?=some y->P y)(hp:P x)(hb:l.length<=4611686018427387904):0<=IntKind.wrap .i64 (i+1)/\∀ (j:Nat) y,(j:Int) < IntKind.wrap .i64 (i+1)->l[j]?=some y->P y:=by
 have h1:=Z4e hx
 have h2:=(List.getElem?_eq_some_iff.1 h1).1
 rw [Z6x (by omega) (by omega)]
 refine⟨by omega,fun j y hj hy=>?_⟩
 by_cases e:(j:Int)=i
 .subst e
  rw [Int.toNat_natCast] at h1
  rw [h1] at hy;cases hy;exact hp
 .exact hI j y (by omega) hy
abbrev iL(l:List Int)(s:Za)(z ow:Int):Zlp->Prop
 | .L0 l' z' ow' s' i=>l'=l/\z'=z/\ow'=ow/\s'=s/\0<=i/\∀ (j:Nat) x,(j:Int) < i->l[j]?=some x->PL s z ow x
theorem Zasf(s:Za)(l:List Int)(z ow:Int)(hs:Zt s)(hl:l.length*8<=140737488351232)(h:Zik s l z ow=some true):∀ x,x∈l->PL s z ow x:=by
 (unfold Zik LF.run at h;dsimp only [Z4q,LT.den] at h)
 rw [Option.bind_some,Zbf] at h
 refine pc (step:=Z4r.step) (Inv:=iL l s z ow) (post:=fun r=>r=true->∀ x,x∈l->PL s z ow x) ?_ _ _ ⟨rfl,rfl,rfl,rfl,Int.le_refl 0,fun j x (hj:(j:Int) < 0)=>by omega⟩ h rfl
 rintro ⟨l',z',ow',s',i⟩ y ⟨rfl,rfl,rfl,rfl,h0,hI⟩ hy
 change (Zpj _ _ _ _ _).den=_ at hy
 dsimp only [Zpj,LT.den] at hy
 refine Zoi hy (fun hc hy=>?_) (fun hc hy=>?_)
 .refine Zit hy (fun x hx hy=>?_)
  refine Zit hy (fun q hq hy=>?_)
  rw [Zak2 _ _ hs] at hq
  refine Zic hy (fun e=>by subst e;intro hr;cases hr) (fun h1 hy=>?_)
  refine Zic hy (fun e=>by subst e;intro hr;cases hr) (fun h2 hy=>?_)
  have hq2:fO s' x=some q.1:=by
   cases hf:fO s' x with
   | none=>rw [hf] at hq;cases hq;simp at h1
   | some o=>rw [hf] at hq;cases hq;rfl
  have hz:q.1.Zone=z':=by
   rw [int_bne'] at h2;simpa using h2
  have fin:(0<=ow'->q.1.Owner=ow')->∀ {y:Zlp ⊕ Bool},(Option.bind (Zq5 l' x) fun x11=>bif (x11 != 1) then some (.inr false) else some (.inl (.L0 l' z' ow' s' (IntKind.wrap .i64 (i+1)))))=some y->Keep (iL l' s' z' ow') (fun r=>r=true->∀ x,x∈l'->PL s' z' ow' x) y:=by
   intro ho y hy
   refine Zit hy (fun t ht hy=>?_)
   refine Zic hy (fun e=>by subst e;intro hr;cases hr) (fun h3 hy=>?_)
   cases hy
   exact⟨rfl,rfl,rfl,rfl,Zado h0 hx hI ⟨q.1,hq2,hz,ho⟩ (by omega)⟩
  refine Zoi hy (fun h3 hy=>?_) (fun h3 hy=>?_)
  .refine Zic hy (fun e=>by subst e;intro hr;cases hr) (fun h4 hy=>?_)
   exact fin (fun _=>by rw [int_bne'] at h4;simpa using h4) hy
  .exact fin (fun h=>absurd h (by simpa using h3)) hy
 .cases hy
  intro _ x hx
  obtain⟨j,hj⟩:=List.mem_iff_getElem?.1 hx
  have:=(List.getElem?_eq_some_iff.1 hj).1
  have hc':=of_decide_eq_false hc
  exact hI j x (by omega) hj
theorem Zaud(s:Za)(hs:Zt s)(h:Zmp s=some true):∀ (i:Nat) x,s.Players[i]?=some x->Zik s x.Library 2 (i:Int)=some true/\Zik s x.Hand 1 (i:Int)=some true:=by
 have hl:s.Players.length*152<=140737488351232:=hs.1.1
 (unfold Zmp LF.run at h;dsimp only [Zvz,LT.den] at h)
 refine Zit h (fun g hg hr=>?_)
 refine Zib hg (fun e=>by subst e;cases hr) (fun _ hg=>?_)
 cases hg
 rw [Zbf] at hr
 refine pc (step:=Zv0.step) (Inv:=fun g=>match g with | .L0 s' i=>s'=s/\0<=i/\∀ (j:Nat) x,(j:Int) < i->s.Players[j]?=some x->Zik s x.Library 2 (j:Int)=some true/\Zik s x.Hand 1 (j:Int)=some true) (post:=fun r=>r=true->∀ (i:Nat) x,s.Players[i]?=some x->Zik s x.Library 2 (i:Int)=some true/\Zik s x.Hand 1 (i:Int)=some true) ?_ _ _ ⟨rfl,Int.le_refl 0,fun j x (hj:(j:Int) < 0)=>by omega⟩ hr rfl
 rintro ⟨s',i⟩ y ⟨rfl,h0,hI⟩ hy
 change (Zku _ _).den=_ at hy
 dsimp only [Zku,LT.den] at hy
 refine Zoi hy (fun hc hy=>?_) (fun hc hy=>?_)
 .refine Zit hy (fun x hx hy=>?_)
  refine Zib hy (fun e=>by subst e;intro hr;cases hr) (fun _ hy=>?_)
  refine Zib hy (fun e=>by subst e;intro hr;cases hr) (fun _ hy=>?_)
  refine Zib hy (fun e=>by subst e;intro hr;cases hr) (fun _ hy=>?_)
  refine Zib hy (fun e=>by subst e;intro hr;cases hr) (fun _ hy=>?_)
  refine Zib hy (fun e=>by subst e;intro hr;cases hr) (fun e1 hy=>?_)
  refine Zib hy (fun e=>by subst e;intro hr;cases hr) (fun e2 hy=>?_)
  refine Zib hy (fun e=>by subst e;intro hr;cases hr) (fun _ hy=>?_)
  cases hy
  have h1:=Z4e hx
  have h2:=(List.getElem?_eq_some_iff.1 h1).1
  show _/\_/\_
  rw [Z6x (by omega) (by omega)]
  refine⟨rfl,by omega,fun j z hj hz=>?_⟩
  by_cases e:(j:Int)=i
  .subst e
   rw [Int.toNat_natCast] at h1
   rw [h1] at hz;cases hz;exact⟨e1,e2⟩
  .exact hI j z (by omega) hz
 .have hc':=of_decide_eq_false hc
  have done:∀ (j:Nat) x,s'.Players[j]?=some x->Zik s' x.Library 2 (j:Int)=some true/\Zik s' x.Hand 1 (j:Int)=some true:=fun j x hj=>hI j x (by have:=(List.getElem?_eq_some_iff.1 hj).1;omega) hj
  refine Zauc hy (fun e=>by subst e;intro hr;cases hr) (fun _ hy=>?_)
  refine Zit hy (fun b hb hy=>?_)
  cases hy
  exact fun _=>done
theorem Zaue(cs:List Zai)(s:Za)(hs:Zt s)(h:Ziw cs s=some true):∀ o,o∈s.Objects->Zlq s o=some true:=by
 have hl:s.Objects.length*128<=140737488351232:=hs.2.1.1
 (unfold Ziw LF.run at h;dsimp only [Zv2,LT.den] at h)
 refine Zit h (fun g hg hr=>?_)
 refine Zic hg (fun e=>by subst e;cases hr) (fun _ hg=>?_)
 cases hg
 rw [Zbf] at hr
 refine pc (step:=Zv3.step) (Inv:=fun g=>match g with | .L0 c' s' i=>s'=s/\0<=i/\∀ (j:Nat) o,(j:Int) < i->s.Objects[j]?=some o->Zlq s o=some true) (post:=fun r=>r=true->∀ o,o∈s.Objects->Zlq s o=some true) ?_ _ _ ⟨rfl,Int.le_refl 0,fun j x (hj:(j:Int) < 0)=>by omega⟩ hr rfl
 rintro ⟨c',s',i⟩ y ⟨rfl,h0,hI⟩ hy
 change (Zkv _ _ _).den=_ at hy
 dsimp only [Zkv,LT.den] at hy
 refine Zoi hy (fun hc hy=>?_) (fun hc hy=>?_)
 .refine Zit hy (fun x hx hy=>?_)
  refine Zib hy (fun e=>by subst e;intro hr;cases hr) (fun _ hy=>?_)
  refine Zic hy (fun e=>by subst e;intro hr;cases hr) (fun _ hy=>?_)
  refine Zic hy (fun e=>by subst e;intro hr;cases hr) (fun _ hy=>?_)
  refine Zoi hy (fun _ hy=>?_) (fun _ hy=>?_)
  .refine Zit hy (fun q _ hy=>?_)
   refine Zic hy (fun e=>by subst e;intro hr;cases hr) (fun _ hy=>?_)
   refine Zib hy (fun e=>by subst e;intro hr;cases hr) (fun e1 hy=>?_)
   cases hy
   exact⟨rfl,Zado h0 hx hI e1 (by omega)⟩
  .refine Zib hy (fun e=>by subst e;intro hr;cases hr) (fun e1 hy=>?_)
   cases hy
   exact⟨rfl,Zado h0 hx hI e1 (by omega)⟩
 .cases hy
  intro _ x hx
  obtain⟨j,hj⟩:=List.mem_iff_getElem?.1 hx
  have:=(List.getElem?_eq_some_iff.1 hj).1
  have hc':=of_decide_eq_false hc
  exact hI j x (by omega) hj
abbrev iI(cs:List Zai)(s:Za):Zql->Prop
 | .L0 c' s' i=>c'=cs/\s'=s
theorem Za08(cs:List Zai)(s:Za)(h:Zy3 cs s=some true):Zmp s=some true/\Ziw cs s=some true:=by
 (unfold Zy3 LF.run at h;dsimp only [Zac1,LT.den] at h)
 refine Zit h (fun g hg hr=>?_)
 refine Zib hg (fun e=>by subst e;cases hr) (fun _ hg=>?_)
 refine Zib hg (fun e=>by subst e;cases hr) (fun _ hg=>?_)
 refine Zib hg (fun e=>by subst e;cases hr) (fun _ hg=>?_)
 refine Zib hg (fun e=>by subst e;cases hr) (fun _ hg=>?_)
 refine Zic hg (fun e=>by subst e;cases hr) (fun _ hg=>?_)
 refine Zib hg (fun e=>by subst e;cases hr) (fun e1 hg=>?_)
 refine Zib hg (fun e=>by subst e;cases hr) (fun _ hg=>?_)
 refine Zib hg (fun e=>by subst e;cases hr) (fun _ hg=>?_)
 refine Zib hg (fun e=>by subst e;cases hr) (fun _ hg=>?_)
 refine Zic hg (fun e=>by subst e;cases hr) (fun _ hg=>?_)
 refine Zib hg (fun e=>by subst e;cases hr) (fun _ hg=>?_)
 cases hg
 rw [Zbf] at hr
 refine⟨e1,pc (step:=Zac2.step) (Inv:=iI cs s) (post:=fun r=>r=true->Ziw cs s=some true) ?_ _ _ ⟨rfl,rfl⟩ hr rfl⟩
 rintro ⟨c',s',i⟩ y ⟨rfl,rfl⟩ hy
 change (Zve _ _ _).den=_ at hy
 dsimp only [Zve,LT.den] at hy
 have fin:∀ {y:Zql ⊕ Bool},(Option.bind (Ziw c' s') fun x16=>bif x16 then Option.bind (Z0m s') fun x19=>some (.inr x19) else some (.inr false))=some y->Keep (iI c' s') (fun r=>r=true->Ziw c' s'=some true) y:=by
  intro y hy
  refine Zauc hy (fun e=>by subst e;intro hr;cases hr) (fun e1 hy=>?_)
  refine Zit hy (fun b _ hy=>?_)
  cases hy
  exact fun _=>e1
 refine Zoi hy (fun hc hy=>?_) (fun hc hy=>?_)
 .refine Zit hy (fun x hx hy=>?_)
  refine Zib hy (fun e=>by subst e;intro hr;cases hr) (fun _ hy=>?_)
  cases hy
  exact⟨rfl,rfl⟩
 .refine Zoi hy (fun _ hy=>?_) (fun _ hy=>?_)
  .refine Zib hy (fun e=>by subst e;intro hr;cases hr) (fun _ hy=>?_)
   refine Zoi hy (fun _ hy=>?_) (fun _ hy=>?_)
   .exact Zic hy (fun e=>by subst e;intro hr;cases hr) (fun _ hy=>fin hy)
   .exact fin hy
  .refine Zoi hy (fun _ hy=>?_) (fun _ hy=>?_)
   .exact Zic hy (fun e=>by subst e;intro hr;cases hr) (fun _ hy=>fin hy)
   .exact fin hy
theorem Za0y{s:Za}{id:Int}{o:Zp}(h:fO s id=some o):o∈s.Objects/\o.Id=id:=by
 unfold fO at h
 exact⟨List.mem_of_find?_eq_some h,by simpa using List.find?_some h⟩
theorem Za09(cs:List Zai)(s:Za)(hs:Zt s)(h:Zy3 cs s=some true):VS s:=by
 obtain⟨h1,h2⟩:=Za08 cs s h
 have hp:=Zaud s hs h1
 have ho:=Zaue cs s hs h2
 refine⟨fun i x hx id hm=>?_,fun i x hx id hm=>?_,fun id o hf hz=>?_⟩
 .have hsx:=hs.1.2 x (List.mem_of_getElem? hx)
  obtain⟨o,e1,e2,_⟩:=Zasf s _ _ _ hs hsx.1.1 (hp i x hx).1 id hm
  exact⟨o,e1,e2⟩
 .have hsx:=hs.1.2 x (List.mem_of_getElem? hx)
  obtain⟨o,e1,e2,e3⟩:=Zasf s _ _ _ hs hsx.2.1.1 (hp i x hx).2 id hm
  exact⟨o,e1,e2,e3 (by omega)⟩
 .obtain⟨hm,hid⟩:=Za0y hf
  have hpl:=ho o hm
  (unfold Zlq LF.run at hpl;dsimp only [Zyv,LT.den] at hpl)
  rw [hz,show ((1:Int)==5)=false from rfl,cond_false] at hpl
  refine Zit hpl (fun g hg hr=>?_)
  refine Zit hg (fun l hl hg=>?_)
  refine Zit hg (fun n hn hg=>?_)
  cases hg
  have hn1:n=1:=by simpa [Zef] using hr
  have hmem:=Zaye l o.Id n hn (by omega)
  (unfold Zyu LF.run at hl;dsimp only [Z4v,LT.den] at hl)
  rw [show ((1:Int)==0)=false from rfl,show ((1:Int)==4)=false from rfl,show ((1:Int)==1)=true from rfl] at hl
  simp only [cond_false,cond_true] at hl
  by_cases h0:o.Owner < 0
  .rw [decide_eq_true h0] at hl
   have:l=[]:=by simpa [Zef] using hl.symm
   subst this;cases hmem
  .rw [decide_eq_false h0,cond_false] at hl
   by_cases h3:o.Owner>=(s.Players.length:Int)
   .rw [decide_eq_true h3] at hl
    have:l=[]:=by simpa [Zef] using hl.symm
    subst this;cases hmem
   .rw [decide_eq_false h3,cond_false] at hl
    obtain⟨x,hx,hxm,hxg⟩:=tI (show 0<=o.Owner by omega) (show o.Owner < (s.Players.length:Int) by omega)
    rw [hx,Option.bind_some,Zjo _ (hs.1.2 x hxm).2.1.1] at hl
    have:l=x.Hand:=by simpa [Zef] using hl.symm
    subst this
    exact⟨x,by omega,hxg,hid▸hmem⟩
theorem Za0z(g:Z6)(hg:Zcn g)(h:Zxt g=some true):VS g.State:=by
 (unfold Zxt LF.run at h;dsimp only [Z73,LT.den] at h)
 refine Zit h (fun x hx hr=>?_)
 refine Zauc hx (fun e=>by subst e;cases hr) (fun e1 _=>?_)
 clear hr hx h
 (unfold Z0n LF.run at e1;dsimp only [Z13,LT.den] at e1)
 refine Zit e1 (fun x hx hr=>?_)
 refine Zic hx (fun e=>by subst e;cases hr) (fun _ hx=>?_)
 refine Zic hx (fun e=>by subst e;cases hr) (fun _ hx=>?_)
 refine Zic hx (fun e=>by subst e;cases hr) (fun _ hx=>?_)
 refine Zic hx (fun e=>by subst e;cases hr) (fun _ hx=>?_)
 refine Zic hx (fun e=>by subst e;cases hr) (fun _ hx=>?_)
 refine Zic hx (fun e=>by subst e;cases hr) (fun _ hx=>?_)
 refine Zic hx (fun e=>by subst e;cases hr) (fun _ hx=>?_)
 refine Zic hx (fun e=>by subst e;cases hr) (fun _ hx=>?_)
 refine Zic hx (fun e=>by subst e;cases hr) (fun _ hx=>?_)
 cases hx
 rw [Zbf] at hr
 refine Za09 g.Cards g.State hg.2.1 (pc (step:=Z14.step) (Inv:=fun q=>match q with | .L0 c' s' i=>c'=g.Cards/\s'=g.State) (post:=fun r=>r=true->Zy3 g.Cards g.State=some true) ?_ _ _ ⟨rfl,rfl⟩ hr rfl)
 rintro ⟨c',s',i⟩ y ⟨rfl,rfl⟩ hy
 change (Znn _ _ _).den=_ at hy
 dsimp only [Znn,LT.den] at hy
 refine Zoi hy (fun hc hy=>?_) (fun hc hy=>?_)
 .refine Zit hy (fun x hx hy=>?_)
  refine Zic hy (fun e=>by subst e;intro hr;cases hr) (fun _ hy=>?_)
  cases hy
  exact⟨rfl,rfl⟩
 .refine Zit hy (fun x hx hy=>?_)
  refine Zoi hy (fun _ hy=>?_) (fun _ hy=>?_)
  .refine Zit hy (fun b hb hy=>?_)
   cases hy
   intro e
   have e:b=true:=e
   subst e;exact hb
  .cases hy;intro hr;cases hr
end Go.PW
set_option maxRecDepth 100000
namespace Go.PW
theorem Z5f{α:Type}{b:List α}{i k:Nat}{x:α}{P:α->Bool}(h:b[i]?=some x)(hp:P x=true)(hb:b.length*k<=140737488351232)(hk:0 < k):app? k ((b.take i).filter P) [x]=some ((b.take (i+1)).filter P):=by
 have hi:=(List.getElem?_eq_some_iff.1 h).1
 have h1:((b.take i).filter P).length<=i:=Nat.le_trans (List.length_filter_le _ _) (by rw [List.length_take];omega)
 rw [Zaen _ hk,List.take_add_one,h,List.filter_append]
 .simp [hp]
 .have:=Nat.mul_le_mul_right k (show ((b.take i).filter P).length+[x].length<=b.length by simp only [List.length_cons,List.length_nil];omega)
  omega
theorem Zajy{α:Type}{b:List α}{i:Nat}{x:α}{P:α->Bool}(h:b[i]?=some x)(hp:P x=false):(b.take (i+1)).filter P=(b.take i).filter P:=by
 rw [List.take_add_one,h,List.filter_append]
 simp [hp]
def Zt0(g:Z6)(p id:Int):Bool:=g.Pending.Kind != 0&&(g.Pending.Player==p&&g.Pending.Options.any fun o=>o.Kind==5&&o.A==id)
theorem Zap3(o:Zaf)(id:Int):Zqm o id=some (o.Kind==5&&o.A==id):=by
 (unfold Zqm LF.run;dsimp only [Zvg,LT.den])
 cases o.Kind==5<;>rfl
theorem Zap4(l:List Zaf)(id:Int)(h:l.length*24<=140737488351232):Zc9 l id=some (l.any (fun o=>o.Kind==5&&o.A==id),id):=by
 have hf:=Zus (step:=Zar.step) l (fun i:Nat => .L0 l id (l.length:Int) (i:Int)) (fun i=>((i:Int),id)) (fun o=>o.Kind==5&&o.A==id) (fun i x hx=>by
  have hi:=(List.getElem?_eq_some_iff.1 hx).1
  show (Zbg _ _ _ _).den=_
  dsimp only [Zbg,LT.den]
  rw [decide_eq_true (show (i:Int) < (l.length:Int) by omega),cond_true,Zak hx,Option.bind_some,Zap3,Option.bind_some,Zaz hi (by omega)]
  cases (x.Kind==5&&x.A==id)<;>rfl)
 (unfold Zc9 LF.run;dsimp only [Zew,LT.den];unfold Zfc LF.run;dsimp only [Ze6,LT.den])
 rw [Option.bind_some (f:=Znd Zar.step),Zbf]
 rcases hf with ⟨h1,i,h2,h3⟩ | ⟨h1,h2⟩
 .rw [show Za6 Zar.step (.L0 l id (l.length:Int) 0)=some ((i:Int),id) from h3,h1]
  simp only [Option.bind_some,Zef]
  rw [decide_eq_true (by omega)]
 .have he:Za6 Zar.step (.L0 l id (l.length:Int) (l.length:Int))=some (-1,id):=Zbe (by
   show (Zbg _ _ _ _).den=_
   dsimp only [Zbg,LT.den]
   rw [decide_eq_false (by omega)];rfl)
  rw [show Za6 Zar.step (.L0 l id (l.length:Int) 0)=some (-1,id) from h2.trans he,h1];rfl
theorem Zabq(g:Z6)(p id:Int)(h:Zcn g):Zj0 id g p=some (Zt0 g p id):=by
 (unfold Zj0 LF.run;dsimp only [Zq6,LT.den];unfold Zt0)
 rw [Zap4 _ _ h.2.2.2.1.1,Option.bind_some]
 cases g.Pending.Kind != 0<;>cases g.Pending.Player==p<;>rfl
theorem Zaiv(g:Z6)(p id:Int)(h:Zcn g):Z2a g p id=some (Zt0 g p id):=by
 have hl:g.Pending.Options.length*24<=140737488351232:=h.2.2.2.1.1
 have hf:=Zus (step:=Zwb.step) g.Pending.Options (fun i:Nat => .L0 id g (i:Int)) (fun i=>true) (fun o=>o.Kind==5&&o.A==id) (fun i x hx=>by
  have hi:=(List.getElem?_eq_some_iff.1 hx).1
  show (Zk0 _ _ _).den=_
  dsimp only [Zk0,LT.den]
  rw [decide_eq_true (show (i:Int) < (g.Pending.Options.length:Int) by omega),cond_true,Zak hx,Option.bind_some,Zaz hi (by omega)]
  cases x.Kind==5<;>cases x.A==id<;>rfl)
 (unfold Z2a LF.run;dsimp only [Z5u,LT.den];unfold Zt0)
 rw [show (g.Pending.Kind != 0) = !(g.Pending.Kind==0) from rfl,show (g.Pending.Player != p) = !(g.Pending.Player==p) from rfl]
 cases g.Pending.Kind==0
 .cases g.Pending.Player==p
  .rfl
  .simp only [Bool.not_true,Bool.not_false,Bool.true_and,cond_false,Option.bind_some,Zbf]
   rcases hf with ⟨h1,i,h2,h3⟩ | ⟨h1,h2⟩
   .exact h3.trans (by rw [h1])
   .refine (h2.trans (Zbe ?_)).trans (by rw [h1])
    show (Zk0 _ _ _).den=_
    dsimp only [Zk0,LT.den]
    rw [decide_eq_false (by omega)];rfl
 .rfl
def Zjv(x:Z5):Zc3:=⟨x.Life,x.Venom,x.Lands,(x.Library.length:Int),(x.Hand.length:Int),x.Pool,x.Lost,x.Graveyard⟩
def Zqu(l:List Z5)(p:Int)(i:Nat):List Int:=if 0<=p/\p < i then (match l[p.toNat]? with | some x=>x.Hand | none=>[]) else []
abbrev vB(s:Za)(p:Int)(P:List Zc3)(H:List Int)(O:List Zp)(C:Zbc):Zj:=⟨p,P,H,O,s.Battlefield,s.Exile,s.Stack,s.Waiting,s.Conts,s.Turn,s.Active,s.Step,s.Priority,s.Passes,s.NextId,s.Over,s.Winner,s.Extra,C⟩
def vC(g:Z6)(p:Int):Zbc:=bif g.Pending.Player==p then g.Pending else ⟨g.Pending.Kind,g.Pending.Player,0,0,0,0,[]⟩
def vOf(K:Za->Int->Int->Bool)(g:Z6)(p:Int):Zj:=vB g.State p (g.State.Players.map Zjv) (Zqu g.State.Players p g.State.Players.length) (g.State.Objects.filter fun o=>K g.State p o.Id||Zt0 g p o.Id) (vC g p)
def oP(K:Za->Int->Int->Bool)(g:Z6)(p:Int)(o:Zp):Bool:=K g.State p o.Id||Zt0 g p o.Id
theorem Zazt{l:List Z5}{p:Int}{i:Nat}{x:Z5}(h:l[i]?=some x)(e:(i:Int)=p):Zqu l p (i+1)=x.Hand:=by
 subst e
 unfold Zqu
 rw [if_pos (by omega),Int.toNat_natCast,h]
theorem Zazu{l:List Z5}{p:Int}{i:Nat}(e:(i:Int)≠p):Zqu l p (i+1)=Zqu l p i:=by
 unfold Zqu
 by_cases h:0<=p/\p < (i:Int)
 .rw [if_pos h,if_pos (by omega)]
 .rw [if_neg h,if_neg (by omega)]
theorem Zasg{l:List Z5}{i:Nat}{x:Z5}(h:l[i]?=some x)(hl:l.length*152<=140737488351232):app? 120 ((l.map Zjv).take i) [Zjv x]=some ((l.map Zjv).take (i+1)):=
 Zs7 (by rw [List.getElem?_map,h];rfl) (by rw [List.length_map];omega) (by decide)
abbrev noC:Zbc:=⟨0,0,0,0,0,0,[]⟩
theorem Z5g(g:Z6)(p:Int)(h:Zcn g):Z3i g p=some (vOf vK g p):=by
 have hpl:g.State.Players.length*152<=140737488351232:=h.2.1.1.1
 have hob:g.State.Objects.length*128<=140737488351232:=h.2.1.2.1.1
 have l1:∀ Z V H,Za6 Zq8.step (.L1 g p Z g.State (vB g.State p V H [] noC) g.State.Objects (g.State.Objects.length:Int) 0)=some (vB g.State p V H (g.State.Objects.filter (oP vK g p)) (vC g p)):=fun Z V H=>by
  have r:=Zmx (step:=Zq8.step) (st:=fun (i:Nat) (v:Zj) => .L1 g p Z g.State v g.State.Objects (g.State.Objects.length:Int) (i:Int)) g.State.Objects.length (fun i=>vB g.State p V H ((g.State.Objects.take i).filter (oP vK g p)) noC) (fun i hi=>by
   have hx:=List.getElem?_eq_getElem hi
   generalize g.State.Objects[i]=x at hx
   show (Zr8 _ _ _ _ _ _ _ _).den=_
   dsimp only [Zr8,LT.den]
   rw [decide_eq_true (show (i:Int) < (g.State.Objects.length:Int) by omega),cond_true,Zak hx,Option.bind_some,Zmm _ _ _ h.2.1,Option.bind_some,Zabq _ _ _ h,Option.bind_some,Zaz hi (by omega)]
   have ho:oP vK g p x=(vK g.State p x.Id||Zt0 g p x.Id):=rfl
   cases h1:vK g.State p x.Id
   .cases h2:Zt0 g p x.Id
    .rw [h1,h2] at ho
     simp only [cond_false]
     rw [Zajy hx ho]
    .rw [h1,h2] at ho
     simp only [cond_false,cond_true]
     rw [Z5f hx ho hob (by decide)];rfl
   .rw [h1] at ho
    simp only [cond_true]
    rw [Z5f hx ho hob (by decide)];rfl)
  refine Eq.trans r (Zbe ?_)
  rw [List.take_length]
  show (Zr8 _ _ _ _ _ _ _ _).den=_
  (dsimp only [Zr8,LT.den];unfold vC)
  rw [decide_eq_false (by omega),cond_false,Zl3 _ h.2.2.2.1.1,Option.bind_some]
  cases g.Pending.Player==p<;>rfl
 have l0:∀ Z,Za6 Zq8.step (.L0 g p Z g.State (vB g.State p [] [] [] noC) g.State.Players (g.State.Players.length:Int) 0)=some (vOf vK g p):=fun Z=>by
  have e0:Zqu g.State.Players p 0=[]:=by unfold Zqu;rw [if_neg (by omega)]
  have r:=Zmx (step:=Zq8.step) (st:=fun (i:Nat) (v:Zj) => .L0 g p Z g.State v g.State.Players (g.State.Players.length:Int) (i:Int)) g.State.Players.length (fun i=>vB g.State p ((g.State.Players.map Zjv).take i) (Zqu g.State.Players p i) [] noC) (fun i hi=>by
   have hx:=List.getElem?_eq_getElem hi
   generalize g.State.Players[i]=x at hx
   have hs:=Zasg hx hpl
   show (Zr7 _ _ _ _ _ _ _ _).den=_
   dsimp only [Zr7,LT.den]
   rw [decide_eq_true (show (i:Int) < (g.State.Players.length:Int) by omega),cond_true,Zak hx,Option.bind_some]
   rw [show (⟨x.Life,x.Venom,x.Lands,(x.Library.length:Int),(x.Hand.length:Int),x.Pool,x.Lost,x.Graveyard⟩:Zc3)=Zjv x from rfl]
   show Option.bind (app? 120 ((g.State.Players.map Zjv).take i) [Zjv x]) _=_
   rw [hs,Option.bind_some,Zaz hi (by omega)]
   by_cases e:(i:Int)=p
   .rw [show ((i:Int)==p)=true from decide_eq_true e,Zazt hx e];rfl
   .rw [show ((i:Int)==p)=false from decide_eq_false e,Zazu e];rfl)
  rw [e0] at r
  refine Eq.trans r ?_
  rw [Zek (s' := .L1 g p Z g.State (vB g.State p (g.State.Players.map Zjv) (Zqu g.State.Players p g.State.Players.length) [] noC) g.State.Objects (g.State.Objects.length:Int) 0)]
  .exact l1 _ _ _
  .show (Zr7 _ _ _ _ _ _ _ _).den=_
   dsimp only [Zr7,LT.den]
   rw [decide_eq_false (by omega),cond_false,List.take_of_length_le (by rw [List.length_map];exact Nat.le_refl _)]
 (unfold Z3i LF.run;dsimp only [Zajs,LT.den])
 rw [Zapz _ h.2.1,Option.bind_some,Option.bind_some,Zbf]
 exact l0 _
theorem Zayf(s:Za)(p:Int):Zqu s.Players p s.Players.length=if 0<=p then (match s.Players[p.toNat]? with | some x=>x.Hand | none=>[]) else []:=by
 unfold Zqu
 by_cases h:0<=p
 .by_cases h1:p < (s.Players.length:Int)
  .rw [if_pos ⟨h,h1⟩,if_pos h]
  .rw [if_neg (by omega),if_pos h,List.getElem?_eq_none (by omega)]
 .rw [if_neg (by omega),if_neg h]
theorem Zawb(g:Z6)(p:Int)(h:Zcn g):Z8g g p=some (vOf rK g p):=by
 have hpl:g.State.Players.length*152<=140737488351232:=h.2.1.1.1
 have hob:g.State.Objects.length*128<=140737488351232:=h.2.1.2.1.1
 have l1:∀ Z V H,Za6 Ztk.step (.L2 p g Z g.State (vB g.State p V H [] noC) 0)=some (vB g.State p V H (g.State.Objects.filter (oP rK g p)) (vC g p)):=fun Z V H=>by
  have r:=Zmx (step:=Ztk.step) (st:=fun (i:Nat) (v:Zj) => .L2 p g Z g.State v (i:Int)) g.State.Objects.length (fun i=>vB g.State p V H ((g.State.Objects.take i).filter (oP rK g p)) noC) (fun i hi=>by
   have hx:=List.getElem?_eq_getElem hi
   generalize g.State.Objects[i]=x at hx
   show (Zvo _ _ _ _ _ _).den=_
   dsimp only [Zvo,LT.den]
   rw [decide_eq_true (show (i:Int) < (g.State.Objects.length:Int) by omega),cond_true,Zak hx,Option.bind_some,Zap1 _ _ _ h.2.1,Option.bind_some,Zaiv _ _ _ h,Option.bind_some,Zaz hi (by omega)]
   have ho:oP rK g p x=(rK g.State p x.Id||Zt0 g p x.Id):=rfl
   cases h1:rK g.State p x.Id
   .cases h2:Zt0 g p x.Id
    .rw [h1,h2] at ho
     simp only [cond_false]
     rw [Zajy hx ho]
    .rw [h1,h2] at ho
     simp only [cond_false,cond_true]
     rw [Z5f hx ho hob (by decide)];rfl
   .rw [h1] at ho
    simp only [cond_true]
    rw [Z5f hx ho hob (by decide)];rfl)
  refine Eq.trans r (Zbe ?_)
  rw [List.take_length]
  show (Zvo _ _ _ _ _ _).den=_
  (dsimp only [Zvo,LT.den];unfold vC)
  rw [decide_eq_false (by omega),cond_false,Zdr h.2.2.2.1.1 (by decide),Option.bind_some]
  cases g.Pending.Player==p<;>rfl
 have l0:∀ Z,Za6 Ztk.step (.L0 p g Z g.State (vB g.State p [] [] [] noC) 0)=some (vOf rK g p):=fun Z=>by
  have r:=Zmx (step:=Ztk.step) (st:=fun (i:Nat) (v:Zj) => .L0 p g Z g.State v (i:Int)) g.State.Players.length (fun i=>vB g.State p ((g.State.Players.map Zjv).take i) [] [] noC) (fun i hi=>by
   have hx:=List.getElem?_eq_getElem hi
   generalize g.State.Players[i]=x at hx
   have hs:=Zasg hx hpl
   show (Zvn _ _ _ _ _ _).den=_
   dsimp only [Zvn,LT.den]
   rw [decide_eq_true (show (i:Int) < (g.State.Players.length:Int) by omega),cond_true,Zak hx,Option.bind_some]
   rw [show (⟨x.Life,x.Venom,x.Lands,(x.Library.length:Int),(x.Hand.length:Int),x.Pool,x.Lost,x.Graveyard⟩:Zc3)=Zjv x from rfl]
   show Option.bind (app? 120 ((g.State.Players.map Zjv).take i) [Zjv x]) _=_
   rw [hs,Option.bind_some,Zaz hi (by omega)])
  refine Eq.trans r ?_
  rw [Zek (s' := .L2 p g Z g.State (vB g.State p (g.State.Players.map Zjv) (Zqu g.State.Players p g.State.Players.length) [] noC) 0)]
  .exact l1 _ _ _
  .show (Zvn _ _ _ _ _ _).den=_
   (dsimp only [Zvn,LT.den];dsimp only [Zvm,LT.den])
   rw [decide_eq_false (by omega),cond_false,List.take_of_length_le (by rw [List.length_map];exact Nat.le_refl _),Zayf]
   by_cases h0:0<=p
   .rw [decide_eq_true (show p>=0 from h0),if_pos h0,cond_true]
    by_cases h1:p < (g.State.Players.length:Int)
    .obtain⟨y,hy,hm,hg⟩:=tI h0 h1
     rw [decide_eq_true h1,cond_true,hy,Option.bind_some,hg]
    .rw [decide_eq_false h1,cond_false,List.getElem?_eq_none (by omega)]
   .rw [decide_eq_false (show ¬ p>=0 from h0),if_neg h0];rfl
 (unfold Z8g LF.run;dsimp only [Zao4,LT.den])
 rw [Zabp _ h.2.1,Option.bind_some,Option.bind_some,Zbf]
 exact l0 _
theorem Za00{g:Z6}(h:VS g.State)(p:Int):vOf vK g p=vOf rK g p:=by
 unfold vOf
 rw [show (fun o:Zp=>vK g.State p o.Id||Zt0 g p o.Id)=fun o=>rK g.State p o.Id||Zt0 g p o.Id from funext fun o=>by rw [Za07 h]]
end Go.PW
set_option maxRecDepth 100000
namespace Go.PW
theorem Zhn(a b:List Int)(h:a.length*8<=140737488351232):Zac3 a b=some (decide (a=b)):=by
 (unfold Zac3 LF.run;dsimp only [Zagf,LT.den])
 rw [Zh4]
 by_cases hl:a.length=b.length
 .rw [decide_eq_false (show ¬ a.length≠b.length from fun e=>e hl),cond_false,Option.bind_some,Zbf]
  have r:=Zds (step:=Zxk.step) (st:=fun i:Nat=>Zr9.L0 a b (i:Int)) (bad:=false) a b hl (fun i x y hx hy hm=>by
   have hi:=(List.getElem?_eq_some_iff.1 hx).1
   show (Zpm _ _ _).den=_
   dsimp only [Zpm,LT.den]
   rw [decide_eq_true (show (i:Int) < (a.length:Int) by omega),cond_true,Zak hx,Option.bind_some,Zak hy,Option.bind_some,int_bne',Zaz hi (by omega)]
   cases decide (x=y)<;>rfl)
  refine Eq.trans r ?_
  have he:Za6 Zxk.step (Zr9.L0 a b (a.length:Int))=some true:=Zbe (by
   show (Zpm _ _ _).den=_
   dsimp only [Zpm,LT.den]
   rw [decide_eq_false (by omega)];rfl)
  rw [he]
  cases decide (a=b)<;>rfl
 .rw [decide_eq_true hl,Zij hl];rfl
theorem Zag1(a b:List Zq)(h:a.length*176<=140737488351232):Zza a b=some (decide (a=b)):=by
 (unfold Zza LF.run;dsimp only [Z3k,LT.den])
 rw [Zh4]
 by_cases hl:a.length=b.length
 .rw [decide_eq_false (show ¬ a.length≠b.length from fun e=>e hl),cond_false,Option.bind_some,Zbf]
  have r:=Zds (step:=Zot.step) (st:=fun i:Nat=>Zk1.L0 a b (i:Int)) (bad:=false) a b hl (fun i x y hx hy hm=>by
   have hi:=(List.getElem?_eq_some_iff.1 hx).1
   show (Zkd _ _ _).den=_
   dsimp only [Zkd,LT.den]
   rw [decide_eq_true (show (i:Int) < (a.length:Int) by omega),cond_true,Zak hx,Option.bind_some,Zak hy,Option.bind_some,Z45,Zaz hi (by omega)]
   cases decide (x=y)<;>rfl)
  refine Eq.trans r ?_
  have he:Za6 Zot.step (Zk1.L0 a b (a.length:Int))=some true:=Zbe (by
   show (Zkd _ _ _).den=_
   dsimp only [Zkd,LT.den]
   rw [decide_eq_false (by omega)];rfl)
  rw [he]
  cases decide (a=b)<;>rfl
 .rw [decide_eq_true hl,Zij hl];rfl
theorem Z07(a b:List Zq)(h:a.length*176<=140737488351232):Znl a b=some (decide (a=b)):=by
 (unfold Znl LF.run;dsimp only [Zti,LT.den])
 rw [Zh4]
 by_cases hl:a.length=b.length
 .rw [decide_eq_false (show ¬ a.length≠b.length from fun e=>e hl),cond_false,Option.bind_some,Zbf]
  have r:=Zds (step:=Zoo.step) (st:=fun i:Nat=>Zil.L0 a b (i:Int)) (bad:=false) a b hl (fun i x y hx hy hm=>by
   have hi:=(List.getElem?_eq_some_iff.1 hx).1
   show (Zht _ _ _).den=_
   dsimp only [Zht,LT.den]
   rw [decide_eq_true (show (i:Int) < (a.length:Int) by omega),cond_true,Zak hx,Option.bind_some,Zak hy,Option.bind_some,Z45,Zaz hi (by omega)]
   cases decide (x=y)<;>rfl)
  refine Eq.trans r ?_
  have he:Za6 Zoo.step (Zil.L0 a b (a.length:Int))=some true:=Zbe (by
   show (Zht _ _ _).den=_
   dsimp only [Zht,LT.den]
   rw [decide_eq_false (by omega)];rfl)
  rw [he]
  cases decide (a=b)<;>rfl
 .rw [decide_eq_true hl,Zij hl];rfl
theorem Zarf(x y:Zv)(hx:Za2 x):Zyw x y=some (decide (x=y)):=by
 (unfold Zyw LF.run;dsimp only [Z4w,LT.den])
 simp only [Z07 x.Mods y.Mods hx.2.2.2.2.1,Zagp,Z51,Zp5,Z2z,Zh3,Zg4,Zj5,int_bne',Zii,Option.bind_some,Zg3,Zef,Zf4]
 congr 1
 rw [decide_eq_decide]
 obtain⟨a0,a1,a2,a3,a4,a5,a6,a7,a8⟩:=x
 obtain⟨b0,b1,b2,b3,b4,b5,b6,b7,b8⟩:=y
 simp only [Zv.mk.injEq]
 try simp only [and_assoc,and_comm,and_left_comm]
theorem Zag2(a b:List Zv)(h:a.length*560<=140737488351232)(he:∀ x,x∈a->Za2 x):Znm a b=some (decide (a=b)):=by
 (unfold Znm LF.run;dsimp only [Ztj,LT.den])
 rw [Zh4]
 by_cases hl:a.length=b.length
 .rw [decide_eq_false (show ¬ a.length≠b.length from fun e=>e hl),cond_false,Option.bind_some,Zbf]
  have r:=Zds (step:=Zop.step) (st:=fun i:Nat=>Zim.L0 a b (i:Int)) (bad:=false) a b hl (fun i x y hx hy hm=>by
   have hi:=(List.getElem?_eq_some_iff.1 hx).1
   show (Zhu _ _ _).den=_
   dsimp only [Zhu,LT.den]
   rw [decide_eq_true (show (i:Int) < (a.length:Int) by omega),cond_true,Zak hx,Option.bind_some,Zak hy,Option.bind_some,(Zarf x y (he x hm)),Option.bind_some,Zaz hi (by omega)]
   cases decide (x=y)<;>rfl)
  refine Eq.trans r ?_
  have he:Za6 Zop.step (Zim.L0 a b (a.length:Int))=some true:=Zbe (by
   show (Zhu _ _ _).den=_
   dsimp only [Zhu,LT.den]
   rw [decide_eq_false (by omega)];rfl)
  rw [he]
  cases decide (a=b)<;>rfl
 .rw [decide_eq_true hl,Zij hl];rfl
theorem Zajz{S R:Type}{step:S->Option (S ⊕ R)}(s:S):Za6 step s=(step s).bind (Znd step):=by
 cases h:step s with
 | none=>rw [Z9h,h];rfl
 | some y=>cases y with
  | inl s'=>rw [Zek h];rfl
  | inr r=>rw [Zbe h];rfl
theorem Zl7{S α β:Type}{step:S->Option (S ⊕ Bool)}{a:List α}{b:List β}{k:Option (S ⊕ Bool)}{q:Prop} [Decidable q] (hq:q->a.length=b.length) (h:a.length=b.length->k.bind (Znd step)=some (decide q)):(bif ((a.length:Int) != (b.length:Int)) then some (.inr false) else k).bind (Znd step)=some (decide q):=by
 rw [Zh4]
 by_cases e:a.length=b.length
 .rw [decide_eq_false (show ¬ a.length≠b.length from fun f=>f e)];exact h e
 .rw [decide_eq_true (show a.length≠b.length from e),decide_eq_false (fun f=>e (hq f))];rfl
theorem Zmr{S:Type}{step:S->Option (S ⊕ Bool)}{b:Bool}{k:Option (S ⊕ Bool)}{p q:Prop} [Decidable p] [Decidable q] (hb:b = !decide p) (h:p->k.bind (Znd step)=some (decide q)):(bif b then some (.inr false) else k).bind (Znd step)=some (decide (p/\q)):=by
 subst hb
 by_cases e:p
 .rw [decide_eq_true e];refine (h e).trans ?_;congr 1;rw [decide_eq_decide];simp [e]
 .rw [decide_eq_false e,decide_eq_false (fun f=>e f.1)];rfl
theorem Z08{α:Type}{b:Bool}{k:Option α}{A B:α}{p q:Prop} [Decidable p] [Decidable q] (hb:b = !decide p) (h:k=some (bif decide q then A else B)):(bif b then some B else k)=some (bif decide (p/\q) then A else B):=by
 subst hb;subst h
 by_cases e:p
 .rw [decide_eq_true e];simp [e]
 .rw [decide_eq_false e,decide_eq_false (show ¬ (p/\q) from fun f=>e f.1)];rfl
theorem Zabr(x y:Zs)(hx:Zbo x):Zyx x y=some (decide (x=y)):=by
 have hb:x.Specs.length*144<=140737488351232:=hx.2.2.2.1.1
 (unfold Zyx LF.run;dsimp only [Z4x,LT.den])
 refine (Zl7 (a:=x.Specs) (b:=y.Specs) (fun e=>by rw [e]) fun hl=>?_)
 rw [Option.bind_some,Zbf]
 have r:=Zds (step:=Z4y.step) (st:=fun i:Nat=>Zoq.L0 x y (i:Int)) (bad:=false) x.Specs y.Specs hl (fun i u v hu hv hm=>by
  have hi:=(List.getElem?_eq_some_iff.1 hu).1
  show (Zkj _ _ _).den=_
  dsimp only [Zkj,LT.den]
  rw [decide_eq_true (show (i:Int) < (x.Specs.length:Int) by omega),cond_true,Zak hu,Option.bind_some,Zak hv,Option.bind_some,Zabl,Zaz hi (by omega)]
  cases decide (u=v)<;>rfl)
 refine Eq.trans r ?_
 refine Eq.trans (b:=bif decide (x.Specs=y.Specs) then some (decide (x=y)) else some false) ?_ (by
  by_cases e:x.Specs=y.Specs
  .rw [decide_eq_true e];rfl
  .rw [decide_eq_false e,decide_eq_false (fun h=>e (by rw [h]))];rfl)
 by_cases e:x.Specs=y.Specs
 .rw [decide_eq_true e,cond_true,cond_true]
  refine Eq.trans (Zajz _) ?_
  show Option.bind (Zkj _ _ _).den _=_
  dsimp only [Zkj,LT.den]
  rw [decide_eq_false (by omega)]
  simp only [cond_false,Z07 x.Mods y.Mods hx.2.1.1,Zag2 x.Effects y.Effects hx.2.2.2.2.1.1 hx.2.2.2.2.1.2,Zp5,Z8k,Z3n,Z3o,Zh3,Zg4,Zj5,int_bne',Zii,Option.bind_some,Zg3,Zef,Zf4]
  congr 1
  rw [decide_eq_decide]
  obtain⟨a0,a1,a2,a3,a4,a5,a6,a7,a8,a9⟩:=x
  obtain⟨b0,b1,b2,b3,b4,b5,b6,b7,b8,b9⟩:=y
  simp only at e
  subst e
  simp only [Zs.mk.injEq,true_and,and_true]
  try simp only [and_assoc,and_comm,and_left_comm]
 .rw [decide_eq_false e];rfl
theorem Zag3(x y:Zal)(hx:Zd3 x):Zy9 x y=some (decide (x=y)):=by
 have hb:x.Targets.length*16<=140737488351232:=hx.2.1
 (unfold Zy9 LF.run;dsimp only [Z3j,LT.den])
 refine (Zl7 (a:=x.Targets) (b:=y.Targets) (fun e=>by rw [e]) fun hl=>?_)
 rw [Option.bind_some,Zbf]
 have r:=Zds (step:=Ztm.step) (st:=fun i:Nat=>Zos.L0 x y (i:Int)) (bad:=false) x.Targets y.Targets hl (fun i u v hu hv hm=>by
  have hi:=(List.getElem?_eq_some_iff.1 hu).1
  show (Zkc _ _ _).den=_
  dsimp only [Zkc,LT.den]
  rw [decide_eq_true (show (i:Int) < (x.Targets.length:Int) by omega),cond_true,Zak hu,Option.bind_some,Zak hv,Option.bind_some,Z53,Zaz hi (by omega)]
  cases decide (u=v)<;>rfl)
 refine Eq.trans r ?_
 refine Eq.trans (b:=bif decide (x.Targets=y.Targets) then some (decide (x=y)) else some false) ?_ (by
  by_cases e:x.Targets=y.Targets
  .rw [decide_eq_true e];rfl
  .rw [decide_eq_false e,decide_eq_false (fun h=>e (by rw [h]))];rfl)
 by_cases e:x.Targets=y.Targets
 .rw [decide_eq_true e,cond_true,cond_true]
  refine Eq.trans (Zajz _) ?_
  show Option.bind (Zkc _ _ _).den _=_
  dsimp only [Zkc,LT.den]
  rw [decide_eq_false (by omega)]
  simp only [cond_false,Zabr x.Ability y.Ability hx.1,Zse,Zh3,Zg4,Zj5,int_bne',Zii,Option.bind_some,Zg3,Zef,Zf4]
  congr 1
  rw [decide_eq_decide]
  obtain⟨a0,a1,a2,a3,a4,a5,a6,a7,a8⟩:=x
  obtain⟨b0,b1,b2,b3,b4,b5,b6,b7,b8⟩:=y
  simp only at e
  subst e
  simp only [Zal.mk.injEq,true_and,and_true]
  try simp only [and_assoc,and_comm,and_left_comm]
 .rw [decide_eq_false e];rfl
theorem Z9v(x y:Z5)(hx:Zde x):Ztl x y=some (decide (x=y)):=by
 (unfold Ztl LF.run;dsimp only [Zy7,LT.den])
 simp only [Zhn x.Library y.Library hx.1.1,Zhn x.Hand y.Hand hx.2.1.1,Zhn x.Graveyard y.Graveyard hx.2.2.1,Z2z,Zh3,Zg4,Zj5,int_bne',Zii,Option.bind_some,Zg3,Zef,Zf4]
 congr 1
 rw [decide_eq_decide]
 obtain⟨a0,a1,a2,a3,a4,a5,a6,a7,a8⟩:=x
 obtain⟨b0,b1,b2,b3,b4,b5,b6,b7,b8⟩:=y
 simp only [Z5.mk.injEq]
 try simp only [and_assoc,and_comm,and_left_comm]
theorem Z8z(x y:Zab)(hx:Zfm x):Zsc x y=some (decide (x=y)):=by
 (unfold Zsc LF.run;dsimp only [Zxb,LT.den])
 simp only [Zabr x.Ability y.Ability hx,Zse,Zh3,Zg4,Zj5,int_bne',Zii,Option.bind_some,Zg3,Zef,Zf4]
 congr 1
 rw [decide_eq_decide]
 obtain⟨a0,a1,a2,a3⟩:=x
 obtain⟨b0,b1,b2,b3⟩:=y
 simp only [Zab.mk.injEq]
 try simp only [and_assoc,and_comm,and_left_comm]
theorem Zag4(x y:Za1)(hx:Zfn x):Zzb x y=some (decide (x=y)):=by
 (unfold Zzb LF.run;dsimp only [Z3l,LT.den])
 simp only [Zhn x.Objects y.Objects hx.1.1,Zag1 x.Mods y.Mods hx.2.1,Zh3,Zg4,Zj5,int_bne',Zii,Option.bind_some,Zg3,Zef,Zf4]
 congr 1
 rw [decide_eq_decide]
 obtain⟨a0,a1,a2,a3,a4,a5⟩:=x
 obtain⟨b0,b1,b2,b3,b4,b5⟩:=y
 simp only [Za1.mk.injEq]
 try simp only [and_assoc,and_comm,and_left_comm]
theorem Zap5(x y:Za)(hx:Zt x):Z8i x y=some (decide (x.Players=y.Players/\x.Objects=y.Objects/\x.Stack=y.Stack/\x.Waiting=y.Waiting/\x.Conts=y.Conts)):=by
 (unfold Z8i LF.run;dsimp only [Zabj,LT.den])
 refine (Zl7 (a:=x.Players) (b:=y.Players) (fun e=>by rw [e.1]) fun hl0=>?_)
 refine (Zl7 (a:=x.Objects) (b:=y.Objects) (fun e=>by rw [e.2.1]) fun hl1=>?_)
 refine (Zl7 (a:=x.Stack) (b:=y.Stack) (fun e=>by rw [e.2.2.1]) fun hl2=>?_)
 refine (Zl7 (a:=x.Waiting) (b:=y.Waiting) (fun e=>by rw [e.2.2.2.1]) fun hl3=>?_)
 refine (Zl7 (a:=x.Conts) (b:=y.Conts) (fun e=>by rw [e.2.2.2.2]) fun hl4=>?_)
 rw [Option.bind_some,Zbf]
 have l4:Za6 Zd2.step (Zcr.L4 x y 0)=some (decide (x.Conts=y.Conts)):=by
  have hb:x.Conts.length*80<=140737488351232:=hx.2.2.2.2.2.2.1.1
  have r:=Zds (step:=Zd2.step) (st:=fun i:Nat=>Zcr.L4 x y (i:Int)) (bad:=false) x.Conts y.Conts hl4 (fun i u v hu hv hm=>by
   have hi:=(List.getElem?_eq_some_iff.1 hu).1
   show (Zn2 _ _ _).den=_
   dsimp only [Zn2,LT.den]
   rw [decide_eq_true (show (i:Int) < (x.Conts.length:Int) by omega),cond_true,Zak hu,Option.bind_some,Zak hv,Option.bind_some,Zag4 u v (hx.2.2.2.2.2.2.1.2 u hm),Option.bind_some,Zaz hi (by omega)]
   cases decide (u=v)<;>rfl)
  refine Eq.trans r ?_
  have he:Za6 Zd2.step (Zcr.L4 x y (x.Conts.length:Int))=some true:=Zbe (by
   show (Zn2 _ _ _).den=_
   dsimp only [Zn2,LT.den]
   rw [decide_eq_false (by omega)];rfl)
  rw [he]
  cases decide (x.Conts=y.Conts)<;>rfl
 have l3:Za6 Zd2.step (Zcr.L3 x y 0)=some (decide (x.Waiting=y.Waiting/\x.Conts=y.Conts)):=by
  have hb:x.Waiting.length*768<=140737488351232:=hx.2.2.2.2.2.1.1
  have r:=Zds (step:=Zd2.step) (st:=fun i:Nat=>Zcr.L3 x y (i:Int)) (bad:=false) x.Waiting y.Waiting hl3 (fun i u v hu hv hm=>by
   have hi:=(List.getElem?_eq_some_iff.1 hu).1
   show (Zn1 _ _ _).den=_
   dsimp only [Zn1,LT.den]
   rw [decide_eq_true (show (i:Int) < (x.Waiting.length:Int) by omega),cond_true,Zak hu,Option.bind_some,Zak hv,Option.bind_some,Z8z u v (hx.2.2.2.2.2.1.2 u hm),Option.bind_some,Zaz hi (by omega)]
   cases decide (u=v)<;>rfl)
  refine Eq.trans r ?_
  have he:Za6 Zd2.step (Zcr.L3 x y (x.Waiting.length:Int))=some (decide (x.Conts=y.Conts)):=Eq.trans (Zek (by
   show (Zn1 _ _ _).den=_
   dsimp only [Zn1,LT.den]
   rw [decide_eq_false (by omega)];rfl)) l4
  rw [he]
  exact Zf4 _ _
 have l2:Za6 Zd2.step (Zcr.L2 x y 0)=some (decide (x.Stack=y.Stack/\x.Waiting=y.Waiting/\x.Conts=y.Conts)):=by
  have hb:x.Stack.length*824<=140737488351232:=hx.2.2.2.2.1.1
  have r:=Zds (step:=Zd2.step) (st:=fun i:Nat=>Zcr.L2 x y (i:Int)) (bad:=false) x.Stack y.Stack hl2 (fun i u v hu hv hm=>by
   have hi:=(List.getElem?_eq_some_iff.1 hu).1
   show (Zn0 _ _ _).den=_
   dsimp only [Zn0,LT.den]
   rw [decide_eq_true (show (i:Int) < (x.Stack.length:Int) by omega),cond_true,Zak hu,Option.bind_some,Zak hv,Option.bind_some,Zag3 u v (hx.2.2.2.2.1.2 u hm),Option.bind_some,Zaz hi (by omega)]
   cases decide (u=v)<;>rfl)
  refine Eq.trans r ?_
  have he:Za6 Zd2.step (Zcr.L2 x y (x.Stack.length:Int))=some (decide (x.Waiting=y.Waiting/\x.Conts=y.Conts)):=Eq.trans (Zek (by
   show (Zn0 _ _ _).den=_
   dsimp only [Zn0,LT.den]
   rw [decide_eq_false (by omega)];rfl)) l3
  rw [he]
  exact Zf4 _ _
 have l1:Za6 Zd2.step (Zcr.L1 x y 0)=some (decide (x.Objects=y.Objects/\x.Stack=y.Stack/\x.Waiting=y.Waiting/\x.Conts=y.Conts)):=by
  have hb:x.Objects.length*128<=140737488351232:=hx.2.1.1
  have r:=Zds (step:=Zd2.step) (st:=fun i:Nat=>Zcr.L1 x y (i:Int)) (bad:=false) x.Objects y.Objects hl1 (fun i u v hu hv hm=>by
   have hi:=(List.getElem?_eq_some_iff.1 hu).1
   show (Znz _ _ _).den=_
   dsimp only [Znz,LT.den]
   rw [decide_eq_true (show (i:Int) < (x.Objects.length:Int) by omega),cond_true,Zak hu,Option.bind_some,Zak hv,Option.bind_some,Z52,Zaz hi (by omega)]
   cases decide (u=v)<;>rfl)
  refine Eq.trans r ?_
  have he:Za6 Zd2.step (Zcr.L1 x y (x.Objects.length:Int))=some (decide (x.Stack=y.Stack/\x.Waiting=y.Waiting/\x.Conts=y.Conts)):=Eq.trans (Zek (by
   show (Znz _ _ _).den=_
   dsimp only [Znz,LT.den]
   rw [decide_eq_false (by omega)];rfl)) l2
  rw [he]
  exact Zf4 _ _
 have l0:Za6 Zd2.step (Zcr.L0 x y 0)=some (decide (x.Players=y.Players/\x.Objects=y.Objects/\x.Stack=y.Stack/\x.Waiting=y.Waiting/\x.Conts=y.Conts)):=by
  have hb:x.Players.length*152<=140737488351232:=hx.1.1
  have r:=Zds (step:=Zd2.step) (st:=fun i:Nat=>Zcr.L0 x y (i:Int)) (bad:=false) x.Players y.Players hl0 (fun i u v hu hv hm=>by
   have hi:=(List.getElem?_eq_some_iff.1 hu).1
   show (Zny _ _ _).den=_
   dsimp only [Zny,LT.den]
   rw [decide_eq_true (show (i:Int) < (x.Players.length:Int) by omega),cond_true,Zak hu,Option.bind_some,Zak hv,Option.bind_some,Z9v u v (hx.1.2 u hm),Option.bind_some,Zaz hi (by omega)]
   cases decide (u=v)<;>rfl)
  refine Eq.trans r ?_
  have he:Za6 Zd2.step (Zcr.L0 x y (x.Players.length:Int))=some (decide (x.Objects=y.Objects/\x.Stack=y.Stack/\x.Waiting=y.Waiting/\x.Conts=y.Conts)):=Eq.trans (Zek (by
   show (Zny _ _ _).den=_
   dsimp only [Zny,LT.den]
   rw [decide_eq_false (by omega)];rfl)) l1
  rw [he]
  exact Zf4 _ _
 exact l0
theorem Zabs(x y:Za)(hx:Zt x):Z42 x y=some (decide (x=y)):=by
 (unfold Z42 LF.run;dsimp only [Zagk,LT.den])
 simp only [Zap5 x y hx,Zhn x.Battlefield y.Battlefield hx.2.2.1.1,Zhn x.Exile y.Exile hx.2.2.2.1.1,Zhn x.Extra y.Extra hx.2.2.2.2.2.2.2.1,Zh3,Zg4,Zj5,int_bne',Zii,Option.bind_some,Zg3,Zef,Zf4]
 congr 1
 rw [decide_eq_decide]
 obtain⟨a0,a1,a2,a3,a4,a5,a6,a7,a8,a9,a10,a11,a12,a13,a14,a15,a16,a17,a18⟩:=x
 obtain⟨b0,b1,b2,b3,b4,b5,b6,b7,b8,b9,b10,b11,b12,b13,b14,b15,b16,b17,b18⟩:=y
 simp only [Za.mk.injEq]
 try simp only [and_assoc,and_comm,and_left_comm]
theorem Zaiw(x y:Zbc)(hx:Zj8 x):Z2b x y=some (decide (x=y)):=by
 have hb:x.Options.length*24<=140737488351232:=hx.1
 (unfold Z2b LF.run;dsimp only [Z5v,LT.den])
 refine ((Zmr (int_bne' _ _) fun h1=>Zmr (int_bne' _ _) fun h2=>Zmr (int_bne' _ _) fun h3=>Zmr (int_bne' _ _) fun h4=>Zmr (int_bne' _ _) fun h5=>Zmr (int_bne' _ _) fun h6=>Zl7 (q:=x.Options=y.Options) (a:=x.Options) (b:=y.Options) (fun e=>by rw [e]) fun hl=>?_).trans ?_)
 .rw [Option.bind_some,Zbf]
  have r:=Zds (step:=Zp4.step) (st:=fun i:Nat=>Zmg.L0 x y (i:Int)) (bad:=false) x.Options y.Options hl (fun i u v hu hv hm=>by
   have hi:=(List.getElem?_eq_some_iff.1 hu).1
   show (Zk2 _ _ _).den=_
   dsimp only [Zk2,LT.den]
   rw [decide_eq_true (show (i:Int) < (x.Options.length:Int) by omega),cond_true,Zak hu,Option.bind_some,Zak hv,Option.bind_some,Z54,Zaz hi (by omega)]
   cases decide (u=v)<;>rfl)
  refine Eq.trans r ?_
  have he:Za6 Zp4.step (Zmg.L0 x y (x.Options.length:Int))=some true:=Zbe (by
   show (Zk2 _ _ _).den=_
   dsimp only [Zk2,LT.den]
   rw [decide_eq_false (by omega)];rfl)
  rw [he]
  cases decide (x.Options=y.Options)<;>rfl
 .congr 1
  rw [decide_eq_decide]
  obtain⟨a0,a1,a2,a3,a4,a5,a6⟩:=x
  obtain⟨b0,b1,b2,b3,b4,b5,b6⟩:=y
  simp only [Zbc.mk.injEq]
abbrev Z9i(x:Zj):Za:=⟨[],x.Objects,x.Battlefield,x.Exile,x.Stack,x.Waiting,x.Conts,x.Turn,x.Active,x.Step,false,x.Priority,x.Passes,x.NextId,0,0,x.Extra,x.Over,x.Winner⟩
theorem Zarg(x y:Zj)(hx:Zce x):Z44 x y=some (decide (x=y)):=by
 have hb:x.Players.length*120<=140737488351232:=hx.1.1
 have hp:Zt (Z9i x):=⟨SzL.nil,hx.2.2.1,hx.2.2.2.1,hx.2.2.2.2.1,hx.2.2.2.2.2.1,hx.2.2.2.2.2.2.1,hx.2.2.2.2.2.2.2.1,hx.2.2.2.2.2.2.2.2.1⟩
 (unfold Z44 LF.run;dsimp only [Zagm,LT.den])
 rw [Zhn _ _ hx.2.1.1,Option.bind_some,Zaiw _ _ hx.2.2.2.2.2.2.2.2.2,Option.bind_some,show Z43 x=some (Z9i x) from rfl,Option.bind_some,show Z43 y=some (Z9i y) from rfl,Option.bind_some,Zabs _ _ hp,Option.bind_some]
 refine ((Zmr (int_bne' _ _) fun h1=>Zl7 (a:=x.Players) (b:=y.Players) (q:=x.Hand=y.Hand/\x.Pending=y.Pending/\Z9i x=Z9i y/\x.Players=y.Players) (fun e=>by rw [e.2.2.2]) fun hl=>Zmr rfl fun h2=>Zmr rfl fun h3=>Zmr rfl fun h4=>?_).trans ?_)
 .rw [Option.bind_some,Zbf]
  have r:=Zds (step:=Zxl.step) (st:=fun i:Nat=>Zsd.L0 x y (i:Int)) (bad:=false) x.Players y.Players hl (fun i u v hu hv hm=>by
   have hi:=(List.getElem?_eq_some_iff.1 hu).1
   have hsu:=(hx.1.2 u hm).1
   show (Zpr _ _ _).den=_
   dsimp only [Zpr,LT.den]
   rw [decide_eq_true (show (i:Int) < (x.Players.length:Int) by omega),cond_true,Zak hu,Option.bind_some,Zak hv,Option.bind_some,Zaz hi (by omega),Zhn _ _ hsu,Option.bind_some]
   refine (Z08 (int_bne' _ _) (Z08 (int_bne' _ _) (Z08 (int_bne' _ _) (Z08 (int_bne' _ _) (Z08 (int_bne' _ _) (Z08 (by rw [Z2z]) (Z08 (by rw [Zg4]) (Z08 (q:=True) rfl rfl)))))))).trans ?_
   congr 2
   rw [decide_eq_decide]
   obtain⟨a0,a1,a2,a3,a4,a5,a6,a7⟩:=u
   obtain⟨b0,b1,b2,b3,b4,b5,b6,b7⟩:=v
   simp only [Zc3.mk.injEq,and_true])
  refine Eq.trans r ?_
  have he:Za6 Zxl.step (Zsd.L0 x y (x.Players.length:Int))=some true:=Zbe (by
   show (Zpr _ _ _).den=_
   dsimp only [Zpr,LT.den]
   rw [decide_eq_false (by omega)];rfl)
  rw [he]
  cases decide (x.Players=y.Players)<;>rfl
 .congr 1
  rw [decide_eq_decide]
  obtain⟨a0,a1,a2,a3,a4,a5,a6,a7,a8,a9,a10,a11,a12,a13,a14,a15,a16,a17,a18⟩:=x
  obtain⟨b0,b1,b2,b3,b4,b5,b6,b7,b8,b9,b10,b11,b12,b13,b14,b15,b16,b17,b18⟩:=y
  simp only [Z9i,Za.mk.injEq,Zj.mk.injEq,true_and]
  simp only [and_assoc,and_comm,and_left_comm]
theorem Z80(x y:Zj)(hx:Zce x):Z8c x y=some (decide (x=y)):=by
 (unfold Z8c LF.run;dsimp only [Zabc,LT.den];dsimp only [Zjt,LT.den])
 simp only [Zep x.Hand y.Hand hx.2.1.1,Zl4 x.Objects y.Objects hx.2.2.1.1,Zep x.Battlefield y.Battlefield hx.2.2.2.1.1,Zep x.Exile y.Exile hx.2.2.2.2.1.1,Zep x.Extra y.Extra hx.2.2.2.2.2.2.2.2.1.1,Zfy x.Players y.Players hx.1.1 hx.1.2,Zfz x.Stack y.Stack hx.2.2.2.2.2.1.1 hx.2.2.2.2.2.1.2,Zev x.Waiting y.Waiting hx.2.2.2.2.2.2.1.1 hx.2.2.2.2.2.2.1.2,Zf0 x.Conts y.Conts hx.2.2.2.2.2.2.2.1.1 hx.2.2.2.2.2.2.2.1.2,Z8x x.Pending y.Pending hx.2.2.2.2.2.2.2.2.2,Zh3,Zg4,int_bne',Zii,Option.bind_some,Zg3,Zef,Zf4]
 simp only [cond_false,Zf4]
 congr 1
 rw [decide_eq_decide]
 obtain⟨a0,a1,a2,a3,a4,a5,a6,a7,a8,a9,a10,a11,a12,a13,a14,a15,a16,a17,a18⟩:=x
 obtain⟨b0,b1,b2,b3,b4,b5,b6,b7,b8,b9,b10,b11,b12,b13,b14,b15,b16,b17,b18⟩:=y
 simp only [Zj.mk.injEq]
 simp only [and_assoc,and_comm,and_left_comm]
end Go.PW
set_option maxRecDepth 100000
namespace Go.PW
theorem Zag5(K:Za->Int->Int->Bool)(g:Z6)(p:Int)(h:Zcn g):Zce (vOf K g p):=by
 have hs:=h.2.1
 have hh:(SzL 8 (fun _=>True)) (Zqu g.State.Players p g.State.Players.length):=by
  unfold Zqu
  split
  .cases hx:g.State.Players[p.toNat]? with
   | none=>exact SzL.nil
   | some x=>exact (hs.1.2 x (List.mem_of_getElem? hx)).2.1
  .exact SzL.nil
 have hc:Zj8 (vC g p):=by
  unfold vC
  cases g.Pending.Player==p
  .exact SzL.nil
  .exact h.2.2.2.1
 refine⟨⟨?_,?_⟩,hh,⟨?_,fun _ _=>trivial⟩,hs.2.2.1,hs.2.2.2.1,hs.2.2.2.2.1,hs.2.2.2.2.2.1,hs.2.2.2.2.2.2.1,hs.2.2.2.2.2.2.2,hc⟩
 .show (g.State.Players.map Zjv).length*120<=140737488351232
  rw [List.length_map]
  have:=hs.1.1;omega
 .intro x hx
  obtain⟨y,hy,rfl⟩:=List.mem_map.1 hx
  exact (hs.1.2 y hy).2.2
 .show (g.State.Objects.filter _).length*128<=140737488351232
  have h1:=hs.2.1.1
  have h2:=List.length_filter_le (fun o:Zp=>K g.State p o.Id||Zt0 g p o.Id) g.State.Objects
  omega
def TO(i z c:Int):Zp:=⟨i,0,c,c,z,false,false,false,false,0,⟨0,0,0⟩,0,-1,-1,false,0,0⟩
def TSt:Za:=⟨[⟨20,0,0,⟨0,0,0,0,0,0⟩,false,false,[3],[1],[]⟩,⟨18,0,0,⟨0,0,0,0,0,0⟩,false,false,[],[2],[]⟩],[TO 1 1 0,TO 2 1 1,TO 3 2 0],[],[],[],[],[],1,0,3,false,0,0,4,1,0,[],0,-1⟩
def TB:Z6:=⟨[⟨[111,97,107],false,⟨0,0,⟨0,0,0,0,0⟩⟩,0,⟨0,8,[]⟩,0,0,0,[]⟩],TSt,[],⟨3,0,0,0,1,0,[⟨5,3,0⟩]⟩,0,[]⟩
theorem Zap6:Z74=some TB:=by
 (unfold Z74 LF.run;dsimp only [Zaa7,LT.den])
 rw [Option.bind_some,Zbf]
 exact Zab8.2 ⟨4,rfl⟩
theorem Za01:Zt TSt:=by
 refine⟨⟨by decide,fun x hx=>?_⟩,⟨by decide,fun _ _=>trivial⟩,SzL.nil,SzL.nil,SzL.nil,SzL.nil,SzL.nil,SzL.nil⟩
 rcases List.mem_cons.1 hx with rfl | hx
 .exact⟨⟨by decide,fun _ _=>trivial⟩,⟨by decide,fun _ _=>trivial⟩,SzL.nil⟩
 .rcases List.mem_cons.1 hx with rfl | hx
  .exact⟨SzL.nil,⟨by decide,fun _ _=>trivial⟩,SzL.nil⟩
  .cases hx
theorem Z5h:Zcn TB:=by
 refine⟨⟨by decide,fun x hx=>?_⟩,Za01,SzL.nil,⟨by decide,fun _ _=>trivial⟩,SzL.nil⟩
 rcases List.mem_cons.1 hx with rfl | hx
 .exact⟨SzS.lit (by decide),SzL.nil,SzL.nil⟩
 .cases hx
theorem Zazv:Z0w=some true:=by
 (unfold Z0w LF.run;dsimp only [Zabe,LT.den])
 rw [Zap6,Option.bind_some,Z5g _ _ Z5h,Option.bind_some,Z5g _ _ Z5h,Option.bind_some]
 rw [show (vOf vK TB 0).Objects=[TO 1 1 0,TO 3 2 0] from rfl,show (vOf vK TB 1).Objects=[TO 2 1 1] from rfl]
 rw [show idx? [TO 1 1 0,TO 3 2 0] 0=some (TO 1 1 0) from rfl,show idx? [TO 1 1 0,TO 3 2 0] 1=some (TO 3 2 0) from rfl,show idx? [TO 2 1 1] 0=some (TO 2 1 1) from rfl]
 rw [show (vOf vK TB 0).Hand=[1] from rfl,Zhn _ _ (by decide)]
 rw [Zmm _ _ _ Z5h.2.1,Zmm _ _ _ Z5h.2.1,Zmm _ _ _ Z5h.2.1]
 rw [show vK TB.State 0 1=true from rfl,show vK TB.State 1 1=false from rfl,show vK TB.State 0 3=false from rfl]
 rw [Z80 _ _ (Zag5 _ _ _ Z5h),Z80 _ _ (Zag5 _ _ _ Z5h),decide_eq_true rfl,decide_eq_false (fun e:vOf vK TB 0=vOf vK TB 1=>absurd (congrArg Zj.Player e) (by decide))]
 rfl
end Go.PW
