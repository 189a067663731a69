import Derived.Test.YtncgejlelfefdaaGreatQP
set_option linter.all false
set_option maxRecDepth 100000
namespace Go.PW
def supW:List (List UInt8):=[[98,97,115,105,99],[117,110,105,113,117,101]]
def typW:List (List UInt8):=[[99,114,101,97,116,117,114,101],[105,110,115,116,97,110,116],[114,105,116,117,97,108],[114,101,108,105,99],[99,104,97,114,109],[108,97,110,100]]
def Zit(l:List (List UInt8))(s:List UInt8):Bool:=l.any fun w=>w==s
def subV(s:List UInt8):Bool:=Zavt s&&(!Zit supW s && !Zit typW s)
theorem Zbja:∀ i:Nat,i < 6->(Z1c .i64 1 (i:Int)==0)=false
 | 0,_=>rfl
 | 1,_=>rfl
 | 2,_=>rfl
 | 3,_=>rfl
 | 4,_=>rfl
 | 5,_=>rfl
 | n+6,h=>absurd h (by omega)
theorem Zbpw(s:List UInt8):∃ x,Zi8 s 2=some x/\(x==0) = !Zit supW s:=by
 (unfold Zi8 LF.run;dsimp only [Zmh,LT.den])
 simp only [Option.bind_some,Zlq]
 have hfind:=Zw7 (step:=Zif.step) supW (fun i => .L0 s 2 (i:Int)) (fun i=>Z1c .i64 1 (i:Int)) (fun w=>w==s) (fun i x hx=>by
  have hi:=(List.getElem?_eq_some_iff.1 hx).1
  have hi:i < 2:=hi
  have hw:Zvo (i:Int)=some x:=by
   (unfold Zvo LF.run;dsimp only [Z10,LT.den])
   show Option.bind (Option.bind (idx? supW (i:Int)) fun x1=>some (.inr x1)) (Zgm Zrq.step)=_
   rw [Zj0 hx];rfl
  show (Zfm s 2 (i:Int)).den=_
  dsimp only [Zfm,LT.den]
  rw [decide_eq_true (show (i:Int) < 2 by omega),hw,Zgn (by omega) (by omega)]
  simp only [cond_true,Option.bind_some,Za53]
  rw [show decide (¬ (i:Int) < 0)=true from decide_eq_true (by omega)]
  cases x==s<;>rfl)
 rcases hfind with ⟨h1,i,h2,h3⟩ | ⟨h1,h2⟩
 .exact⟨_,h3,by rw [Zbja i (Nat.lt_of_lt_of_le h2 (by decide))];unfold Zit;rw [h1];rfl⟩
 .refine⟨0,h2.trans (Zd9 ?_),by unfold Zit;rw [h1];rfl⟩
  show (Zfm s 2 2).den=_
  rfl
theorem Zbpx(s:List UInt8):∃ x,Zjo s 6=some x/\(x==0) = !Zit typW s:=by
 (unfold Zjo LF.run;dsimp only [Znt,LT.den])
 simp only [Option.bind_some,Zlq]
 have hfind:=Zw7 (step:=Ziq.step) typW (fun i => .L0 s 6 (i:Int)) (fun i=>Z1c .i64 1 (i:Int)) (fun w=>w==s) (fun i x hx=>by
  have hi:=(List.getElem?_eq_some_iff.1 hx).1
  have hi:i < 6:=hi
  have hw:Zyt (i:Int)=some x:=by
   (unfold Zyt LF.run;dsimp only [Z4t,LT.den])
   show Option.bind (Option.bind (idx? typW (i:Int)) fun x1=>some (.inr x1)) (Zgm Ztm.step)=_
   rw [Zj0 hx];rfl
  show (Zfw s 6 (i:Int)).den=_
  dsimp only [Zfw,LT.den]
  rw [decide_eq_true (show (i:Int) < 6 by omega),hw,Zgn (by omega) (by omega)]
  simp only [cond_true,Option.bind_some,Za53]
  rw [show decide (¬ (i:Int) < 0)=true from decide_eq_true (by omega)]
  cases x==s<;>rfl)
 rcases hfind with ⟨h1,i,h2,h3⟩ | ⟨h1,h2⟩
 .exact⟨_,h3,by rw [Zbja i (Nat.lt_of_lt_of_le h2 (by decide))];unfold Zit;rw [h1];rfl⟩
 .refine⟨0,h2.trans (Zd9 ?_),by unfold Zit;rw [h1];rfl⟩
  show (Zfw s 6 6).den=_
  rfl
theorem Zblm(s:List UInt8):Zaa0 s=some (subV s):=by
 (unfold Zaa0 LF.run;dsimp only [Zagy,LT.den];unfold subV)
 obtain⟨x,hx,ex⟩:=Zbpw s
 obtain⟨y,hy,ey⟩:=Zbpx s
 simp only [Zbe0,hx,hy,Option.bind_some,ex,ey]
 exact Zkm fun _=>Zkm fun _=>rfl
theorem Zap4(l:List (List UInt8))(s:List UInt8)(hl:l.length<=4611686018427387904):∃ x,Z31 l s=some x/\decide (x < 0) = !Zit l s/\decide (x>=0)=Zit l s:=by
 (unfold Z31 LF.run;dsimp only [Z5z,LT.den])
 simp only [Option.bind_some,Zlq]
 have hfind:=Zw7 (step:=Zwo.step) l (fun i => .L0 l s (i:Int)) (fun i=>(i:Int)) (fun w=>w==s) (fun i x hx=>by
  have hi:=(List.getElem?_eq_some_iff.1 hx).1
  show (Zkn _ _ _).den=_
  dsimp only [Zkn,LT.den]
  rw [decide_eq_true (by omega),Zj0 hx,Z3z hi hl]
  simp only [cond_true,Option.bind_some]
  cases x==s<;>rfl)
 rcases hfind with ⟨h1,i,h2,h3⟩ | ⟨h1,h2⟩
 .refine⟨_,h3,?_,?_⟩<;>unfold Zit<;>rw [h1]
  .exact decide_eq_false (by omega)
  .exact decide_eq_true (by omega)
 .refine⟨-1,h2.trans (Zd9 ?_),?_,?_⟩
  .show (Zkn _ _ _).den=_
   dsimp only [Zkn,LT.den]
   rw [decide_eq_false (by omega)];rfl
  .unfold Zit;rw [h1];rfl
  .unfold Zit;rw [h1];rfl
theorem Za83(s:List UInt8):Z34 s=some (subV s):=by
 (unfold Z34 LF.run;dsimp only [Z50,LT.den];unfold subV)
 obtain⟨x,hx,ex,_⟩:=Zap4 supW s (by decide)
 obtain⟨y,hy,ey,_⟩:=Zap4 typW s (by decide)
 have h1:Zpd=some supW:=rfl
 have h2:Zq3=some typW:=rfl
 simp only [Zbbs,h1,h2,hx,hy,Option.bind_some,ex,ey]
 exact Zkm fun _=>Zkm fun _=>rfl
theorem Za22(l:Zaf)(s:List UInt8)(hl:l.Subs.length<=4611686018427387904):Z0r l s=some (Zit l.Subs s):=by
 (unfold Z0r LF.run;dsimp only [Z2a,LT.den])
 obtain⟨x,hx,_,ex⟩:=Zap4 l.Subs s hl
 simp only [hx,Option.bind_some,ex];rfl
theorem Zbjb(l:Zaf)(s:List UInt8)(hl:l.Subs.length<=4611686018427387904):Z6c l s=some (Zit l.Subs s):=by
 (unfold Z6c LF.run;dsimp only [Zac0,LT.den];unfold Zi9 LF.run;dsimp only [Zih,LT.den];unfold Zkf LF.run;dsimp only [Zjl,LT.den])
 simp only [Option.bind_some,Zlq]
 have hfind:=Zw7 (step:=Zep.step) l.Subs (fun i => .L0 l.Subs s (l.Subs.length:Int) (i:Int)) (fun i=>(i:Int)) (fun w=>w==s) (fun i x hx=>by
  have hi:=(List.getElem?_eq_some_iff.1 hx).1
  show (Zcw _ _ _ _).den=_
  dsimp only [Zcw,LT.den]
  rw [decide_eq_true (by omega),Zj0 hx,Z3z hi hl]
  simp only [cond_true,Option.bind_some]
  rw [show (s==x)=(x==s) from by rw [Zbco,Zbco];simp [eq_comm]]
  cases x==s<;>rfl
)
 rcases hfind with ⟨h1,i,h2,h3⟩ | ⟨h1,h2⟩
 .rw [show (Zc1.L0 l.Subs s (l.Subs.length:Int) 0) = .L0 l.Subs s (l.Subs.length:Int) ((0:Nat):Int) from rfl,h3]
  unfold Zit;rw [h1]
  simp only [Option.bind_some,Zf1]
  rw [decide_eq_true (by omega)]
 .have he:Zdf Zep.step (.L0 l.Subs s (l.Subs.length:Int) (l.Subs.length:Int))=some (-1):=by
   refine Zd9 ?_
   show (Zcw _ _ _ _).den=_
   dsimp only [Zcw,LT.den]
   rw [decide_eq_false (by omega)];rfl
  rw [show (Zc1.L0 l.Subs s (l.Subs.length:Int) 0) = .L0 l.Subs s (l.Subs.length:Int) ((0:Nat):Int) from rfl,h2,he]
  unfold Zit;rw [h1];rfl
def btw(n m:Int):Bool:=decide (n>=0)&&decide (n<=m)
def Zpz(b:Zj):Bool:=btw b.Kind 3&&(btw b.N 1000000&&(b.Kind != 0||b.N==0))
def Z6x(a b:Int):Bool:=Zbl .and .i64 a b==0
def filV(f:Zm):Bool:=
 btw f.Zone 5&&(btw f.Who 2&&(btw f.Self 2&&(btw f.Tap 2&&(btw f.Keys 131071&&(btw f.Types 63&&(btw f.NotTypes 63&&(Z6x f.Types f.NotTypes &&
 (btw f.Colors 31&&(btw f.NotColors 31&&(Z6x f.Colors f.NotColors&&((f.Sub==[]||subV f.Sub)&&(Zpz f.Power&&(Zpz f.Tough&&Zpz f.Value)))))))))))))
theorem Zavu(n m:Int):Zvn n m=some (btw n m):=by
 (unfold Zvn LF.run;dsimp only [Z1y,LT.den];unfold btw)
 exact Zkm fun _=>rfl
theorem Zbe1(b:Zj):Zvp b=some (Zpz b):=by
 (unfold Zvp LF.run;dsimp only [Z11,LT.den];unfold Zpz)
 simp only [Zavu,Option.bind_some]
 refine Zkm fun _=>Zkm fun _=>?_
 cases b.Kind != 0<;>rfl
theorem Zbjc(f:Zm):(Zoi f).den.bind (Zgm Zql.step)=some (Zpz f.Power&&(Zpz f.Tough&&Zpz f.Value)):=by
 dsimp only [Zoi,LT.den]
 simp only [Zbe1,Option.bind_some]
 exact Zkm fun _=>Zkm fun _=>rfl
theorem Za84(f:Zm):Zag0 f=some (filV f):=by
 (unfold Zag0 LF.run;dsimp only [Zam9,LT.den];unfold filV)
 simp only [Zavu,Option.bind_some,Zblm]
 refine Zew fun _=>Zew fun _=>Zew fun _=>Zew fun _=>Zew fun _=>Zew fun _=>Zew fun _=>?_
 have dis:∀ {a b r:Bool} {c d:Int} {k:Option (Zwr ⊕ Bool)},k.bind (Zgm Zql.step)=some r->(bif (Zbl .and .i64 c d != 0) then some (.inr false) else k).bind (Zgm Zql.step)=some (Z6x c d&&r):=by
  intro a b r c d k h
  unfold Z6x
  simp only [bne]
  exact Zew fun _=>h
 refine dis (a:=true) (b:=true) (Zew fun _=>Zew fun _=>dis (a:=true) (b:=true) ?_)
 cases f.Sub==[] with
 | true=>simp only [Bool.not_true,cond_false,Bool.true_or,Bool.true_and];exact Zbjc f
 | false=>simp only [Bool.not_false,cond_true,Bool.false_or];exact Zew fun _=>Zbjc f
theorem Zbln(b:Zj):Z36 b=some (Zpz b):=by
 (unfold Z36 LF.run;dsimp only [Z52,LT.den])
 refine (Zb6 fun _=>Zb6 fun _=>Zb6 fun _=>Zb6 fun _=>(show _=some (b.Kind != 0||b.N==0) from by cases b.Kind != 0<;>rfl)).trans ?_
 congr 1
 (unfold Zpz;unfold btw)
 rw [Bool.eq_iff_iff]
 simp only [Bool.and_eq_true,Bool.not_eq_true',decide_eq_false_iff_not,decide_eq_true_eq,ge_iff_le,gt_iff_lt,Int.not_lt]
 constructor
 .rintro ⟨h1,h2,h3,h4,h5⟩;exact⟨⟨h1,h2⟩,⟨h3,h4⟩,h5⟩
 .rintro ⟨⟨h1,h2⟩,⟨h3,h4⟩,h5⟩;exact⟨h1,h2,h3,h4,h5⟩
theorem Zavv:∀ (d i a b:Nat),i+d=6->a < 2 ^ 62->b < 2 ^ 62->Zdf Zm5.step (.L0 (a:Int) (b:Int) (i:Int))=some (Z1f d a b)
 | 0,i,a,b,hi,_,_=>by
  refine Zd9 ?_
  show (Zko _ _ _).den=_
  dsimp only [Zko,LT.den]
  rw [decide_eq_false (by omega)];rfl
 | d+1,i,a,b,hi,ha,hb=>by
  have hw:IntKind.wrap .i64 ((i:Int)+1)=((i+1:Nat):Int):=Zgn (by omega) (by omega)
  have hs:Zm5.step (.L0 (a:Int) (b:Int) (i:Int))=some (bif decide (a % 2=1)&&decide (b % 2=1) then .inr false else .inl (.L0 ((a / 2:Nat):Int) ((b / 2:Nat):Int) ((i+1:Nat):Int))):=by
   show (Zko _ _ _).den=_
   dsimp only [Zko,LT.den]
   rw [decide_eq_true (by omega),Zbcq,Zbcq,Zbcp a ha,Zbcp b hb,hw]
   cases decide (a % 2=1)<;>cases decide (b % 2=1)<;>rfl
  unfold Z1f
  by_cases h:a % 2=1/\b % 2=1
  .rw [if_pos h]
   rw [decide_eq_true h.1,decide_eq_true h.2] at hs
   exact Zd9 hs
  .rw [if_neg h]
   have:(decide (a % 2=1)&&decide (b % 2=1))=false:=by
    rw [<- Bool.decide_and];exact decide_eq_false h
   rw [this] at hs
   rw [Zj8 hs]
   exact Zavv d (i+1) (a / 2) (b / 2) (by omega) (by omega) (by omega)
theorem Za85(a b m:Int)(hm:m < 64):Z35 a b m=some (btw a m&&(btw b m&&Z6x a b)):=by
 have key:∀ {r:Bool},(0<=a->a<=m->0<=b->b<=m->r=Z6x a b)->(!decide (a < 0)&&(!decide (a > m)&&(!decide (b < 0)&&(!decide (b > m)&&r))))=(btw a m&&(btw b m&&Z6x a b)):=by
  intro r hr
  unfold btw
  by_cases h1:0<=a
  .by_cases h2:a<=m
   .by_cases h3:0<=b
    .by_cases h4:b<=m
     .rw [hr h1 h2 h3 h4]
      simp [h1,h2,h3,h4,Int.not_lt.2]
     .simp [h4,Int.not_le.1 h4]
    .simp [h3,Int.not_le.1 h3]
   .simp [h2,Int.not_le.1 h2]
  .simp [h1,Int.not_le.1 h1]
 (unfold Z35 LF.run;dsimp only [Z51,LT.den])
 by_cases hin:0<=a/\a<=m/\0<=b/\b<=m
 .obtain⟨h1,h2,h3,h4⟩:=hin
  refine (Zb6 (r := !decide (a > m)&&(!decide (b < 0)&&(!decide (b > m)&&Z6x a b))) fun _=>Zb6 fun _=>Zb6 fun _=>Zb6 fun _=>?_).trans (congrArg some (key fun _ _ _ _=>rfl))
  obtain⟨x,rfl⟩:=Int.eq_ofNat_of_zero_le h1
  obtain⟨y,rfl⟩:=Int.eq_ofNat_of_zero_le h3
  show Zdf Zm5.step (.L0 (x:Int) (y:Int) ((0:Nat):Int))=_
  rw [Zavv 6 0 x y rfl (by omega) (by omega),Zbeh (by omega)]
  unfold Z6x
  rw [Zbpm (by omega) (by omega),Zvf]
  congr 1
  rw [decide_eq_decide];omega
 .refine (Zb6 (r := !decide (a > m)&&(!decide (b < 0)&&(!decide (b > m)&&Z6x a b))) fun e1=>Zb6 fun e2=>Zb6 fun e3=>Zb6 fun e4=>?_).trans (congrArg some (key fun _ _ _ _=>rfl))
  simp only [decide_eq_false_iff_not] at e1 e2 e3 e4
  exact absurd ⟨by omega,by omega,by omega,by omega⟩ hin
theorem Zbdb(f:Zm):(Zob f).den.bind (Zgm Zapl.step)=some (Zpz f.Power&&(Zpz f.Tough&&Zpz f.Value)):=by
 dsimp only [Zob,LT.den]
 simp only [Zbln,Option.bind_some]
 exact Zkm fun _=>Zkm fun _=>rfl
theorem Za2a(f:Zm):Zafr f=some (filV f):=by
 (unfold Zafr LF.run;dsimp only [Zapk,LT.den])
 simp only [Za85 _ _ _ (by decide:(63:Int) < 64),Za85 _ _ _ (by decide:(31:Int) < 64),Option.bind_some,Za83]
 refine (Zb6 fun _=>Zb6 fun _=>Zb6 fun _=>Zb6 fun _=>Zb6 fun _=>Zb6 fun _=>Zb6 fun _=>Zb6 fun _=>Zew fun _=>Zew fun _=>
  (show _=some ((f.Sub==[]||subV f.Sub)&&(!decide (f.Keys < 0)&&(!decide (f.Keys > 131071)&&(Zpz f.Power&&(Zpz f.Tough&&Zpz f.Value))))) from ?_)).trans ?_
 .cases f.Sub==[] with
  | true=>simp only [Bool.not_true,cond_false,Bool.true_or,Bool.true_and];exact Zb6 fun _=>Zb6 fun _=>Zbdb f
  | false=>simp only [Bool.not_false,cond_true,Bool.false_or];exact Zew fun _=>Zb6 fun _=>Zb6 fun _=>Zbdb f
 .congr 1
  (unfold filV;unfold btw)
  rw [Bool.eq_iff_iff]
  simp only [Bool.and_eq_true,Bool.not_eq_true',decide_eq_false_iff_not,decide_eq_true_eq,ge_iff_le,gt_iff_lt,Int.not_lt]
  constructor
  .rintro ⟨z1,z2,w1,w2,s1,s2,t1,t2,⟨⟨a1,a2⟩,⟨b1,b2⟩,d1⟩,⟨⟨c1,c2⟩,⟨e1,e2⟩,d2⟩,su,k1,k2,p,q,v⟩
   exact⟨⟨z1,z2⟩,⟨w1,w2⟩,⟨s1,s2⟩,⟨t1,t2⟩,⟨k1,k2⟩,⟨a1,a2⟩,⟨b1,b2⟩,d1,⟨c1,c2⟩,⟨e1,e2⟩,d2,su,p,q,v⟩
  .rintro ⟨⟨z1,z2⟩,⟨w1,w2⟩,⟨s1,s2⟩,⟨t1,t2⟩,⟨k1,k2⟩,⟨a1,a2⟩,⟨b1,b2⟩,d1,⟨c1,c2⟩,⟨e1,e2⟩,d2,su,p,q,v⟩
   exact⟨z1,z2,w1,w2,s1,s2,t1,t2,⟨⟨a1,a2⟩,⟨b1,b2⟩,d1⟩,⟨⟨c1,c2⟩,⟨e1,e2⟩,d2⟩,su,k1,k2,p,q,v⟩
end Go.PW
