import Derived.Test.YtlighhlnmglpfaaGreatQP
set_option linter.all false
set_option maxRecDepth 100000
namespace Go.PW
def supW:List (List UInt8):=[[98,97,115,105,99],[117,110,105,113,117,101]]
def typW:List (List UInt8):=[[99,114,101,97,116,117,114,101],[105,110,115,116,97,110,116],[114,105,116,117,97,108],[114,101,108,105,99],[99,104,97,114,109],[108,97,110,100]]
def Zgq(l:List (List UInt8))(s:List UInt8):Bool:=l.any fun w=>w==s
def subV(s:List UInt8):Bool:=Zas9 s&&(!Zgq supW s && !Zgq typW s)
theorem Zbdr:∀ i:Nat,i < 6→(shlI .i64 1 (i:Int)==0)=false
 | 0,_=>rfl
 | 1,_=>rfl
 | 2,_=>rfl
 | 3,_=>rfl
 | 4,_=>rfl
 | 5,_=>rfl
 | n+6,h=>absurd h (by omega)
theorem Zbh5(s:List UInt8):∃ x,Zg7 s 2=some x∧(x==0) = !Zgq supW s:=by
 (unfold Zg7 LF.run;dsimp only [Zku,LT.den])
 simp only [Option.bind_some,Zkc]
 have hfind:=Zwt (step:=Zga.step) supW (fun i => .L0 s 2 (i:Int)) (fun i=>shlI .i64 1 (i:Int)) (fun w=>w==s) (fun i x hx=>by
  have hi:=(List.getElem?_eq_some_iff.1 hx).1
  have hi:i < 2:=hi
  have hw:Zul (i:Int)=some x:=by
   (unfold Zul LF.run;dsimp only [Z19,LT.den])
   show Option.bind (Option.bind (idx? supW (i:Int)) fun x1=>some (.inr x1)) (Ze3 Zqt.step)=_
   rw [Zg2 hx];rfl
  show (Zd5 s 2 (i:Int)).den=_
  dsimp only [Zd5,LT.den]
  rw [decide_eq_true (show (i:Int) < 2 by omega),hw,Zfs (by omega) (by omega)]
  simp only [cond_true,Option.bind_some,Za29]
  rw [show decide (¬ (i:Int) < 0)=true from decide_eq_true (by omega)]
  cases x==s<;>rfl)
 rcases hfind with ⟨h1,i,h2,h3⟩ | ⟨h1,h2⟩
 ·exact⟨_,h3,by rw [Zbdr i (Nat.lt_of_lt_of_le h2 (by decide))];unfold Zgq;rw [h1];rfl⟩
 ·refine⟨0,h2.trans (Zcx ?_),by unfold Zgq;rw [h1];rfl⟩
  show (Zd5 s 2 2).den=_
  rfl
theorem Zbh6(s:List UInt8):∃ x,Zhp s 6=some x∧(x==0) = !Zgq typW s:=by
 (unfold Zhp LF.run;dsimp only [Zme,LT.den])
 simp only [Option.bind_some,Zkc]
 have hfind:=Zwt (step:=Zgm.step) typW (fun i => .L0 s 6 (i:Int)) (fun i=>shlI .i64 1 (i:Int)) (fun w=>w==s) (fun i x hx=>by
  have hi:=(List.getElem?_eq_some_iff.1 hx).1
  have hi:i < 6:=hi
  have hw:Zyb (i:Int)=some x:=by
   (unfold Zyb LF.run;dsimp only [Z4z,LT.den])
   show Option.bind (Option.bind (idx? typW (i:Int)) fun x1=>some (.inr x1)) (Ze3 Zsh.step)=_
   rw [Zg2 hx];rfl
  show (Zej s 6 (i:Int)).den=_
  dsimp only [Zej,LT.den]
  rw [decide_eq_true (show (i:Int) < 6 by omega),hw,Zfs (by omega) (by omega)]
  simp only [cond_true,Option.bind_some,Za29]
  rw [show decide (¬ (i:Int) < 0)=true from decide_eq_true (by omega)]
  cases x==s<;>rfl)
 rcases hfind with ⟨h1,i,h2,h3⟩ | ⟨h1,h2⟩
 ·exact⟨_,h3,by rw [Zbdr i (Nat.lt_of_lt_of_le h2 (by decide))];unfold Zgq;rw [h1];rfl⟩
 ·refine⟨0,h2.trans (Zcx ?_),by unfold Zgq;rw [h1];rfl⟩
  show (Zej s 6 6).den=_
  rfl
theorem Zbfv(s:List UInt8):Zaaf s=some (subV s):=by
 (unfold Zaaf LF.run;dsimp only [Zafu,LT.den];unfold subV)
 obtain⟨x,hx,ex⟩:=Zbh5 s
 obtain⟨y,hy,ey⟩:=Zbh6 s
 simp only [Zba2,hx,hy,Option.bind_some,ex,ey]
 exact Ziz fun _=>Ziz fun _=>rfl
theorem Zan5(l:List (List UInt8))(s:List UInt8)(hl:l.length≤4611686018427387904):∃ x,Zww l s=some x∧decide (x < 0) = !Zgq l s∧decide (x≥0)=Zgq l s:=by
 (unfold Zww LF.run;dsimp only [Z5t,LT.den])
 simp only [Option.bind_some,Zkc]
 have hfind:=Zwt (step:=Z5u.step) l (fun i => .L0 l s (i:Int)) (fun i=>(i:Int)) (fun w=>w==s) (fun i x hx=>by
  have hi:=(List.getElem?_eq_some_iff.1 hx).1
  show (Zg3 _ _ _).den=_
  dsimp only [Zg3,LT.den]
  rw [decide_eq_true (by omega),Zg2 hx,Zws hi hl]
  simp only [cond_true,Option.bind_some]
  cases x==s<;>rfl)
 rcases hfind with ⟨h1,i,h2,h3⟩ | ⟨h1,h2⟩
 ·refine⟨_,h3,?_,?_⟩<;>unfold Zgq<;>rw [h1]
  ·exact decide_eq_false (by omega)
  ·exact decide_eq_true (by omega)
 ·refine⟨-1,h2.trans (Zcx ?_),?_,?_⟩
  ·show (Zg3 _ _ _).den=_
   dsimp only [Zg3,LT.den]
   rw [decide_eq_false (by omega)];rfl
  ·unfold Zgq;rw [h1];rfl
  ·unfold Zgq;rw [h1];rfl
theorem Za5s(s:List UInt8):Zwx s=some (subV s):=by
 (unfold Zwx LF.run;dsimp only [Z5v,LT.den];unfold subV)
 obtain⟨x,hx,ex,_⟩:=Zan5 supW s (by decide)
 obtain⟨y,hy,ey,_⟩:=Zan5 typW s (by decide)
 have h1:Zi0=some supW:=rfl
 have h2:Zkq=some typW:=rfl
 simp only [Za8b,h1,h2,hx,hy,Option.bind_some,ex,ey]
 exact Ziz fun _=>Ziz fun _=>rfl
theorem Za0b(l:Z8)(s:List UInt8)(hl:l.Subs.length≤4611686018427387904):Zsq l s=some (Zgq l.Subs s):=by
 (unfold Zsq LF.run;dsimp only [Z2p,LT.den])
 obtain⟨x,hx,_,ex⟩:=Zan5 l.Subs s hl
 simp only [hx,Option.bind_some,ex];rfl
theorem Zbds(l:Z8)(s:List UInt8)(hl:l.Subs.length≤4611686018427387904):Z6k l s=some (Zgq l.Subs s):=by
 (unfold Z6k LF.run;dsimp only [Zab0,LT.den];unfold Zg8 LF.run;dsimp only [Zgg,LT.den];unfold Zis LF.run;dsimp only [Zhm,LT.den])
 simp only [Option.bind_some,Zkc]
 have hfind:=Zwt (step:=Zc9.step) l.Subs (fun i => .L0 l.Subs s (l.Subs.length:Int) (i:Int)) (fun i=>(i:Int)) (fun w=>w==s) (fun i x hx=>by
  have hi:=(List.getElem?_eq_some_iff.1 hx).1
  show (Zb8 _ _ _ _).den=_
  dsimp only [Zb8,LT.den]
  rw [decide_eq_true (by omega),Zg2 hx,Zws hi hl]
  simp only [cond_true,Option.bind_some]
  rw [show (s==x)=(x==s) from by rw [Za85,Za85];simp [eq_comm]]
  cases x==s<;>rfl
)
 rcases hfind with ⟨h1,i,h2,h3⟩ | ⟨h1,h2⟩
 ·rw [show (Zcg.L0 l.Subs s (l.Subs.length:Int) 0) = .L0 l.Subs s (l.Subs.length:Int) ((0:Nat):Int) from rfl,h3]
  unfold Zgq;rw [h1]
  simp only [Option.bind_some,Zeo]
  rw [decide_eq_true (by omega)]
 ·have he:Zcm Zc9.step (.L0 l.Subs s (l.Subs.length:Int) (l.Subs.length:Int))=some (-1):=by
   refine Zcx ?_
   show (Zb8 _ _ _ _).den=_
   dsimp only [Zb8,LT.den]
   rw [decide_eq_false (by omega)];rfl
  rw [show (Zcg.L0 l.Subs s (l.Subs.length:Int) 0) = .L0 l.Subs s (l.Subs.length:Int) ((0:Nat):Int) from rfl,h2,he]
  unfold Zgq;rw [h1];rfl
def btw(n m:Int):Bool:=decide (n≥0)&&decide (n≤m)
def Zos(b:Zd):Bool:=btw b.Kind 3&&(btw b.N 1000000&&(b.Kind != 0||b.N==0))
def Z7e(a b:Int):Bool:=Zbm .and .i64 a b==0
def filV(f:Ze):Bool:=
 btw f.Zone 5&&(btw f.Who 2&&(btw f.Self 2&&(btw f.Tap 2&&(btw f.Keys 131071&&(btw f.Types 63&&(btw f.NotTypes 63&&(Z7e f.Types f.NotTypes &&
 (btw f.Colors 31&&(btw f.NotColors 31&&(Z7e f.Colors f.NotColors&&((f.Sub==[]||subV f.Sub)&&(Zos f.Power&&(Zos f.Tough&&Zos f.Value)))))))))))))
theorem Zata(n m:Int):Zuk n m=some (btw n m):=by
 (unfold Zuk LF.run;dsimp only [Z17,LT.den];unfold btw)
 exact Ziz fun _=>rfl
theorem Zba3(b:Zd):Zum b=some (Zos b):=by
 (unfold Zum LF.run;dsimp only [Z2a,LT.den];unfold Zos)
 simp only [Zata,Option.bind_some]
 refine Ziz fun _=>Ziz fun _=>?_
 cases b.Kind != 0<;>rfl
theorem Zbdt(f:Ze):(Zm2 f).den.bind (Ze3 Zpm.step)=some (Zos f.Power&&(Zos f.Tough&&Zos f.Value)):=by
 dsimp only [Zm2,LT.den]
 simp only [Zba3,Option.bind_some]
 exact Ziz fun _=>Ziz fun _=>rfl
theorem Za5t(f:Ze):Zafw f=some (filV f):=by
 (unfold Zafw LF.run;dsimp only [Zaky,LT.den];unfold filV)
 simp only [Zata,Option.bind_some,Zbfv]
 refine Zdh fun _=>Zdh fun _=>Zdh fun _=>Zdh fun _=>Zdh fun _=>Zdh fun _=>Zdh fun _=>?_
 have dis:∀ {a b r:Bool} {c d:Int} {k:Option (Zv5 ⊕ Bool)},k.bind (Ze3 Zpm.step)=some r→(bif (Zbm .and .i64 c d != 0) then some (.inr false) else k).bind (Ze3 Zpm.step)=some (Z7e c d&&r):=by
  intro a b r c d k h
  unfold Z7e
  simp only [bne]
  exact Zdh fun _=>h
 refine dis (a:=true) (b:=true) (Zdh fun _=>Zdh fun _=>dis (a:=true) (b:=true) ?_)
 cases f.Sub==[] with
 | true=>simp only [Bool.not_true,cond_false,Bool.true_or,Bool.true_and];exact Zbdt f
 | false=>simp only [Bool.not_false,cond_true,Bool.false_or];exact Zdh fun _=>Zbdt f
theorem Zbfw(b:Zd):Zw0 b=some (Zos b):=by
 (unfold Zw0 LF.run;dsimp only [Z5x,LT.den])
 refine (Zbu fun _=>Zbu fun _=>Zbu fun _=>Zbu fun _=>(show _=some (b.Kind != 0||b.N==0) from by cases b.Kind != 0<;>rfl)).trans ?_
 congr 1
 (unfold Zos;unfold btw)
 rw [Bool.eq_iff_iff]
 simp only [Bool.and_eq_true,Bool.not_eq_true',decide_eq_false_iff_not,decide_eq_true_eq,ge_iff_le,gt_iff_lt,Int.not_lt]
 constructor
 ·rintro ⟨h1,h2,h3,h4,h5⟩;exact⟨⟨h1,h2⟩,⟨h3,h4⟩,h5⟩
 ·rintro ⟨⟨h1,h2⟩,⟨h3,h4⟩,h5⟩;exact⟨h1,h2,h3,h4,h5⟩
theorem Zatb:∀ (d i a b:Nat),i+d=6→a < 2 ^ 62→b < 2 ^ 62→Zcm Zpa.step (.L0 (a:Int) (b:Int) (i:Int))=some (Z04 d a b)
 | 0,i,a,b,hi,_,_=>by
  refine Zcx ?_
  show (Zg4 _ _ _).den=_
  dsimp only [Zg4,LT.den]
  rw [decide_eq_false (by omega)];rfl
 | d+1,i,a,b,hi,ha,hb=>by
  have hw:IntKind.wrap .i64 ((i:Int)+1)=((i+1:Nat):Int):=Zfs (by omega) (by omega)
  have hs:Zpa.step (.L0 (a:Int) (b:Int) (i:Int))=some (bif decide (a % 2=1)&&decide (b % 2=1) then .inr false else .inl (.L0 ((a / 2:Nat):Int) ((b / 2:Nat):Int) ((i+1:Nat):Int))):=by
   show (Zg4 _ _ _).den=_
   dsimp only [Zg4,LT.den]
   rw [decide_eq_true (by omega),Za87,Za87,Za86 a ha,Za86 b hb,hw]
   cases decide (a % 2=1)<;>cases decide (b % 2=1)<;>rfl
  unfold Z04
  by_cases h:a % 2=1∧b % 2=1
  ·rw [if_pos h]
   rw [decide_eq_true h.1,decide_eq_true h.2] at hs
   exact Zcx hs
  ·rw [if_neg h]
   have:(decide (a % 2=1)&&decide (b % 2=1))=false:=by
    rw [← Bool.decide_and];exact decide_eq_false h
   rw [this] at hs
   rw [Zid hs]
   exact Zatb d (i+1) (a / 2) (b / 2) (by omega) (by omega) (by omega)
theorem Za5u(a b m:Int)(hm:m < 64):Zwz a b m=some (btw a m&&(btw b m&&Z7e a b)):=by
 have key:∀ {r:Bool},(0≤a→a≤m→0≤b→b≤m→r=Z7e a b)→(!decide (a < 0)&&(!decide (a > m)&&(!decide (b < 0)&&(!decide (b > m)&&r))))=(btw a m&&(btw b m&&Z7e a b)):=by
  intro r hr
  unfold btw
  by_cases h1:0≤a
  ·by_cases h2:a≤m
   ·by_cases h3:0≤b
    ·by_cases h4:b≤m
     ·rw [hr h1 h2 h3 h4]
      simp [h1,h2,h3,h4,Int.not_lt.2]
     ·simp [h4,Int.not_le.1 h4]
    ·simp [h3,Int.not_le.1 h3]
   ·simp [h2,Int.not_le.1 h2]
  ·simp [h1,Int.not_le.1 h1]
 (unfold Zwz LF.run;dsimp only [Z5w,LT.den])
 by_cases hin:0≤a∧a≤m∧0≤b∧b≤m
 ·obtain⟨h1,h2,h3,h4⟩:=hin
  refine (Zbu (r := !decide (a > m)&&(!decide (b < 0)&&(!decide (b > m)&&Z7e a b))) fun _=>Zbu fun _=>Zbu fun _=>Zbu fun _=>?_).trans (congrArg some (key fun _ _ _ _=>rfl))
  obtain⟨x,rfl⟩:=Int.eq_ofNat_of_zero_le h1
  obtain⟨y,rfl⟩:=Int.eq_ofNat_of_zero_le h3
  show Zcm Zpa.step (.L0 (x:Int) (y:Int) ((0:Nat):Int))=_
  rw [Zatb 6 0 x y rfl (by omega) (by omega),Zbam (by omega)]
  unfold Z7e
  rw [Zbht (by omega) (by omega),Zq6]
  congr 1
  rw [decide_eq_decide];omega
 ·refine (Zbu (r := !decide (a > m)&&(!decide (b < 0)&&(!decide (b > m)&&Z7e a b))) fun e1=>Zbu fun e2=>Zbu fun e3=>Zbu fun e4=>?_).trans (congrArg some (key fun _ _ _ _=>rfl))
  simp only [decide_eq_false_iff_not] at e1 e2 e3 e4
  exact absurd ⟨by omega,by omega,by omega,by omega⟩ hin
theorem Za9a(f:Ze):(Zmv f).den.bind (Ze3 Zamz.step)=some (Zos f.Power&&(Zos f.Tough&&Zos f.Value)):=by
 dsimp only [Zmv,LT.den]
 simp only [Zbfw,Option.bind_some]
 exact Ziz fun _=>Ziz fun _=>rfl
theorem Zazi(f:Ze):Z70 f=some (filV f):=by
 (unfold Z70 LF.run;dsimp only [Zamy,LT.den])
 simp only [Za5u _ _ _ (by decide:(63:Int) < 64),Za5u _ _ _ (by decide:(31:Int) < 64),Option.bind_some,Za5s]
 refine (Zbu fun _=>Zbu fun _=>Zbu fun _=>Zbu fun _=>Zbu fun _=>Zbu fun _=>Zbu fun _=>Zbu fun _=>Zdh fun _=>Zdh fun _=>
  (show _=some ((f.Sub==[]||subV f.Sub)&&(!decide (f.Keys < 0)&&(!decide (f.Keys > 131071)&&(Zos f.Power&&(Zos f.Tough&&Zos f.Value))))) from ?_)).trans ?_
 ·cases f.Sub==[] with
  | true=>simp only [Bool.not_true,cond_false,Bool.true_or,Bool.true_and];exact Zbu fun _=>Zbu fun _=>Za9a f
  | false=>simp only [Bool.not_false,cond_true,Bool.false_or];exact Zdh fun _=>Zbu fun _=>Zbu fun _=>Za9a f
 ·congr 1
  (unfold filV;unfold btw)
  rw [Bool.eq_iff_iff]
  simp only [Bool.and_eq_true,Bool.not_eq_true',decide_eq_false_iff_not,decide_eq_true_eq,ge_iff_le,gt_iff_lt,Int.not_lt]
  constructor
  ·rintro ⟨z1,z2,w1,w2,s1,s2,t1,t2,⟨⟨a1,a2⟩,⟨b1,b2⟩,d1⟩,⟨⟨c1,c2⟩,⟨e1,e2⟩,d2⟩,su,k1,k2,p,q,v⟩
   exact⟨⟨z1,z2⟩,⟨w1,w2⟩,⟨s1,s2⟩,⟨t1,t2⟩,⟨k1,k2⟩,⟨a1,a2⟩,⟨b1,b2⟩,d1,⟨c1,c2⟩,⟨e1,e2⟩,d2,su,p,q,v⟩
  ·rintro ⟨⟨z1,z2⟩,⟨w1,w2⟩,⟨s1,s2⟩,⟨t1,t2⟩,⟨k1,k2⟩,⟨a1,a2⟩,⟨b1,b2⟩,d1,⟨c1,c2⟩,⟨e1,e2⟩,d2,su,p,q,v⟩
   exact⟨z1,z2,w1,w2,s1,s2,t1,t2,⟨⟨a1,a2⟩,⟨b1,b2⟩,d1⟩,⟨⟨c1,c2⟩,⟨e1,e2⟩,d2⟩,su,k1,k2,p,q,v⟩
end Go.PW
