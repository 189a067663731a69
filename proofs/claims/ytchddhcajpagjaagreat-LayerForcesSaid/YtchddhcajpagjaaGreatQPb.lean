import Derived.Test.YtchddhcajpagjaaGreatQP
set_option linter.all false
set_option maxRecDepth 100000
namespace Go.PW
def supW:List (List UInt8):=[[98,97,115,105,99],[117,110,105,113,117,101]]
def typW:List (List UInt8):=[[99,114,101,97,116,117,114,101],[105,110,115,116,97,110,116],[114,105,116,117,97,108],[114,101,108,105,99],[99,104,97,114,109],[108,97,110,100]]
def Zl7(l:List (List UInt8))(s:List UInt8):Bool:=l.any fun w=>w==s
def subV(s:List UInt8):Bool:=Zawc s&&(!Zl7 supW s && !Zl7 typW s)
theorem Zadi(l:List (List UInt8))(s:List UInt8)(hl:l.length<=4611686018427387904):∃ x,Zsy l s=some x/\decide (x < 0) = !Zl7 l s/\decide (x>=0)=Zl7 l s:=by
 (unfold Zsy LF.run;dsimp only [Zz9,LT.den])
 simp only [Option.bind_some,Zq8]
 have hfind:=Z6e (step:=Z0a.step) l (fun i => .L0 l s (i:Int)) (fun i=>(i:Int)) (fun w=>w==s) (fun i x hx=>by
  have hi:=(List.getElem?_eq_some_iff.1 hx).1
  show (Zgw _ _ _).den=_
  dsimp only [Zgw,LT.den]
  rw [decide_eq_true (by omega),Zpa hx,Zak0 hi hl]
  simp only [cond_true,Option.bind_some]
  cases x==s<;>rfl)
 rcases hfind with ⟨h1,i,h2,h3⟩ | ⟨h1,h2⟩
 .refine⟨_,h3,?_,?_⟩<;>unfold Zl7<;>rw [h1]
  .exact decide_eq_false (by omega)
  .exact decide_eq_true (by omega)
 .refine⟨-1,h2.trans (Zeb ?_),?_,?_⟩
  .show (Zgw _ _ _).den=_
   dsimp only [Zgw,LT.den]
   rw [decide_eq_false (by omega)];rfl
  .unfold Zl7;rw [h1];rfl
  .unfold Zl7;rw [h1];rfl
theorem Zarb(s:List UInt8):Zsz s=some (subV s):=by
 (unfold Zsz LF.run;dsimp only [Z0b,LT.den];unfold subV)
 obtain⟨x,hx,ex,_⟩:=Zadi supW s (by decide)
 obtain⟨y,hy,ey,_⟩:=Zadi typW s (by decide)
 have h1:Zij=some supW:=rfl
 have h2:Zjq=some typW:=rfl
 simp only [Zatt,h1,h2,hx,hy,Option.bind_some,ex,ey]
 exact Z1z fun _=>Z1z fun _=>rfl
theorem Zamo(l:Z6)(s:List UInt8)(hl:l.Subs.length<=4611686018427387904):Z35 l s=some (Zl7 l.Subs s):=by
 (unfold Z35 LF.run;dsimp only [Z78,LT.den])
 obtain⟨x,hx,_,ex⟩:=Zadi l.Subs s hl
 simp only [hx,Option.bind_some,ex];rfl
theorem Zayw(l:Z6)(s:List UInt8)(hl:l.Subs.length<=4611686018427387904):Z03 l s=some (Zl7 l.Subs s):=by
 (unfold Z03 LF.run;dsimp only [Z46,LT.den];unfold Zgy LF.run;dsimp only [Zgc,LT.den];unfold Zh7 LF.run;dsimp only [Zg7,LT.den])
 simp only [Option.bind_some,Zq8]
 have hfind:=Z6e (step:=Zct.step) l.Subs (fun i => .L0 l.Subs s (l.Subs.length:Int) (i:Int)) (fun i=>(i:Int)) (fun w=>w==s) (fun i x hx=>by
  have hi:=(List.getElem?_eq_some_iff.1 hx).1
  show (Zbv _ _ _ _).den=_
  dsimp only [Zbv,LT.den]
  rw [decide_eq_true (by omega),Zpa hx,Zak0 hi hl]
  simp only [cond_true,Option.bind_some]
  rw [show (s==x)=(x==s) from by rw [Zaui,Zaui];simp [eq_comm]]
  cases x==s<;>rfl
)
 rcases hfind with ⟨h1,i,h2,h3⟩ | ⟨h1,h2⟩
 .rw [show (Zbz.L0 l.Subs s (l.Subs.length:Int) 0) = .L0 l.Subs s (l.Subs.length:Int) ((0:Nat):Int) from rfl,h3]
  unfold Zl7;rw [h1]
  simp only [Option.bind_some,Zjg]
  rw [decide_eq_true (by omega)]
 .have he:Zcr Zct.step (.L0 l.Subs s (l.Subs.length:Int) (l.Subs.length:Int))=some (-1):=by
   refine Zeb ?_
   show (Zbv _ _ _ _).den=_
   dsimp only [Zbv,LT.den]
   rw [decide_eq_false (by omega)];rfl
  rw [show (Zbz.L0 l.Subs s (l.Subs.length:Int) 0) = .L0 l.Subs s (l.Subs.length:Int) ((0:Nat):Int) from rfl,h2,he]
  unfold Zl7;rw [h1];rfl
def btw(n m:Int):Bool:=decide (n>=0)&&decide (n<=m)
def Zyf(b:Za):Bool:=btw b.Kind 3&&(btw b.N 1000000&&(b.Kind != 0||b.N==0))
def Z8f(a b:Int):Bool:=Zax .and .i64 a b==0
def filV(f:Zc):Bool:=
 btw f.Zone 5&&(btw f.Who 2&&(btw f.Self 2&&(btw f.Tap 2&&(btw f.Keys 131071&&(btw f.Types 63&&(btw f.NotTypes 63&&(Z8f f.Types f.NotTypes &&
 (btw f.Colors 31&&(btw f.NotColors 31&&(Z8f f.Colors f.NotColors&&((f.Sub==[]||subV f.Sub)&&(Zyf f.Power&&(Zyf f.Tough&&Zyf f.Value)))))))))))))
theorem Za05(b:Za):Zs2 b=some (Zyf b):=by
 (unfold Zs2 LF.run;dsimp only [Z0d,LT.den])
 refine (Zbc fun _=>Zbc fun _=>Zbc fun _=>Zbc fun _=>(show _=some (b.Kind != 0||b.N==0) from by cases b.Kind != 0<;>rfl)).trans ?_
 congr 1
 (unfold Zyf;unfold btw)
 rw [Bool.eq_iff_iff]
 simp only [Bool.and_eq_true,Bool.not_eq_true',decide_eq_false_iff_not,decide_eq_true_eq,ge_iff_le,gt_iff_lt,Int.not_lt]
 constructor
 .rintro ⟨h1,h2,h3,h4,h5⟩;exact⟨⟨h1,h2⟩,⟨h3,h4⟩,h5⟩
 .rintro ⟨⟨h1,h2⟩,⟨h3,h4⟩,h5⟩;exact⟨h1,h2,h3,h4,h5⟩
theorem Zahm:∀ (d i a b:Nat),i+d=6->a < 2 ^ 62->b < 2 ^ 62->Zcr Zmy.step (.L0 (a:Int) (b:Int) (i:Int))=some (Zwr d a b)
 | 0,i,a,b,hi,_,_=>by
  refine Zeb ?_
  show (Zgx _ _ _).den=_
  dsimp only [Zgx,LT.den]
  rw [decide_eq_false (by omega)];rfl
 | d+1,i,a,b,hi,ha,hb=>by
  have hw:IntKind.wrap .i64 ((i:Int)+1)=((i+1:Nat):Int):=Zgv (by omega) (by omega)
  have hs:Zmy.step (.L0 (a:Int) (b:Int) (i:Int))=some (bif decide (a % 2=1)&&decide (b % 2=1) then .inr false else .inl (.L0 ((a / 2:Nat):Int) ((b / 2:Nat):Int) ((i+1:Nat):Int))):=by
   show (Zgx _ _ _).den=_
   dsimp only [Zgx,LT.den]
   rw [decide_eq_true (by omega),Zauk,Zauk,Zauj a ha,Zauj b hb,hw]
   cases decide (a % 2=1)<;>cases decide (b % 2=1)<;>rfl
  unfold Zwr
  by_cases h:a % 2=1/\b % 2=1
  .rw [if_pos h]
   rw [decide_eq_true h.1,decide_eq_true h.2] at hs
   exact Zeb hs
  .rw [if_neg h]
   have:(decide (a % 2=1)&&decide (b % 2=1))=false:=by
    rw [<- Bool.decide_and];exact decide_eq_false h
   rw [this] at hs
   rw [Zjf hs]
   exact Zahm d (i+1) (a / 2) (b / 2) (by omega) (by omega) (by omega)
theorem Zard(a b m:Int)(hm:m < 64):Zs1 a b m=some (btw a m&&(btw b m&&Z8f a b)):=by
 have key:∀ {r:Bool},(0<=a->a<=m->0<=b->b<=m->r=Z8f a b)->(!decide (a < 0)&&(!decide (a > m)&&(!decide (b < 0)&&(!decide (b > m)&&r))))=(btw a m&&(btw b m&&Z8f a b)):=by
  intro r hr
  unfold btw
  by_cases h1:0<=a
  .by_cases h2:a<=m
   .by_cases h3:0<=b
    .by_cases h4:b<=m
     .rw [hr h1 h2 h3 h4]
      simp [h1,h2,h3,h4,Int.not_lt.2]
     .simp [h4,Int.not_le.1 h4]
    .simp [h3,Int.not_le.1 h3]
   .simp [h2,Int.not_le.1 h2]
  .simp [h1,Int.not_le.1 h1]
 (unfold Zs1 LF.run;dsimp only [Z0c,LT.den])
 by_cases hin:0<=a/\a<=m/\0<=b/\b<=m
 .obtain⟨h1,h2,h3,h4⟩:=hin
  refine (Zbc (r := !decide (a > m)&&(!decide (b < 0)&&(!decide (b > m)&&Z8f a b))) fun _=>Zbc fun _=>Zbc fun _=>Zbc fun _=>?_).trans (congrArg some (key fun _ _ _ _=>rfl))
  obtain⟨x,rfl⟩:=Int.eq_ofNat_of_zero_le h1
  obtain⟨y,rfl⟩:=Int.eq_ofNat_of_zero_le h3
  show Zcr Zmy.step (.L0 (x:Int) (y:Int) ((0:Nat):Int))=_
  rw [Zahm 6 0 x y rfl (by omega) (by omega),Zavu (by omega)]
  unfold Z8f
  rw [Za18 (by omega) (by omega),Z9f]
  congr 1
  rw [decide_eq_decide];omega
 .refine (Zbc (r := !decide (a > m)&&(!decide (b < 0)&&(!decide (b > m)&&Z8f a b))) fun e1=>Zbc fun e2=>Zbc fun e3=>Zbc fun e4=>?_).trans (congrArg some (key fun _ _ _ _=>rfl))
  simp only [decide_eq_false_iff_not] at e1 e2 e3 e4
  exact absurd ⟨by omega,by omega,by omega,by omega⟩ hin
theorem Zauo(f:Zc):(Zk4 f).den.bind (Zh0 Zab8.step)=some (Zyf f.Power&&(Zyf f.Tough&&Zyf f.Value)):=by
 dsimp only [Zk4,LT.den]
 simp only [Za05,Option.bind_some]
 exact Z1z fun _=>Z1z fun _=>rfl
theorem Zayx(f:Zc):Z14 f=some (filV f):=by
 (unfold Z14 LF.run;dsimp only [Zab7,LT.den])
 simp only [Zard _ _ _ (by decide:(63:Int) < 64),Zard _ _ _ (by decide:(31:Int) < 64),Option.bind_some,Zarb]
 refine (Zbc fun _=>Zbc fun _=>Zbc fun _=>Zbc fun _=>Zbc fun _=>Zbc fun _=>Zbc fun _=>Zbc fun _=>Z1y fun _=>Z1y fun _=>
  (show _=some ((f.Sub==[]||subV f.Sub)&&(!decide (f.Keys < 0)&&(!decide (f.Keys > 131071)&&(Zyf f.Power&&(Zyf f.Tough&&Zyf f.Value))))) from ?_)).trans ?_
 .cases f.Sub==[] with
  | true=>simp only [Bool.not_true,cond_false,Bool.true_or,Bool.true_and];exact Zbc fun _=>Zbc fun _=>Zauo f
  | false=>simp only [Bool.not_false,cond_true,Bool.false_or];exact Z1y fun _=>Zbc fun _=>Zbc fun _=>Zauo f
 .congr 1
  (unfold filV;unfold btw)
  rw [Bool.eq_iff_iff]
  simp only [Bool.and_eq_true,Bool.not_eq_true',decide_eq_false_iff_not,decide_eq_true_eq,ge_iff_le,gt_iff_lt,Int.not_lt]
  constructor
  .rintro ⟨z1,z2,w1,w2,s1,s2,t1,t2,⟨⟨a1,a2⟩,⟨b1,b2⟩,d1⟩,⟨⟨c1,c2⟩,⟨e1,e2⟩,d2⟩,su,k1,k2,p,q,v⟩
   exact⟨⟨z1,z2⟩,⟨w1,w2⟩,⟨s1,s2⟩,⟨t1,t2⟩,⟨k1,k2⟩,⟨a1,a2⟩,⟨b1,b2⟩,d1,⟨c1,c2⟩,⟨e1,e2⟩,d2,su,p,q,v⟩
  .rintro ⟨⟨z1,z2⟩,⟨w1,w2⟩,⟨s1,s2⟩,⟨t1,t2⟩,⟨k1,k2⟩,⟨a1,a2⟩,⟨b1,b2⟩,d1,⟨c1,c2⟩,⟨e1,e2⟩,d2,su,p,q,v⟩
   exact⟨z1,z2,w1,w2,s1,s2,t1,t2,⟨⟨a1,a2⟩,⟨b1,b2⟩,d1⟩,⟨⟨c1,c2⟩,⟨e1,e2⟩,d2⟩,su,k1,k2,p,q,v⟩
end Go.PW
