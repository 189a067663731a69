import Derived.Test.YtchddhcajpagjaaGreatQPb
import Derived.Test.YtchddhcajpagjaaGreatPwX
set_option linter.all false
set_option maxRecDepth 100000
namespace Go.PW
theorem Zr2{n:Int}(h1 : -1000000<=n)(h2:n<=1000000):Zyu n=some n/\Zaea n=some n:=by
 constructor
 ·(unfold Zyu LF.run;dsimp only [Z6w,LT.den])
  simp only [Option.bind_some,Zgd]
  (unfold minI;unfold maxI)
  congr 1
  repeat' split
  all_goals omega
 ·(unfold Zaea LF.run;dsimp only [Zaht,LT.den])
  rw [decide_eq_false (by omega),decide_eq_false (by omega)];rfl
theorem Zael{a b:Int}(h1:0<=a)(h2:a<=100000)(h3:0<=b)(h4:b<=100000):Z8o a b=some (a+b)/\Zapi a b=some (a+b):=by
 obtain⟨a1,a2⟩:=Zr2 (n:=a) (by omega) (by omega)
 obtain⟨b1,b2⟩:=Zr2 (n:=b) (by omega) (by omega)
 obtain⟨c1,c2⟩:=Zr2 (n:=a+b) (by omega) (by omega)
 have hw:IntKind.wrap .i64 (a+b)=a+b:=Zgz (by omega) (by omega)
 constructor
 ·(unfold Z8o LF.run;dsimp only [Zadz,LT.den])
  simp only [a1,b1,c1,hw,Option.bind_some];rfl
 ·(unfold Zapi LF.run;dsimp only [Zark,LT.den])
  simp only [a2,b2,c2,hw,Option.bind_some];rfl
theorem mul_zero{a:Int}(h1:0<=a)(h2:a<=100000):Z8s a 0=some 0/\Zapj a 0=some 0:=by
 obtain⟨a1,a2⟩:=Zr2 (n:=a) (by omega) (by omega)
 obtain⟨b1,b2⟩:=Zr2 (n:=0) (by omega) (by omega)
 have hw:IntKind.wrap .i64 (a*0)=0:=by rw [Int.mul_zero];rfl
 constructor
 ·(unfold Z8s LF.run;dsimp only [Zad5,LT.den])
  simp only [a1,b1,hw,Option.bind_some];rfl
 ·(unfold Zapj LF.run;dsimp only [Zarn,LT.den])
  simp only [a2,b2,hw,Option.bind_some];rfl
def Z5k(c:Zt):Bool:=btw c.Generic 99&&(btw c.X 2&&c.Color.list.all fun n=>btw n 9)
theorem Za11(c:Zt):Z8j c=some (Z5k c):=by
 (unfold Z8j LF.run;dsimp only [Zady,LT.den])
 simp only [Option.bind_some,Zng]
 have:=Z11 (st:=fun i=>Zpi.L0 c c.Color (i:Int)) (step:=Zyq.step) (bad:=false) c.Color.list (fun n=>btw n 9) (fun i x hx=>by
  have hi:=(List.getElem?_eq_some_iff.1 hx).1
  have hi:i < 5:=hi
  show (Znm _ _ _).den=_
  dsimp only [Znm,LT.den]
  rw [decide_eq_true (by omega),Zla hx,Zgz (by omega) (by omega)]
  simp only [cond_true,Option.bind_some]
  unfold btw
  by_cases h1:x < 0
  .rw [decide_eq_true h1,decide_eq_false (show ¬ x>=0 by omega)];rfl
  .rw [decide_eq_false h1,decide_eq_true (show x>=0 by omega)]
   by_cases h2:x > 9
   .rw [decide_eq_true h2,decide_eq_false (show ¬ x<=9 by omega)];rfl
   .rw [decide_eq_false h2,decide_eq_true (show x<=9 by omega)];rfl)
 rw [show (Zpi.L0 c c.Color 0) = .L0 c c.Color ((0:Nat):Int) from rfl,this]
 have he:Zdf Zyq.step (.L0 c c.Color ((c.Color.list.length:Nat):Int))=some (btw c.Generic 99&&btw c.X 2):=by
  have e:Zyq.step (.L0 c c.Color ((c.Color.list.length:Nat):Int))=some (.inr (btw c.Generic 99&&btw c.X 2)):=by
   show (Znm c c.Color 5).den=_
   (dsimp only [Znm,LT.den];unfold btw)
   rw [decide_eq_false (by omega)]
   cases decide (c.Generic>=0)<;>cases decide (c.Generic<=99)<;>cases decide (c.X>=0)<;>rfl
  exact Zd7 e
 rw [he]
 unfold Z5k
 cases c.Color.list.all fun n=>btw n 9<;>cases btw c.Generic 99<;>cases btw c.X 2<;>rfl
theorem Zazf(c:Zt):Z7x c=some (Z5k c):=by
 (unfold Z7x LF.run;dsimp only [Zaim,LT.den])
 have hl:Zdf Zlp.step (.L0 c 0)=some (c.Color.list.all fun n=>btw n 9):=by
  have:=Z11 (st:=fun i=>Znj.L0 c (i:Int)) (step:=Zlp.step) (bad:=false) c.Color.list (fun n=>btw n 9) (fun i x hx=>by
   have hi:=(List.getElem?_eq_some_iff.1 hx).1
   have hi:i < 5:=hi
   show (Zpb _ _).den=_
   dsimp only [Zpb,LT.den]
   rw [decide_eq_true (by omega),Zla hx,Zgz (by omega) (by omega)]
   simp only [cond_true,Option.bind_some]
   unfold btw
   by_cases h1:x < 0
   .rw [decide_eq_true h1,decide_eq_false (show ¬ x>=0 by omega)];rfl
   .rw [decide_eq_false h1,decide_eq_true (show x>=0 by omega)]
    by_cases h2:x > 9
    .rw [decide_eq_true h2,decide_eq_false (show ¬ x<=9 by omega)];rfl
    .rw [decide_eq_false h2,decide_eq_true (show x<=9 by omega)];rfl)
  rw [show (Znj.L0 c 0) = .L0 c ((0:Nat):Int) from rfl,this]
  have he:Zdf Zlp.step (.L0 c ((c.Color.list.length:Nat):Int))=some true:=by
   refine Zd7 ?_
   show (Zpb c 5).den=_
   rfl
  rw [he]
  cases c.Color.list.all fun n=>btw n 9<;>rfl
 refine (Zb2 fun _=>Zb2 fun _=>Zb2 fun _=>Zb2 fun _=>(show Option.bind (some (Sum.inl (Znj.L0 c 0))) (Zib Zlp.step)=some (c.Color.list.all fun n=>btw n 9) from hl)).trans ?_
 congr 1
 (unfold Z5k;unfold btw)
 rw [Bool.eq_iff_iff]
 simp only [Bool.and_eq_true,Bool.not_eq_true',decide_eq_false_iff_not,decide_eq_true_eq,ge_iff_le,gt_iff_lt,Int.not_lt]
 constructor
 .rintro ⟨h1,h2,h3,h4,h5⟩;exact⟨⟨h1,h2⟩,⟨h3,h4⟩,h5⟩
 .rintro ⟨⟨h1,h2⟩,⟨h3,h4⟩,h5⟩;exact⟨h1,h2,h3,h4,h5⟩
def valV(c:Zt):Int:=bif Z5k c then c.Generic+c.Color.a0+c.Color.a1+c.Color.a2+c.Color.a3+c.Color.a4 else 0
theorem Zazg{c:Zt}(h:Z5k c=true):(0<=c.Generic/\c.Generic<=99)/\(0<=c.X/\c.X<=2)/\(0<=c.Color.a0/\c.Color.a0<=9)/\(0<=c.Color.a1/\c.Color.a1<=9)/\(0<=c.Color.a2/\c.Color.a2<=9)/\(0<=c.Color.a3/\c.Color.a3<=9)/\(0<=c.Color.a4/\c.Color.a4<=9):=by
 simpa [Z5k,btw,A5.list] using h
theorem Zaw2(c:Zt):Zu1 c 0=some (valV c)/\Zaee c 0=some (valV c):=by
 (unfold Zu1 LF.run;dsimp only [Z3d,LT.den];unfold Zaee LF.run;dsimp only [Zahy,LT.den];unfold valV)
 rw [Za11,Zazf]
 simp only [Option.bind_some]
 cases hc:Z5k c with
 | false=>exact⟨rfl,rfl⟩
 | true=>
  obtain⟨g,x,h0,h1,h2,h3,h4⟩:=Zazg hc
  obtain⟨gen,xx,⟨a0,a1,a2,a3,a4⟩⟩:=c
  simp only at g x h0 h1 h2 h3 h4 ⊢
  simp only [Bool.not_true,cond_false,Option.bind_some,Zng,cond_true]
  constructor
  .have hw:∀ {n:Int},0<=n->n<=1000->IntKind.wrap .i64 n=n:=fun h1 h2=>Zgz (by omega) (by omega)
   have r:∀ (v i y:Int),i < 5->idx? [a0,a1,a2,a3,a4] i=some y->0<=v+y->v+y<=1000->0<=i->Zdf Zu0.step (.L0 0 ⟨gen,xx,⟨a0,a1,a2,a3,a4⟩⟩ v ⟨a0,a1,a2,a3,a4⟩ i)=Zdf Zu0.step (.L0 0 ⟨gen,xx,⟨a0,a1,a2,a3,a4⟩⟩ (v+y) ⟨a0,a1,a2,a3,a4⟩ (i+1)):=fun v i y hi hy h1 h2 h0=>by
    refine Zlm ?_
    show (Zi6 _ _ _ _ _).den=_
    dsimp only [Zi6,LT.den]
    rw [decide_eq_true hi,show idx? (A5.list (⟨a0,a1,a2,a3,a4⟩:A5 Int)) i=some y from hy,Option.bind_some,hw h1 h2,Zgz (by omega) (by omega)];rfl
   rw [r gen 0 a0 (by omega) rfl (by omega) (by omega) (by omega),r _ _ a1 (by omega) rfl (by omega) (by omega) (by omega),r _ _ a2 (by omega) rfl (by omega) (by omega) (by omega),r _ _ a3 (by omega) rfl (by omega) (by omega) (by omega),r _ _ a4 (by omega) rfl (by omega) (by omega) (by omega)]
   refine Zd7 ?_
   show (Zi6 _ _ _ _ 5).den=_
   dsimp only [Zi6,LT.den]
   have e1:=(mul_zero (a:=xx) (by omega) (by omega)).1
   have e2:=(Zael (a:=gen+a0+a1+a2+a3+a4) (b:=0) (by omega) (by omega) (by omega) (by omega)).1
   rw [decide_eq_false (by omega)]
   simp only [cond_false,show maxI 0 0=0 from rfl,e1,e2,Option.bind_some,Int.add_zero]
  .have r:∀ (v i y:Int),i < 5->idx? [a0,a1,a2,a3,a4] i=some y->0<=v->v<=1000->0<=y->y<=9->0<=i->Zdf Zxn.step (.L0 0 ⟨gen,xx,⟨a0,a1,a2,a3,a4⟩⟩ v i)=Zdf Zxn.step (.L0 0 ⟨gen,xx,⟨a0,a1,a2,a3,a4⟩⟩ (v+y) (i+1)):=fun v i y hi hy h1 h2 h3 h4 h0=>by
    refine Zlm ?_
    show (Zpw _ _ _ _).den=_
    dsimp only [Zpw,LT.den]
    rw [decide_eq_true hi,show idx? (A5.list (⟨a0,a1,a2,a3,a4⟩:A5 Int)) i=some y from hy,Option.bind_some,(Zael h1 (by omega) h3 (by omega)).2,Option.bind_some,Zgz (by omega) (by omega)];rfl
   rw [r gen 0 a0 (by omega) rfl (by omega) (by omega) (by omega) (by omega) (by omega),r _ _ a1 (by omega) rfl (by omega) (by omega) (by omega) (by omega) (by omega),r _ _ a2 (by omega) rfl (by omega) (by omega) (by omega) (by omega) (by omega),r _ _ a3 (by omega) rfl (by omega) (by omega) (by omega) (by omega) (by omega),r _ _ a4 (by omega) rfl (by omega) (by omega) (by omega) (by omega) (by omega)]
   refine Zd7 ?_
   show (Zpw _ _ _ 5).den=_
   dsimp only [Zpw,LT.den]
   have e1:=(mul_zero (a:=xx) (by omega) (by omega)).2
   have e2:=(Zael (a:=gen+a0+a1+a2+a3+a4) (b:=0) (by omega) (by omega) (by omega) (by omega)).2
   rw [decide_eq_false (by omega),decide_eq_false (by omega)]
   simp only [cond_false,e1,e2,Option.bind_some,Int.add_zero]
def metV(b:Za)(n:Int):Bool:=bif b.Kind==0 then true else bif b.Kind==1 then decide (n>=b.N) else bif b.Kind==2 then decide (n<=b.N) else bif b.Kind==3 then n==b.N else false
theorem Zaaf(b:Za)(n:Int):Zy0 b n=some (metV b n)/\Zaed b n=some (metV b n):=by
 (unfold Zy0 LF.run;dsimp only [Z6y,LT.den];unfold Zaed LF.run;dsimp only [Zahw,LT.den];unfold metV)
 cases b.Kind==0<;>cases b.Kind==1<;>cases b.Kind==2<;>cases b.Kind==3<;>exact⟨rfl,rfl⟩
def Z1f(h s n:Int):Bool:=(s==0||Zbf .and .i64 h s != 0)&&Zbf .and .i64 h n==0
def oneV(a b w:Int):Bool:=bif w==1 then a==b else bif w != 2 then true else a != b
def tapV(t:Bool)(w:Int):Bool:=bif w==1 then t else bif w != 2 then true else !t
def Zpz(t:Zb):Bool:=Zbf .and .i64 t.Line.Types 1 != 0
def bouV(cr:Bool)(b:Za)(n:Int):Bool:=b.Kind==0||(cr&&metV b n)
def Z7d(t:Zb)(f:Zc):Bool:=bouV (Zpz t) f.Power t.Power&&(bouV (Zpz t) f.Tough t.Tough&&metV f.Value (valV t.Cost))
def keyV(t:Zb)(f:Zc):Bool:=Zbf .and .i64 t.Keys f.Keys==f.Keys
def Zaag(t:Zb)(f:Zc):Bool:=f.Sub==[]||Zjq t.Line.Subs f.Sub
def matV(o:Ze)(t:Zb)(you source:Int)(f:Zc):Bool:=
 filV f&&(o.Zone==f.Zone&&(oneV t.Control you f.Who&&(oneV o.Id source f.Self&&(Z1f t.Line.Types f.Types f.NotTypes&&(Z1f t.Colors f.Colors f.NotColors &&
  (Zaag t f&&(keyV t f&&(tapV o.Tapped f.Tap&&Z7d t f))))))))
theorem Za64(h s n:Int):Zml h s n=some (Z1f h s n):=by
 (unfold Zml LF.run;dsimp only [Zs2,LT.den];unfold Z1f)
 cases s==0<;>cases Zbf .and .i64 h s != 0<;>rfl
theorem Zazh(b:Za)(n:Int)(cr:Bool):Zhh b n cr=some (bouV cr b n):=by
 (unfold Zhh LF.run;dsimp only [Zmm,LT.den];unfold bouV)
 rw [(Zaaf b n).1]
 cases b.Kind==0<;>cases cr<;>cases metV b n<;>rfl
theorem m4(t:Zb)(f:Zc):(Zer t f (Zpz t)).den.bind (Zib Zhn.step)=some (Z7d t f):=by
 (dsimp only [Zer,LT.den];unfold Z7d)
 simp only [Zazh,(Zaw2 _).1,(Zaaf _ _).1,Option.bind_some]
 exact Zmb fun _=>Zmb fun _=>rfl
theorem m3(o:Ze)(t:Zb)(f:Zc)(v:Bool):(Zft o t f (Zpz t) v).den.bind (Zib Zhn.step)=some (!v&&(tapV o.Tapped f.Tap&&Z7d t f)):=by
 dsimp only [Zft,LT.den]
 refine Zb2 fun _=>?_
 have hm:=m4 t f
 unfold tapV
 by_cases h1:f.Tap=1
 .rw [show (f.Tap==1)=true from by rw [h1];rfl,show (f.Tap==2)=false from by rw [h1];rfl]
  cases o.Tapped
  .rfl
  .simpa using hm
 .rw [show (f.Tap==1)=false from beq_eq_false_iff_ne.2 h1]
  cases h2:f.Tap==2 with
  | false=>simpa [bne,h2] using hm
  | true=>
   cases o.Tapped
   .simpa [bne,h2] using hm
   .simp [bne,h2,Zgd]
theorem m2(o:Ze)(t:Zb)(f:Zc)(v:Bool)(ht:t.Line.Subs.length<=4611686018427387904) :
 (Zg1 o t f (Zpz t) v).den.bind (Zib Zhn.step)=some (!v&&(Zaag t f&&(keyV t f&&(tapV o.Tapped f.Tap&&Z7d t f)))):=by
 dsimp only [Zg1,LT.den]
 refine Zb2 fun _=>?_
 have hk:Zxm t.Keys f.Keys=some (keyV t f):=rfl
 simp only [Za4r _ _ ht,hk,Option.bind_some]
 unfold Zaag
 cases f.Sub==[] with
 | true=>simp only [Bool.not_true,cond_false,Bool.true_or,Bool.true_and];rw [m3,Bool.not_not]
 | false=>
  simp only [Bool.not_false,cond_true,Bool.false_or]
  cases Zjq t.Line.Subs f.Sub with
  | false=>simp only [Bool.not_false,cond_true];rw [m3];rfl
  | true=>simp only [Bool.not_true,cond_false];rw [m3,Bool.not_not];rfl
theorem m1(o:Ze)(t:Zb)(f:Zc)(v:Bool)(ht:t.Line.Subs.length<=4611686018427387904) :
 (Zd0 o t f (Zpz t) v).den.bind (Zib Zhn.step)=some (!v&&(Z1f t.Line.Types f.Types f.NotTypes&&(Z1f t.Colors f.Colors f.NotColors&&(Zaag t f&&(keyV t f&&(tapV o.Tapped f.Tap&&Z7d t f)))))):=by
 dsimp only [Zd0,LT.den]
 refine Zb2 fun _=>?_
 simp only [Za64,Option.bind_some]
 cases Z1f t.Line.Types f.Types f.NotTypes with
 | false=>simp only [Bool.not_false,cond_true];rw [m2 o t f _ ht];rfl
 | true=>simp only [Bool.not_true,cond_false];rw [m2 o t f _ ht,Bool.not_not];rfl
theorem m0(o:Ze)(t:Zb)(source:Int)(f:Zc)(v:Bool)(ht:t.Line.Subs.length<=4611686018427387904) :
 (Zbu source o t f (Zpz t) v).den.bind (Zib Zhn.step)=some (!v&&(oneV o.Id source f.Self&&(Z1f t.Line.Types f.Types f.NotTypes&&(Z1f t.Colors f.Colors f.NotColors&&(Zaag t f&&(keyV t f&&(tapV o.Tapped f.Tap&&Z7d t f))))))):=by
 dsimp only [Zbu,LT.den]
 refine Zb2 fun _=>?_
 have hm:=fun v=>m1 o t f v ht
 unfold oneV
 by_cases h1:f.Self=1
 .rw [show (f.Self==1)=true from by rw [h1];rfl,show (f.Self==2)=false from by rw [h1];rfl]
  cases h:o.Id==source
  .simp only [cond_true,bne,h,Bool.not_false];rw [hm];rfl
  .simp only [cond_true,bne,h,Bool.not_true,cond_false];rw [hm];rfl
 .rw [show (f.Self==1)=false from beq_eq_false_iff_ne.2 h1]
  cases h2:f.Self==2 with
  | false=>simp only [cond_false,bne,h2,Bool.not_false,cond_true];rw [hm];rfl
  | true=>simp only [cond_false,bne,h2,Bool.not_true,cond_true];rw [hm]
theorem Za65(o:Ze)(t:Zb)(you source:Int)(f:Zc)(ht:t.Line.Subs.length<=4611686018427387904):Zpo o t you source f=some (matV o t you source f):=by
 (unfold Zpo LF.run;dsimp only [Zwy,LT.den];unfold matV)
 rw [Zaek,Option.bind_some]
 refine Zg0 fun _=>?_
 have hz:(o.Zone != f.Zone) = !(o.Zone==f.Zone):=rfl
 rw [hz]
 refine Zg0 fun _=>?_
 have hm:=fun v=>m0 o t source f v ht
 show Option.bind (bif (f.Who==1) then bif (t.Control != you) then (Zbu source o t f (Zpz t) _).den else bif (f.Who==2) then (Zbu source o t f (Zpz t) _).den else (Zbu source o t f (Zpz t) _).den else bif (f.Who==2) then (Zbu source o t f (Zpz t) _).den else (Zbu source o t f (Zpz t) _).den) _=_
 unfold oneV
 by_cases h1:f.Who=1
 .rw [show (f.Who==1)=true from by rw [h1];rfl,show (f.Who==2)=false from by rw [h1];rfl]
  cases h:t.Control==you
  .simp only [cond_true,bne,h,Bool.not_false];rw [hm];rfl
  .simp only [cond_true,bne,h,Bool.not_true,cond_false];rw [hm];rfl
 .rw [show (f.Who==1)=false from beq_eq_false_iff_ne.2 h1]
  cases h2:f.Who==2 with
  | false=>simp only [cond_false,bne,h2,Bool.not_false,cond_true];rw [hm];rfl
  | true=>simp only [cond_false,bne,h2,Bool.not_true,cond_true];rw [hm];rfl
theorem b0(t:Zb)(f:Zc):(Zkz t f (Zpz t)).den.bind (Zib Z3m.step)=some (bouV (Zpz t) f.Tough t.Tough&&metV f.Value (valV t.Cost)):=by
 (dsimp only [Zkz,LT.den];unfold bouV)
 simp only [(Zaw2 _).2,(Zaaf _ _).2,Option.bind_some,bne]
 cases f.Tough.Kind==0<;>cases Zpz t<;>cases metV f.Tough t.Tough<;>rfl
theorem Za4u(t:Zb)(f:Zc):Zaac t f=some (Z7d t f):=by
 (unfold Zaac LF.run;dsimp only [Zaef,LT.den];unfold Z7d)
 have hs:Zahv t.Line.Types 1=some (Zpz t):=rfl
 rw [hs,Option.bind_some]
 simp only [(Zaaf _ _).2,Option.bind_some,bne]
 have hb:=b0 t f
 unfold bouV at hb ⊢
 cases f.Power.Kind==0 with
 | true=>simpa using hb
 | false=>
  cases hc:Zpz t with
  | false=>rfl
  | true=>
   rw [hc] at hb
   cases metV f.Power t.Power
   .rfl
   .simpa using hb
theorem r1(t:Zb)(f:Zc)(ht:t.Line.Subs.length<=4611686018427387904):(Zn8 t f).den.bind (Zib Zawy.step)=some (Zaag t f&&(keyV t f&&Z7d t f)):=by
 (dsimp only [Zn8,LT.den];unfold Zaag)
 have hk:Za0f t.Keys f.Keys=some (keyV t f):=rfl
 simp only [Zar7 _ _ ht,hk,Za4u,Option.bind_some]
 cases f.Sub==[] with
 | true=>simp only [Bool.not_true,cond_false,Bool.true_or,Bool.true_and];exact Zg0 fun _=>rfl
 | false=>simp only [Bool.not_false,cond_true,Bool.false_or];exact Zg0 fun _=>Zg0 fun _=>rfl
end Go.PW
set_option maxRecDepth 100000
namespace Go.PW
abbrev Bnd(n:Nat):Prop:=n<=4611686018427387904
def Zanx:Zb:=⟨[],⟨0,0,⟨0,0,0,0,0⟩⟩,0,⟨0,0,[]⟩,0,0,0,[],0⟩
def atV(all:List Zb)(i:Nat):Zb:=(all[i]?).getD Zanx
theorem Za9p{all:List Zb}(ht:∀ t∈all,Bnd t.Line.Subs.length)(i:Nat):Bnd (atV all i).Line.Subs.length:=by
 unfold atV
 by_cases h:i < all.length
 .rw [List.getElem?_eq_getElem h];exact ht _ (List.getElem_mem h)
 .rw [List.getElem?_eq_none (show all.length<=i by omega)];exact Nat.zero_le _
def mat(all:List Zb)(you src:Int)(f:Zc)(i:Nat)(o:Ze):Bool:=matV o (atV all i) you src f
def Zatc(s:Zl)(all:List Zb)(you src:Int)(f:Zc):List Int:=Z52 (mat all you src f) (fun o=>o.Id) 0 s.Objects
theorem Za8m(s:Zl)(all:List Zb)(you src:Int)(f:Zc)(hs:s.Objects.length*128<=reachBytes)(ht:∀ t∈all,Bnd t.Line.Subs.length):Z1c s all you src f=some (Zatc s all you src f):=by
 have hs':s.Objects.length*128<=140737488351232:=hs
 (unfold Z1c LF.run;dsimp only [Zad6,LT.den])
 have h:=Za32 (step:=Z3e.step) (st:=fun i acc => .L0 all you src f acc s.Objects (s.Objects.length:Int) (i:Int)) s.Objects (mat all you src f) (fun o=>o.Id) (fun i x acc hx ha=>by
  have hi:=(List.getElem?_eq_some_iff.1 hx).1
  have l1:∀ t,t=atV all i->(Zn2 all you src f acc x t s.Objects (s.Objects.length:Int) (i:Int)).den=some (.inl (.L0 all you src f (bif mat all you src f i x then acc++[x.Id] else acc) s.Objects (s.Objects.length:Int) ((i+1:Nat):Int))):=by
   rintro t rfl
   dsimp only [Zn2,LT.den]
   rw [Za65 _ _ _ _ _ (Za9p ht i),Option.bind_some,Z4m hi (by omega)]
   show (bif mat all you src f i x then _ else _)=_
   cases mat all you src f i x with
   | true=>rw [cond_true,Za3z (by simp;omega) (by decide)];rfl
   | false=>rfl
  show (Zn3 _ _ _ _ _ _ _ _).den=_
  dsimp only [Zn3,LT.den]
  rw [decide_eq_true (show (i:Int) < (s.Objects.length:Int) by omega),cond_true,Zla hx,Option.bind_some]
  by_cases hl:i < all.length
  .rw [decide_eq_true (show (i:Int) < (all.length:Int) by omega),cond_true,Za8c all hl,Option.bind_some];exact l1 _ (by simp [atV,List.getElem?_eq_getElem hl])
  .rw [decide_eq_false (show ¬ (i:Int) < (all.length:Int) by omega),cond_false];exact l1 _ (by simp [atV,List.getElem?_eq_none (show all.length<=i by omega),Zanx]))
 refine Eq.trans h (Zd7 ?_)
 show (Zn3 _ _ _ _ _ _ _ _).den=_
 dsimp only [Zn3,LT.den]
 rw [decide_eq_false (by omega)];rfl
end Go.PW
