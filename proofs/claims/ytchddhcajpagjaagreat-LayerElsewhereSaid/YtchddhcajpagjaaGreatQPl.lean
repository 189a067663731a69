import Derived.Test.YtchddhcajpagjaaGreatQPb
import Derived.Test.YtchddhcajpagjaaGreatPwX
set_option linter.all false
set_option maxRecDepth 100000
namespace Go.PW
theorem Zq8{n:Int}(h1 : -1000000<=n)(h2:n<=1000000):Z3i n=some n/\Zac4 n=some n:=by
 constructor
 ·(unfold Z3i LF.run;dsimp only [Z48,LT.den])
  simp only [Option.bind_some,Zfz]
  (unfold minI;unfold maxI)
  congr 1
  repeat' split
  all_goals omega
 ·(unfold Zac4 LF.run;dsimp only [Zahd,LT.den])
  rw [decide_eq_false (by omega),decide_eq_false (by omega)];rfl
theorem Zadf{a b:Int}(h1:0<=a)(h2:a<=100000)(h3:0<=b)(h4:b<=100000):Zaer a b=some (a+b)/\Zaoq a b=some (a+b):=by
 obtain⟨a1,a2⟩:=Zq8 (n:=a) (by omega) (by omega)
 obtain⟨b1,b2⟩:=Zq8 (n:=b) (by omega) (by omega)
 obtain⟨c1,c2⟩:=Zq8 (n:=a+b) (by omega) (by omega)
 have hw:IntKind.wrap .i64 (a+b)=a+b:=Zgj (by omega) (by omega)
 constructor
 ·(unfold Zaer LF.run;dsimp only [Zaco,LT.den])
  simp only [a1,b1,c1,hw,Option.bind_some];rfl
 ·(unfold Zaoq LF.run;dsimp only [Zark,LT.den])
  simp only [a2,b2,c2,hw,Option.bind_some];rfl
theorem mul_zero{a:Int}(h1:0<=a)(h2:a<=100000):Zaet a 0=some 0/\Zaor a 0=some 0:=by
 obtain⟨a1,a2⟩:=Zq8 (n:=a) (by omega) (by omega)
 obtain⟨b1,b2⟩:=Zq8 (n:=0) (by omega) (by omega)
 have hw:IntKind.wrap .i64 (a*0)=0:=by rw [Int.mul_zero];rfl
 constructor
 ·(unfold Zaet LF.run;dsimp only [Zact,LT.den])
  simp only [a1,b1,hw,Option.bind_some];rfl
 ·(unfold Zaor LF.run;dsimp only [Zarn,LT.den])
  simp only [a2,b2,hw,Option.bind_some];rfl
def Z33(c:Zs):Bool:=btw c.Generic 99&&(btw c.X 2&&c.Color.list.all fun n=>btw n 9)
theorem Za2q(c:Zs):Zaeq c=some (Z33 c):=by
 (unfold Zaeq LF.run;dsimp only [Zacm,LT.den])
 simp only [Option.bind_some,Zmo]
 have:=Z0k (st:=fun i=>Zoq.L0 c c.Color (i:Int)) (step:=Zsi.step) (bad:=false) c.Color.list (fun n=>btw n 9) (fun i x hx=>by
  have hi:=(List.getElem?_eq_some_iff.1 hx).1
  have hi:i < 5:=hi
  show (Zpp _ _ _).den=_
  dsimp only [Zpp,LT.den]
  rw [decide_eq_true (by omega),Zj8 hx,Zgj (by omega) (by omega)]
  simp only [cond_true,Option.bind_some]
  unfold btw
  by_cases h1:x < 0
  .rw [decide_eq_true h1,decide_eq_false (show ¬ x>=0 by omega)];rfl
  .rw [decide_eq_false h1,decide_eq_true (show x>=0 by omega)]
   by_cases h2:x > 9
   .rw [decide_eq_true h2,decide_eq_false (show ¬ x<=9 by omega)];rfl
   .rw [decide_eq_false h2,decide_eq_true (show x<=9 by omega)];rfl)
 rw [show (Zoq.L0 c c.Color 0) = .L0 c c.Color ((0:Nat):Int) from rfl,this]
 have he:Zcz Zsi.step (.L0 c c.Color ((c.Color.list.length:Nat):Int))=some (btw c.Generic 99&&btw c.X 2):=by
  have e:Zsi.step (.L0 c c.Color ((c.Color.list.length:Nat):Int))=some (.inr (btw c.Generic 99&&btw c.X 2)):=by
   show (Zpp c c.Color 5).den=_
   (dsimp only [Zpp,LT.den];unfold btw)
   rw [decide_eq_false (by omega)]
   cases decide (c.Generic>=0)<;>cases decide (c.Generic<=99)<;>cases decide (c.X>=0)<;>rfl
  exact Zdv e
 rw [he]
 unfold Z33
 cases c.Color.list.all fun n=>btw n 9<;>cases btw c.Generic 99<;>cases btw c.X 2<;>rfl
theorem Zazv(c:Zs):Z59 c=some (Z33 c):=by
 (unfold Z59 LF.run;dsimp only [Zaia,LT.den])
 have hl:Zcz Zkq.step (.L0 c 0)=some (c.Color.list.all fun n=>btw n 9):=by
  have:=Z0k (st:=fun i=>Zmr.L0 c (i:Int)) (step:=Zkq.step) (bad:=false) c.Color.list (fun n=>btw n 9) (fun i x hx=>by
   have hi:=(List.getElem?_eq_some_iff.1 hx).1
   have hi:i < 5:=hi
   show (Zoj _ _).den=_
   dsimp only [Zoj,LT.den]
   rw [decide_eq_true (by omega),Zj8 hx,Zgj (by omega) (by omega)]
   simp only [cond_true,Option.bind_some]
   unfold btw
   by_cases h1:x < 0
   .rw [decide_eq_true h1,decide_eq_false (show ¬ x>=0 by omega)];rfl
   .rw [decide_eq_false h1,decide_eq_true (show x>=0 by omega)]
    by_cases h2:x > 9
    .rw [decide_eq_true h2,decide_eq_false (show ¬ x<=9 by omega)];rfl
    .rw [decide_eq_false h2,decide_eq_true (show x<=9 by omega)];rfl)
  rw [show (Zmr.L0 c 0) = .L0 c ((0:Nat):Int) from rfl,this]
  have he:Zcz Zkq.step (.L0 c ((c.Color.list.length:Nat):Int))=some true:=by
   refine Zdv ?_
   show (Zoj c 5).den=_
   rfl
  rw [he]
  cases c.Color.list.all fun n=>btw n 9<;>rfl
 refine (Zbt fun _=>Zbt fun _=>Zbt fun _=>Zbt fun _=>(show Option.bind (some (Sum.inl (Zmr.L0 c 0))) (Zhq Zkq.step)=some (c.Color.list.all fun n=>btw n 9) from hl)).trans ?_
 congr 1
 (unfold Z33;unfold btw)
 rw [Bool.eq_iff_iff]
 simp only [Bool.and_eq_true,Bool.not_eq_true',decide_eq_false_iff_not,decide_eq_true_eq,ge_iff_le,gt_iff_lt,Int.not_lt]
 constructor
 .rintro ⟨h1,h2,h3,h4,h5⟩;exact⟨⟨h1,h2⟩,⟨h3,h4⟩,h5⟩
 .rintro ⟨⟨h1,h2⟩,⟨h3,h4⟩,h5⟩;exact⟨h1,h2,h3,h4,h5⟩
def valV(c:Zs):Int:=bif Z33 c then c.Generic+c.Color.a0+c.Color.a1+c.Color.a2+c.Color.a3+c.Color.a4 else 0
theorem Zazw{c:Zs}(h:Z33 c=true):(0<=c.Generic/\c.Generic<=99)/\(0<=c.X/\c.X<=2)/\(0<=c.Color.a0/\c.Color.a0<=9)/\(0<=c.Color.a1/\c.Color.a1<=9)/\(0<=c.Color.a2/\c.Color.a2<=9)/\(0<=c.Color.a3/\c.Color.a3<=9)/\(0<=c.Color.a4/\c.Color.a4<=9):=by
 simpa [Z33,btw,A5.list] using h
theorem Zaxj(c:Zs):Zzv c 0=some (valV c)/\Zac8 c 0=some (valV c):=by
 (unfold Zzv LF.run;dsimp only [Z1i,LT.den];unfold Zac8 LF.run;dsimp only [Zahi,LT.den];unfold valV)
 rw [Za2q,Zazv]
 simp only [Option.bind_some]
 cases hc:Z33 c with
 | false=>exact⟨rfl,rfl⟩
 | true=>
  obtain⟨g,x,h0,h1,h2,h3,h4⟩:=Zazw hc
  obtain⟨gen,xx,⟨a0,a1,a2,a3,a4⟩⟩:=c
  simp only at g x h0 h1 h2 h3 h4 ⊢
  simp only [Bool.not_true,cond_false,Option.bind_some,Zmo,cond_true]
  constructor
  .have hw:∀ {n:Int},0<=n->n<=1000->IntKind.wrap .i64 n=n:=fun h1 h2=>Zgj (by omega) (by omega)
   have r:∀ (v i y:Int),i < 5->idx? [a0,a1,a2,a3,a4] i=some y->0<=v+y->v+y<=1000->0<=i->Zcz Zox.step (.L0 0 ⟨gen,xx,⟨a0,a1,a2,a3,a4⟩⟩ v ⟨a0,a1,a2,a3,a4⟩ i)=Zcz Zox.step (.L0 0 ⟨gen,xx,⟨a0,a1,a2,a3,a4⟩⟩ (v+y) ⟨a0,a1,a2,a3,a4⟩ (i+1)):=fun v i y hi hy h1 h2 h0=>by
    refine Zkn ?_
    show (Zjw _ _ _ _ _).den=_
    dsimp only [Zjw,LT.den]
    rw [decide_eq_true hi,show idx? (A5.list (⟨a0,a1,a2,a3,a4⟩:A5 Int)) i=some y from hy,Option.bind_some,hw h1 h2,Zgj (by omega) (by omega)];rfl
   rw [r gen 0 a0 (by omega) rfl (by omega) (by omega) (by omega),r _ _ a1 (by omega) rfl (by omega) (by omega) (by omega),r _ _ a2 (by omega) rfl (by omega) (by omega) (by omega),r _ _ a3 (by omega) rfl (by omega) (by omega) (by omega),r _ _ a4 (by omega) rfl (by omega) (by omega) (by omega)]
   refine Zdv ?_
   show (Zjw _ _ _ _ 5).den=_
   dsimp only [Zjw,LT.den]
   have e1:=(mul_zero (a:=xx) (by omega) (by omega)).1
   have e2:=(Zadf (a:=gen+a0+a1+a2+a3+a4) (b:=0) (by omega) (by omega) (by omega) (by omega)).1
   rw [decide_eq_false (by omega)]
   simp only [cond_false,show maxI 0 0=0 from rfl,e1,e2,Option.bind_some,Int.add_zero]
  .have r:∀ (v i y:Int),i < 5->idx? [a0,a1,a2,a3,a4] i=some y->0<=v->v<=1000->0<=y->y<=9->0<=i->Zcz Zv6.step (.L0 0 ⟨gen,xx,⟨a0,a1,a2,a3,a4⟩⟩ v i)=Zcz Zv6.step (.L0 0 ⟨gen,xx,⟨a0,a1,a2,a3,a4⟩⟩ (v+y) (i+1)):=fun v i y hi hy h1 h2 h3 h4 h0=>by
    refine Zkn ?_
    show (Zo6 _ _ _ _).den=_
    dsimp only [Zo6,LT.den]
    rw [decide_eq_true hi,show idx? (A5.list (⟨a0,a1,a2,a3,a4⟩:A5 Int)) i=some y from hy,Option.bind_some,(Zadf h1 (by omega) h3 (by omega)).2,Option.bind_some,Zgj (by omega) (by omega)];rfl
   rw [r gen 0 a0 (by omega) rfl (by omega) (by omega) (by omega) (by omega) (by omega),r _ _ a1 (by omega) rfl (by omega) (by omega) (by omega) (by omega) (by omega),r _ _ a2 (by omega) rfl (by omega) (by omega) (by omega) (by omega) (by omega),r _ _ a3 (by omega) rfl (by omega) (by omega) (by omega) (by omega) (by omega),r _ _ a4 (by omega) rfl (by omega) (by omega) (by omega) (by omega) (by omega)]
   refine Zdv ?_
   show (Zo6 _ _ _ 5).den=_
   dsimp only [Zo6,LT.den]
   have e1:=(mul_zero (a:=xx) (by omega) (by omega)).2
   have e2:=(Zadf (a:=gen+a0+a1+a2+a3+a4) (b:=0) (by omega) (by omega) (by omega) (by omega)).2
   rw [decide_eq_false (by omega),decide_eq_false (by omega)]
   simp only [cond_false,e1,e2,Option.bind_some,Int.add_zero]
def Z8o(b:Zb)(n:Int):Bool:=bif b.Kind==0 then true else bif b.Kind==1 then decide (n>=b.N) else bif b.Kind==2 then decide (n<=b.N) else bif b.Kind==3 then n==b.N else false
theorem Z8p(b:Zb)(n:Int):Z3s b n=some (Z8o b n)/\Zac7 b n=some (Z8o b n):=by
 (unfold Z3s LF.run;dsimp only [Z49,LT.den];unfold Zac7 LF.run;dsimp only [Zahg,LT.den];unfold Z8o)
 cases b.Kind==0<;>cases b.Kind==1<;>cases b.Kind==2<;>cases b.Kind==3<;>exact⟨rfl,rfl⟩
def Zz0(h s n:Int):Bool:=(s==0||Za6 .and .i64 h s != 0)&&Za6 .and .i64 h n==0
def oneV(a b w:Int):Bool:=bif w==1 then a==b else bif w != 2 then true else a != b
def tapV(t:Bool)(w:Int):Bool:=bif w==1 then t else bif w != 2 then true else !t
def Zo7(t:Za):Bool:=Za6 .and .i64 t.Line.Types 1 != 0
def bouV(cr:Bool)(b:Zb)(n:Int):Bool:=b.Kind==0||(cr&&Z8o b n)
def Z5k(t:Za)(f:Zd):Bool:=bouV (Zo7 t) f.Power t.Power&&(bouV (Zo7 t) f.Tough t.Tough&&Z8o f.Value (valV t.Cost))
def keyV(t:Za)(f:Zd):Bool:=Za6 .and .i64 t.Keys f.Keys==f.Keys
def Z8q(t:Za)(f:Zd):Bool:=f.Sub==[]||Zis t.Line.Subs f.Sub
def matV(o:Zc)(t:Za)(you source:Int)(f:Zd):Bool:=
 filV f&&(o.Zone==f.Zone&&(oneV t.Control you f.Who&&(oneV o.Id source f.Self&&(Zz0 t.Line.Types f.Types f.NotTypes&&(Zz0 t.Colors f.Colors f.NotColors &&
  (Z8q t f&&(keyV t f&&(tapV o.Tapped f.Tap&&Z5k t f))))))))
theorem Za8p(h s n:Int):Zpt h s n=some (Zz0 h s n):=by
 (unfold Zpt LF.run;dsimp only [Zr1,LT.den];unfold Zz0)
 cases s==0<;>cases Za6 .and .i64 h s != 0<;>rfl
theorem Zazx(b:Zb)(n:Int)(cr:Bool):Zjf b n cr=some (bouV cr b n):=by
 (unfold Zjf LF.run;dsimp only [Zlm,LT.den];unfold bouV)
 rw [(Z8p b n).1]
 cases b.Kind==0<;>cases cr<;>cases Z8o b n<;>rfl
theorem m4(t:Za)(f:Zd):(Zeg t f (Zo7 t)).den.bind (Zhq Zg8.step)=some (Z5k t f):=by
 (dsimp only [Zeg,LT.den];unfold Z5k)
 simp only [Zazx,(Zaxj _).1,(Z8p _ _).1,Option.bind_some]
 exact Zla fun _=>Zla fun _=>rfl
theorem m3(o:Zc)(t:Za)(f:Zd)(v:Bool):(Zfg o t f (Zo7 t) v).den.bind (Zhq Zg8.step)=some (!v&&(tapV o.Tapped f.Tap&&Z5k t f)):=by
 dsimp only [Zfg,LT.den]
 refine Zbt fun _=>?_
 have hm:=m4 t f
 unfold tapV
 by_cases h1:f.Tap=1
 .rw [show (f.Tap==1)=true from by rw [h1];rfl,show (f.Tap==2)=false from by rw [h1];rfl]
  cases o.Tapped
  .rfl
  .simpa using hm
 .rw [show (f.Tap==1)=false from beq_eq_false_iff_ne.2 h1]
  cases h2:f.Tap==2 with
  | false=>simpa [bne,h2] using hm
  | true=>
   cases o.Tapped
   .simpa [bne,h2] using hm
   .simp [bne,h2,Zfz]
theorem m2(o:Zc)(t:Za)(f:Zd)(v:Bool)(ht:t.Line.Subs.length<=4611686018427387904) :
 (Zgm o t f (Zo7 t) v).den.bind (Zhq Zg8.step)=some (!v&&(Z8q t f&&(keyV t f&&(tapV o.Tapped f.Tap&&Z5k t f)))):=by
 dsimp only [Zgm,LT.den]
 refine Zbt fun _=>?_
 have hk:Z5a t.Keys f.Keys=some (keyV t f):=rfl
 simp only [Za55 _ _ ht,hk,Option.bind_some]
 unfold Z8q
 cases f.Sub==[] with
 | true=>simp only [Bool.not_true,cond_false,Bool.true_or,Bool.true_and];rw [m3,Bool.not_not]
 | false=>
  simp only [Bool.not_false,cond_true,Bool.false_or]
  cases Zis t.Line.Subs f.Sub with
  | false=>simp only [Bool.not_false,cond_true];rw [m3];rfl
  | true=>simp only [Bool.not_true,cond_false];rw [m3,Bool.not_not];rfl
theorem m1(o:Zc)(t:Za)(f:Zd)(v:Bool)(ht:t.Line.Subs.length<=4611686018427387904) :
 (Zdm o t f (Zo7 t) v).den.bind (Zhq Zg8.step)=some (!v&&(Zz0 t.Line.Types f.Types f.NotTypes&&(Zz0 t.Colors f.Colors f.NotColors&&(Z8q t f&&(keyV t f&&(tapV o.Tapped f.Tap&&Z5k t f)))))):=by
 dsimp only [Zdm,LT.den]
 refine Zbt fun _=>?_
 simp only [Za8p,Option.bind_some]
 cases Zz0 t.Line.Types f.Types f.NotTypes with
 | false=>simp only [Bool.not_false,cond_true];rw [m2 o t f _ ht];rfl
 | true=>simp only [Bool.not_true,cond_false];rw [m2 o t f _ ht,Bool.not_not];rfl
theorem m0(o:Zc)(t:Za)(source:Int)(f:Zd)(v:Bool)(ht:t.Line.Subs.length<=4611686018427387904) :
 (Zbk source o t f (Zo7 t) v).den.bind (Zhq Zg8.step)=some (!v&&(oneV o.Id source f.Self&&(Zz0 t.Line.Types f.Types f.NotTypes&&(Zz0 t.Colors f.Colors f.NotColors&&(Z8q t f&&(keyV t f&&(tapV o.Tapped f.Tap&&Z5k t f))))))):=by
 dsimp only [Zbk,LT.den]
 refine Zbt fun _=>?_
 have hm:=fun v=>m1 o t f v ht
 unfold oneV
 by_cases h1:f.Self=1
 .rw [show (f.Self==1)=true from by rw [h1];rfl,show (f.Self==2)=false from by rw [h1];rfl]
  cases h:o.Id==source
  .simp only [cond_true,bne,h,Bool.not_false];rw [hm];rfl
  .simp only [cond_true,bne,h,Bool.not_true,cond_false];rw [hm];rfl
 .rw [show (f.Self==1)=false from beq_eq_false_iff_ne.2 h1]
  cases h2:f.Self==2 with
  | false=>simp only [cond_false,bne,h2,Bool.not_false,cond_true];rw [hm];rfl
  | true=>simp only [cond_false,bne,h2,Bool.not_true,cond_true];rw [hm]
theorem Za8q(o:Zc)(t:Za)(you source:Int)(f:Zd)(ht:t.Line.Subs.length<=4611686018427387904):Ztq o t you source f=some (matV o t you source f):=by
 (unfold Ztq LF.run;dsimp only [Zvd,LT.den];unfold matV)
 rw [Zade,Option.bind_some]
 refine Zgk fun _=>?_
 have hz:(o.Zone != f.Zone) = !(o.Zone==f.Zone):=rfl
 rw [hz]
 refine Zgk fun _=>?_
 have hm:=fun v=>m0 o t source f v ht
 show Option.bind (bif (f.Who==1) then bif (t.Control != you) then (Zbk source o t f (Zo7 t) _).den else bif (f.Who==2) then (Zbk source o t f (Zo7 t) _).den else (Zbk source o t f (Zo7 t) _).den else bif (f.Who==2) then (Zbk source o t f (Zo7 t) _).den else (Zbk source o t f (Zo7 t) _).den) _=_
 unfold oneV
 by_cases h1:f.Who=1
 .rw [show (f.Who==1)=true from by rw [h1];rfl,show (f.Who==2)=false from by rw [h1];rfl]
  cases h:t.Control==you
  .simp only [cond_true,bne,h,Bool.not_false];rw [hm];rfl
  .simp only [cond_true,bne,h,Bool.not_true,cond_false];rw [hm];rfl
 .rw [show (f.Who==1)=false from beq_eq_false_iff_ne.2 h1]
  cases h2:f.Who==2 with
  | false=>simp only [cond_false,bne,h2,Bool.not_false,cond_true];rw [hm];rfl
  | true=>simp only [cond_false,bne,h2,Bool.not_true,cond_true];rw [hm];rfl
theorem b0(t:Za)(f:Zd):(Zjx t f (Zo7 t)).den.bind (Zhq Z1p.step)=some (bouV (Zo7 t) f.Tough t.Tough&&Z8o f.Value (valV t.Cost)):=by
 (dsimp only [Zjx,LT.den];unfold bouV)
 simp only [(Zaxj _).2,(Z8p _ _).2,Option.bind_some,bne]
 cases f.Tough.Kind==0<;>cases Zo7 t<;>cases Z8o f.Tough t.Tough<;>rfl
theorem Za58(t:Za)(f:Zd):Z8l t f=some (Z5k t f):=by
 (unfold Z8l LF.run;dsimp only [Zac9,LT.den];unfold Z5k)
 have hs:Zahf t.Line.Types 1=some (Zo7 t):=rfl
 rw [hs,Option.bind_some]
 simp only [(Z8p _ _).2,Option.bind_some,bne]
 have hb:=b0 t f
 unfold bouV at hb ⊢
 cases f.Power.Kind==0 with
 | true=>simpa using hb
 | false=>
  cases hc:Zo7 t with
  | false=>rfl
  | true=>
   rw [hc] at hb
   cases Z8o f.Power t.Power
   .rfl
   .simpa using hb
theorem r1(t:Za)(f:Zd)(ht:t.Line.Subs.length<=4611686018427387904):(Znl t f).den.bind (Zhq Zaxd.step)=some (Z8q t f&&(keyV t f&&Z5k t f)):=by
 (dsimp only [Znl,LT.den];unfold Z8q)
 have hk:Za0y t.Keys f.Keys=some (keyV t f):=rfl
 simp only [Zar9 _ _ ht,hk,Za58,Option.bind_some]
 cases f.Sub==[] with
 | true=>simp only [Bool.not_true,cond_false,Bool.true_or,Bool.true_and];exact Zgk fun _=>rfl
 | false=>simp only [Bool.not_false,cond_true,Bool.false_or];exact Zgk fun _=>Zgk fun _=>rfl
end Go.PW
set_option maxRecDepth 100000
namespace Go.PW
abbrev Bnd(n:Nat):Prop:=n<=4611686018427387904
def Zamz:Za:=⟨[],⟨0,0,⟨0,0,0,0,0⟩⟩,0,⟨0,0,[]⟩,0,0,0,[],0⟩
def atV(all:List Za)(i:Nat):Za:=(all[i]?).getD Zamz
theorem Zbdh{all:List Za}(ht:∀ t∈all,Bnd t.Line.Subs.length)(i:Nat):Bnd (atV all i).Line.Subs.length:=by
 unfold atV
 by_cases h:i < all.length
 .rw [List.getElem?_eq_getElem h];exact ht _ (List.getElem_mem h)
 .rw [List.getElem?_eq_none (show all.length<=i by omega)];exact Nat.zero_le _
def mat(all:List Za)(you src:Int)(f:Zd)(i:Nat)(o:Zc):Bool:=matV o (atV all i) you src f
def Zatg(s:Zn)(all:List Za)(you src:Int)(f:Zd):List Int:=Z4v (mat all you src f) (fun o=>o.Id) 0 s.Objects
theorem Zbbz(s:Zn)(all:List Za)(you src:Int)(f:Zd)(hs:s.Objects.length*128<=reachBytes)(ht:∀ t∈all,Bnd t.Line.Subs.length):Zzw s all you src f=some (Zatg s all you src f):=by
 have hs':s.Objects.length*128<=140737488351232:=hs
 (unfold Zzw LF.run;dsimp only [Zacu,LT.den])
 have h:=Za40 (step:=Z1j.step) (st:=fun i acc => .L0 all you src f acc s.Objects (s.Objects.length:Int) (i:Int)) s.Objects (mat all you src f) (fun o=>o.Id) (fun i x acc hx ha=>by
  have hi:=(List.getElem?_eq_some_iff.1 hx).1
  have l1:∀ t,t=atV all i->(Zm9 all you src f acc x t s.Objects (s.Objects.length:Int) (i:Int)).den=some (.inl (.L0 all you src f (bif mat all you src f i x then acc++[x.Id] else acc) s.Objects (s.Objects.length:Int) ((i+1:Nat):Int))):=by
   rintro t rfl
   dsimp only [Zm9,LT.den]
   rw [Za8q _ _ _ _ _ (Zbdh ht i),Option.bind_some,Z2o hi (by omega)]
   show (bif mat all you src f i x then _ else _)=_
   cases mat all you src f i x with
   | true=>rw [cond_true,Za4y (by simp;omega) (by decide)];rfl
   | false=>rfl
  show (Zna _ _ _ _ _ _ _ _).den=_
  dsimp only [Zna,LT.den]
  rw [decide_eq_true (show (i:Int) < (s.Objects.length:Int) by omega),cond_true,Zj8 hx,Option.bind_some]
  by_cases hl:i < all.length
  .rw [decide_eq_true (show (i:Int) < (all.length:Int) by omega),cond_true,Zbbm all hl,Option.bind_some];exact l1 _ (by simp [atV,List.getElem?_eq_getElem hl])
  .rw [decide_eq_false (show ¬ (i:Int) < (all.length:Int) by omega),cond_false];exact l1 _ (by simp [atV,List.getElem?_eq_none (show all.length<=i by omega),Zamz]))
 refine Eq.trans h (Zdv ?_)
 show (Zna _ _ _ _ _ _ _ _).den=_
 dsimp only [Zna,LT.den]
 rw [decide_eq_false (by omega)];rfl
end Go.PW
