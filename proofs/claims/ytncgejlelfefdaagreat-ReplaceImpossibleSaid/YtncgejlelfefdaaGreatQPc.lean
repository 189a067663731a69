import Derived.Test.YtncgejlelfefdaaGreatQPb
set_option linter.all false
set_option maxRecDepth 100000
namespace Go.PW
theorem Zqu{n:Int}(h1 : -1000000<=n)(h2:n<=1000000):Z4u n=some n/\Z40 n=some n:=by
 constructor
 ·(unfold Z4u LF.run;dsimp only [Z6d,LT.den])
  simp only [Option.bind_some,Zf1]
  (unfold Zia;unfold Zsy)
  congr 1
  repeat' split
  all_goals omega
 ·(unfold Z40 LF.run;dsimp only [Z6g,LT.den])
  rw [decide_eq_false (by omega),decide_eq_false (by omega)];rfl
theorem Zaiz{a b:Int}(h1:0<=a)(h2:a<=100000)(h3:0<=b)(h4:b<=100000):Zaks a b=some (a+b)/\Zakt a b=some (a+b):=by
 obtain⟨a1,a2⟩:=Zqu (n:=a) (by omega) (by omega)
 obtain⟨b1,b2⟩:=Zqu (n:=b) (by omega) (by omega)
 obtain⟨c1,c2⟩:=Zqu (n:=a+b) (by omega) (by omega)
 have hw:IntKind.wrap .i64 (a+b)=a+b:=Zgn (by omega) (by omega)
 constructor
 ·(unfold Zaks LF.run;dsimp only [Zag5,LT.den])
  simp only [a1,b1,c1,hw,Option.bind_some];rfl
 ·(unfold Zakt LF.run;dsimp only [Zahl,LT.den])
  simp only [a2,b2,c2,hw,Option.bind_some];rfl
theorem mul_zero{a:Int}(h1:0<=a)(h2:a<=100000):Zakr a 0=some 0/\Zaku a 0=some 0:=by
 obtain⟨a1,a2⟩:=Zqu (n:=a) (by omega) (by omega)
 obtain⟨b1,b2⟩:=Zqu (n:=0) (by omega) (by omega)
 have hw:IntKind.wrap .i64 (a*0)=0:=by rw [Int.mul_zero];rfl
 constructor
 ·(unfold Zakr LF.run;dsimp only [Zag4,LT.den])
  simp only [a1,b1,hw,Option.bind_some];rfl
 ·(unfold Zaku LF.run;dsimp only [Zaht,LT.den])
  simp only [a2,b2,hw,Option.bind_some];rfl
def Z47(c:Z2):Bool:=btw c.Generic 99&&(btw c.X 2&&c.Color.list.all fun n=>btw n 9)
theorem Zbe2(c:Z2):Zakq c=some (Z47 c):=by
 (unfold Zakq LF.run;dsimp only [Zag3,LT.den])
 simp only [Option.bind_some,Zlq]
 have:=Z1e (st:=fun i=>Zoj.L0 c c.Color (i:Int)) (step:=Zsg.step) (bad:=false) c.Color.list (fun n=>btw n 9) (fun i x hx=>by
  have hi:=(List.getElem?_eq_some_iff.1 hx).1
  have hi:i < 5:=hi
  show (Zpi _ _ _).den=_
  dsimp only [Zpi,LT.den]
  rw [decide_eq_true (by omega),Zj0 hx,Zgn (by omega) (by omega)]
  simp only [cond_true,Option.bind_some]
  unfold btw
  by_cases h1:x < 0
  .rw [decide_eq_true h1,decide_eq_false (show ¬ x>=0 by omega)];rfl
  .rw [decide_eq_false h1,decide_eq_true (show x>=0 by omega)]
   by_cases h2:x > 9
   .rw [decide_eq_true h2,decide_eq_false (show ¬ x<=9 by omega)];rfl
   .rw [decide_eq_false h2,decide_eq_true (show x<=9 by omega)];rfl)
 rw [show (Zoj.L0 c c.Color 0) = .L0 c c.Color ((0:Nat):Int) from rfl,this]
 have he:Zdf Zsg.step (.L0 c c.Color ((c.Color.list.length:Nat):Int))=some (btw c.Generic 99&&btw c.X 2):=by
  have e:Zsg.step (.L0 c c.Color ((c.Color.list.length:Nat):Int))=some (.inr (btw c.Generic 99&&btw c.X 2)):=by
   show (Zpi c c.Color 5).den=_
   (dsimp only [Zpi,LT.den];unfold btw)
   rw [decide_eq_false (by omega)]
   cases decide (c.Generic>=0)<;>cases decide (c.Generic<=99)<;>cases decide (c.X>=0)<;>rfl
  exact Zd9 e
 rw [he]
 unfold Z47
 cases c.Color.list.all fun n=>btw n 9<;>cases btw c.Generic 99<;>cases btw c.X 2<;>rfl
theorem Zbbt(c:Z2):Z7k c=some (Z47 c):=by
 (unfold Z7k LF.run;dsimp only [Zapi,LT.den])
 have hl:Zdf Zj9.step (.L0 c 0)=some (c.Color.list.all fun n=>btw n 9):=by
  have:=Z1e (st:=fun i=>Zls.L0 c (i:Int)) (step:=Zj9.step) (bad:=false) c.Color.list (fun n=>btw n 9) (fun i x hx=>by
   have hi:=(List.getElem?_eq_some_iff.1 hx).1
   have hi:i < 5:=hi
   show (Zoa _ _).den=_
   dsimp only [Zoa,LT.den]
   rw [decide_eq_true (by omega),Zj0 hx,Zgn (by omega) (by omega)]
   simp only [cond_true,Option.bind_some]
   unfold btw
   by_cases h1:x < 0
   .rw [decide_eq_true h1,decide_eq_false (show ¬ x>=0 by omega)];rfl
   .rw [decide_eq_false h1,decide_eq_true (show x>=0 by omega)]
    by_cases h2:x > 9
    .rw [decide_eq_true h2,decide_eq_false (show ¬ x<=9 by omega)];rfl
    .rw [decide_eq_false h2,decide_eq_true (show x<=9 by omega)];rfl)
  rw [show (Zls.L0 c 0) = .L0 c ((0:Nat):Int) from rfl,this]
  have he:Zdf Zj9.step (.L0 c ((c.Color.list.length:Nat):Int))=some true:=by
   refine Zd9 ?_
   show (Zoa c 5).den=_
   rfl
  rw [he]
  cases c.Color.list.all fun n=>btw n 9<;>rfl
 refine (Zb6 fun _=>Zb6 fun _=>Zb6 fun _=>Zb6 fun _=>(show Option.bind (some (Sum.inl (Zls.L0 c 0))) (Zgm Zj9.step)=some (c.Color.list.all fun n=>btw n 9) from hl)).trans ?_
 congr 1
 (unfold Z47;unfold btw)
 rw [Bool.eq_iff_iff]
 simp only [Bool.and_eq_true,Bool.not_eq_true',decide_eq_false_iff_not,decide_eq_true_eq,ge_iff_le,gt_iff_lt,Int.not_lt]
 constructor
 .rintro ⟨h1,h2,h3,h4,h5⟩;exact⟨⟨h1,h2⟩,⟨h3,h4⟩,h5⟩
 .rintro ⟨⟨h1,h2⟩,⟨h3,h4⟩,h5⟩;exact⟨h1,h2,h3,h4,h5⟩
def valV(c:Z2):Int:=bif Z47 c then c.Generic+c.Color.a0+c.Color.a1+c.Color.a2+c.Color.a3+c.Color.a4 else 0
theorem Zbbu{c:Z2}(h:Z47 c=true):(0<=c.Generic/\c.Generic<=99)/\(0<=c.X/\c.X<=2)/\(0<=c.Color.a0/\c.Color.a0<=9)/\(0<=c.Color.a1/\c.Color.a1<=9)/\(0<=c.Color.a2/\c.Color.a2<=9)/\(0<=c.Color.a3/\c.Color.a3<=9)/\(0<=c.Color.a4/\c.Color.a4<=9):=by
 simpa [Z47,btw,A5.list] using h
theorem Za87(c:Z2):Zaa2 c 0=some (valV c)/\Zahu c 0=some (valV c):=by
 (unfold Zaa2 LF.run;dsimp only [Zag6,LT.den];unfold Zahu LF.run;dsimp only [Zanw,LT.den];unfold valV)
 rw [Zbe2,Zbbt]
 simp only [Option.bind_some]
 cases hc:Z47 c with
 | false=>exact⟨rfl,rfl⟩
 | true=>
  obtain⟨g,x,h0,h1,h2,h3,h4⟩:=Zbbu hc
  obtain⟨gen,xx,⟨a0,a1,a2,a3,a4⟩⟩:=c
  simp only at g x h0 h1 h2 h3 h4 ⊢
  simp only [Bool.not_true,cond_false,Option.bind_some,Zlq,cond_true]
  constructor
  .have hw:∀ {n:Int},0<=n->n<=1000->IntKind.wrap .i64 n=n:=fun h1 h2=>Zgn (by omega) (by omega)
   have r:∀ (v i y:Int),i < 5->idx? [a0,a1,a2,a3,a4] i=some y->0<=v+y->v+y<=1000->0<=i->Zdf Ztn.step (.L0 0 ⟨gen,xx,⟨a0,a1,a2,a3,a4⟩⟩ v ⟨a0,a1,a2,a3,a4⟩ i)=Zdf Ztn.step (.L0 0 ⟨gen,xx,⟨a0,a1,a2,a3,a4⟩⟩ (v+y) ⟨a0,a1,a2,a3,a4⟩ (i+1)):=fun v i y hi hy h1 h2 h0=>by
    refine Zj8 ?_
    show (Zmi _ _ _ _ _).den=_
    dsimp only [Zmi,LT.den]
    rw [decide_eq_true hi,show idx? (A5.list (⟨a0,a1,a2,a3,a4⟩:A5 Int)) i=some y from hy,Option.bind_some,hw h1 h2,Zgn (by omega) (by omega)];rfl
   rw [r gen 0 a0 (by omega) rfl (by omega) (by omega) (by omega),r _ _ a1 (by omega) rfl (by omega) (by omega) (by omega),r _ _ a2 (by omega) rfl (by omega) (by omega) (by omega),r _ _ a3 (by omega) rfl (by omega) (by omega) (by omega),r _ _ a4 (by omega) rfl (by omega) (by omega) (by omega)]
   refine Zd9 ?_
   show (Zmi _ _ _ _ 5).den=_
   dsimp only [Zmi,LT.den]
   have e1:=(mul_zero (a:=xx) (by omega) (by omega)).1
   have e2:=(Zaiz (a:=gen+a0+a1+a2+a3+a4) (b:=0) (by omega) (by omega) (by omega) (by omega)).1
   rw [decide_eq_false (by omega)]
   simp only [cond_false,show Zsy 0 0=0 from rfl,e1,e2,Option.bind_some,Int.add_zero]
  .have r:∀ (v i y:Int),i < 5->idx? [a0,a1,a2,a3,a4] i=some y->0<=v->v<=1000->0<=y->y<=9->0<=i->Zdf Zws.step (.L0 0 ⟨gen,xx,⟨a0,a1,a2,a3,a4⟩⟩ v i)=Zdf Zws.step (.L0 0 ⟨gen,xx,⟨a0,a1,a2,a3,a4⟩⟩ (v+y) (i+1)):=fun v i y hi hy h1 h2 h3 h4 h0=>by
    refine Zj8 ?_
    show (Zou _ _ _ _).den=_
    dsimp only [Zou,LT.den]
    rw [decide_eq_true hi,show idx? (A5.list (⟨a0,a1,a2,a3,a4⟩:A5 Int)) i=some y from hy,Option.bind_some,(Zaiz h1 (by omega) h3 (by omega)).2,Option.bind_some,Zgn (by omega) (by omega)];rfl
   rw [r gen 0 a0 (by omega) rfl (by omega) (by omega) (by omega) (by omega) (by omega),r _ _ a1 (by omega) rfl (by omega) (by omega) (by omega) (by omega) (by omega),r _ _ a2 (by omega) rfl (by omega) (by omega) (by omega) (by omega) (by omega),r _ _ a3 (by omega) rfl (by omega) (by omega) (by omega) (by omega) (by omega),r _ _ a4 (by omega) rfl (by omega) (by omega) (by omega) (by omega) (by omega)]
   refine Zd9 ?_
   show (Zou _ _ _ 5).den=_
   dsimp only [Zou,LT.den]
   have e1:=(mul_zero (a:=xx) (by omega) (by omega)).2
   have e2:=(Zaiz (a:=gen+a0+a1+a2+a3+a4) (b:=0) (by omega) (by omega) (by omega) (by omega)).2
   rw [decide_eq_false (by omega),decide_eq_false (by omega)]
   simp only [cond_false,e1,e2,Option.bind_some,Int.add_zero]
def metV(b:Zj)(n:Int):Bool:=bif b.Kind==0 then true else bif b.Kind==1 then decide (n>=b.N) else bif b.Kind==2 then decide (n<=b.N) else bif b.Kind==3 then n==b.N else false
theorem Zabh(b:Zj)(n:Int):Zag1 b n=some (metV b n)/\Zahs b n=some (metV b n):=by
 (unfold Zag1 LF.run;dsimp only [Zana,LT.den];unfold Zahs LF.run;dsimp only [Zanu,LT.den];unfold metV)
 cases b.Kind==0<;>cases b.Kind==1<;>cases b.Kind==2<;>cases b.Kind==3<;>exact⟨rfl,rfl⟩
def Zq7(h s n:Int):Bool:=(s==0||Zbl .and .i64 h s != 0)&&Zbl .and .i64 h n==0
def oneV(a b w:Int):Bool:=bif w==1 then a==b else bif w != 2 then true else a != b
def tapV(t:Bool)(w:Int):Bool:=bif w==1 then t else bif w != 2 then true else !t
def Zo0(t:Zb):Bool:=Zbl .and .i64 t.Line.Types 1 != 0
def bouV(cr:Bool)(b:Zj)(n:Int):Bool:=b.Kind==0||(cr&&metV b n)
def Z2p(t:Zb)(f:Zm):Bool:=bouV (Zo0 t) f.Power t.Power&&(bouV (Zo0 t) f.Tough t.Tough&&metV f.Value (valV t.Cost))
def keyV(t:Zb)(f:Zm):Bool:=Zbl .and .i64 t.Keys f.Keys==f.Keys
def Z48(t:Zb)(f:Zm):Bool:=f.Sub==[]||Zit t.Line.Subs f.Sub
def Zrw(o:Zc)(t:Zb)(you source:Int)(f:Zm):Bool:=
 filV f&&(o.Zone==f.Zone&&(oneV t.Control you f.Who&&(oneV o.Id source f.Self&&(Zq7 t.Line.Types f.Types f.NotTypes&&(Zq7 t.Colors f.Colors f.NotColors &&
  (Z48 t f&&(keyV t f&&(tapV o.Tapped f.Tap&&Z2p t f))))))))
theorem Zblo(h s n:Int):Zvq h s n=some (Zq7 h s n):=by
 (unfold Zvq LF.run;dsimp only [Z13,LT.den];unfold Zq7)
 cases s==0<;>cases Zbl .and .i64 h s != 0<;>rfl
theorem Zbbv(b:Zj)(n:Int)(cr:Bool):Znf b n cr=some (bouV cr b n):=by
 (unfold Znf LF.run;dsimp only [Zsh,LT.den];unfold bouV)
 rw [(Zabh b n).1]
 cases b.Kind==0<;>cases cr<;>cases metV b n<;>rfl
theorem m4(t:Zb)(f:Zm):(Zgq t f (Zo0 t)).den.bind (Zgm Zhe.step)=some (Z2p t f):=by
 (dsimp only [Zgq,LT.den];unfold Z2p)
 simp only [Zbbv,(Za87 _).1,(Zabh _ _).1,Option.bind_some]
 exact Zkm fun _=>Zkm fun _=>rfl
theorem m3(o:Zc)(t:Zb)(f:Zm)(v:Bool):(Zh7 o t f (Zo0 t) v).den.bind (Zgm Zhe.step)=some (!v&&(tapV o.Tapped f.Tap&&Z2p t f)):=by
 dsimp only [Zh7,LT.den]
 refine Zb6 fun _=>?_
 have hm:=m4 t f
 unfold tapV
 by_cases h1:f.Tap=1
 .rw [show (f.Tap==1)=true from by rw [h1];rfl,show (f.Tap==2)=false from by rw [h1];rfl]
  cases o.Tapped
  .rfl
  .simpa using hm
 .rw [show (f.Tap==1)=false from beq_eq_false_iff_ne.2 h1]
  cases h2:f.Tap==2 with
  | false=>simpa [bne,h2] using hm
  | true=>
   cases o.Tapped
   .simpa [bne,h2] using hm
   .simp [bne,h2,Zf1]
theorem m2(o:Zc)(t:Zb)(f:Zm)(v:Bool)(ht:t.Line.Subs.length<=4611686018427387904) :
 (Zj2 o t f (Zo0 t) v).den.bind (Zgm Zhe.step)=some (!v&&(Z48 t f&&(keyV t f&&(tapV o.Tapped f.Tap&&Z2p t f)))):=by
 dsimp only [Zj2,LT.den]
 refine Zb6 fun _=>?_
 have hk:Zanc t.Keys f.Keys=some (keyV t f):=rfl
 simp only [Zbjb _ _ ht,hk,Option.bind_some]
 unfold Z48
 cases f.Sub==[] with
 | true=>simp only [Bool.not_true,cond_false,Bool.true_or,Bool.true_and];rw [m3,Bool.not_not]
 | false=>
  simp only [Bool.not_false,cond_true,Bool.false_or]
  cases Zit t.Line.Subs f.Sub with
  | false=>simp only [Bool.not_false,cond_true];rw [m3];rfl
  | true=>simp only [Bool.not_true,cond_false];rw [m3,Bool.not_not];rfl
theorem m1(o:Zc)(t:Zb)(f:Zm)(v:Bool)(ht:t.Line.Subs.length<=4611686018427387904) :
 (Zfn o t f (Zo0 t) v).den.bind (Zgm Zhe.step)=some (!v&&(Zq7 t.Line.Types f.Types f.NotTypes&&(Zq7 t.Colors f.Colors f.NotColors&&(Z48 t f&&(keyV t f&&(tapV o.Tapped f.Tap&&Z2p t f)))))):=by
 dsimp only [Zfn,LT.den]
 refine Zb6 fun _=>?_
 simp only [Zblo,Option.bind_some]
 cases Zq7 t.Line.Types f.Types f.NotTypes with
 | false=>simp only [Bool.not_false,cond_true];rw [m2 o t f _ ht];rfl
 | true=>simp only [Bool.not_true,cond_false];rw [m2 o t f _ ht,Bool.not_not];rfl
theorem m0(o:Zc)(t:Zb)(source:Int)(f:Zm)(v:Bool)(ht:t.Line.Subs.length<=4611686018427387904) :
 (Zcc source o t f (Zo0 t) v).den.bind (Zgm Zhe.step)=some (!v&&(oneV o.Id source f.Self&&(Zq7 t.Line.Types f.Types f.NotTypes&&(Zq7 t.Colors f.Colors f.NotColors&&(Z48 t f&&(keyV t f&&(tapV o.Tapped f.Tap&&Z2p t f))))))):=by
 dsimp only [Zcc,LT.den]
 refine Zb6 fun _=>?_
 have hm:=fun v=>m1 o t f v ht
 unfold oneV
 by_cases h1:f.Self=1
 .rw [show (f.Self==1)=true from by rw [h1];rfl,show (f.Self==2)=false from by rw [h1];rfl]
  cases h:o.Id==source
  .simp only [cond_true,bne,h,Bool.not_false];rw [hm];rfl
  .simp only [cond_true,bne,h,Bool.not_true,cond_false];rw [hm];rfl
 .rw [show (f.Self==1)=false from beq_eq_false_iff_ne.2 h1]
  cases h2:f.Self==2 with
  | false=>simp only [cond_false,bne,h2,Bool.not_false,cond_true];rw [hm];rfl
  | true=>simp only [cond_false,bne,h2,Bool.not_true,cond_true];rw [hm]
theorem Zblp(o:Zc)(t:Zb)(you source:Int)(f:Zm)(ht:t.Line.Subs.length<=4611686018427387904):Zto o t you source f=some (Zrw o t you source f):=by
 (unfold Zto LF.run;dsimp only [Z8g,LT.den];unfold Zrw)
 rw [Za84,Option.bind_some]
 refine Zew fun _=>?_
 have hz:(o.Zone != f.Zone) = !(o.Zone==f.Zone):=rfl
 rw [hz]
 refine Zew fun _=>?_
 have hm:=fun v=>m0 o t source f v ht
 show Option.bind (bif (f.Who==1) then bif (t.Control != you) then (Zcc source o t f (Zo0 t) _).den else bif (f.Who==2) then (Zcc source o t f (Zo0 t) _).den else (Zcc source o t f (Zo0 t) _).den else bif (f.Who==2) then (Zcc source o t f (Zo0 t) _).den else (Zcc source o t f (Zo0 t) _).den) _=_
 unfold oneV
 by_cases h1:f.Who=1
 .rw [show (f.Who==1)=true from by rw [h1];rfl,show (f.Who==2)=false from by rw [h1];rfl]
  cases h:t.Control==you
  .simp only [cond_true,bne,h,Bool.not_false];rw [hm];rfl
  .simp only [cond_true,bne,h,Bool.not_true,cond_false];rw [hm];rfl
 .rw [show (f.Who==1)=false from beq_eq_false_iff_ne.2 h1]
  cases h2:f.Who==2 with
  | false=>simp only [cond_false,bne,h2,Bool.not_false,cond_true];rw [hm];rfl
  | true=>simp only [cond_false,bne,h2,Bool.not_true,cond_true];rw [hm];rfl
theorem b0(t:Zb)(f:Zm):(Zjt t f (Zo0 t)).den.bind (Zgm Z2d.step)=some (bouV (Zo0 t) f.Tough t.Tough&&metV f.Value (valV t.Cost)):=by
 (dsimp only [Zjt,LT.den];unfold bouV)
 simp only [(Za87 _).2,(Zabh _ _).2,Option.bind_some,bne]
 cases f.Tough.Kind==0<;>cases Zo0 t<;>cases metV f.Tough t.Tough<;>rfl
theorem Zbjd(t:Zb)(f:Zm):Zaa8 t f=some (Z2p t f):=by
 (unfold Zaa8 LF.run;dsimp only [Zahv,LT.den];unfold Z2p)
 have hs:Z6j t.Line.Types 1=some (Zo0 t):=rfl
 rw [hs,Option.bind_some]
 simp only [(Zabh _ _).2,Option.bind_some,bne]
 have hb:=b0 t f
 unfold bouV at hb ⊢
 cases f.Power.Kind==0 with
 | true=>simpa using hb
 | false=>
  cases hc:Zo0 t with
  | false=>rfl
  | true=>
   rw [hc] at hb
   cases metV f.Power t.Power
   .rfl
   .simpa using hb
theorem Zavw(a b:Int):Z6j a b=some (Zbl .and .i64 a b != 0):=rfl
theorem r1(t:Zb)(f:Zm)(ht:t.Line.Subs.length<=4611686018427387904):(Zmo t f).den.bind (Zgm Ztw.step)=some (Z48 t f&&(keyV t f&&Z2p t f)):=by
 (dsimp only [Zmo,LT.den];unfold Z48)
 have hk:Zbc4 t.Keys f.Keys=some (keyV t f):=rfl
 simp only [Za22 _ _ ht,hk,Zbjd,Option.bind_some]
 cases f.Sub==[] with
 | true=>simp only [Bool.not_true,cond_false,Bool.true_or,Bool.true_and];exact Zew fun _=>rfl
 | false=>simp only [Bool.not_false,cond_true,Bool.false_or];exact Zew fun _=>Zew fun _=>rfl
theorem Za2b{S:Type}{step:S->Option (S ⊕ Bool)}{r:Bool}{k:Option (S ⊕ Bool)}(h s n:Int)(hk:k.bind (Zgm step)=some r) :
 (bif (s != 0) then bif (!(Zbl .and .i64 h s != 0)) then some (.inr false) else bif (Zbl .and .i64 h n != 0) then some (.inr false) else k else bif (Zbl .and .i64 h n != 0) then some (.inr false) else k).bind (Zgm step)=some (Zq7 h s n&&r):=by
 unfold Zq7
 simp only [bne]
 cases s==0<;>cases Zbl .and .i64 h s==0<;>cases Zbl .and .i64 h n==0<;>first | rfl | simpa using hk
theorem r0(t:Zb)(f:Zm)(ht:t.Line.Subs.length<=4611686018427387904):(Zmp t f).den.bind (Zgm Ztw.step)=some (Zq7 t.Colors f.Colors f.NotColors&&(Z48 t f&&(keyV t f&&Z2p t f))):=by
 dsimp only [Zmp,LT.den]
 simp only [Zavw,Option.bind_some]
 exact Za2b _ _ _ (r1 t f ht)
theorem Zai1(o:Zc)(t:Zb)(you source:Int)(f:Zm)(ht:t.Line.Subs.length<=4611686018427387904):Z0s o t you source f=some (Zrw o t you source f):=by
 (unfold Z0s LF.run;dsimp only [Zahw,LT.den])
 have h1:∀ a b w,Zayn a b w=some (oneV a b w):=fun a b w=>by (unfold Zayn LF.run;dsimp only [Za1p,LT.den];unfold oneV);cases w==1<;>cases w != 2<;>rfl
 have h2:∀ a b w,Zap0 a b w=some (oneV a b w):=fun a b w=>by (unfold Zap0 LF.run;dsimp only [Zauv,LT.den];unfold oneV);cases w==1<;>cases w != 2<;>rfl
 have h3:∀ a w,Zayo a w=some (tapV a w):=fun a w=>by (unfold Zayo LF.run;dsimp only [Za1r,LT.den];unfold tapV);cases w==1<;>cases w != 2<;>rfl
 simp only [Za2a,h1,h2,h3,Zavw,Option.bind_some]
 have hz:(o.Zone != f.Zone) = !(o.Zone==f.Zone):=rfl
 rw [hz]
 refine (Zew fun _=>Zew fun _=>Zew fun _=>Zew fun _=>Zew fun _=>Za2b _ _ _ (r0 t f ht)).trans ?_
 congr 1
 unfold Zrw
 cases tapV o.Tapped f.Tap<;>simp
end Go.PW
