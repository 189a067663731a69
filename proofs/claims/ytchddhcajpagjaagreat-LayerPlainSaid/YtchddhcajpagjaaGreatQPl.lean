import Derived.Test.YtchddhcajpagjaaGreatQPb
import Derived.Test.YtchddhcajpagjaaGreatPwX
set_option linter.all false
set_option maxRecDepth 100000
namespace Go.PW
theorem Zrd{n:Int}(h1 : -1000000<=n)(h2:n<=1000000):Z3j n=some n/\Z33 n=some n:=by
 constructor
 ·(unfold Z3j LF.run;dsimp only [Z5a,LT.den])
  simp only [Option.bind_some,Zfv]
  (unfold Z7t;unfold Z0a)
  congr 1
  repeat' split
  all_goals omega
 ·(unfold Z33 LF.run;dsimp only [Z5d,LT.den])
  rw [decide_eq_false (by omega),decide_eq_false (by omega)];rfl
theorem Zadq{a b:Int}(h1:0<=a)(h2:a<=100000)(h3:0<=b)(h4:b<=100000):Zaet a b=some (a+b)/\Zapg a b=some (a+b):=by
 obtain⟨a1,a2⟩:=Zrd (n:=a) (by omega) (by omega)
 obtain⟨b1,b2⟩:=Zrd (n:=b) (by omega) (by omega)
 obtain⟨c1,c2⟩:=Zrd (n:=a+b) (by omega) (by omega)
 have hw:IntKind.wrap .i64 (a+b)=a+b:=Zge (by omega) (by omega)
 constructor
 ·(unfold Zaet LF.run;dsimp only [Zac0,LT.den])
  simp only [a1,b1,c1,hw,Option.bind_some];rfl
 ·(unfold Zapg LF.run;dsimp only [Zash,LT.den])
  simp only [a2,b2,c2,hw,Option.bind_some];rfl
theorem mul_zero{a:Int}(h1:0<=a)(h2:a<=100000):Zapb a 0=some 0/\Zaph a 0=some 0:=by
 obtain⟨a1,a2⟩:=Zrd (n:=a) (by omega) (by omega)
 obtain⟨b1,b2⟩:=Zrd (n:=0) (by omega) (by omega)
 have hw:IntKind.wrap .i64 (a*0)=0:=by rw [Int.mul_zero];rfl
 constructor
 ·(unfold Zapb LF.run;dsimp only [Zasb,LT.den])
  simp only [a1,b1,hw,Option.bind_some];rfl
 ·(unfold Zaph LF.run;dsimp only [Zask,LT.den])
  simp only [a2,b2,hw,Option.bind_some];rfl
def Z35(c:Zt):Bool:=btw c.Generic 99&&(btw c.X 2&&c.Color.list.all fun n=>btw n 9)
theorem Za4d(c:Zt):Zaes c=some (Z35 c):=by
 (unfold Zaes LF.run;dsimp only [Zacy,LT.den])
 simp only [Option.bind_some,Zmu]
 have:=Z0i (st:=fun i=>Zo0.L0 c c.Color (i:Int)) (step:=Zsp.step) (bad:=false) c.Color.list (fun n=>btw n 9) (fun i x hx=>by
  have hi:=(List.getElem?_eq_some_iff.1 hx).1
  have hi:i < 5:=hi
  show (Zpz _ _ _).den=_
  dsimp only [Zpz,LT.den]
  rw [decide_eq_true (by omega),Zkf hx,Zge (by omega) (by omega)]
  simp only [cond_true,Option.bind_some]
  unfold btw
  by_cases h1:x < 0
  .rw [decide_eq_true h1,decide_eq_false (show ¬ x>=0 by omega)];rfl
  .rw [decide_eq_false h1,decide_eq_true (show x>=0 by omega)]
   by_cases h2:x > 9
   .rw [decide_eq_true h2,decide_eq_false (show ¬ x<=9 by omega)];rfl
   .rw [decide_eq_false h2,decide_eq_true (show x<=9 by omega)];rfl)
 rw [show (Zo0.L0 c c.Color 0) = .L0 c c.Color ((0:Nat):Int) from rfl,this]
 have he:Zc0 Zsp.step (.L0 c c.Color ((c.Color.list.length:Nat):Int))=some (btw c.Generic 99&&btw c.X 2):=by
  have e:Zsp.step (.L0 c c.Color ((c.Color.list.length:Nat):Int))=some (.inr (btw c.Generic 99&&btw c.X 2)):=by
   show (Zpz c c.Color 5).den=_
   (dsimp only [Zpz,LT.den];unfold btw)
   rw [decide_eq_false (by omega)]
   cases decide (c.Generic>=0)<;>cases decide (c.Generic<=99)<;>cases decide (c.X>=0)<;>rfl
  exact Zdu e
 rw [he]
 unfold Z35
 cases c.Color.list.all fun n=>btw n 9<;>cases btw c.Generic 99<;>cases btw c.X 2<;>rfl
theorem Za08(c:Zt):Z57 c=some (Z35 c):=by
 (unfold Z57 LF.run;dsimp only [Zaio,LT.den])
 have hl:Zc0 Zky.step (.L0 c 0)=some (c.Color.list.all fun n=>btw n 9):=by
  have:=Z0i (st:=fun i=>Zmx.L0 c (i:Int)) (step:=Zky.step) (bad:=false) c.Color.list (fun n=>btw n 9) (fun i x hx=>by
   have hi:=(List.getElem?_eq_some_iff.1 hx).1
   have hi:i < 5:=hi
   show (Zos _ _).den=_
   dsimp only [Zos,LT.den]
   rw [decide_eq_true (by omega),Zkf hx,Zge (by omega) (by omega)]
   simp only [cond_true,Option.bind_some]
   unfold btw
   by_cases h1:x < 0
   .rw [decide_eq_true h1,decide_eq_false (show ¬ x>=0 by omega)];rfl
   .rw [decide_eq_false h1,decide_eq_true (show x>=0 by omega)]
    by_cases h2:x > 9
    .rw [decide_eq_true h2,decide_eq_false (show ¬ x<=9 by omega)];rfl
    .rw [decide_eq_false h2,decide_eq_true (show x<=9 by omega)];rfl)
  rw [show (Zmx.L0 c 0) = .L0 c ((0:Nat):Int) from rfl,this]
  have he:Zc0 Zky.step (.L0 c ((c.Color.list.length:Nat):Int))=some true:=by
   refine Zdu ?_
   show (Zos c 5).den=_
   rfl
  rw [he]
  cases c.Color.list.all fun n=>btw n 9<;>rfl
 refine (Zbs fun _=>Zbs fun _=>Zbs fun _=>Zbs fun _=>(show Option.bind (some (Sum.inl (Zmx.L0 c 0))) (Zhp Zky.step)=some (c.Color.list.all fun n=>btw n 9) from hl)).trans ?_
 congr 1
 (unfold Z35;unfold btw)
 rw [Bool.eq_iff_iff]
 simp only [Bool.and_eq_true,Bool.not_eq_true',decide_eq_false_iff_not,decide_eq_true_eq,ge_iff_le,gt_iff_lt,Int.not_lt]
 constructor
 .rintro ⟨h1,h2,h3,h4,h5⟩;exact⟨⟨h1,h2⟩,⟨h3,h4⟩,h5⟩
 .rintro ⟨⟨h1,h2⟩,⟨h3,h4⟩,h5⟩;exact⟨h1,h2,h3,h4,h5⟩
def valV(c:Zt):Int:=bif Z35 c then c.Generic+c.Color.a0+c.Color.a1+c.Color.a2+c.Color.a3+c.Color.a4 else 0
theorem Za09{c:Zt}(h:Z35 c=true):(0<=c.Generic/\c.Generic<=99)/\(0<=c.X/\c.X<=2)/\(0<=c.Color.a0/\c.Color.a0<=9)/\(0<=c.Color.a1/\c.Color.a1<=9)/\(0<=c.Color.a2/\c.Color.a2<=9)/\(0<=c.Color.a3/\c.Color.a3<=9)/\(0<=c.Color.a4/\c.Color.a4<=9):=by
 simpa [Z35,btw,A5.list] using h
theorem Zayp(c:Zt):Z8i c 0=some (valV c)/\Zadj c 0=some (valV c):=by
 (unfold Z8i LF.run;dsimp only [Zac6,LT.den];unfold Zadj LF.run;dsimp only [Zahx,LT.den];unfold valV)
 rw [Za4d,Za08]
 simp only [Option.bind_some]
 cases hc:Z35 c with
 | false=>exact⟨rfl,rfl⟩
 | true=>
  obtain⟨g,x,h0,h1,h2,h3,h4⟩:=Za09 hc
  obtain⟨gen,xx,⟨a0,a1,a2,a3,a4⟩⟩:=c
  simp only at g x h0 h1 h2 h3 h4 ⊢
  simp only [Bool.not_true,cond_false,Option.bind_some,Zmu,cond_true]
  constructor
  .have hw:∀ {n:Int},0<=n->n<=1000->IntKind.wrap .i64 n=n:=fun h1 h2=>Zge (by omega) (by omega)
   have r:∀ (v i y:Int),i < 5->idx? [a0,a1,a2,a3,a4] i=some y->0<=v+y->v+y<=1000->0<=i->Zc0 Ztx.step (.L0 0 ⟨gen,xx,⟨a0,a1,a2,a3,a4⟩⟩ v ⟨a0,a1,a2,a3,a4⟩ i)=Zc0 Ztx.step (.L0 0 ⟨gen,xx,⟨a0,a1,a2,a3,a4⟩⟩ (v+y) ⟨a0,a1,a2,a3,a4⟩ (i+1)):=fun v i y hi hy h1 h2 h0=>by
    refine Zkv ?_
    show (Zng _ _ _ _ _).den=_
    dsimp only [Zng,LT.den]
    rw [decide_eq_true hi,show idx? (A5.list (⟨a0,a1,a2,a3,a4⟩:A5 Int)) i=some y from hy,Option.bind_some,hw h1 h2,Zge (by omega) (by omega)];rfl
   rw [r gen 0 a0 (by omega) rfl (by omega) (by omega) (by omega),r _ _ a1 (by omega) rfl (by omega) (by omega) (by omega),r _ _ a2 (by omega) rfl (by omega) (by omega) (by omega),r _ _ a3 (by omega) rfl (by omega) (by omega) (by omega),r _ _ a4 (by omega) rfl (by omega) (by omega) (by omega)]
   refine Zdu ?_
   show (Zng _ _ _ _ 5).den=_
   dsimp only [Zng,LT.den]
   have e1:=(mul_zero (a:=xx) (by omega) (by omega)).1
   have e2:=(Zadq (a:=gen+a0+a1+a2+a3+a4) (b:=0) (by omega) (by omega) (by omega) (by omega)).1
   rw [decide_eq_false (by omega)]
   simp only [cond_false,show Z0a 0 0=0 from rfl,e1,e2,Option.bind_some,Int.add_zero]
  .have r:∀ (v i y:Int),i < 5->idx? [a0,a1,a2,a3,a4] i=some y->0<=v->v<=1000->0<=y->y<=9->0<=i->Zc0 Zwa.step (.L0 0 ⟨gen,xx,⟨a0,a1,a2,a3,a4⟩⟩ v i)=Zc0 Zwa.step (.L0 0 ⟨gen,xx,⟨a0,a1,a2,a3,a4⟩⟩ (v+y) (i+1)):=fun v i y hi hy h1 h2 h3 h4 h0=>by
    refine Zkv ?_
    show (Zpe _ _ _ _).den=_
    dsimp only [Zpe,LT.den]
    rw [decide_eq_true hi,show idx? (A5.list (⟨a0,a1,a2,a3,a4⟩:A5 Int)) i=some y from hy,Option.bind_some,(Zadq h1 (by omega) h3 (by omega)).2,Option.bind_some,Zge (by omega) (by omega)];rfl
   rw [r gen 0 a0 (by omega) rfl (by omega) (by omega) (by omega) (by omega) (by omega),r _ _ a1 (by omega) rfl (by omega) (by omega) (by omega) (by omega) (by omega),r _ _ a2 (by omega) rfl (by omega) (by omega) (by omega) (by omega) (by omega),r _ _ a3 (by omega) rfl (by omega) (by omega) (by omega) (by omega) (by omega),r _ _ a4 (by omega) rfl (by omega) (by omega) (by omega) (by omega) (by omega)]
   refine Zdu ?_
   show (Zpe _ _ _ 5).den=_
   dsimp only [Zpe,LT.den]
   have e1:=(mul_zero (a:=xx) (by omega) (by omega)).2
   have e2:=(Zadq (a:=gen+a0+a1+a2+a3+a4) (b:=0) (by omega) (by omega) (by omega) (by omega)).2
   rw [decide_eq_false (by omega),decide_eq_false (by omega)]
   simp only [cond_false,e1,e2,Option.bind_some,Int.add_zero]
def Z8q(b:Zb)(n:Int):Bool:=bif b.Kind==0 then true else bif b.Kind==1 then decide (n>=b.N) else bif b.Kind==2 then decide (n<=b.N) else bif b.Kind==3 then n==b.N else false
theorem Z8r(b:Zb)(n:Int):Zac4 b n=some (Z8q b n)/\Zadi b n=some (Z8q b n):=by
 (unfold Zac4 LF.run;dsimp only [Zahh,LT.den];unfold Zadi LF.run;dsimp only [Zahv,LT.den];unfold Z8q)
 cases b.Kind==0<;>cases b.Kind==1<;>cases b.Kind==2<;>cases b.Kind==3<;>exact⟨rfl,rfl⟩
def Zzy(h s n:Int):Bool:=(s==0||Zau .and .i64 h s != 0)&&Zau .and .i64 h n==0
def oneV(a b w:Int):Bool:=bif w==1 then a==b else bif w != 2 then true else a != b
def tapV(t:Bool)(w:Int):Bool:=bif w==1 then t else bif w != 2 then true else !t
def Zpf(t:Za):Bool:=Zau .and .i64 t.Line.Types 1 != 0
def bouV(cr:Bool)(b:Zb)(n:Int):Bool:=b.Kind==0||(cr&&Z8q b n)
def Z5l(t:Za)(f:Zg):Bool:=bouV (Zpf t) f.Power t.Power&&(bouV (Zpf t) f.Tough t.Tough&&Z8q f.Value (valV t.Cost))
def keyV(t:Za)(f:Zg):Bool:=Zau .and .i64 t.Keys f.Keys==f.Keys
def Z8s(t:Za)(f:Zg):Bool:=f.Sub==[]||Zf3 t.Line.Subs f.Sub
def matV(o:Zf)(t:Za)(you source:Int)(f:Zg):Bool:=
 Z8p f&&(o.Zone==f.Zone&&(oneV t.Control you f.Who&&(oneV o.Id source f.Self&&(Zzy t.Line.Types f.Types f.NotTypes&&(Zzy t.Colors f.Colors f.NotColors &&
  (Z8s t f&&(keyV t f&&(tapV o.Tapped f.Tap&&Z5l t f))))))))
theorem Zbbg(h s n:Int):Zvh h s n=some (Zzy h s n):=by
 (unfold Zvh LF.run;dsimp only [Z1d,LT.den];unfold Zzy)
 cases s==0<;>cases Zau .and .i64 h s != 0<;>rfl
theorem Za1a(b:Zb)(n:Int)(cr:Bool):Zn1 b n cr=some (bouV cr b n):=by
 (unfold Zn1 LF.run;dsimp only [Zsr,LT.den];unfold bouV)
 rw [(Z8r b n).1]
 cases b.Kind==0<;>cases cr<;>cases Z8q b n<;>rfl
theorem m4(t:Za)(f:Zg):(Zgg t f (Zpf t)).den.bind (Zhp Zg2.step)=some (Z5l t f):=by
 (dsimp only [Zgg,LT.den];unfold Z5l)
 simp only [Za1a,(Zayp _).1,(Z8r _ _).1,Option.bind_some]
 exact Zlk fun _=>Zlk fun _=>rfl
theorem m3(o:Zf)(t:Za)(f:Zg)(v:Bool):(Zh4 o t f (Zpf t) v).den.bind (Zhp Zg2.step)=some (!v&&(tapV o.Tapped f.Tap&&Z5l t f)):=by
 dsimp only [Zh4,LT.den]
 refine Zbs fun _=>?_
 have hm:=m4 t f
 unfold tapV
 by_cases h1:f.Tap=1
 .rw [show (f.Tap==1)=true from by rw [h1];rfl,show (f.Tap==2)=false from by rw [h1];rfl]
  cases o.Tapped
  .rfl
  .simpa using hm
 .rw [show (f.Tap==1)=false from beq_eq_false_iff_ne.2 h1]
  cases h2:f.Tap==2 with
  | false=>simpa [bne,h2] using hm
  | true=>
   cases o.Tapped
   .simpa [bne,h2] using hm
   .simp [bne,h2,Zfv]
theorem m2(o:Zf)(t:Za)(f:Zg)(v:Bool)(ht:t.Line.Subs.length<=4611686018427387904) :
 (Zki o t f (Zpf t) v).den.bind (Zhp Zg2.step)=some (!v&&(Z8s t f&&(keyV t f&&(tapV o.Tapped f.Tap&&Z5l t f)))):=by
 dsimp only [Zki,LT.den]
 refine Zbs fun _=>?_
 have hk:Zahj t.Keys f.Keys=some (keyV t f):=rfl
 simp only [Zasm _ _ ht,hk,Option.bind_some]
 unfold Z8s
 cases f.Sub==[] with
 | true=>simp only [Bool.not_true,cond_false,Bool.true_or,Bool.true_and];rw [m3,Bool.not_not]
 | false=>
  simp only [Bool.not_false,cond_true,Bool.false_or]
  cases Zf3 t.Line.Subs f.Sub with
  | false=>simp only [Bool.not_false,cond_true];rw [m3];rfl
  | true=>simp only [Bool.not_true,cond_false];rw [m3,Bool.not_not];rfl
theorem m1(o:Zf)(t:Za)(f:Zg)(v:Bool)(ht:t.Line.Subs.length<=4611686018427387904) :
 (Zfb o t f (Zpf t) v).den.bind (Zhp Zg2.step)=some (!v&&(Zzy t.Line.Types f.Types f.NotTypes&&(Zzy t.Colors f.Colors f.NotColors&&(Z8s t f&&(keyV t f&&(tapV o.Tapped f.Tap&&Z5l t f)))))):=by
 dsimp only [Zfb,LT.den]
 refine Zbs fun _=>?_
 simp only [Zbbg,Option.bind_some]
 cases Zzy t.Line.Types f.Types f.NotTypes with
 | false=>simp only [Bool.not_false,cond_true];rw [m2 o t f _ ht];rfl
 | true=>simp only [Bool.not_true,cond_false];rw [m2 o t f _ ht,Bool.not_not];rfl
theorem m0(o:Zf)(t:Za)(source:Int)(f:Zg)(v:Bool)(ht:t.Line.Subs.length<=4611686018427387904) :
 (Zbz source o t f (Zpf t) v).den.bind (Zhp Zg2.step)=some (!v&&(oneV o.Id source f.Self&&(Zzy t.Line.Types f.Types f.NotTypes&&(Zzy t.Colors f.Colors f.NotColors&&(Z8s t f&&(keyV t f&&(tapV o.Tapped f.Tap&&Z5l t f))))))):=by
 dsimp only [Zbz,LT.den]
 refine Zbs fun _=>?_
 have hm:=fun v=>m1 o t f v ht
 unfold oneV
 by_cases h1:f.Self=1
 .rw [show (f.Self==1)=true from by rw [h1];rfl,show (f.Self==2)=false from by rw [h1];rfl]
  cases h:o.Id==source
  .simp only [cond_true,bne,h,Bool.not_false];rw [hm];rfl
  .simp only [cond_true,bne,h,Bool.not_true,cond_false];rw [hm];rfl
 .rw [show (f.Self==1)=false from beq_eq_false_iff_ne.2 h1]
  cases h2:f.Self==2 with
  | false=>simp only [cond_false,bne,h2,Bool.not_false,cond_true];rw [hm];rfl
  | true=>simp only [cond_false,bne,h2,Bool.not_true,cond_true];rw [hm]
theorem Zayr(o:Zf)(t:Za)(you source:Int)(f:Zg)(ht:t.Line.Subs.length<=4611686018427387904):Zty o t you source f=some (matV o t you source f):=by
 (unfold Zty LF.run;dsimp only [Z61,LT.den];unfold matV)
 rw [Zadp,Option.bind_some]
 refine Zgf fun _=>?_
 have hz:(o.Zone != f.Zone) = !(o.Zone==f.Zone):=rfl
 rw [hz]
 refine Zgf fun _=>?_
 have hm:=fun v=>m0 o t source f v ht
 show Option.bind (bif (f.Who==1) then bif (t.Control != you) then (Zbz source o t f (Zpf t) _).den else bif (f.Who==2) then (Zbz source o t f (Zpf t) _).den else (Zbz source o t f (Zpf t) _).den else bif (f.Who==2) then (Zbz source o t f (Zpf t) _).den else (Zbz source o t f (Zpf t) _).den) _=_
 unfold oneV
 by_cases h1:f.Who=1
 .rw [show (f.Who==1)=true from by rw [h1];rfl,show (f.Who==2)=false from by rw [h1];rfl]
  cases h:t.Control==you
  .simp only [cond_true,bne,h,Bool.not_false];rw [hm];rfl
  .simp only [cond_true,bne,h,Bool.not_true,cond_false];rw [hm];rfl
 .rw [show (f.Who==1)=false from beq_eq_false_iff_ne.2 h1]
  cases h2:f.Who==2 with
  | false=>simp only [cond_false,bne,h2,Bool.not_false,cond_true];rw [hm];rfl
  | true=>simp only [cond_false,bne,h2,Bool.not_true,cond_true];rw [hm];rfl
theorem b0(t:Za)(f:Zg):(Zj4 t f (Zpf t)).den.bind (Zhp Z1n.step)=some (bouV (Zpf t) f.Tough t.Tough&&Z8q f.Value (valV t.Cost)):=by
 (dsimp only [Zj4,LT.den];unfold bouV)
 simp only [(Zayp _).2,(Z8r _ _).2,Option.bind_some,bne]
 cases f.Tough.Kind==0<;>cases Zpf t<;>cases Z8q f.Tough t.Tough<;>rfl
theorem Za8m(t:Za)(f:Zg):Z8m t f=some (Z5l t f):=by
 (unfold Z8m LF.run;dsimp only [Zadk,LT.den];unfold Z5l)
 have hs:Zahu t.Line.Types 1=some (Zpf t):=rfl
 rw [hs,Option.bind_some]
 simp only [(Z8r _ _).2,Option.bind_some,bne]
 have hb:=b0 t f
 unfold bouV at hb ⊢
 cases f.Power.Kind==0 with
 | true=>simpa using hb
 | false=>
  cases hc:Zpf t with
  | false=>rfl
  | true=>
   rw [hc] at hb
   cases Z8q f.Power t.Power
   .rfl
   .simpa using hb
theorem r1(t:Za)(f:Zg)(ht:t.Line.Subs.length<=4611686018427387904):(Znt t f).den.bind (Zhp Zayj.step)=some (Z8s t f&&(keyV t f&&Z5l t f)):=by
 (dsimp only [Znt,LT.den];unfold Z8s)
 have hk:Za2b t.Keys f.Keys=some (keyV t f):=rfl
 simp only [Zatb _ _ ht,hk,Za8m,Option.bind_some]
 cases f.Sub==[] with
 | true=>simp only [Bool.not_true,cond_false,Bool.true_or,Bool.true_and];exact Zgf fun _=>rfl
 | false=>simp only [Bool.not_false,cond_true,Bool.false_or];exact Zgf fun _=>Zgf fun _=>rfl
end Go.PW
set_option maxRecDepth 100000
namespace Go.PW
abbrev Bnd(n:Nat):Prop:=n<=4611686018427387904
def Zadr:Za:=⟨[],⟨0,0,⟨0,0,0,0,0⟩⟩,0,⟨0,0,[]⟩,0,0,0,[],0⟩
def atV(all:List Za)(i:Nat):Za:=(all[i]?).getD Zadr
theorem Zbg2{all:List Za}(ht:∀ t∈all,Bnd t.Line.Subs.length)(i:Nat):Bnd (atV all i).Line.Subs.length:=by
 unfold atV
 by_cases h:i < all.length
 .rw [List.getElem?_eq_getElem h];exact ht _ (List.getElem_mem h)
 .rw [List.getElem?_eq_none (show all.length<=i by omega)];exact Nat.zero_le _
def mat(all:List Za)(you src:Int)(f:Zg)(i:Nat)(o:Zf):Bool:=matV o (atV all i) you src f
def Zaeu(s:Zm)(all:List Za)(you src:Int)(f:Zg):List Int:=Z4x (mat all you src f) (fun o=>o.Id) 0 s.Objects
theorem Zbff(s:Zm)(all:List Za)(you src:Int)(f:Zg)(hs:s.Objects.length*128<=reachBytes)(ht:∀ t∈all,Bnd t.Line.Subs.length):Zzu s all you src f=some (Zaeu s all you src f):=by
 have hs':s.Objects.length*128<=140737488351232:=hs
 (unfold Zzu LF.run;dsimp only [Zac7,LT.den])
 have h:=Za7e (step:=Z1g.step) (st:=fun i acc => .L0 all you src f acc s.Objects (s.Objects.length:Int) (i:Int)) s.Objects (mat all you src f) (fun o=>o.Id) (fun i x acc hx ha=>by
  have hi:=(List.getElem?_eq_some_iff.1 hx).1
  have l1:∀ t,t=atV all i->(Znh all you src f acc x t s.Objects (s.Objects.length:Int) (i:Int)).den=some (.inl (.L0 all you src f (bif mat all you src f i x then acc++[x.Id] else acc) s.Objects (s.Objects.length:Int) ((i+1:Nat):Int))):=by
   rintro t rfl
   dsimp only [Znh,LT.den]
   rw [Zayr _ _ _ _ _ (Zbg2 ht i),Option.bind_some,Z2r hi (by omega)]
   show (bif mat all you src f i x then _ else _)=_
   cases mat all you src f i x with
   | true=>rw [cond_true,Za7b (by simp;omega) (by decide)];rfl
   | false=>rfl
  show (Zni _ _ _ _ _ _ _ _).den=_
  dsimp only [Zni,LT.den]
  rw [decide_eq_true (show (i:Int) < (s.Objects.length:Int) by omega),cond_true,Zkf hx,Option.bind_some]
  by_cases hl:i < all.length
  .rw [decide_eq_true (show (i:Int) < (all.length:Int) by omega),cond_true,Zbe0 all hl,Option.bind_some];exact l1 _ (by simp [atV,List.getElem?_eq_getElem hl])
  .rw [decide_eq_false (show ¬ (i:Int) < (all.length:Int) by omega),cond_false];exact l1 _ (by simp [atV,List.getElem?_eq_none (show all.length<=i by omega),Zadr]))
 refine Eq.trans h (Zdu ?_)
 show (Zni _ _ _ _ _ _ _ _).den=_
 dsimp only [Zni,LT.den]
 rw [decide_eq_false (by omega)];rfl
end Go.PW
