import Derived.Test.YtchddhcajpagjaaGreatQPb
set_option linter.all false
set_option maxRecDepth 100000
namespace Go.PW
theorem Znd{n:Int}(h1 : -1000000<=n)(h2:n<=1000000):Z7l n=some n/\Z77 n=some n:=by
 constructor
 ·(unfold Z7l LF.run;dsimp only [Zabb,LT.den])
  simp only [Option.bind_some,Zjg]
  (unfold minI;unfold maxI)
  congr 1
  repeat' split
  all_goals omega
 ·(unfold Z77 LF.run;dsimp only [Zabl,LT.den])
  rw [decide_eq_false (by omega),decide_eq_false (by omega)];rfl
theorem Z8g{a b:Int}(h1:0<=a)(h2:a<=100000)(h3:0<=b)(h4:b<=100000):Zajd a b=some (a+b)/\Zaju a b=some (a+b):=by
 obtain⟨a1,a2⟩:=Znd (n:=a) (by omega) (by omega)
 obtain⟨b1,b2⟩:=Znd (n:=b) (by omega) (by omega)
 obtain⟨c1,c2⟩:=Znd (n:=a+b) (by omega) (by omega)
 have hw:IntKind.wrap .i64 (a+b)=a+b:=Zgv (by omega) (by omega)
 constructor
 ·(unfold Zajd LF.run;dsimp only [Zald,LT.den])
  simp only [a1,b1,c1,hw,Option.bind_some];rfl
 ·(unfold Zaju LF.run;dsimp only [Zall,LT.den])
  simp only [a2,b2,c2,hw,Option.bind_some];rfl
theorem mul_zero{a:Int}(h1:0<=a)(h2:a<=100000):Zaji a 0=some 0/\Zajv a 0=some 0:=by
 obtain⟨a1,a2⟩:=Znd (n:=a) (by omega) (by omega)
 obtain⟨b1,b2⟩:=Znd (n:=0) (by omega) (by omega)
 have hw:IntKind.wrap .i64 (a*0)=0:=by rw [Int.mul_zero];rfl
 constructor
 ·(unfold Zaji LF.run;dsimp only [Zalg,LT.den])
  simp only [a1,b1,hw,Option.bind_some];rfl
 ·(unfold Zajv LF.run;dsimp only [Zalo,LT.den])
  simp only [a2,b2,hw,Option.bind_some];rfl
def Zzx(c:Zr):Bool:=btw c.Generic 99&&(btw c.X 2&&c.Color.list.all fun n=>btw n 9)
theorem Zawe(c:Zr):Z2n c=some (Zzx c):=by
 (unfold Z2n LF.run;dsimp only [Z7k,LT.den])
 simp only [Option.bind_some,Zq8]
 have:=Z3l (st:=fun i=>Zla.L0 c c.Color (i:Int)) (step:=Ztk.step) (bad:=false) c.Color.list (fun n=>btw n 9) (fun i x hx=>by
  have hi:=(List.getElem?_eq_some_iff.1 hx).1
  have hi:i < 5:=hi
  show (Zjm _ _ _).den=_
  dsimp only [Zjm,LT.den]
  rw [decide_eq_true (by omega),Zpa hx,Zgv (by omega) (by omega)]
  simp only [cond_true,Option.bind_some]
  unfold btw
  by_cases h1:x < 0
  .rw [decide_eq_true h1,decide_eq_false (show ¬ x>=0 by omega)];rfl
  .rw [decide_eq_false h1,decide_eq_true (show x>=0 by omega)]
   by_cases h2:x > 9
   .rw [decide_eq_true h2,decide_eq_false (show ¬ x<=9 by omega)];rfl
   .rw [decide_eq_false h2,decide_eq_true (show x<=9 by omega)];rfl)
 rw [show (Zla.L0 c c.Color 0) = .L0 c c.Color ((0:Nat):Int) from rfl,this]
 have he:Zcr Ztk.step (.L0 c c.Color ((c.Color.list.length:Nat):Int))=some (btw c.Generic 99&&btw c.X 2):=by
  have e:Ztk.step (.L0 c c.Color ((c.Color.list.length:Nat):Int))=some (.inr (btw c.Generic 99&&btw c.X 2)):=by
   show (Zjm c c.Color 5).den=_
   (dsimp only [Zjm,LT.den];unfold btw)
   rw [decide_eq_false (by omega)]
   cases decide (c.Generic>=0)<;>cases decide (c.Generic<=99)<;>cases decide (c.X>=0)<;>rfl
  exact Zeb e
 rw [he]
 unfold Zzx
 cases c.Color.list.all fun n=>btw n 9<;>cases btw c.Generic 99<;>cases btw c.X 2<;>rfl
theorem Zatu(c:Zr):Z11 c=some (Zzx c):=by
 (unfold Z11 LF.run;dsimp only [Zab6,LT.den])
 have hl:Zcr Zh3.step (.L0 c 0)=some (c.Color.list.all fun n=>btw n 9):=by
  have:=Z3l (st:=fun i=>Zjj.L0 c (i:Int)) (step:=Zh3.step) (bad:=false) c.Color.list (fun n=>btw n 9) (fun i x hx=>by
   have hi:=(List.getElem?_eq_some_iff.1 hx).1
   have hi:i < 5:=hi
   show (Zk3 _ _).den=_
   dsimp only [Zk3,LT.den]
   rw [decide_eq_true (by omega),Zpa hx,Zgv (by omega) (by omega)]
   simp only [cond_true,Option.bind_some]
   unfold btw
   by_cases h1:x < 0
   .rw [decide_eq_true h1,decide_eq_false (show ¬ x>=0 by omega)];rfl
   .rw [decide_eq_false h1,decide_eq_true (show x>=0 by omega)]
    by_cases h2:x > 9
    .rw [decide_eq_true h2,decide_eq_false (show ¬ x<=9 by omega)];rfl
    .rw [decide_eq_false h2,decide_eq_true (show x<=9 by omega)];rfl)
  rw [show (Zjj.L0 c 0) = .L0 c ((0:Nat):Int) from rfl,this]
  have he:Zcr Zh3.step (.L0 c ((c.Color.list.length:Nat):Int))=some true:=by
   refine Zeb ?_
   show (Zk3 c 5).den=_
   rfl
  rw [he]
  cases c.Color.list.all fun n=>btw n 9<;>rfl
 refine (Zbc fun _=>Zbc fun _=>Zbc fun _=>Zbc fun _=>(show Option.bind (some (Sum.inl (Zjj.L0 c 0))) (Zh0 Zh3.step)=some (c.Color.list.all fun n=>btw n 9) from hl)).trans ?_
 congr 1
 (unfold Zzx;unfold btw)
 rw [Bool.eq_iff_iff]
 simp only [Bool.and_eq_true,Bool.not_eq_true',decide_eq_false_iff_not,decide_eq_true_eq,ge_iff_le,gt_iff_lt,Int.not_lt]
 constructor
 .rintro ⟨h1,h2,h3,h4,h5⟩;exact⟨⟨h1,h2⟩,⟨h3,h4⟩,h5⟩
 .rintro ⟨⟨h1,h2⟩,⟨h3,h4⟩,h5⟩;exact⟨h1,h2,h3,h4,h5⟩
def valV(c:Zr):Int:=bif Zzx c then c.Generic+c.Color.a0+c.Color.a1+c.Color.a2+c.Color.a3+c.Color.a4 else 0
theorem Zatv{c:Zr}(h:Zzx c=true):(0<=c.Generic/\c.Generic<=99)/\(0<=c.X/\c.X<=2)/\(0<=c.Color.a0/\c.Color.a0<=9)/\(0<=c.Color.a1/\c.Color.a1<=9)/\(0<=c.Color.a2/\c.Color.a2<=9)/\(0<=c.Color.a3/\c.Color.a3<=9)/\(0<=c.Color.a4/\c.Color.a4<=9):=by
 simpa [Zzx,btw,A5.list] using h
theorem Zarf(c:Zr):Z31 c 0=some (valV c)/\Z8b c 0=some (valV c):=by
 (unfold Z31 LF.run;dsimp only [Z7s,LT.den];unfold Z8b LF.run;dsimp only [Zabq,LT.den];unfold valV)
 rw [Zawe,Zatu]
 simp only [Option.bind_some]
 cases hc:Zzx c with
 | false=>exact⟨rfl,rfl⟩
 | true=>
  obtain⟨g,x,h0,h1,h2,h3,h4⟩:=Zatv hc
  obtain⟨gen,xx,⟨a0,a1,a2,a3,a4⟩⟩:=c
  simp only at g x h0 h1 h2 h3 h4 ⊢
  simp only [Bool.not_true,cond_false,Option.bind_some,Zq8,cond_true]
  constructor
  .have hw:∀ {n:Int},0<=n->n<=1000->IntKind.wrap .i64 n=n:=fun h1 h2=>Zgv (by omega) (by omega)
   have r:∀ (v i y:Int),i < 5->idx? [a0,a1,a2,a3,a4] i=some y->0<=v+y->v+y<=1000->0<=i->Zcr Zp4.step (.L0 0 ⟨gen,xx,⟨a0,a1,a2,a3,a4⟩⟩ v ⟨a0,a1,a2,a3,a4⟩ i)=Zcr Zp4.step (.L0 0 ⟨gen,xx,⟨a0,a1,a2,a3,a4⟩⟩ (v+y) ⟨a0,a1,a2,a3,a4⟩ (i+1)):=fun v i y hi hy h1 h2 h0=>by
    refine Zjf ?_
    show (Zjw _ _ _ _ _).den=_
    dsimp only [Zjw,LT.den]
    rw [decide_eq_true hi,show idx? (A5.list (⟨a0,a1,a2,a3,a4⟩:A5 Int)) i=some y from hy,Option.bind_some,hw h1 h2,Zgv (by omega) (by omega)];rfl
   rw [r gen 0 a0 (by omega) rfl (by omega) (by omega) (by omega),r _ _ a1 (by omega) rfl (by omega) (by omega) (by omega),r _ _ a2 (by omega) rfl (by omega) (by omega) (by omega),r _ _ a3 (by omega) rfl (by omega) (by omega) (by omega),r _ _ a4 (by omega) rfl (by omega) (by omega) (by omega)]
   refine Zeb ?_
   show (Zjw _ _ _ _ 5).den=_
   dsimp only [Zjw,LT.den]
   have e1:=(mul_zero (a:=xx) (by omega) (by omega)).1
   have e2:=(Z8g (a:=gen+a0+a1+a2+a3+a4) (b:=0) (by omega) (by omega) (by omega) (by omega)).1
   rw [decide_eq_false (by omega)]
   simp only [cond_false,show maxI 0 0=0 from rfl,e1,e2,Option.bind_some,Int.add_zero]
  .have r:∀ (v i y:Int),i < 5->idx? [a0,a1,a2,a3,a4] i=some y->0<=v->v<=1000->0<=y->y<=9->0<=i->Zcr Zsj.step (.L0 0 ⟨gen,xx,⟨a0,a1,a2,a3,a4⟩⟩ v i)=Zcr Zsj.step (.L0 0 ⟨gen,xx,⟨a0,a1,a2,a3,a4⟩⟩ (v+y) (i+1)):=fun v i y hi hy h1 h2 h3 h4 h0=>by
    refine Zjf ?_
    show (Zlk _ _ _ _).den=_
    dsimp only [Zlk,LT.den]
    rw [decide_eq_true hi,show idx? (A5.list (⟨a0,a1,a2,a3,a4⟩:A5 Int)) i=some y from hy,Option.bind_some,(Z8g h1 (by omega) h3 (by omega)).2,Option.bind_some,Zgv (by omega) (by omega)];rfl
   rw [r gen 0 a0 (by omega) rfl (by omega) (by omega) (by omega) (by omega) (by omega),r _ _ a1 (by omega) rfl (by omega) (by omega) (by omega) (by omega) (by omega),r _ _ a2 (by omega) rfl (by omega) (by omega) (by omega) (by omega) (by omega),r _ _ a3 (by omega) rfl (by omega) (by omega) (by omega) (by omega) (by omega),r _ _ a4 (by omega) rfl (by omega) (by omega) (by omega) (by omega) (by omega)]
   refine Zeb ?_
   show (Zlk _ _ _ 5).den=_
   dsimp only [Zlk,LT.den]
   have e1:=(mul_zero (a:=xx) (by omega) (by omega)).2
   have e2:=(Z8g (a:=gen+a0+a1+a2+a3+a4) (b:=0) (by omega) (by omega) (by omega) (by omega)).2
   rw [decide_eq_false (by omega),decide_eq_false (by omega)]
   simp only [cond_false,e1,e2,Option.bind_some,Int.add_zero]
def Z39(b:Za)(n:Int):Bool:=bif b.Kind==0 then true else bif b.Kind==1 then decide (n>=b.N) else bif b.Kind==2 then decide (n<=b.N) else bif b.Kind==3 then n==b.N else false
theorem Z4a(b:Za)(n:Int):Z7q b n=some (Z39 b n)/\Z8a b n=some (Z39 b n):=by
 (unfold Z7q LF.run;dsimp only [Zabf,LT.den];unfold Z8a LF.run;dsimp only [Zabo,LT.den];unfold Z39)
 cases b.Kind==0<;>cases b.Kind==1<;>cases b.Kind==2<;>cases b.Kind==3<;>exact⟨rfl,rfl⟩
def Zv6(h s n:Int):Bool:=(s==0||Zax .and .i64 h s != 0)&&Zax .and .i64 h n==0
def oneV(a b w:Int):Bool:=bif w==1 then a==b else bif w != 2 then true else a != b
def tapV(t:Bool)(w:Int):Bool:=bif w==1 then t else bif w != 2 then true else !t
def Zuu(t:Zb):Bool:=Zax .and .i64 t.Line.Types 1 != 0
def bouV(cr:Bool)(b:Za)(n:Int):Bool:=b.Kind==0||(cr&&Z39 b n)
def Z1g(t:Zb)(f:Zc):Bool:=bouV (Zuu t) f.Power t.Power&&(bouV (Zuu t) f.Tough t.Tough&&Z39 f.Value (valV t.Cost))
def keyV(t:Zb)(f:Zc):Bool:=Zax .and .i64 t.Keys f.Keys==f.Keys
def Z4b(t:Zb)(f:Zc):Bool:=f.Sub==[]||Zl7 t.Line.Subs f.Sub
def matV(o:Zf)(t:Zb)(you source:Int)(f:Zc):Bool:=
 filV f&&(o.Zone==f.Zone&&(oneV t.Control you f.Who&&(oneV o.Id source f.Self&&(Zv6 t.Line.Types f.Types f.NotTypes&&(Zv6 t.Colors f.Colors f.NotColors &&
  (Z4b t f&&(keyV t f&&(tapV o.Tapped f.Tap&&Z1g t f))))))))
theorem Za06(h s n:Int):Zri h s n=some (Zv6 h s n):=by
 (unfold Zri LF.run;dsimp only [Zx0,LT.den];unfold Zv6)
 cases s==0<;>cases Zax .and .i64 h s != 0<;>rfl
theorem Zatw(b:Za)(n:Int)(cr:Bool):Zkd b n cr=some (bouV cr b n):=by
 (unfold Zkd LF.run;dsimp only [Zol,LT.den];unfold bouV)
 rw [(Z4a b n).1]
 cases b.Kind==0<;>cases cr<;>cases Z39 b n<;>rfl
theorem m4(t:Zb)(f:Zc):(Zen t f (Zuu t)).den.bind (Zh0 Zfa.step)=some (Z1g t f):=by
 (dsimp only [Zen,LT.den];unfold Z1g)
 simp only [Zatw,(Zarf _).1,(Z4a _ _).1,Option.bind_some]
 exact Z1z fun _=>Z1z fun _=>rfl
theorem m3(o:Zf)(t:Zb)(f:Zc)(v:Bool):(Zf0 o t f (Zuu t) v).den.bind (Zh0 Zfa.step)=some (!v&&(tapV o.Tapped f.Tap&&Z1g t f)):=by
 dsimp only [Zf0,LT.den]
 refine Zbc fun _=>?_
 have hm:=m4 t f
 unfold tapV
 by_cases h1:f.Tap=1
 .rw [show (f.Tap==1)=true from by rw [h1];rfl,show (f.Tap==2)=false from by rw [h1];rfl]
  cases o.Tapped
  .rfl
  .simpa using hm
 .rw [show (f.Tap==1)=false from beq_eq_false_iff_ne.2 h1]
  cases h2:f.Tap==2 with
  | false=>simpa [bne,h2] using hm
  | true=>
   cases o.Tapped
   .simpa [bne,h2] using hm
   .simp [bne,h2,Zjg]
theorem m2(o:Zf)(t:Zb)(f:Zc)(v:Bool)(ht:t.Line.Subs.length<=4611686018427387904) :
 (Zhs o t f (Zuu t) v).den.bind (Zh0 Zfa.step)=some (!v&&(Z4b t f&&(keyV t f&&(tapV o.Tapped f.Tap&&Z1g t f)))):=by
 dsimp only [Zhs,LT.den]
 refine Zbc fun _=>?_
 have hk:Zabh t.Keys f.Keys=some (keyV t f):=rfl
 simp only [Zayw _ _ ht,hk,Option.bind_some]
 unfold Z4b
 cases f.Sub==[] with
 | true=>simp only [Bool.not_true,cond_false,Bool.true_or,Bool.true_and];rw [m3,Bool.not_not]
 | false=>
  simp only [Bool.not_false,cond_true,Bool.false_or]
  cases Zl7 t.Line.Subs f.Sub with
  | false=>simp only [Bool.not_false,cond_true];rw [m3];rfl
  | true=>simp only [Bool.not_true,cond_false];rw [m3,Bool.not_not];rfl
theorem m1(o:Zf)(t:Zb)(f:Zc)(v:Bool)(ht:t.Line.Subs.length<=4611686018427387904) :
 (Zdr o t f (Zuu t) v).den.bind (Zh0 Zfa.step)=some (!v&&(Zv6 t.Line.Types f.Types f.NotTypes&&(Zv6 t.Colors f.Colors f.NotColors&&(Z4b t f&&(keyV t f&&(tapV o.Tapped f.Tap&&Z1g t f)))))):=by
 dsimp only [Zdr,LT.den]
 refine Zbc fun _=>?_
 simp only [Za06,Option.bind_some]
 cases Zv6 t.Line.Types f.Types f.NotTypes with
 | false=>simp only [Bool.not_false,cond_true];rw [m2 o t f _ ht];rfl
 | true=>simp only [Bool.not_true,cond_false];rw [m2 o t f _ ht,Bool.not_not];rfl
theorem m0(o:Zf)(t:Zb)(source:Int)(f:Zc)(v:Bool)(ht:t.Line.Subs.length<=4611686018427387904) :
 (Zds source o t f (Zuu t) v).den.bind (Zh0 Zfa.step)=some (!v&&(oneV o.Id source f.Self&&(Zv6 t.Line.Types f.Types f.NotTypes&&(Zv6 t.Colors f.Colors f.NotColors&&(Z4b t f&&(keyV t f&&(tapV o.Tapped f.Tap&&Z1g t f))))))):=by
 dsimp only [Zds,LT.den]
 refine Zbc fun _=>?_
 have hm:=fun v=>m1 o t f v ht
 unfold oneV
 by_cases h1:f.Self=1
 .rw [show (f.Self==1)=true from by rw [h1];rfl,show (f.Self==2)=false from by rw [h1];rfl]
  cases h:o.Id==source
  .simp only [cond_true,bne,h,Bool.not_false];rw [hm];rfl
  .simp only [cond_true,bne,h,Bool.not_true,cond_false];rw [hm];rfl
 .rw [show (f.Self==1)=false from beq_eq_false_iff_ne.2 h1]
  cases h2:f.Self==2 with
  | false=>simp only [cond_false,bne,h2,Bool.not_false,cond_true];rw [hm];rfl
  | true=>simp only [cond_false,bne,h2,Bool.not_true,cond_true];rw [hm]
theorem b0(t:Zb)(f:Zc):(Zhg t f (Zuu t)).den.bind (Zh0 Zyc.step)=some (bouV (Zuu t) f.Tough t.Tough&&Z39 f.Value (valV t.Cost)):=by
 (dsimp only [Zhg,LT.den];unfold bouV)
 simp only [(Zarf _).2,(Z4a _ _).2,Option.bind_some,bne]
 cases f.Tough.Kind==0<;>cases Zuu t<;>cases Z39 f.Tough t.Tough<;>rfl
theorem Zayy(t:Zb)(f:Zc):Z36 t f=some (Z1g t f):=by
 (unfold Z36 LF.run;dsimp only [Z8c,LT.den];unfold Z1g)
 have hs:Zabn t.Line.Types 1=some (Zuu t):=rfl
 rw [hs,Option.bind_some]
 simp only [(Z4a _ _).2,Option.bind_some,bne]
 have hb:=b0 t f
 unfold bouV at hb ⊢
 cases f.Power.Kind==0 with
 | true=>simpa using hb
 | false=>
  cases hc:Zuu t with
  | false=>rfl
  | true=>
   rw [hc] at hb
   cases Z39 f.Power t.Power
   .rfl
   .simpa using hb
theorem r1(t:Zb)(f:Zc)(ht:t.Line.Subs.length<=4611686018427387904):(Zj1 t f).den.bind (Zh0 Zara.step)=some (Z4b t f&&(keyV t f&&Z1g t f)):=by
 (dsimp only [Zj1,LT.den];unfold Z4b)
 have hk:Zaun t.Keys f.Keys=some (keyV t f):=rfl
 simp only [Zamo _ _ ht,hk,Zayy,Option.bind_some]
 cases f.Sub==[] with
 | true=>simp only [Bool.not_true,cond_false,Bool.true_or,Bool.true_and];exact Z1y fun _=>rfl
 | false=>simp only [Bool.not_false,cond_true,Bool.false_or];exact Z1y fun _=>Z1y fun _=>rfl
end Go.PW
