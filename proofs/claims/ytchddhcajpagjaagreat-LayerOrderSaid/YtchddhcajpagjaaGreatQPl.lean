import Derived.Test.YtchddhcajpagjaaGreatQPb
import Derived.Test.YtchddhcajpagjaaGreatPwX
set_option linter.all false
set_option maxRecDepth 100000
namespace Go.PW
theorem Zrc{n:Int}(h1 : -1000000<=n)(h2:n<=1000000):Z3h n=some n/\Zac8 n=some n:=by
 constructor
 ·(unfold Z3h LF.run;dsimp only [Z46,LT.den])
  simp only [Option.bind_some,Zfw]
  (unfold minI;unfold maxI)
  congr 1
  repeat' split
  all_goals omega
 ·(unfold Zac8 LF.run;dsimp only [Zahj,LT.den])
  rw [decide_eq_false O,decide_eq_false O];rfl
theorem Zadk{a b:Int}(h1:0<=a)(h2:a<=100000)(h3:0<=b)(h4:b<=100000):Zaem a b=some (a+b)/\Zao9 a b=some (a+b):=by
 obtain⟨a1,a2⟩:=Zrc (n:=a) O O
 obtain⟨b1,b2⟩:=Zrc (n:=b) O O
 obtain⟨c1,c2⟩:=Zrc (n:=a+b) O O
 have hw:IntKind.wrap .i64 (a+b)=a+b:=Zfj O O
 constructor
 ·(unfold Zaem LF.run;dsimp only [Zacu,LT.den])
  simp only [a1,b1,c1,hw,Option.bind_some];rfl
 ·(unfold Zao9 LF.run;dsimp only [Zar9,LT.den])
  simp only [a2,b2,c2,hw,Option.bind_some];rfl
theorem mul_zero{a:Int}(h1:0<=a)(h2:a<=100000):Zao5 a 0=some 0/\Zapa a 0=some 0:=by
 obtain⟨a1,a2⟩:=Zrc (n:=a) O O
 obtain⟨b1,b2⟩:=Zrc (n:=0) O O
 have hw:IntKind.wrap .i64 (a*0)=0:=by rw [Int.mul_zero];rfl
 constructor
 ·(unfold Zao5 LF.run;dsimp only [Zar6,LT.den])
  simp only [a1,b1,hw,Option.bind_some];rfl
 ·(unfold Zapa LF.run;dsimp only [Zasc,LT.den])
  simp only [a2,b2,hw,Option.bind_some];rfl
def Z32(c:Zt):Bool:=btw c.Generic 99&&(btw c.X 2&&c.Color.list.all fun n=>btw n 9)
theorem Za33(c:Zt):Zael c=some (Z32 c):=by
 (unfold Zael LF.run;dsimp only [Zacs,LT.den])
 simp only [Option.bind_some,Zmv]
 have:=Z0b (st:=fun i=>Zo1.L0 c c.Color (i:Int)) (step:=Zsm.step) (bad:=false) c.Color.list (fun n=>btw n 9) (fun i x hx=>by
  have hi:=(List.getElem?_eq_some_iff.1 hx).1
  have hi:i < 5:=hi
  show (Zpx _ _ _).den=_
  dsimp only [Zpx,LT.den]
  rw [decide_eq_true O,Zke hx,Zfj O O]
  simp only [cond_true,Option.bind_some]
  unfold btw
  by_cases h1:x < 0
  .rw [decide_eq_true h1,decide_eq_false (show ¬ x>=0 by omega)];rfl
  .rw [decide_eq_false h1,decide_eq_true (show x>=0 by omega)]
   by_cases h2:x > 9
   .rw [decide_eq_true h2,decide_eq_false (show ¬ x<=9 by omega)];rfl
   .rw [decide_eq_false h2,decide_eq_true (show x<=9 by omega)];rfl)
 rw [show (Zo1.L0 c c.Color 0) = .L0 c c.Color ((0:Nat):Int) from rfl,this]
 have he:Zc3 Zsm.step (.L0 c c.Color ((c.Color.list.length:Nat):Int))=some (btw c.Generic 99&&btw c.X 2):=by
  have e:Zsm.step (.L0 c c.Color ((c.Color.list.length:Nat):Int))=some (.inr (btw c.Generic 99&&btw c.X 2)):=by
   show (Zpx c c.Color 5).den=_
   (dsimp only [Zpx,LT.den];unfold btw)
   rw [decide_eq_false O]
   cases decide (c.Generic>=0)<;>cases decide (c.Generic<=99)<;>cases decide (c.X>=0)<;>rfl
  exact Zdu e
 rw [he]
 unfold Z32
 cases c.Color.list.all fun n=>btw n 9<;>cases btw c.Generic 99<;>cases btw c.X 2<;>rfl
theorem Za0x(c:Zt):Z52 c=some (Z32 c):=by
 (unfold Z52 LF.run;dsimp only [Zaii,LT.den])
 have hl:Zc3 Zkx.step (.L0 c 0)=some (c.Color.list.all fun n=>btw n 9):=by
  have:=Z0b (st:=fun i=>Zmy.L0 c (i:Int)) (step:=Zkx.step) (bad:=false) c.Color.list (fun n=>btw n 9) (fun i x hx=>by
   have hi:=(List.getElem?_eq_some_iff.1 hx).1
   have hi:i < 5:=hi
   show (Zot _ _).den=_
   dsimp only [Zot,LT.den]
   rw [decide_eq_true O,Zke hx,Zfj O O]
   simp only [cond_true,Option.bind_some]
   unfold btw
   by_cases h1:x < 0
   .rw [decide_eq_true h1,decide_eq_false (show ¬ x>=0 by omega)];rfl
   .rw [decide_eq_false h1,decide_eq_true (show x>=0 by omega)]
    by_cases h2:x > 9
    .rw [decide_eq_true h2,decide_eq_false (show ¬ x<=9 by omega)];rfl
    .rw [decide_eq_false h2,decide_eq_true (show x<=9 by omega)];rfl)
  rw [show (Zmy.L0 c 0) = .L0 c ((0:Nat):Int) from rfl,this]
  have he:Zc3 Zkx.step (.L0 c ((c.Color.list.length:Nat):Int))=some true:=by
   refine Zdu ?_
   show (Zot c 5).den=_
   rfl
  rw [he]
  cases c.Color.list.all fun n=>btw n 9<;>rfl
 refine (Zbu fun _=>Zbu fun _=>Zbu fun _=>Zbu fun _=>(show Option.bind (some (Sum.inl (Zmy.L0 c 0))) (Zhm Zkx.step)=some (c.Color.list.all fun n=>btw n 9) from hl)).trans ?_
 congr 1
 (unfold Z32;unfold btw)
 rw [Bool.eq_iff_iff]
 simp only [Bool.and_eq_true,Bool.not_eq_true',decide_eq_false_iff_not,decide_eq_true_eq,ge_iff_le,gt_iff_lt,Int.not_lt]
 constructor
 .rintro ⟨h1,h2,h3,h4,h5⟩;exact⟨⟨h1,h2⟩,⟨h3,h4⟩,h5⟩
 .rintro ⟨⟨h1,h2⟩,⟨h3,h4⟩,h5⟩;exact⟨h1,h2,h3,h4,h5⟩
def valV(c:Zt):Int:=bif Z32 c then c.Generic+c.Color.a0+c.Color.a1+c.Color.a2+c.Color.a3+c.Color.a4 else 0
theorem Za0y{c:Zt}(h:Z32 c=true):(0<=c.Generic/\c.Generic<=99)/\(0<=c.X/\c.X<=2)/\(0<=c.Color.a0/\c.Color.a0<=9)/\(0<=c.Color.a1/\c.Color.a1<=9)/\(0<=c.Color.a2/\c.Color.a2<=9)/\(0<=c.Color.a3/\c.Color.a3<=9)/\(0<=c.Color.a4/\c.Color.a4<=9):=by
 simpa [Z32,btw,A5.list] using h
theorem Zaya(c:Zt):Z8c c 0=some (valV c)/\Zadc c 0=some (valV c):=by
 (unfold Z8c LF.run;dsimp only [Zac0,LT.den];unfold Zadc LF.run;dsimp only [Zaho,LT.den];unfold valV)
 rw [Za33,Za0x]
 simp only [Option.bind_some]
 cases hc:Z32 c with
 | false=>exact⟨rfl,rfl⟩
 | true=>
  obtain⟨g,x,h0,h1,h2,h3,h4⟩:=Za0y hc
  obtain⟨gen,xx,⟨a0,a1,a2,a3,a4⟩⟩:=c
  simp only at g x h0 h1 h2 h3 h4 ⊢
  simp only [Bool.not_true,cond_false,Option.bind_some,Zmv,cond_true]
  constructor
  .have hw:∀ {n:Int},0<=n->n<=1000->IntKind.wrap .i64 n=n:=fun h1 h2=>Zfj O O
   have r:∀ (v i y:Int),i < 5->idx? [a0,a1,a2,a3,a4] i=some y->0<=v+y->v+y<=1000->0<=i->Zc3 Zts.step (.L0 0 ⟨gen,xx,⟨a0,a1,a2,a3,a4⟩⟩ v ⟨a0,a1,a2,a3,a4⟩ i)=Zc3 Zts.step (.L0 0 ⟨gen,xx,⟨a0,a1,a2,a3,a4⟩⟩ (v+y) ⟨a0,a1,a2,a3,a4⟩ (i+1)):=fun v i y hi hy h1 h2 h0=>by
    refine Zku ?_
    show (Zni _ _ _ _ _).den=_
    dsimp only [Zni,LT.den]
    rw [decide_eq_true hi,show idx? (A5.list (⟨a0,a1,a2,a3,a4⟩:A5 Int)) i=some y from hy,Option.bind_some,hw h1 h2,Zfj O O];rfl
   rw [r gen 0 a0 O rfl O O O,r _ _ a1 O rfl O O O,r _ _ a2 O rfl O O O,r _ _ a3 O rfl O O O,r _ _ a4 O rfl O O O]
   refine Zdu ?_
   show (Zni _ _ _ _ 5).den=_
   dsimp only [Zni,LT.den]
   have e1:=(mul_zero (a:=xx) O O).1
   have e2:=(Zadk (a:=gen+a0+a1+a2+a3+a4) (b:=0) O O O O).1
   rw [decide_eq_false O]
   simp only [cond_false,show maxI 0 0=0 from rfl,e1,e2,Option.bind_some,Int.add_zero]
  .have r:∀ (v i y:Int),i < 5->idx? [a0,a1,a2,a3,a4] i=some y->0<=v->v<=1000->0<=y->y<=9->0<=i->Zc3 Zv6.step (.L0 0 ⟨gen,xx,⟨a0,a1,a2,a3,a4⟩⟩ v i)=Zc3 Zv6.step (.L0 0 ⟨gen,xx,⟨a0,a1,a2,a3,a4⟩⟩ (v+y) (i+1)):=fun v i y hi hy h1 h2 h3 h4 h0=>by
    refine Zku ?_
    show (Zpe _ _ _ _).den=_
    dsimp only [Zpe,LT.den]
    rw [decide_eq_true hi,show idx? (A5.list (⟨a0,a1,a2,a3,a4⟩:A5 Int)) i=some y from hy,Option.bind_some,(Zadk h1 O h3 O).2,Option.bind_some,Zfj O O];rfl
   rw [r gen 0 a0 O rfl O O O O O,r _ _ a1 O rfl O O O O O,r _ _ a2 O rfl O O O O O,r _ _ a3 O rfl O O O O O,r _ _ a4 O rfl O O O O O]
   refine Zdu ?_
   show (Zpe _ _ _ 5).den=_
   dsimp only [Zpe,LT.den]
   have e1:=(mul_zero (a:=xx) O O).2
   have e2:=(Zadk (a:=gen+a0+a1+a2+a3+a4) (b:=0) O O O O).2
   rw [decide_eq_false O,decide_eq_false O]
   simp only [cond_false,e1,e2,Option.bind_some,Int.add_zero]
def Z8l(b:Za)(n:Int):Bool:=bif b.Kind==0 then true else bif b.Kind==1 then decide (n>=b.N) else bif b.Kind==2 then decide (n<=b.N) else bif b.Kind==3 then n==b.N else false
theorem Z8m(b:Za)(n:Int):Zacy b n=some (Z8l b n)/\Zadb b n=some (Z8l b n):=by
 (unfold Zacy LF.run;dsimp only [Zaha,LT.den];unfold Zadb LF.run;dsimp only [Zahm,LT.den];unfold Z8l)
 cases b.Kind==0<;>cases b.Kind==1<;>cases b.Kind==2<;>cases b.Kind==3<;>exact⟨rfl,rfl⟩
def Zzs(h s n:Int):Bool:=(s==0||Zay .and .i64 h s != 0)&&Zay .and .i64 h n==0
def oneV(a b w:Int):Bool:=bif w==1 then a==b else bif w != 2 then true else a != b
def tapV(t:Bool)(w:Int):Bool:=bif w==1 then t else bif w != 2 then true else !t
def Zpf(t:Zb):Bool:=Zay .and .i64 t.Line.Types 1 != 0
def bouV(cr:Bool)(b:Za)(n:Int):Bool:=b.Kind==0||(cr&&Z8l b n)
def Z5g(t:Zb)(f:Ze):Bool:=bouV (Zpf t) f.Power t.Power&&(bouV (Zpf t) f.Tough t.Tough&&Z8l f.Value (valV t.Cost))
def keyV(t:Zb)(f:Ze):Bool:=Zay .and .i64 t.Keys f.Keys==f.Keys
def Z8n(t:Zb)(f:Ze):Bool:=f.Sub==[]||Zf4 t.Line.Subs f.Sub
def matV(o:Zg)(t:Zb)(you source:Int)(f:Ze):Bool:=
 Z8k f&&(o.Zone==f.Zone&&(oneV t.Control you f.Who&&(oneV o.Id source f.Self&&(Zzs t.Line.Types f.Types f.NotTypes&&(Zzs t.Colors f.Colors f.NotColors &&
  (Z8n t f&&(keyV t f&&(tapV o.Tapped f.Tap&&Z5g t f))))))))
theorem Zba7(h s n:Int):Zve h s n=some (Zzs h s n):=by
 (unfold Zve LF.run;dsimp only [Z06,LT.den];unfold Zzs)
 cases s==0<;>cases Zay .and .i64 h s != 0<;>rfl
theorem Za0z(b:Za)(n:Int)(cr:Bool):Zn2 b n cr=some (bouV cr b n):=by
 (unfold Zn2 LF.run;dsimp only [Zso,LT.den];unfold bouV)
 rw [(Z8m b n).1]
 cases b.Kind==0<;>cases cr<;>cases Z8l b n<;>rfl
theorem m4(t:Zb)(f:Ze):(Zgh t f (Zpf t)).den.bind (Zhm Zg0.step)=some (Z5g t f):=by
 (dsimp only [Zgh,LT.den];unfold Z5g)
 simp only [Za0z,(Zaya _).1,(Z8m _ _).1,Option.bind_some]
 exact Zli fun _=>Zli fun _=>rfl
theorem m3(o:Zg)(t:Zb)(f:Ze)(v:Bool):(Zh2 o t f (Zpf t) v).den.bind (Zhm Zg0.step)=some (!v&&(tapV o.Tapped f.Tap&&Z5g t f)):=by
 dsimp only [Zh2,LT.den]
 refine Zbu fun _=>?_
 have hm:=m4 t f
 unfold tapV
 by_cases h1:f.Tap=1
 .rw [show (f.Tap==1)=true from by rw [h1];rfl,show (f.Tap==2)=false from by rw [h1];rfl]
  cases o.Tapped
  .rfl
  .simpa using hm
 .rw [show (f.Tap==1)=false from beq_eq_false_iff_ne.2 h1]
  cases h2:f.Tap==2 with
  | false=>simpa [bne,h2] using hm
  | true=>
   cases o.Tapped
   .simpa [bne,h2] using hm
   .simp [bne,h2,Zfw]
theorem m2(o:Zg)(t:Zb)(f:Ze)(v:Bool)(ht:t.Line.Subs.length<=4611686018427387904) :
 (Zkh o t f (Zpf t) v).den.bind (Zhm Zg0.step)=some (!v&&(Z8n t f&&(keyV t f&&(tapV o.Tapped f.Tap&&Z5g t f)))):=by
 dsimp only [Zkh,LT.den]
 refine Zbu fun _=>?_
 have hk:Zahc t.Keys f.Keys=some (keyV t f):=rfl
 simp only [Zasf _ _ ht,hk,Option.bind_some]
 unfold Z8n
 cases f.Sub==[] with
 | true=>simp only [Bool.not_true,cond_false,Bool.true_or,Bool.true_and];rw [m3,Bool.not_not]
 | false=>
  simp only [Bool.not_false,cond_true,Bool.false_or]
  cases Zf4 t.Line.Subs f.Sub with
  | false=>simp only [Bool.not_false,cond_true];rw [m3];rfl
  | true=>simp only [Bool.not_true,cond_false];rw [m3,Bool.not_not];rfl
theorem m1(o:Zg)(t:Zb)(f:Ze)(v:Bool)(ht:t.Line.Subs.length<=4611686018427387904) :
 (Zfa o t f (Zpf t) v).den.bind (Zhm Zg0.step)=some (!v&&(Zzs t.Line.Types f.Types f.NotTypes&&(Zzs t.Colors f.Colors f.NotColors&&(Z8n t f&&(keyV t f&&(tapV o.Tapped f.Tap&&Z5g t f)))))):=by
 dsimp only [Zfa,LT.den]
 refine Zbu fun _=>?_
 simp only [Zba7,Option.bind_some]
 cases Zzs t.Line.Types f.Types f.NotTypes with
 | false=>simp only [Bool.not_false,cond_true];rw [m2 o t f _ ht];rfl
 | true=>simp only [Bool.not_true,cond_false];rw [m2 o t f _ ht,Bool.not_not];rfl
theorem m0(o:Zg)(t:Zb)(source:Int)(f:Ze)(v:Bool)(ht:t.Line.Subs.length<=4611686018427387904) :
 (Zb0 source o t f (Zpf t) v).den.bind (Zhm Zg0.step)=some (!v&&(oneV o.Id source f.Self&&(Zzs t.Line.Types f.Types f.NotTypes&&(Zzs t.Colors f.Colors f.NotColors&&(Z8n t f&&(keyV t f&&(tapV o.Tapped f.Tap&&Z5g t f))))))):=by
 dsimp only [Zb0,LT.den]
 refine Zbu fun _=>?_
 have hm:=fun v=>m1 o t f v ht
 unfold oneV
 by_cases h1:f.Self=1
 .rw [show (f.Self==1)=true from by rw [h1];rfl,show (f.Self==2)=false from by rw [h1];rfl]
  cases h:o.Id==source
  .simp only [cond_true,bne,h,Bool.not_false];rw [hm];rfl
  .simp only [cond_true,bne,h,Bool.not_true,cond_false];rw [hm];rfl
 .rw [show (f.Self==1)=false from beq_eq_false_iff_ne.2 h1]
  cases h2:f.Self==2 with
  | false=>simp only [cond_false,bne,h2,Bool.not_false,cond_true];rw [hm];rfl
  | true=>simp only [cond_false,bne,h2,Bool.not_true,cond_true];rw [hm]
theorem Zayc(o:Zg)(t:Zb)(you source:Int)(f:Ze)(ht:t.Line.Subs.length<=4611686018427387904):Ztt o t you source f=some (matV o t you source f):=by
 (unfold Ztt LF.run;dsimp only [Z6w,LT.den];unfold matV)
 rw [Zadj,Option.bind_some]
 refine Zgg fun _=>?_
 have hz:(o.Zone != f.Zone) = !(o.Zone==f.Zone):=rfl
 rw [hz]
 refine Zgg fun _=>?_
 have hm:=fun v=>m0 o t source f v ht
 show Option.bind (bif (f.Who==1) then bif (t.Control != you) then (Zb0 source o t f (Zpf t) _).den else bif (f.Who==2) then (Zb0 source o t f (Zpf t) _).den else (Zb0 source o t f (Zpf t) _).den else bif (f.Who==2) then (Zb0 source o t f (Zpf t) _).den else (Zb0 source o t f (Zpf t) _).den) _=_
 unfold oneV
 by_cases h1:f.Who=1
 .rw [show (f.Who==1)=true from by rw [h1];rfl,show (f.Who==2)=false from by rw [h1];rfl]
  cases h:t.Control==you
  .simp only [cond_true,bne,h,Bool.not_false];rw [hm];rfl
  .simp only [cond_true,bne,h,Bool.not_true,cond_false];rw [hm];rfl
 .rw [show (f.Who==1)=false from beq_eq_false_iff_ne.2 h1]
  cases h2:f.Who==2 with
  | false=>simp only [cond_false,bne,h2,Bool.not_false,cond_true];rw [hm];rfl
  | true=>simp only [cond_false,bne,h2,Bool.not_true,cond_true];rw [hm];rfl
theorem b0(t:Zb)(f:Ze):(Zj1 t f (Zpf t)).den.bind (Zhm Z1g.step)=some (bouV (Zpf t) f.Tough t.Tough&&Z8l f.Value (valV t.Cost)):=by
 (dsimp only [Zj1,LT.den];unfold bouV)
 simp only [(Zaya _).2,(Z8m _ _).2,Option.bind_some,bne]
 cases f.Tough.Kind==0<;>cases Zpf t<;>cases Z8l f.Tough t.Tough<;>rfl
theorem Za78(t:Zb)(f:Ze):Z8g t f=some (Z5g t f):=by
 (unfold Z8g LF.run;dsimp only [Zadd,LT.den];unfold Z5g)
 have hs:Zahl t.Line.Types 1=some (Zpf t):=rfl
 rw [hs,Option.bind_some]
 simp only [(Z8m _ _).2,Option.bind_some,bne]
 have hb:=b0 t f
 unfold bouV at hb ⊢
 cases f.Power.Kind==0 with
 | true=>simpa using hb
 | false=>
  cases hc:Zpf t with
  | false=>rfl
  | true=>
   rw [hc] at hb
   cases Z8l f.Power t.Power
   .rfl
   .simpa using hb
theorem r1(t:Zb)(f:Ze)(ht:t.Line.Subs.length<=4611686018427387904):(Znt t f).den.bind (Zhm Zax2.step)=some (Z8n t f&&(keyV t f&&Z5g t f)):=by
 (dsimp only [Znt,LT.den];unfold Z8n)
 have hk:Za1z t.Keys f.Keys=some (keyV t f):=rfl
 simp only [Zas3 _ _ ht,hk,Za78,Option.bind_some]
 cases f.Sub==[] with
 | true=>simp only [Bool.not_true,cond_false,Bool.true_or,Bool.true_and];exact Zgg fun _=>rfl
 | false=>simp only [Bool.not_false,cond_true,Bool.false_or];exact Zgg fun _=>Zgg fun _=>rfl
end Go.PW
set_option maxRecDepth 100000
namespace Go.PW
abbrev Bnd(n:Nat):Prop:=n<=4611686018427387904
def Zadl:Zb:=⟨[],⟨0,0,⟨0,0,0,0,0⟩⟩,0,⟨0,0,[]⟩,0,0,0,[],0⟩
def atV(all:List Zb)(i:Nat):Zb:=(all[i]?).getD Zadl
theorem Zbgu{all:List Zb}(ht:∀ t∈all,Bnd t.Line.Subs.length)(i:Nat):Bnd (atV all i).Line.Subs.length:=by
 unfold atV
 by_cases h:i < all.length
 .rw [List.getElem?_eq_getElem h];exact ht _ (List.getElem_mem h)
 .rw [List.getElem?_eq_none (show all.length<=i by omega)];exact Nat.zero_le _
def mat(all:List Zb)(you src:Int)(f:Ze)(i:Nat)(o:Zg):Bool:=matV o (atV all i) you src f
def Zzt(s:Zk)(all:List Zb)(you src:Int)(f:Ze):List Int:=Z4t (mat all you src f) (fun o=>o.Id) 0 s.Objects
theorem Zbe1(s:Zk)(all:List Zb)(you src:Int)(f:Ze)(hs:s.Objects.length*128<=reachBytes)(ht:∀ t∈all,Bnd t.Line.Subs.length):Zzo s all you src f=some (Zzt s all you src f):=by
 have hs':s.Objects.length*128<=140737488351232:=hs
 (unfold Zzo LF.run;dsimp only [Zac1,LT.den])
 have h:=Za61 (step:=Z09.step) (st:=fun i acc => .L0 all you src f acc s.Objects (s.Objects.length:Int) (i:Int)) s.Objects (mat all you src f) (fun o=>o.Id) (fun i x acc hx ha=>by
  have hi:=(List.getElem?_eq_some_iff.1 hx).1
  have l1:∀ t,t=atV all i->(Znj all you src f acc x t s.Objects (s.Objects.length:Int) (i:Int)).den=some (.inl (.L0 all you src f (bif mat all you src f i x then acc++[x.Id] else acc) s.Objects (s.Objects.length:Int) ((i+1:Nat):Int))):=by
   rintro t rfl
   dsimp only [Znj,LT.den]
   rw [Zayc _ _ _ _ _ (Zbgu ht i),Option.bind_some,Z2n hi O]
   show (bif mat all you src f i x then _ else _)=_
   cases mat all you src f i x with
   | true=>rw [cond_true,Za6y (by simp;omega) (by decide)];rfl
   | false=>rfl
  show (Znk _ _ _ _ _ _ _ _).den=_
  dsimp only [Znk,LT.den]
  rw [decide_eq_true (show (i:Int) < (s.Objects.length:Int) by omega),cond_true,Zke hx,Option.bind_some]
  by_cases hl:i < all.length
  .rw [decide_eq_true (show (i:Int) < (all.length:Int) by omega),cond_true,Zbem all hl,Option.bind_some];exact l1 _ (by simp [atV,List.getElem?_eq_getElem hl])
  .rw [decide_eq_false (show ¬ (i:Int) < (all.length:Int) by omega),cond_false];exact l1 _ (by simp [atV,List.getElem?_eq_none (show all.length<=i by omega),Zadl]))
 refine Eq.trans h (Zdu ?_)
 show (Znk _ _ _ _ _ _ _ _).den=_
 dsimp only [Znk,LT.den]
 rw [decide_eq_false O];rfl
end Go.PW
