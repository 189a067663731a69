import Derived.Test.YtlighhlnmglpfaaGreatQPb
set_option linter.all false
set_option maxRecDepth 100000
namespace Go.PW
theorem Zp1{n:Int}(h1 : -1000000≤n)(h2:n≤1000000):Zafz n=some n∧Zxp n=some n:=by
 constructor
 ·(unfold Zafz LF.run;dsimp only [Zak1,LT.den])
  simp only [Option.bind_some,Zeo]
  (unfold Zt8;unfold Zrp)
  congr 1
  repeat' split
  all_goals omega
 ·(unfold Zxp LF.run;dsimp only [Z6q,LT.den])
  rw [decide_eq_false (by omega),decide_eq_false (by omega)];rfl
theorem Zahg{a b:Int}(h1:0≤a)(h2:a≤100000)(h3:0≤b)(h4:b≤100000):Zavt a b=some (a+b)∧Z8s a b=some (a+b):=by
 obtain⟨a1,a2⟩:=Zp1 (n:=a) (by omega) (by omega)
 obtain⟨b1,b2⟩:=Zp1 (n:=b) (by omega) (by omega)
 obtain⟨c1,c2⟩:=Zp1 (n:=a+b) (by omega) (by omega)
 have hw:IntKind.wrap .i64 (a+b)=a+b:=Zfs (by omega) (by omega)
 constructor
 ·(unfold Zavt LF.run;dsimp only [Zayw,LT.den])
  simp only [a1,b1,c1,hw,Option.bind_some];rfl
 ·(unfold Z8s LF.run;dsimp only [Zagf,LT.den])
  simp only [a2,b2,c2,hw,Option.bind_some];rfl
theorem mul_zero{a:Int}(h1:0≤a)(h2:a≤100000):Zavs a 0=some 0∧Z8v a 0=some 0:=by
 obtain⟨a1,a2⟩:=Zp1 (n:=a) (by omega) (by omega)
 obtain⟨b1,b2⟩:=Zp1 (n:=0) (by omega) (by omega)
 have hw:IntKind.wrap .i64 (a*0)=0:=by rw [Int.mul_zero];rfl
 constructor
 ·(unfold Zavs LF.run;dsimp only [Zayu,LT.den])
  simp only [a1,b1,hw,Option.bind_some];rfl
 ·(unfold Z8v LF.run;dsimp only [Zago,LT.den])
  simp only [a2,b2,hw,Option.bind_some];rfl
def Z44(c:Z1):Bool:=btw c.Generic 99&&(btw c.X 2&&c.Color.list.all fun n=>btw n 9)
theorem Zba4(c:Z1):Zavr c=some (Z44 c):=by
 (unfold Zavr LF.run;dsimp only [Zayt,LT.den])
 simp only [Option.bind_some,Zkc]
 have:=Z03 (st:=fun i=>Zxm.L0 c c.Color (i:Int)) (step:=Zxn.step) (bad:=false) c.Color.list (fun n=>btw n 9) (fun i x hx=>by
  have hi:=(List.getElem?_eq_some_iff.1 hx).1
  have hi:i < 5:=hi
  show (Zsi _ _ _).den=_
  dsimp only [Zsi,LT.den]
  rw [decide_eq_true (by omega),Zg2 hx,Zfs (by omega) (by omega)]
  simp only [cond_true,Option.bind_some]
  unfold btw
  by_cases h1:x < 0
  ·rw [decide_eq_true h1,decide_eq_false (show ¬ x≥0 by omega)];rfl
  ·rw [decide_eq_false h1,decide_eq_true (show x≥0 by omega)]
   by_cases h2:x > 9
   ·rw [decide_eq_true h2,decide_eq_false (show ¬ x≤9 by omega)];rfl
   ·rw [decide_eq_false h2,decide_eq_true (show x≤9 by omega)];rfl)
 rw [show (Zxm.L0 c c.Color 0) = .L0 c c.Color ((0:Nat):Int) from rfl,this]
 have he:Zcm Zxn.step (.L0 c c.Color ((c.Color.list.length:Nat):Int))=some (btw c.Generic 99&&btw c.X 2):=by
  have e:Zxn.step (.L0 c c.Color ((c.Color.list.length:Nat):Int))=some (.inr (btw c.Generic 99&&btw c.X 2)):=by
   show (Zsi c c.Color 5).den=_
   (dsimp only [Zsi,LT.den];unfold btw)
   rw [decide_eq_false (by omega)]
   cases decide (c.Generic≥0)<;>cases decide (c.Generic≤99)<;>cases decide (c.X≥0)<;>rfl
  exact Zcx e
 rw [he]
 unfold Z44
 cases c.Color.list.all fun n=>btw n 9<;>cases btw c.Generic 99<;>cases btw c.X 2<;>rfl
theorem Za8c(c:Z1):Z7x c=some (Z44 c):=by
 (unfold Z7x LF.run;dsimp only [Zamx,LT.den])
 have hl:Zcm Zie.step (.L0 c 0)=some (c.Color.list.all fun n=>btw n 9):=by
  have:=Z03 (st:=fun i=>Zke.L0 c (i:Int)) (step:=Zie.step) (bad:=false) c.Color.list (fun n=>btw n 9) (fun i x hx=>by
   have hi:=(List.getElem?_eq_some_iff.1 hx).1
   have hi:i < 5:=hi
   show (Zmu _ _).den=_
   dsimp only [Zmu,LT.den]
   rw [decide_eq_true (by omega),Zg2 hx,Zfs (by omega) (by omega)]
   simp only [cond_true,Option.bind_some]
   unfold btw
   by_cases h1:x < 0
   ·rw [decide_eq_true h1,decide_eq_false (show ¬ x≥0 by omega)];rfl
   ·rw [decide_eq_false h1,decide_eq_true (show x≥0 by omega)]
    by_cases h2:x > 9
    ·rw [decide_eq_true h2,decide_eq_false (show ¬ x≤9 by omega)];rfl
    ·rw [decide_eq_false h2,decide_eq_true (show x≤9 by omega)];rfl)
  rw [show (Zke.L0 c 0) = .L0 c ((0:Nat):Int) from rfl,this]
  have he:Zcm Zie.step (.L0 c ((c.Color.list.length:Nat):Int))=some true:=by
   refine Zcx ?_
   show (Zmu c 5).den=_
   rfl
  rw [he]
  cases c.Color.list.all fun n=>btw n 9<;>rfl
 refine (Zbu fun _=>Zbu fun _=>Zbu fun _=>Zbu fun _=>(show Option.bind (some (Sum.inl (Zke.L0 c 0))) (Ze3 Zie.step)=some (c.Color.list.all fun n=>btw n 9) from hl)).trans ?_
 congr 1
 (unfold Z44;unfold btw)
 rw [Bool.eq_iff_iff]
 simp only [Bool.and_eq_true,Bool.not_eq_true',decide_eq_false_iff_not,decide_eq_true_eq,ge_iff_le,gt_iff_lt,Int.not_lt]
 constructor
 ·rintro ⟨h1,h2,h3,h4,h5⟩;exact⟨⟨h1,h2⟩,⟨h3,h4⟩,h5⟩
 ·rintro ⟨⟨h1,h2⟩,⟨h3,h4⟩,h5⟩;exact⟨h1,h2,h3,h4,h5⟩
def valV(c:Z1):Int:=bif Z44 c then c.Generic+c.Color.a0+c.Color.a1+c.Color.a2+c.Color.a3+c.Color.a4 else 0
theorem Za8d{c:Z1}(h:Z44 c=true):(0≤c.Generic∧c.Generic≤99)∧(0≤c.X∧c.X≤2)∧(0≤c.Color.a0∧c.Color.a0≤9)∧(0≤c.Color.a1∧c.Color.a1≤9)∧(0≤c.Color.a2∧c.Color.a2≤9)∧(0≤c.Color.a3∧c.Color.a3≤9)∧(0≤c.Color.a4∧c.Color.a4≤9):=by
 simpa [Z44,btw,A5.list] using h
theorem Za5w(c:Z1):Zaag c 0=some (valV c)∧Zxr c 0=some (valV c):=by
 (unfold Zaag LF.run;dsimp only [Zaf0,LT.den];unfold Zxr LF.run;dsimp only [Z6u,LT.den];unfold valV)
 rw [Zba4,Za8c]
 simp only [Option.bind_some]
 cases hc:Z44 c with
 | false=>exact⟨rfl,rfl⟩
 | true=>
  obtain⟨g,x,h0,h1,h2,h3,h4⟩:=Za8d hc
  obtain⟨gen,xx,⟨a0,a1,a2,a3,a4⟩⟩:=c
  simp only at g x h0 h1 h2 h3 h4 ⊢
  simp only [Bool.not_true,cond_false,Option.bind_some,Zkc,cond_true]
  constructor
  ·have hw:∀ {n:Int},0≤n→n≤1000→IntKind.wrap .i64 n=n:=fun h1 h2=>Zfs (by omega) (by omega)
   have r:∀ (v i y:Int),i < 5→idx? [a0,a1,a2,a3,a4] i=some y→0≤v+y→v+y≤1000→0≤i→Zcm Zsj.step (.L0 0 ⟨gen,xx,⟨a0,a1,a2,a3,a4⟩⟩ v ⟨a0,a1,a2,a3,a4⟩ i)=Zcm Zsj.step (.L0 0 ⟨gen,xx,⟨a0,a1,a2,a3,a4⟩⟩ (v+y) ⟨a0,a1,a2,a3,a4⟩ (i+1)):=fun v i y hi hy h1 h2 h0=>by
    refine Zid ?_
    show (Zkv _ _ _ _ _).den=_
    dsimp only [Zkv,LT.den]
    rw [decide_eq_true hi,show idx? (A5.list (⟨a0,a1,a2,a3,a4⟩:A5 Int)) i=some y from hy,Option.bind_some,hw h1 h2,Zfs (by omega) (by omega)];rfl
   rw [r gen 0 a0 (by omega) rfl (by omega) (by omega) (by omega),r _ _ a1 (by omega) rfl (by omega) (by omega) (by omega),r _ _ a2 (by omega) rfl (by omega) (by omega) (by omega),r _ _ a3 (by omega) rfl (by omega) (by omega) (by omega),r _ _ a4 (by omega) rfl (by omega) (by omega) (by omega)]
   refine Zcx ?_
   show (Zkv _ _ _ _ 5).den=_
   dsimp only [Zkv,LT.den]
   have e1:=(mul_zero (a:=xx) (by omega) (by omega)).1
   have e2:=(Zahg (a:=gen+a0+a1+a2+a3+a4) (b:=0) (by omega) (by omega) (by omega) (by omega)).1
   rw [decide_eq_false (by omega)]
   simp only [cond_false,show Zrp 0 0=0 from rfl,e1,e2,Option.bind_some,Int.add_zero]
  ·have r:∀ (v i y:Int),i < 5→idx? [a0,a1,a2,a3,a4] i=some y→0≤v→v≤1000→0≤y→y≤9→0≤i→Zcm Zwa.step (.L0 0 ⟨gen,xx,⟨a0,a1,a2,a3,a4⟩⟩ v i)=Zcm Zwa.step (.L0 0 ⟨gen,xx,⟨a0,a1,a2,a3,a4⟩⟩ (v+y) (i+1)):=fun v i y hi hy h1 h2 h3 h4 h0=>by
    refine Zid ?_
    show (Zhc _ _ _ _).den=_
    dsimp only [Zhc,LT.den]
    rw [decide_eq_true hi,show idx? (A5.list (⟨a0,a1,a2,a3,a4⟩:A5 Int)) i=some y from hy,Option.bind_some,(Zahg h1 (by omega) h3 (by omega)).2,Option.bind_some,Zfs (by omega) (by omega)];rfl
   rw [r gen 0 a0 (by omega) rfl (by omega) (by omega) (by omega) (by omega) (by omega),r _ _ a1 (by omega) rfl (by omega) (by omega) (by omega) (by omega) (by omega),r _ _ a2 (by omega) rfl (by omega) (by omega) (by omega) (by omega) (by omega),r _ _ a3 (by omega) rfl (by omega) (by omega) (by omega) (by omega) (by omega),r _ _ a4 (by omega) rfl (by omega) (by omega) (by omega) (by omega) (by omega)]
   refine Zcx ?_
   show (Zhc _ _ _ 5).den=_
   dsimp only [Zhc,LT.den]
   have e1:=(mul_zero (a:=xx) (by omega) (by omega)).2
   have e2:=(Zahg (a:=gen+a0+a1+a2+a3+a4) (b:=0) (by omega) (by omega) (by omega) (by omega)).2
   rw [decide_eq_false (by omega),decide_eq_false (by omega)]
   simp only [cond_false,e1,e2,Option.bind_some,Int.add_zero]
def metV(b:Zd)(n:Int):Bool:=bif b.Kind==0 then true else bif b.Kind==1 then decide (n≥b.N) else bif b.Kind==2 then decide (n≤b.N) else bif b.Kind==3 then n==b.N else false
theorem Zaa1(b:Zd)(n:Int):Zafx b n=some (metV b n)∧Zxq b n=some (metV b n):=by
 (unfold Zafx LF.run;dsimp only [Zakz,LT.den];unfold Zxq LF.run;dsimp only [Z6t,LT.den];unfold metV)
 cases b.Kind==0<;>cases b.Kind==1<;>cases b.Kind==2<;>cases b.Kind==3<;>exact⟨rfl,rfl⟩
def Zqc(h s n:Int):Bool:=(s==0||Zbm .and .i64 h s != 0)&&Zbm .and .i64 h n==0
def oneV(a b w:Int):Bool:=bif w==1 then a==b else bif w != 2 then true else a != b
def tapV(t:Bool)(w:Int):Bool:=bif w==1 then t else bif w != 2 then true else !t
def Znp(t:Za):Bool:=Zbm .and .i64 t.Line.Types 1 != 0
def bouV(cr:Bool)(b:Zd)(n:Int):Bool:=b.Kind==0||(cr&&metV b n)
def Z3a(t:Za)(f:Ze):Bool:=bouV (Znp t) f.Power t.Power&&(bouV (Znp t) f.Tough t.Tough&&metV f.Value (valV t.Cost))
def keyV(t:Za)(f:Ze):Bool:=Zbm .and .i64 t.Keys f.Keys==f.Keys
def Z45(t:Za)(f:Ze):Bool:=f.Sub==[]||Zgq t.Line.Subs f.Sub
def matV(o:Zl)(t:Za)(you source:Int)(f:Ze):Bool:=
 filV f&&(o.Zone==f.Zone&&(oneV t.Control you f.Who&&(oneV o.Id source f.Self&&(Zqc t.Line.Types f.Types f.NotTypes&&(Zqc t.Colors f.Colors f.NotColors &&
  (Z45 t f&&(keyV t f&&(tapV o.Tapped f.Tap&&Z3a t f))))))))
theorem Zbfx(h s n:Int):Zun h s n=some (Zqc h s n):=by
 (unfold Zun LF.run;dsimp only [Z2c,LT.den];unfold Zqc)
 cases s==0<;>cases Zbm .and .i64 h s != 0<;>rfl
theorem Za8e(b:Zd)(n:Int)(cr:Bool):Zl2 b n cr=some (bouV cr b n):=by
 (unfold Zl2 LF.run;dsimp only [Zrc,LT.den];unfold bouV)
 rw [(Zaa1 b n).1]
 cases b.Kind==0<;>cases cr<;>cases metV b n<;>rfl
theorem m4(t:Za)(f:Ze):(Ze5 t f (Znp t)).den.bind (Ze3 Zfj.step)=some (Z3a t f):=by
 (dsimp only [Ze5,LT.den];unfold Z3a)
 simp only [Za8e,(Za5w _).1,(Zaa1 _ _).1,Option.bind_some]
 exact Ziz fun _=>Ziz fun _=>rfl
theorem m3(o:Zl)(t:Za)(f:Ze)(v:Bool):(Zf2 o t f (Znp t) v).den.bind (Ze3 Zfj.step)=some (!v&&(tapV o.Tapped f.Tap&&Z3a t f)):=by
 dsimp only [Zf2,LT.den]
 refine Zbu fun _=>?_
 have hm:=m4 t f
 unfold tapV
 by_cases h1:f.Tap=1
 ·rw [show (f.Tap==1)=true from by rw [h1];rfl,show (f.Tap==2)=false from by rw [h1];rfl]
  cases o.Tapped
  ·rfl
  ·simpa using hm
 ·rw [show (f.Tap==1)=false from beq_eq_false_iff_ne.2 h1]
  cases h2:f.Tap==2 with
  | false=>simpa [bne,h2] using hm
  | true=>
   cases o.Tapped
   ·simpa [bne,h2] using hm
   ·simp [bne,h2,Zeo]
theorem m2(o:Zl)(t:Za)(f:Ze)(v:Bool)(ht:t.Line.Subs.length≤4611686018427387904) :
 (Zh3 o t f (Znp t) v).den.bind (Ze3 Zfj.step)=some (!v&&(Z45 t f&&(keyV t f&&(tapV o.Tapped f.Tap&&Z3a t f)))):=by
 dsimp only [Zh3,LT.den]
 refine Zbu fun _=>?_
 have hk:Zv6 t.Keys f.Keys=some (keyV t f):=rfl
 simp only [Zbds _ _ ht,hk,Option.bind_some]
 unfold Z45
 cases f.Sub==[] with
 | true=>simp only [Bool.not_true,cond_false,Bool.true_or,Bool.true_and];rw [m3,Bool.not_not]
 | false=>
  simp only [Bool.not_false,cond_true,Bool.false_or]
  cases Zgq t.Line.Subs f.Sub with
  | false=>simp only [Bool.not_false,cond_true];rw [m3];rfl
  | true=>simp only [Bool.not_true,cond_false];rw [m3,Bool.not_not];rfl
theorem m1(o:Zl)(t:Za)(f:Ze)(v:Bool)(ht:t.Line.Subs.length≤4611686018427387904) :
 (Zd6 o t f (Znp t) v).den.bind (Ze3 Zfj.step)=some (!v&&(Zqc t.Line.Types f.Types f.NotTypes&&(Zqc t.Colors f.Colors f.NotColors&&(Z45 t f&&(keyV t f&&(tapV o.Tapped f.Tap&&Z3a t f)))))):=by
 dsimp only [Zd6,LT.den]
 refine Zbu fun _=>?_
 simp only [Zbfx,Option.bind_some]
 cases Zqc t.Line.Types f.Types f.NotTypes with
 | false=>simp only [Bool.not_false,cond_true];rw [m2 o t f _ ht];rfl
 | true=>simp only [Bool.not_true,cond_false];rw [m2 o t f _ ht,Bool.not_not];rfl
theorem m0(o:Zl)(t:Za)(source:Int)(f:Ze)(v:Bool)(ht:t.Line.Subs.length≤4611686018427387904) :
 (Zby source o t f (Znp t) v).den.bind (Ze3 Zfj.step)=some (!v&&(oneV o.Id source f.Self&&(Zqc t.Line.Types f.Types f.NotTypes&&(Zqc t.Colors f.Colors f.NotColors&&(Z45 t f&&(keyV t f&&(tapV o.Tapped f.Tap&&Z3a t f))))))):=by
 dsimp only [Zby,LT.den]
 refine Zbu fun _=>?_
 have hm:=fun v=>m1 o t f v ht
 unfold oneV
 by_cases h1:f.Self=1
 ·rw [show (f.Self==1)=true from by rw [h1];rfl,show (f.Self==2)=false from by rw [h1];rfl]
  cases h:o.Id==source
  ·simp only [cond_true,bne,h,Bool.not_false];rw [hm];rfl
  ·simp only [cond_true,bne,h,Bool.not_true,cond_false];rw [hm];rfl
 ·rw [show (f.Self==1)=false from beq_eq_false_iff_ne.2 h1]
  cases h2:f.Self==2 with
  | false=>simp only [cond_false,bne,h2,Bool.not_false,cond_true];rw [hm];rfl
  | true=>simp only [cond_false,bne,h2,Bool.not_true,cond_true];rw [hm]
theorem Zbfy(o:Zl)(t:Za)(you source:Int)(f:Ze)(ht:t.Line.Subs.length≤4611686018427387904):Z2f o t you source f=some (matV o t you source f):=by
 (unfold Z2f LF.run;dsimp only [Z8l,LT.den];unfold matV)
 rw [Za5t,Option.bind_some]
 refine Zdh fun _=>?_
 have hz:(o.Zone != f.Zone) = !(o.Zone==f.Zone):=rfl
 rw [hz]
 refine Zdh fun _=>?_
 have hm:=fun v=>m0 o t source f v ht
 show Option.bind (bif (f.Who==1) then bif (t.Control != you) then (Zby source o t f (Znp t) _).den else bif (f.Who==2) then (Zby source o t f (Znp t) _).den else (Zby source o t f (Znp t) _).den else bif (f.Who==2) then (Zby source o t f (Znp t) _).den else (Zby source o t f (Znp t) _).den) _=_
 unfold oneV
 by_cases h1:f.Who=1
 ·rw [show (f.Who==1)=true from by rw [h1];rfl,show (f.Who==2)=false from by rw [h1];rfl]
  cases h:t.Control==you
  ·simp only [cond_true,bne,h,Bool.not_false];rw [hm];rfl
  ·simp only [cond_true,bne,h,Bool.not_true,cond_false];rw [hm];rfl
 ·rw [show (f.Who==1)=false from beq_eq_false_iff_ne.2 h1]
  cases h2:f.Who==2 with
  | false=>simp only [cond_false,bne,h2,Bool.not_false,cond_true];rw [hm];rfl
  | true=>simp only [cond_false,bne,h2,Bool.not_true,cond_true];rw [hm];rfl
theorem b0(t:Za)(f:Ze):(Zff t f (Znp t)).den.bind (Ze3 Z2s.step)=some (bouV (Znp t) f.Tough t.Tough&&metV f.Value (valV t.Cost)):=by
 (dsimp only [Zff,LT.den];unfold bouV)
 simp only [(Za5w _).2,(Zaa1 _ _).2,Option.bind_some,bne]
 cases f.Tough.Kind==0<;>cases Znp t<;>cases metV f.Tough t.Tough<;>rfl
theorem Zbdu(t:Za)(f:Ze):Zsr t f=some (Z3a t f):=by
 (unfold Zsr LF.run;dsimp only [Z2r,LT.den];unfold Z3a)
 have hs:Zpt t.Line.Types 1=some (Znp t):=rfl
 rw [hs,Option.bind_some]
 simp only [(Zaa1 _ _).2,Option.bind_some,bne]
 have hb:=b0 t f
 unfold bouV at hb ⊢
 cases f.Power.Kind==0 with
 | true=>simpa using hb
 | false=>
  cases hc:Znp t with
  | false=>rfl
  | true=>
   rw [hc] at hb
   cases metV f.Power t.Power
   ·rfl
   ·simpa using hb
theorem Zatc(a b:Int):Zpt a b=some (Zbm .and .i64 a b != 0):=rfl
theorem r1(t:Za)(f:Ze)(ht:t.Line.Subs.length≤4611686018427387904):(Zgd t f).den.bind (Ze3 Zss.step)=some (Z45 t f&&(keyV t f&&Z3a t f)):=by
 (dsimp only [Zgd,LT.den];unfold Z45)
 have hk:Zaiw t.Keys f.Keys=some (keyV t f):=rfl
 simp only [Za0b _ _ ht,hk,Zbdu,Option.bind_some]
 cases f.Sub==[] with
 | true=>simp only [Bool.not_true,cond_false,Bool.true_or,Bool.true_and];exact Zdh fun _=>rfl
 | false=>simp only [Bool.not_false,cond_true,Bool.false_or];exact Zdh fun _=>Zdh fun _=>rfl
theorem Zazj{S:Type}{step:S→Option (S ⊕ Bool)}{r:Bool}{k:Option (S ⊕ Bool)}(h s n:Int)(hk:k.bind (Ze3 step)=some r) :
 (bif (s != 0) then bif (!(Zbm .and .i64 h s != 0)) then some (.inr false) else bif (Zbm .and .i64 h n != 0) then some (.inr false) else k else bif (Zbm .and .i64 h n != 0) then some (.inr false) else k).bind (Ze3 step)=some (Zqc h s n&&r):=by
 unfold Zqc
 simp only [bne]
 cases s==0<;>cases Zbm .and .i64 h s==0<;>cases Zbm .and .i64 h n==0<;>first | rfl | simpa using hk
theorem r0(t:Za)(f:Ze)(ht:t.Line.Subs.length≤4611686018427387904):(Zge t f).den.bind (Ze3 Zss.step)=some (Zqc t.Colors f.Colors f.NotColors&&(Z45 t f&&(keyV t f&&Z3a t f))):=by
 dsimp only [Zge,LT.den]
 simp only [Zatc,Option.bind_some]
 exact Zazj _ _ _ (r1 t f ht)
theorem Za5y(o:Zl)(t:Za)(you source:Int)(f:Ze)(ht:t.Line.Subs.length≤4611686018427387904):Zst o t you source f=some (matV o t you source f):=by
 (unfold Zst LF.run;dsimp only [Z2t,LT.den])
 have h1:∀ a b w,Z8t a b w=some (oneV a b w):=fun a b w=>by (unfold Z8t LF.run;dsimp only [Zagl,LT.den];unfold oneV);cases w==1<;>cases w != 2<;>rfl
 have h2:∀ a b w,Z2o a b w=some (oneV a b w):=fun a b w=>by (unfold Z2o LF.run;dsimp only [Zaak,LT.den];unfold oneV);cases w==1<;>cases w != 2<;>rfl
 have h3:∀ a w,Z8u a w=some (tapV a w):=fun a w=>by (unfold Z8u LF.run;dsimp only [Zagm,LT.den];unfold tapV);cases w==1<;>cases w != 2<;>rfl
 simp only [Zazi,h1,h2,h3,Zatc,Option.bind_some]
 have hz:(o.Zone != f.Zone) = !(o.Zone==f.Zone):=rfl
 rw [hz]
 refine (Zdh fun _=>Zdh fun _=>Zdh fun _=>Zdh fun _=>Zdh fun _=>Zazj _ _ _ (r0 t f ht)).trans ?_
 congr 1
 unfold matV
 cases tapV o.Tapped f.Tap<;>simp
end Go.PW
