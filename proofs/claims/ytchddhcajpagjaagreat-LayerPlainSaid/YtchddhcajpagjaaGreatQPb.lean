import Derived.Test.YtchddhcajpagjaaGreatQE
import Derived.Test.YtchddhcajpagjaaGreatQDc
import Derived.Test.YtchddhcajpagjaaGreatPwU
import Derived.Test.YtchddhcajpagjaaGreatPwYc
set_option linter.all false
set_option maxRecDepth 100000
namespace Go.PW
def okc(n:Int):Bool:=(decide (97<=n)&&decide (n<=122))||(decide (48<=n)&&decide (n<=57))||n==45
def c8(c:UInt8):Int:=(c.toNat:Int)
def lowc(c:UInt8):Bool:=decide (97<=c8 c)&&decide (c8 c<=122)
def Zane(s:List UInt8):Bool:=
 decide (1<=s.length)&&decide (s.length<=32)&&(s.head?.map lowc).getD false&&(s.getLast?.map fun c=>c8 c != 45).getD false && !Lib.contains s [45,45]&&s.all fun c=>okc (c8 c)
theorem Zbfa{s:List UInt8}(h:1<=s.length):s[0]?=some (s[0]'(by omega))/\s.head?=some (s[0]'(by omega)):=by
 cases s with
 | nil=>simp at h
 | cons a s=>exact⟨rfl,rfl⟩
theorem Zbfb{s:List UInt8}(h:1<=s.length):idx? s (IntKind.wrap .i64 ((s.length:Int) - 1))=if s.length<=4611686018427387904 then s.getLast? else idx? s (IntKind.wrap .i64 ((s.length:Int) - 1)):=by
 split
 .rw [Zge (by omega) (by omega),show ((s.length:Int) - 1)=((s.length - 1:Nat):Int) by omega]
  rw [List.getLast?_eq_getElem?]
  unfold idx?
  rw [if_pos (by omega)]
  simp
 .rfl
theorem occ2(s:List UInt8)(j:Nat):Lib.occAt s [45,45] j=true↔s[j]?=some (45:UInt8)/\s[j+1]?=some (45:UInt8):=by
 unfold Lib.occAt
 rw [List.isPrefixOf_iff_prefix]
 constructor
 .rintro ⟨t,ht⟩
  have h0:(s.drop j)[0]?=some 45:=by rw [<- ht];rfl
  have h1:(s.drop j)[1]?=some 45:=by rw [<- ht];rfl
  rw [List.getElem?_drop] at h0 h1
  exact⟨by simpa using h0,h1⟩
 .rintro ⟨h0,h1⟩
  refine⟨s.drop (j+2),?_⟩
  have hj:j+1 < s.length:=(List.getElem?_eq_some_iff.1 h1).1
  rw [List.drop_eq_getElem_cons (show j < s.length by omega),List.drop_eq_getElem_cons hj]
  have e0:s[j]=45:=by
   have:=List.getElem?_eq_getElem (show j < s.length by omega)
   rw [this] at h0;exact Option.some.inj h0
  have e1:s[j+1]=45:=by
   rw [List.getElem?_eq_getElem hj] at h1;exact Option.some.inj h1
  rw [e0,e1];rfl
theorem Za8g(s:List UInt8):Lib.contains s [45,45]=true↔∃ j:Nat,s[j]?=some (45:UInt8)/\s[j+1]?=some (45:UInt8):=by
 unfold Lib.contains
 rw [decide_eq_true_eq]
 rcases Lib.index_spec s [45,45] with ⟨h1,h2⟩ | ⟨i,h1,h2,h3,_⟩
 .constructor
  .intro h;omega
  .rintro ⟨j,hj⟩
   have hlt:j < s.length:=(List.getElem?_eq_some_iff.1 hj.1).1
   have:=h2 j (by omega)
   rw [(occ2 s j).2 hj] at this
   cases this
 .constructor
  .intro _;exact⟨i,(occ2 s i).1 h3⟩
  .intro _;omega
theorem Za8h(z:List Int)(hz:z.length<=4611686018427387904):Zc0 Zxf.step (.L0 z (z.length:Int) 0)=some (z.all okc):=by
 have:=Z0i (st:=fun i=>Z3r.L0 z (z.length:Int) (i:Int)) (step:=Zxf.step) (bad:=false) z okc (fun i x hx=>?_)
 .refine this.trans ?_
  have he:Zc0 Zxf.step (.L0 z (z.length:Int) (z.length:Int))=some true:=by
   refine Zdu ?_
   show (Ztv _ _ _).den=_
   dsimp only [Ztv,LT.den]
   rw [decide_eq_false (by omega)];rfl
  rw [he]
  cases z.all okc<;>rfl
 .have hi:=(List.getElem?_eq_some_iff.1 hx).1
  show (Ztv _ _ _).den=_
  dsimp only [Ztv,LT.den]
  rw [decide_eq_true (by omega),cond_true,Zkf hx,Option.bind_some,Z2r hi hz]
  unfold okc
  rw [Za10,Zu4]
  by_cases h1:97<=x<;>by_cases h2:x<=122<;>by_cases h3:48<=x<;>by_cases h4:x<=57<;>by_cases h5:x=45 <;>
   first
   | (exfalso;omega)
   | simp [h1,h2,h3,h4,h5,Int.not_lt.2,Int.not_le.1]
theorem Za2c{s:List UInt8}(h1:1<=s.length)(h2:s.length<=32):∃ c d,idx? s 0=some c/\s.head?=some c/\idx? s (IntKind.wrap .i64 ((s.length:Int) - 1))=some d/\s.getLast?=some d:=by
 obtain⟨e1,e2⟩:=Zbfa h1
 have hl:=Zbfb h1
 rw [if_pos (by omega)] at hl
 have:s.getLast?=some (s[s.length - 1]'(by omega)):=by rw [List.getLast?_eq_getElem?];exact List.getElem?_eq_getElem (by omega)
 exact⟨_,_,Zkf (j:=0) e1,e2,by rw [hl];exact this,this⟩
theorem Za4b(s:List UInt8):Zapa s=some (Zane s):=by
 (unfold Zapa LF.run;dsimp only [Zasa,LT.den];unfold Zane)
 by_cases h1:1<=s.length
 .rw [show ((s.length:Int)==0)=false from by rw [Zu4];exact decide_eq_false (by omega)]
  by_cases h2:s.length<=32
  .obtain⟨c,d,e1,e2,e3,e4⟩:=Za2c h1 h2
   rw [show decide ((s.length:Int) > 32)=false from decide_eq_false (by omega),e1,e2,e3,e4]
   simp only [cond_false,Option.bind_some,Option.map_some,Option.getD_some,decide_eq_true h1,decide_eq_true h2,Bool.true_and,lowc]
   show Option.bind (bif decide (c8 c < 97) then _ else bif decide (c8 c > 122) then _ else bif (c8 d==45) then _ else _) _=_
   by_cases h3:97<=c8 c
   .rw [show decide (c8 c < 97)=false from decide_eq_false (by omega),decide_eq_true h3]
    by_cases h4:c8 c<=122
    .rw [show decide (c8 c > 122)=false from decide_eq_false (by omega),decide_eq_true h4]
     cases h5:(c8 d==45) with
     | true=>simp [Zfv,h5,bne]
     | false=>
      simp only [cond_false,bne,h5,Bool.not_false,Bool.true_and]
      unfold strings_Contains
      rw [if_pos (by omega),Option.bind_some]
      cases h6:Lib.contains s [45,45] with
      | true=>simp [Zfv]
      | false=>
       simp only [cond_false,Bool.not_false,Bool.true_and]
       unfold bytes?
       rw [if_pos (by omega),Option.bind_some,Option.bind_some,Zmu,Za8h _ (by rw [List.length_map];omega),List.all_map]
       rfl
    .rw [show decide (c8 c > 122)=true from decide_eq_true (by omega),decide_eq_false h4]
     simp [Zfv]
   .rw [show decide (c8 c < 97)=true from decide_eq_true (by omega),decide_eq_false h3]
    simp [Zfv]
  .rw [show decide ((s.length:Int) > 32)=true from decide_eq_true (by omega),decide_eq_false h2]
   simp [Zfv]
 .rw [show ((s.length:Int)==0)=true from by rw [Zu4];exact decide_eq_true (by omega),decide_eq_false h1]
  simp [Zfv]
theorem Za8i(n:Int):Zaer n=some (decide (97<=n)&&decide (n<=122)):=by
 (unfold Zaer LF.run;dsimp only [Zabt,LT.den])
 by_cases h:n>=97
 .rw [decide_eq_true h];simp [Zfv]
 .rw [decide_eq_false h];simp [Zfv]
def okAt(s:List UInt8)(i:Nat):Bool:=(s[i]?.map fun c=>okc (c8 c)).getD false && !(decide (0 < i)&&(s[i]?.map fun c=>c8 c==45).getD false&&(s[i - 1]?.map fun c=>c8 c==45).getD false)
theorem Zbbd(s:List UInt8)(h:s.length<=32)(i:Nat)(hi:i < s.length):Zu5.step (.L0 s (i:Int))=some (bif okAt s i then .inl (.L0 s ((i+1:Nat):Int)) else .inr false):=by
 have hx:=List.getElem?_eq_getElem hi
 have hw:IntKind.wrap .i64 ((i:Int)+1)=((i+1:Nat):Int):=Zge (by omega) (by omega)
 have l1:(Zkh s (i:Int)).den=some (bif !(decide (0 < i)&&(c8 s[i]==45)&&(s[i - 1]?.map fun c=>c8 c==45).getD false) then .inl (.L0 s ((i+1:Nat):Int)) else .inr false):=by
  dsimp only [Zkh,LT.den]
  by_cases h0:0 < i
  .rw [show decide ((i:Int) > 0)=true from decide_eq_true (by omega),decide_eq_true h0,Zkf hx,hw]
   have hy:=List.getElem?_eq_getElem (show i - 1 < s.length by omega)
   have hw2:IntKind.wrap .i64 ((i:Int) - 1)=((i - 1:Nat):Int):=by rw [Zge (by omega) (by omega)];omega
   rw [hw2,Zkf hy,hy]
   simp only [cond_true,Option.bind_some,Option.map_some,Option.getD_some,Bool.true_and]
   show (bif c8 s[i]==45 then bif c8 s[i - 1]==45 then _ else _ else _)=_
   cases c8 s[i]==45<;>cases c8 s[i - 1]==45<;>rfl
  .rw [show decide ((i:Int) > 0)=false from decide_eq_false (by omega),decide_eq_false h0,hw]
   rfl
 show (Zsj _ _).den=_
 (dsimp only [Zsj,LT.den];unfold okAt)
 rw [decide_eq_true (show (i:Int) < (s.length:Int) by omega),Zkf hx,hx]
 simp only [cond_true,Option.bind_some,Option.map_some,Option.getD_some,Za8i,l1]
 show (bif !(decide (97<=c8 s[i])&&decide (c8 s[i]<=122)) then (bif decide (c8 s[i] < 48) then (bif c8 s[i] != 45 then _ else _) else (bif decide (c8 s[i] > 57) then (bif c8 s[i] != 45 then _ else _) else _)) else _)=_
 unfold okc
 cases decide (97<=c8 s[i])&&decide (c8 s[i]<=122) with
 | true=>simp
 | false=>
  simp only [Bool.not_false,cond_true,Bool.false_or]
  by_cases h3:48<=c8 s[i]
  .rw [show decide (c8 s[i] < 48)=false from decide_eq_false (by omega),decide_eq_true h3]
   by_cases h4:c8 s[i]<=57
   .rw [show decide (c8 s[i] > 57)=false from decide_eq_false (by omega),decide_eq_true h4];simp
   .rw [show decide (c8 s[i] > 57)=true from decide_eq_true (by omega),decide_eq_false h4]
    cases h5:c8 s[i]==45<;>simp [bne,h5]
  .rw [show decide (c8 s[i] < 48)=true from decide_eq_true (by omega),decide_eq_false h3]
   cases h5:c8 s[i]==45<;>simp [bne,h5]
theorem Zbfc(c:UInt8):(c8 c==45)=decide (c=45):=by
 rw [Zu4,decide_eq_decide]
 unfold c8
 constructor
 .intro h
  have:c.toNat=45:=by omega
  exact UInt8.toNat_inj.1 (by rw [this];rfl)
 .rintro rfl;rfl
theorem Zbbe(s:List UInt8):((List.range s.length).all fun i=>okAt s i)=(!Lib.contains s [45,45]&&s.all fun c=>okc (c8 c)):=by
 rw [Bool.eq_iff_iff,Bool.and_eq_true,List.all_eq_true,List.all_eq_true,Bool.not_eq_true']
 have hc:Lib.contains s [45,45]=false↔¬ ∃ j:Nat,s[j]?=some (45:UInt8)/\s[j+1]?=some (45:UInt8):=by rw [<- Za8g];simp
 rw [hc]
 constructor
 .intro h
  refine⟨?_,fun c hcm=>?_⟩
  .rintro ⟨j,h1,h2⟩
   have hj:j+1 < s.length:=(List.getElem?_eq_some_iff.1 h2).1
   have:=h (j+1) (List.mem_range.2 hj)
   simp [okAt,h1,h2,c8] at this
  .obtain⟨i,hi⟩:=List.mem_iff_getElem?.1 hcm
   have:=h i (List.mem_range.2 (List.getElem?_eq_some_iff.1 hi).1)
   simp only [okAt,hi,Option.map_some,Option.getD_some,Bool.and_eq_true] at this
   exact this.1
 .rintro ⟨h1,h2⟩ i hi
  have hi:=List.mem_range.1 hi
  have hx:=List.getElem?_eq_getElem hi
  unfold okAt
  rw [hx]
  simp only [Option.map_some,Option.getD_some,h2 _ (List.getElem_mem hi),Bool.true_and,Bool.not_eq_true']
  apply Bool.eq_false_iff.2
  intro hb
  simp only [Bool.and_eq_true,decide_eq_true_eq,Zbfc] at hb
  obtain⟨⟨b1,b2⟩,b3⟩:=hb
  refine h1 ⟨i - 1,?_,?_⟩
  .cases hy:s[i - 1]? with
   | none=>simp [hy] at b3
   | some y=>simp only [hy,Option.map_some,Option.getD_some,decide_eq_true_eq] at b3;rw [b3]
  .rw [show i - 1+1=i by omega,hx,b2]
theorem Za07(s:List UInt8):Zak8 s=some (Zane s):=by
 (unfold Zak8 LF.run;dsimp only [Zain,LT.den];unfold Zane)
 by_cases h1:1<=s.length
 .rw [show decide ((s.length:Int) < 1)=false from decide_eq_false (by omega)]
  by_cases h2:s.length<=32
  .obtain⟨c,d,e1,e2,e3,e4⟩:=Za2c h1 h2
   rw [show decide ((s.length:Int) > 32)=false from decide_eq_false (by omega),e1,e2,e3,e4]
   simp only [cond_false,Option.bind_some,Option.map_some,Option.getD_some,decide_eq_true h1,decide_eq_true h2,Bool.true_and,Za8i]
   show Option.bind (bif !lowc c then _ else bif (c8 d==45) then _ else _) _=_
   cases lowc c with
   | false=>simp [Zfv]
   | true=>
    cases h5:(c8 d==45) with
    | true=>simp [Zfv,h5,bne]
    | false=>
     simp only [cond_false,bne,h5,Bool.not_false,Bool.not_true,Bool.true_and,Option.bind_some,Zmu]
     have:=scan (st:=fun i=>Zmw.L0 s (i:Int)) (step:=Zu5.step) (bad:=false) s.length (okAt s) (fun i hi=>Zbbd s h2 i hi)
     rw [show (Zmw.L0 s 0)=Zmw.L0 s ((0:Nat):Int) from rfl,this,Zbbe]
     have he:Zc0 Zu5.step (.L0 s (s.length:Int))=some true:=by
      refine Zdu ?_
      show (Zsj _ _).den=_
      dsimp only [Zsj,LT.den]
      rw [decide_eq_false (by omega)];rfl
     rw [he]
     cases !Lib.contains s [45,45]&&s.all fun c=>okc (c8 c)<;>rfl
  .rw [show decide ((s.length:Int) > 32)=true from decide_eq_true (by omega),decide_eq_false h2]
   simp [Zfv]
 .rw [show decide ((s.length:Int) < 1)=true from decide_eq_true (by omega),decide_eq_false h1]
  simp [Zfv]
end Go.PW
set_option maxRecDepth 100000
namespace Go.PW
def supW:List (List UInt8):=[[98,97,115,105,99],[117,110,105,113,117,101]]
def typW:List (List UInt8):=[[99,114,101,97,116,117,114,101],[105,110,115,116,97,110,116],[114,105,116,117,97,108],[114,101,108,105,99],[99,104,97,114,109],[108,97,110,100]]
def Zf3(l:List (List UInt8))(s:List UInt8):Bool:=l.any fun w=>w==s
def Zvo(s:List UInt8):Bool:=Zane s&&(!Zf3 supW s && !Zf3 typW s)
theorem Za8j:∀ i:Nat,i < 6->(Z0h .i64 1 (i:Int)==0)=false
 | 0,_=>rfl
 | 1,_=>rfl
 | 2,_=>rfl
 | 3,_=>rfl
 | 4,_=>rfl
 | 5,_=>rfl
 | n+6,h=>absurd h (by omega)
theorem Zbfd(s:List UInt8):∃ x,Zjf s 2=some x/\(x==0) = !Zf3 supW s:=by
 (unfold Zjf LF.run;dsimp only [Znf,LT.den])
 simp only [Option.bind_some,Zmu]
 have hfind:=Zwp (step:=Zic.step) supW (fun i => .L0 s 2 (i:Int)) (fun i=>Z0h .i64 1 (i:Int)) (fun w=>w==s) (fun i x hx=>by
  have hi:=(List.getElem?_eq_some_iff.1 hx).1
  have hi:i < 2:=hi
  have hw:Zvf (i:Int)=some x:=by
   (unfold Zvf LF.run;dsimp only [Z1a,LT.den])
   show Option.bind (Option.bind (idx? supW (i:Int)) fun x1=>some (.inr x1)) (Zhp Zr3.step)=_
   rw [Zkf hx];rfl
  show (Zfa s 2 (i:Int)).den=_
  dsimp only [Zfa,LT.den]
  rw [decide_eq_true (show (i:Int) < 2 by omega),hw,Zge (by omega) (by omega)]
  simp only [cond_true,Option.bind_some,Zav4]
  rw [show decide (¬ (i:Int) < 0)=true from decide_eq_true (by omega)]
  cases x==s<;>rfl)
 rcases hfind with ⟨h1,i,h2,h3⟩ | ⟨h1,h2⟩
 .exact⟨_,h3,by rw [Za8j i (Nat.lt_of_lt_of_le h2 (by decide))];unfold Zf3;rw [h1];rfl⟩
 .refine⟨0,h2.trans (Zdu ?_),by unfold Zf3;rw [h1];rfl⟩
  show (Zfa s 2 2).den=_
  rfl
theorem Zbfe(s:List UInt8):∃ x,Zj0 s 6=some x/\(x==0) = !Zf3 typW s:=by
 (unfold Zj0 LF.run;dsimp only [Zn8,LT.den])
 simp only [Option.bind_some,Zmu]
 have hfind:=Zwp (step:=Ziu.step) typW (fun i => .L0 s 6 (i:Int)) (fun i=>Z0h .i64 1 (i:Int)) (fun w=>w==s) (fun i x hx=>by
  have hi:=(List.getElem?_eq_some_iff.1 hx).1
  have hi:i < 6:=hi
  have hw:Zya (i:Int)=some x:=by
   (unfold Zya LF.run;dsimp only [Z3s,LT.den])
   show Option.bind (Option.bind (idx? typW (i:Int)) fun x1=>some (.inr x1)) (Zhp Ztw.step)=_
   rw [Zkf hx];rfl
  show (Zfs s 6 (i:Int)).den=_
  dsimp only [Zfs,LT.den]
  rw [decide_eq_true (show (i:Int) < 6 by omega),hw,Zge (by omega) (by omega)]
  simp only [cond_true,Option.bind_some,Zav4]
  rw [show decide (¬ (i:Int) < 0)=true from decide_eq_true (by omega)]
  cases x==s<;>rfl)
 rcases hfind with ⟨h1,i,h2,h3⟩ | ⟨h1,h2⟩
 .exact⟨_,h3,by rw [Za8j i (Nat.lt_of_lt_of_le h2 (by decide))];unfold Zf3;rw [h1];rfl⟩
 .refine⟨0,h2.trans (Zdu ?_),by unfold Zf3;rw [h1];rfl⟩
  show (Zfs s 6 6).den=_
  rfl
theorem Zaym(s:List UInt8):Zzt s=some (Zvo s):=by
 (unfold Zzt LF.run;dsimp only [Zac1,LT.den];unfold Zvo)
 obtain⟨x,hx,ex⟩:=Zbfd s
 obtain⟨y,hy,ey⟩:=Zbfe s
 simp only [Za4b,hx,hy,Option.bind_some,ex,ey]
 exact Zlk fun _=>Zlk fun _=>rfl
theorem Zaja(l:List (List UInt8))(s:List UInt8)(hl:l.length<=4611686018427387904):∃ x,Zabw l s=some x/\decide (x < 0) = !Zf3 l s/\decide (x>=0)=Zf3 l s:=by
 (unfold Zabw LF.run;dsimp only [Zafr,LT.den])
 simp only [Option.bind_some,Zmu]
 have hfind:=Zwp (step:=Z4z.step) l (fun i => .L0 l s (i:Int)) (fun i=>(i:Int)) (fun w=>w==s) (fun i x hx=>by
  have hi:=(List.getElem?_eq_some_iff.1 hx).1
  show (Zot _ _ _).den=_
  dsimp only [Zot,LT.den]
  rw [decide_eq_true (by omega),Zkf hx,Z2r hi hl]
  simp only [cond_true,Option.bind_some]
  cases x==s<;>rfl)
 rcases hfind with ⟨h1,i,h2,h3⟩ | ⟨h1,h2⟩
 .refine⟨_,h3,?_,?_⟩<;>unfold Zf3<;>rw [h1]
  .exact decide_eq_false (by omega)
  .exact decide_eq_true (by omega)
 .refine⟨-1,h2.trans (Zdu ?_),?_,?_⟩
  .show (Zot _ _ _).den=_
   dsimp only [Zot,LT.den]
   rw [decide_eq_false (by omega)];rfl
  .unfold Zf3;rw [h1];rfl
  .unfold Zf3;rw [h1];rfl
theorem Zado(s:List UInt8):Z2v s=some (Zvo s):=by
 (unfold Z2v LF.run;dsimp only [Zafs,LT.den];unfold Zvo)
 obtain⟨x,hx,ex,_⟩:=Zaja supW s (by decide)
 obtain⟨y,hy,ey,_⟩:=Zaja typW s (by decide)
 have h1:Zu6=some supW:=rfl
 have h2:Zrm=some typW:=rfl
 simp only [Za07,h1,h2,hx,hy,Option.bind_some,ex,ey]
 exact Zlk fun _=>Zlk fun _=>rfl
theorem Zatb(l:Z7)(s:List UInt8)(hl:l.Subs.length<=4611686018427387904):Z8l l s=some (Zf3 l.Subs s):=by
 (unfold Z8l LF.run;dsimp only [Zadg,LT.den])
 obtain⟨x,hx,_,ex⟩:=Zaja l.Subs s hl
 simp only [hx,Option.bind_some,ex];rfl
theorem Zasm(l:Z7)(s:List UInt8)(hl:l.Subs.length<=4611686018427387904):Zv9 l s=some (Zf3 l.Subs s):=by
 (unfold Zv9 LF.run;dsimp only [Z9z,LT.den];unfold Zjg LF.run;dsimp only [Zih,LT.den];unfold Zk2 LF.run;dsimp only [Zjq,LT.den])
 simp only [Option.bind_some,Zmu]
 have hfind:=Zwp (step:=Zd6.step) l.Subs (fun i => .L0 l.Subs s (l.Subs.length:Int) (i:Int)) (fun i=>(i:Int)) (fun w=>w==s) (fun i x hx=>by
  have hi:=(List.getElem?_eq_some_iff.1 hx).1
  show (Zck _ _ _ _).den=_
  dsimp only [Zck,LT.den]
  rw [decide_eq_true (by omega),Zkf hx,Z2r hi hl]
  simp only [cond_true,Option.bind_some]
  rw [show (s==x)=(x==s) from by rw [Za11,Za11];simp [eq_comm]]
  cases x==s<;>rfl
)
 rcases hfind with ⟨h1,i,h2,h3⟩ | ⟨h1,h2⟩
 .rw [show (Zcr.L0 l.Subs s (l.Subs.length:Int) 0) = .L0 l.Subs s (l.Subs.length:Int) ((0:Nat):Int) from rfl,h3]
  unfold Zf3;rw [h1]
  simp only [Option.bind_some,Zfv]
  rw [decide_eq_true (by omega)]
 .have he:Zc0 Zd6.step (.L0 l.Subs s (l.Subs.length:Int) (l.Subs.length:Int))=some (-1):=by
   refine Zdu ?_
   show (Zck _ _ _ _).den=_
   dsimp only [Zck,LT.den]
   rw [decide_eq_false (by omega)];rfl
  rw [show (Zcr.L0 l.Subs s (l.Subs.length:Int) 0) = .L0 l.Subs s (l.Subs.length:Int) ((0:Nat):Int) from rfl,h2,he]
  unfold Zf3;rw [h1];rfl
def btw(n m:Int):Bool:=decide (n>=0)&&decide (n<=m)
def Zql(b:Zb):Bool:=btw b.Kind 3&&(btw b.N 1000000&&(b.Kind != 0||b.N==0))
def Z5k(a b:Int):Bool:=Zau .and .i64 a b==0
def Z8p(f:Zg):Bool:=
 btw f.Zone 5&&(btw f.Who 2&&(btw f.Self 2&&(btw f.Tap 2&&(btw f.Keys 131071&&(btw f.Types 63&&(btw f.NotTypes 63&&(Z5k f.Types f.NotTypes &&
 (btw f.Colors 31&&(btw f.NotColors 31&&(Z5k f.Colors f.NotColors&&((f.Sub==[]||Zvo f.Sub)&&(Zql f.Power&&(Zql f.Tough&&Zql f.Value)))))))))))))
theorem Zanf(n m:Int):Zve n m=some (btw n m):=by
 (unfold Zve LF.run;dsimp only [Z08,LT.den];unfold btw)
 exact Zlk fun _=>rfl
theorem Za4c(b:Zb):Zvg b=some (Zql b):=by
 (unfold Zvg LF.run;dsimp only [Z1b,LT.den];unfold Zql)
 simp only [Zanf,Option.bind_some]
 refine Zlk fun _=>Zlk fun _=>?_
 cases b.Kind != 0<;>rfl
theorem Za8k(f:Zg):(Zo5 f).den.bind (Zhp Zq7.step)=some (Zql f.Power&&(Zql f.Tough&&Zql f.Value)):=by
 dsimp only [Zo5,LT.den]
 simp only [Za4c,Option.bind_some]
 exact Zlk fun _=>Zlk fun _=>rfl
theorem Zadp(f:Zg):Z3t f=some (Z8p f):=by
 (unfold Z3t LF.run;dsimp only [Zahg,LT.den];unfold Z8p)
 simp only [Zanf,Option.bind_some,Zaym]
 refine Zgf fun _=>Zgf fun _=>Zgf fun _=>Zgf fun _=>Zgf fun _=>Zgf fun _=>Zgf fun _=>?_
 have dis:∀ {a b r:Bool} {c d:Int} {k:Option (Zv8 ⊕ Bool)},k.bind (Zhp Zq7.step)=some r->(bif (Zau .and .i64 c d != 0) then some (.inr false) else k).bind (Zhp Zq7.step)=some (Z5k c d&&r):=by
  intro a b r c d k h
  unfold Z5k
  simp only [bne]
  exact Zgf fun _=>h
 refine dis (a:=true) (b:=true) (Zgf fun _=>Zgf fun _=>dis (a:=true) (b:=true) ?_)
 cases f.Sub==[] with
 | true=>simp only [Bool.not_true,cond_false,Bool.true_or,Bool.true_and];exact Za8k f
 | false=>simp only [Bool.not_false,cond_true,Bool.false_or];exact Zgf fun _=>Za8k f
theorem Zbbf(b:Zb):Z2x b=some (Zql b):=by
 (unfold Z2x LF.run;dsimp only [Z41,LT.den])
 refine (Zbs fun _=>Zbs fun _=>Zbs fun _=>Zbs fun _=>(show _=some (b.Kind != 0||b.N==0) from by cases b.Kind != 0<;>rfl)).trans ?_
 congr 1
 (unfold Zql;unfold btw)
 rw [Bool.eq_iff_iff]
 simp only [Bool.and_eq_true,Bool.not_eq_true',decide_eq_false_iff_not,decide_eq_true_eq,ge_iff_le,gt_iff_lt,Int.not_lt]
 constructor
 .rintro ⟨h1,h2,h3,h4,h5⟩;exact⟨⟨h1,h2⟩,⟨h3,h4⟩,h5⟩
 .rintro ⟨⟨h1,h2⟩,⟨h3,h4⟩,h5⟩;exact⟨h1,h2,h3,h4,h5⟩
theorem Zang:∀ (d i a b:Nat),i+d=6->a < 2 ^ 62->b < 2 ^ 62->Zc0 Znx.step (.L0 (a:Int) (b:Int) (i:Int))=some (Z0j d a b)
 | 0,i,a,b,hi,_,_=>by
  refine Zdu ?_
  show (Zll _ _ _).den=_
  dsimp only [Zll,LT.den]
  rw [decide_eq_false (by omega)];rfl
 | d+1,i,a,b,hi,ha,hb=>by
  have hw:IntKind.wrap .i64 ((i:Int)+1)=((i+1:Nat):Int):=Zge (by omega) (by omega)
  have hs:Znx.step (.L0 (a:Int) (b:Int) (i:Int))=some (bif decide (a % 2=1)&&decide (b % 2=1) then .inr false else .inl (.L0 ((a / 2:Nat):Int) ((b / 2:Nat):Int) ((i+1:Nat):Int))):=by
   show (Zll _ _ _).den=_
   dsimp only [Zll,LT.den]
   rw [decide_eq_true (by omega),Za13,Za13,Za12 a ha,Za12 b hb,hw]
   cases decide (a % 2=1)<;>cases decide (b % 2=1)<;>rfl
  unfold Z0j
  by_cases h:a % 2=1/\b % 2=1
  .rw [if_pos h]
   rw [decide_eq_true h.1,decide_eq_true h.2] at hs
   exact Zdu hs
  .rw [if_neg h]
   have:(decide (a % 2=1)&&decide (b % 2=1))=false:=by
    rw [<- Bool.decide_and];exact decide_eq_false h
   rw [this] at hs
   rw [Zkv hs]
   exact Zang d (i+1) (a / 2) (b / 2) (by omega) (by omega) (by omega)
theorem Zayn(a b m:Int)(hm:m < 64):Z2w a b m=some (btw a m&&(btw b m&&Z5k a b)):=by
 have key:∀ {r:Bool},(0<=a->a<=m->0<=b->b<=m->r=Z5k a b)->(!decide (a < 0)&&(!decide (a > m)&&(!decide (b < 0)&&(!decide (b > m)&&r))))=(btw a m&&(btw b m&&Z5k a b)):=by
  intro r hr
  unfold btw
  by_cases h1:0<=a
  .by_cases h2:a<=m
   .by_cases h3:0<=b
    .by_cases h4:b<=m
     .rw [hr h1 h2 h3 h4]
      simp [h1,h2,h3,h4,Int.not_lt.2]
     .simp [h4,Int.not_le.1 h4]
    .simp [h3,Int.not_le.1 h3]
   .simp [h2,Int.not_le.1 h2]
  .simp [h1,Int.not_le.1 h1]
 (unfold Z2w LF.run;dsimp only [Z40,LT.den])
 by_cases hin:0<=a/\a<=m/\0<=b/\b<=m
 .obtain⟨h1,h2,h3,h4⟩:=hin
  refine (Zbs (r := !decide (a > m)&&(!decide (b < 0)&&(!decide (b > m)&&Z5k a b))) fun _=>Zbs fun _=>Zbs fun _=>Zbs fun _=>?_).trans (congrArg some (key fun _ _ _ _=>rfl))
  obtain⟨x,rfl⟩:=Int.eq_ofNat_of_zero_le h1
  obtain⟨y,rfl⟩:=Int.eq_ofNat_of_zero_le h3
  show Zc0 Znx.step (.L0 (x:Int) (y:Int) ((0:Nat):Int))=_
  rw [Zang 6 0 x y rfl (by omega) (by omega),Za3u (by omega)]
  unfold Z5k
  rw [Zbe2 (by omega) (by omega),Zu4]
  congr 1
  rw [decide_eq_decide];omega
 .refine (Zbs (r := !decide (a > m)&&(!decide (b < 0)&&(!decide (b > m)&&Z5k a b))) fun e1=>Zbs fun e2=>Zbs fun e3=>Zbs fun e4=>?_).trans (congrArg some (key fun _ _ _ _=>rfl))
  simp only [decide_eq_false_iff_not] at e1 e2 e3 e4
  exact absurd ⟨by omega,by omega,by omega,by omega⟩ hin
theorem Za2d(f:Zg):(Zou f).den.bind (Zhp Zais.step)=some (Zql f.Power&&(Zql f.Tough&&Zql f.Value)):=by
 dsimp only [Zou,LT.den]
 simp only [Zbbf,Option.bind_some]
 exact Zlk fun _=>Zlk fun _=>rfl
theorem Za8l(f:Zg):Zab0 f=some (Z8p f):=by
 (unfold Zab0 LF.run;dsimp only [Zair,LT.den])
 simp only [Zayn _ _ _ (by decide:(63:Int) < 64),Zayn _ _ _ (by decide:(31:Int) < 64),Option.bind_some,Zado]
 refine (Zbs fun _=>Zbs fun _=>Zbs fun _=>Zbs fun _=>Zbs fun _=>Zbs fun _=>Zbs fun _=>Zbs fun _=>Zgf fun _=>Zgf fun _=>
  (show _=some ((f.Sub==[]||Zvo f.Sub)&&(!decide (f.Keys < 0)&&(!decide (f.Keys > 131071)&&(Zql f.Power&&(Zql f.Tough&&Zql f.Value))))) from ?_)).trans ?_
 .cases f.Sub==[] with
  | true=>simp only [Bool.not_true,cond_false,Bool.true_or,Bool.true_and];exact Zbs fun _=>Zbs fun _=>Za2d f
  | false=>simp only [Bool.not_false,cond_true,Bool.false_or];exact Zgf fun _=>Zbs fun _=>Zbs fun _=>Za2d f
 .congr 1
  (unfold Z8p;unfold btw)
  rw [Bool.eq_iff_iff]
  simp only [Bool.and_eq_true,Bool.not_eq_true',decide_eq_false_iff_not,decide_eq_true_eq,ge_iff_le,gt_iff_lt,Int.not_lt]
  constructor
  .rintro ⟨z1,z2,w1,w2,s1,s2,t1,t2,⟨⟨a1,a2⟩,⟨b1,b2⟩,d1⟩,⟨⟨c1,c2⟩,⟨e1,e2⟩,d2⟩,su,k1,k2,p,q,v⟩
   exact⟨⟨z1,z2⟩,⟨w1,w2⟩,⟨s1,s2⟩,⟨t1,t2⟩,⟨k1,k2⟩,⟨a1,a2⟩,⟨b1,b2⟩,d1,⟨c1,c2⟩,⟨e1,e2⟩,d2,su,p,q,v⟩
  .rintro ⟨⟨z1,z2⟩,⟨w1,w2⟩,⟨s1,s2⟩,⟨t1,t2⟩,⟨k1,k2⟩,⟨a1,a2⟩,⟨b1,b2⟩,d1,⟨c1,c2⟩,⟨e1,e2⟩,d2,su,p,q,v⟩
   exact⟨z1,z2,w1,w2,s1,s2,t1,t2,⟨⟨a1,a2⟩,⟨b1,b2⟩,d1⟩,⟨⟨c1,c2⟩,⟨e1,e2⟩,d2⟩,su,k1,k2,p,q,v⟩
end Go.PW
