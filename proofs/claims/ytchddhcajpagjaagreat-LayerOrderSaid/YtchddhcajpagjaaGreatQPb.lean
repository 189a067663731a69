import Derived.Test.YtchddhcajpagjaaGreatQE
import Derived.Test.YtchddhcajpagjaaGreatQDc
import Derived.Test.YtchddhcajpagjaaGreatPwU
import Derived.Test.YtchddhcajpagjaaGreatPwYc
set_option linter.all false
set_option maxRecDepth 100000
namespace Go.PW
def okc(n:Int):Bool:=(decide (97<=n)&&decide (n<=122))||(decide (48<=n)&&decide (n<=57))||n==45
def c8(c:UInt8):Int:=(c.toNat:Int)
def lowc(c:UInt8):Bool:=decide (97<=c8 c)&&decide (c8 c<=122)
def Zam6(s:List UInt8):Bool:=
 decide (1<=s.length)&&decide (s.length<=32)&&(s.head?.map lowc).getD false&&(s.getLast?.map fun c=>c8 c != 45).getD false && !Lib.contains s [45,45]&&s.all fun c=>okc (c8 c)
theorem Zbew{s:List UInt8}(h:1<=s.length):s[0]?=some (s[0]'(by omega))/\s.head?=some (s[0]'(by omega)):=by
 cases s with
 | nil=>simp at h
 | cons a s=>exact⟨rfl,rfl⟩
theorem Zbex{s:List UInt8}(h:1<=s.length):idx? s (IntKind.wrap .i64 ((s.length:Int) - 1))=if s.length<=4611686018427387904 then s.getLast? else idx? s (IntKind.wrap .i64 ((s.length:Int) - 1)):=by
 split
 .rw [Zfj O O,show ((s.length:Int) - 1)=((s.length - 1:Nat):Int) by omega]
  rw [List.getLast?_eq_getElem?]
  unfold idx?
  rw [if_pos O]
  simp
 .rfl
theorem occ2(s:List UInt8)(j:Nat):Lib.occAt s [45,45] j=true↔s[j]?=some (45:UInt8)/\s[j+1]?=some (45:UInt8):=by
 unfold Lib.occAt
 rw [List.isPrefixOf_iff_prefix]
 constructor
 .rintro ⟨t,ht⟩
  have h0:(s.drop j)[0]?=some 45:=by rw [<- ht];rfl
  have h1:(s.drop j)[1]?=some 45:=by rw [<- ht];rfl
  rw [List.getElem?_drop] at h0 h1
  exact⟨by simpa using h0,h1⟩
 .rintro ⟨h0,h1⟩
  refine⟨s.drop (j+2),?_⟩
  have hj:j+1 < s.length:=(List.getElem?_eq_some_iff.1 h1).1
  rw [List.drop_eq_getElem_cons (show j < s.length by omega),List.drop_eq_getElem_cons hj]
  have e0:s[j]=45:=by
   have:=List.getElem?_eq_getElem (show j < s.length by omega)
   rw [this] at h0;exact Option.some.inj h0
  have e1:s[j+1]=45:=by
   rw [List.getElem?_eq_getElem hj] at h1;exact Option.some.inj h1
  rw [e0,e1];rfl
theorem Za72(s:List UInt8):Lib.contains s [45,45]=true↔∃ j:Nat,s[j]?=some (45:UInt8)/\s[j+1]?=some (45:UInt8):=by
 unfold Lib.contains
 rw [decide_eq_true_eq]
 rcases Lib.index_spec s [45,45] with ⟨h1,h2⟩ | ⟨i,h1,h2,h3,_⟩
 .constructor
  .intro h;omega
  .rintro ⟨j,hj⟩
   have hlt:j < s.length:=(List.getElem?_eq_some_iff.1 hj.1).1
   have:=h2 j O
   rw [(occ2 s j).2 hj] at this
   cases this
 .constructor
  .intro _;exact⟨i,(occ2 s i).1 h3⟩
  .intro _;omega
theorem Za73(z:List Int)(hz:z.length<=4611686018427387904):Zc3 Zxb.step (.L0 z (z.length:Int) 0)=some (z.all okc):=by
 have:=Z0b (st:=fun i=>Z3p.L0 z (z.length:Int) (i:Int)) (step:=Zxb.step) (bad:=false) z okc (fun i x hx=>?_)
 .refine this.trans ?_
  have he:Zc3 Zxb.step (.L0 z (z.length:Int) (z.length:Int))=some true:=by
   refine Zdu ?_
   show (Ztq _ _ _).den=_
   dsimp only [Ztq,LT.den]
   rw [decide_eq_false O];rfl
  rw [he]
  cases z.all okc<;>rfl
 .have hi:=(List.getElem?_eq_some_iff.1 hx).1
  show (Ztq _ _ _).den=_
  dsimp only [Ztq,LT.den]
  rw [decide_eq_true O,cond_true,Zke hx,Option.bind_some,Z2n hi hz]
  unfold okc
  rw [Za1p,Zu1]
  by_cases h1:97<=x<;>by_cases h2:x<=122<;>by_cases h3:48<=x<;>by_cases h4:x<=57<;>by_cases h5:x=45 <;>
   first
   | (exfalso;omega)
   | simp [h1,h2,h3,h4,h5,Int.not_lt.2,Int.not_le.1]
theorem Za10{s:List UInt8}(h1:1<=s.length)(h2:s.length<=32):∃ c d,idx? s 0=some c/\s.head?=some c/\idx? s (IntKind.wrap .i64 ((s.length:Int) - 1))=some d/\s.getLast?=some d:=by
 obtain⟨e1,e2⟩:=Zbew h1
 have hl:=Zbex h1
 rw [if_pos O] at hl
 have:s.getLast?=some (s[s.length - 1]'(by omega)):=by rw [List.getLast?_eq_getElem?];exact List.getElem?_eq_getElem O
 exact⟨_,_,Zke (j:=0) e1,e2,by rw [hl];exact this,this⟩
theorem Za31(s:List UInt8):Zao4 s=some (Zam6 s):=by
 (unfold Zao4 LF.run;dsimp only [Zar5,LT.den];unfold Zam6)
 by_cases h1:1<=s.length
 .rw [show ((s.length:Int)==0)=false from by rw [Zu1];exact decide_eq_false O]
  by_cases h2:s.length<=32
  .obtain⟨c,d,e1,e2,e3,e4⟩:=Za10 h1 h2
   rw [show decide ((s.length:Int) > 32)=false from decide_eq_false O,e1,e2,e3,e4]
   simp only [cond_false,Option.bind_some,Option.map_some,Option.getD_some,decide_eq_true h1,decide_eq_true h2,Bool.true_and,lowc]
   show Option.bind (bif decide (c8 c < 97) then _ else bif decide (c8 c > 122) then _ else bif (c8 d==45) then _ else _) _=_
   by_cases h3:97<=c8 c
   .rw [show decide (c8 c < 97)=false from decide_eq_false O,decide_eq_true h3]
    by_cases h4:c8 c<=122
    .rw [show decide (c8 c > 122)=false from decide_eq_false O,decide_eq_true h4]
     cases h5:(c8 d==45) with
     | true=>simp [Zfw,h5,bne]
     | false=>
      simp only [cond_false,bne,h5,Bool.not_false,Bool.true_and]
      unfold strings_Contains
      rw [if_pos O,Option.bind_some]
      cases h6:Lib.contains s [45,45] with
      | true=>simp [Zfw]
      | false=>
       simp only [cond_false,Bool.not_false,Bool.true_and]
       unfold bytes?
       rw [if_pos O,Option.bind_some,Option.bind_some,Zmv,Za73 _ (by rw [List.length_map];omega),List.all_map]
       rfl
    .rw [show decide (c8 c > 122)=true from decide_eq_true O,decide_eq_false h4]
     simp [Zfw]
   .rw [show decide (c8 c < 97)=true from decide_eq_true O,decide_eq_false h3]
    simp [Zfw]
  .rw [show decide ((s.length:Int) > 32)=true from decide_eq_true O,decide_eq_false h2]
   simp [Zfw]
 .rw [show ((s.length:Int)==0)=true from by rw [Zu1];exact decide_eq_true O,decide_eq_false h1]
  simp [Zfw]
theorem Za74(n:Int):Zaek n=some (decide (97<=n)&&decide (n<=122)):=by
 (unfold Zaek LF.run;dsimp only [Zabn,LT.den])
 by_cases h:n>=97
 .rw [decide_eq_true h];simp [Zfw]
 .rw [decide_eq_false h];simp [Zfw]
def okAt(s:List UInt8)(i:Nat):Bool:=(s[i]?.map fun c=>okc (c8 c)).getD false && !(decide (0 < i)&&(s[i]?.map fun c=>c8 c==45).getD false&&(s[i - 1]?.map fun c=>c8 c==45).getD false)
theorem Zba4(s:List UInt8)(h:s.length<=32)(i:Nat)(hi:i < s.length):Zu2.step (.L0 s (i:Int))=some (bif okAt s i then .inl (.L0 s ((i+1:Nat):Int)) else .inr false):=by
 have hx:=List.getElem?_eq_getElem hi
 have hw:IntKind.wrap .i64 ((i:Int)+1)=((i+1:Nat):Int):=Zfj O O
 have l1:(Zkg s (i:Int)).den=some (bif !(decide (0 < i)&&(c8 s[i]==45)&&(s[i - 1]?.map fun c=>c8 c==45).getD false) then .inl (.L0 s ((i+1:Nat):Int)) else .inr false):=by
  dsimp only [Zkg,LT.den]
  by_cases h0:0 < i
  .rw [show decide ((i:Int) > 0)=true from decide_eq_true O,decide_eq_true h0,Zke hx,hw]
   have hy:=List.getElem?_eq_getElem (show i - 1 < s.length by omega)
   have hw2:IntKind.wrap .i64 ((i:Int) - 1)=((i - 1:Nat):Int):=by rw [Zfj O O];omega
   rw [hw2,Zke hy,hy]
   simp only [cond_true,Option.bind_some,Option.map_some,Option.getD_some,Bool.true_and]
   show (bif c8 s[i]==45 then bif c8 s[i - 1]==45 then _ else _ else _)=_
   cases c8 s[i]==45<;>cases c8 s[i - 1]==45<;>rfl
  .rw [show decide ((i:Int) > 0)=false from decide_eq_false O,decide_eq_false h0,hw]
   rfl
 show (Zsg _ _).den=_
 (dsimp only [Zsg,LT.den];unfold okAt)
 rw [decide_eq_true (show (i:Int) < (s.length:Int) by omega),Zke hx,hx]
 simp only [cond_true,Option.bind_some,Option.map_some,Option.getD_some,Za74,l1]
 show (bif !(decide (97<=c8 s[i])&&decide (c8 s[i]<=122)) then (bif decide (c8 s[i] < 48) then (bif c8 s[i] != 45 then _ else _) else (bif decide (c8 s[i] > 57) then (bif c8 s[i] != 45 then _ else _) else _)) else _)=_
 unfold okc
 cases decide (97<=c8 s[i])&&decide (c8 s[i]<=122) with
 | true=>simp
 | false=>
  simp only [Bool.not_false,cond_true,Bool.false_or]
  by_cases h3:48<=c8 s[i]
  .rw [show decide (c8 s[i] < 48)=false from decide_eq_false O,decide_eq_true h3]
   by_cases h4:c8 s[i]<=57
   .rw [show decide (c8 s[i] > 57)=false from decide_eq_false O,decide_eq_true h4];simp
   .rw [show decide (c8 s[i] > 57)=true from decide_eq_true O,decide_eq_false h4]
    cases h5:c8 s[i]==45<;>simp [bne,h5]
  .rw [show decide (c8 s[i] < 48)=true from decide_eq_true O,decide_eq_false h3]
   cases h5:c8 s[i]==45<;>simp [bne,h5]
theorem Zbey(c:UInt8):(c8 c==45)=decide (c=45):=by
 rw [Zu1,decide_eq_decide]
 unfold c8
 constructor
 .intro h
  have:c.toNat=45:=by omega
  exact UInt8.toNat_inj.1 (by rw [this];rfl)
 .rintro rfl;rfl
theorem Zba5(s:List UInt8):((List.range s.length).all fun i=>okAt s i)=(!Lib.contains s [45,45]&&s.all fun c=>okc (c8 c)):=by
 rw [Bool.eq_iff_iff,Bool.and_eq_true,List.all_eq_true,List.all_eq_true,Bool.not_eq_true']
 have hc:Lib.contains s [45,45]=false↔¬ ∃ j:Nat,s[j]?=some (45:UInt8)/\s[j+1]?=some (45:UInt8):=by rw [<- Za72];simp
 rw [hc]
 constructor
 .intro h
  refine⟨?_,fun c hcm=>?_⟩
  .rintro ⟨j,h1,h2⟩
   have hj:j+1 < s.length:=(List.getElem?_eq_some_iff.1 h2).1
   have:=h (j+1) (List.mem_range.2 hj)
   simp [okAt,h1,h2,c8] at this
  .obtain⟨i,hi⟩:=List.mem_iff_getElem?.1 hcm
   have:=h i (List.mem_range.2 (List.getElem?_eq_some_iff.1 hi).1)
   simp only [okAt,hi,Option.map_some,Option.getD_some,Bool.and_eq_true] at this
   exact this.1
 .rintro ⟨h1,h2⟩ i hi
  have hi:=List.mem_range.1 hi
  have hx:=List.getElem?_eq_getElem hi
  unfold okAt
  rw [hx]
  simp only [Option.map_some,Option.getD_some,h2 _ (List.getElem_mem hi),Bool.true_and,Bool.not_eq_true']
  apply Bool.eq_false_iff.2
  intro hb
  simp only [Bool.and_eq_true,decide_eq_true_eq,Zbey] at hb
  obtain⟨⟨b1,b2⟩,b3⟩:=hb
  refine h1 ⟨i - 1,?_,?_⟩
  .cases hy:s[i - 1]? with
   | none=>simp [hy] at b3
   | some y=>simp only [hy,Option.map_some,Option.getD_some,decide_eq_true_eq] at b3;rw [b3]
  .rw [show i - 1+1=i by omega,hx,b2]
theorem Za0w(s:List UInt8):Zak0 s=some (Zam6 s):=by
 (unfold Zak0 LF.run;dsimp only [Zaih,LT.den];unfold Zam6)
 by_cases h1:1<=s.length
 .rw [show decide ((s.length:Int) < 1)=false from decide_eq_false O]
  by_cases h2:s.length<=32
  .obtain⟨c,d,e1,e2,e3,e4⟩:=Za10 h1 h2
   rw [show decide ((s.length:Int) > 32)=false from decide_eq_false O,e1,e2,e3,e4]
   simp only [cond_false,Option.bind_some,Option.map_some,Option.getD_some,decide_eq_true h1,decide_eq_true h2,Bool.true_and,Za74]
   show Option.bind (bif !lowc c then _ else bif (c8 d==45) then _ else _) _=_
   cases lowc c with
   | false=>simp [Zfw]
   | true=>
    cases h5:(c8 d==45) with
    | true=>simp [Zfw,h5,bne]
    | false=>
     simp only [cond_false,bne,h5,Bool.not_false,Bool.not_true,Bool.true_and,Option.bind_some,Zmv]
     have:=scan (st:=fun i=>Zmx.L0 s (i:Int)) (step:=Zu2.step) (bad:=false) s.length (okAt s) (fun i hi=>Zba4 s h2 i hi)
     rw [show (Zmx.L0 s 0)=Zmx.L0 s ((0:Nat):Int) from rfl,this,Zba5]
     have he:Zc3 Zu2.step (.L0 s (s.length:Int))=some true:=by
      refine Zdu ?_
      show (Zsg _ _).den=_
      dsimp only [Zsg,LT.den]
      rw [decide_eq_false O];rfl
     rw [he]
     cases !Lib.contains s [45,45]&&s.all fun c=>okc (c8 c)<;>rfl
  .rw [show decide ((s.length:Int) > 32)=true from decide_eq_true O,decide_eq_false h2]
   simp [Zfw]
 .rw [show decide ((s.length:Int) < 1)=true from decide_eq_true O,decide_eq_false h1]
  simp [Zfw]
end Go.PW
set_option maxRecDepth 100000
namespace Go.PW
def supW:List (List UInt8):=[[98,97,115,105,99],[117,110,105,113,117,101]]
def typW:List (List UInt8):=[[99,114,101,97,116,117,114,101],[105,110,115,116,97,110,116],[114,105,116,117,97,108],[114,101,108,105,99],[99,104,97,114,109],[108,97,110,100]]
def Zf4(l:List (List UInt8))(s:List UInt8):Bool:=l.any fun w=>w==s
def Zvk(s:List UInt8):Bool:=Zam6 s&&(!Zf4 supW s && !Zf4 typW s)
theorem Za75:∀ i:Nat,i < 6->(Z0a .i64 1 (i:Int)==0)=false
 | 0,_=>rfl
 | 1,_=>rfl
 | 2,_=>rfl
 | 3,_=>rfl
 | 4,_=>rfl
 | 5,_=>rfl
 | n+6,h=>absurd h O
theorem Zbez(s:List UInt8):∃ x,Zjc s 2=some x/\(x==0) = !Zf4 supW s:=by
 (unfold Zjc LF.run;dsimp only [Znh,LT.den])
 simp only [Option.bind_some,Zmv]
 have hfind:=Zwl (step:=Zia.step) supW (fun i => .L0 s 2 (i:Int)) (fun i=>Z0a .i64 1 (i:Int)) (fun w=>w==s) (fun i x hx=>by
  have hi:=(List.getElem?_eq_some_iff.1 hx).1
  have hi:i < 2:=hi
  have hw:Zvc (i:Int)=some x:=by
   (unfold Zvc LF.run;dsimp only [Z03,LT.den])
   show Option.bind (Option.bind (idx? supW (i:Int)) fun x1=>some (.inr x1)) (Zhm Zr3.step)=_
   rw [Zke hx];rfl
  show (Ze9 s 2 (i:Int)).den=_
  dsimp only [Ze9,LT.den]
  rw [decide_eq_true (show (i:Int) < 2 by omega),hw,Zfj O O]
  simp only [cond_true,Option.bind_some,Zavr]
  rw [show decide (¬ (i:Int) < 0)=true from decide_eq_true O]
  cases x==s<;>rfl)
 rcases hfind with ⟨h1,i,h2,h3⟩ | ⟨h1,h2⟩
 .exact⟨_,h3,by rw [Za75 i (Nat.lt_of_lt_of_le h2 (by decide))];unfold Zf4;rw [h1];rfl⟩
 .refine⟨0,h2.trans (Zdu ?_),by unfold Zf4;rw [h1];rfl⟩
  show (Ze9 s 2 2).den=_
  rfl
theorem Zbe0(s:List UInt8):∃ x,Zjw s 6=some x/\(x==0) = !Zf4 typW s:=by
 (unfold Zjw LF.run;dsimp only [Zn9,LT.den])
 simp only [Option.bind_some,Zmv]
 have hfind:=Zwl (step:=Zir.step) typW (fun i => .L0 s 6 (i:Int)) (fun i=>Z0a .i64 1 (i:Int)) (fun w=>w==s) (fun i x hx=>by
  have hi:=(List.getElem?_eq_some_iff.1 hx).1
  have hi:i < 6:=hi
  have hw:Zx5 (i:Int)=some x:=by
   (unfold Zx5 LF.run;dsimp only [Z3q,LT.den])
   show Option.bind (Option.bind (idx? typW (i:Int)) fun x1=>some (.inr x1)) (Zhm Ztr.step)=_
   rw [Zke hx];rfl
  show (Zft s 6 (i:Int)).den=_
  dsimp only [Zft,LT.den]
  rw [decide_eq_true (show (i:Int) < 6 by omega),hw,Zfj O O]
  simp only [cond_true,Option.bind_some,Zavr]
  rw [show decide (¬ (i:Int) < 0)=true from decide_eq_true O]
  cases x==s<;>rfl)
 rcases hfind with ⟨h1,i,h2,h3⟩ | ⟨h1,h2⟩
 .exact⟨_,h3,by rw [Za75 i (Nat.lt_of_lt_of_le h2 (by decide))];unfold Zf4;rw [h1];rfl⟩
 .refine⟨0,h2.trans (Zdu ?_),by unfold Zf4;rw [h1];rfl⟩
  show (Zft s 6 6).den=_
  rfl
theorem Zax7(s:List UInt8):Zzn s=some (Zvk s):=by
 (unfold Zzn LF.run;dsimp only [Zacv,LT.den];unfold Zvk)
 obtain⟨x,hx,ex⟩:=Zbez s
 obtain⟨y,hy,ey⟩:=Zbe0 s
 simp only [Za31,hx,hy,Option.bind_some,ex,ey]
 exact Zli fun _=>Zli fun _=>rfl
theorem Zai5(l:List (List UInt8))(s:List UInt8)(hl:l.length<=4611686018427387904):∃ x,Zabq l s=some x/\decide (x < 0) = !Zf4 l s/\decide (x>=0)=Zf4 l s:=by
 (unfold Zabq LF.run;dsimp only [Zafk,LT.den])
 simp only [Option.bind_some,Zmv]
 have hfind:=Zwl (step:=Z4v.step) l (fun i => .L0 l s (i:Int)) (fun i=>(i:Int)) (fun w=>w==s) (fun i x hx=>by
  have hi:=(List.getElem?_eq_some_iff.1 hx).1
  show (Zou _ _ _).den=_
  dsimp only [Zou,LT.den]
  rw [decide_eq_true O,Zke hx,Z2n hi hl]
  simp only [cond_true,Option.bind_some]
  cases x==s<;>rfl)
 rcases hfind with ⟨h1,i,h2,h3⟩ | ⟨h1,h2⟩
 .refine⟨_,h3,?_,?_⟩<;>unfold Zf4<;>rw [h1]
  .exact decide_eq_false O
  .exact decide_eq_true O
 .refine⟨-1,h2.trans (Zdu ?_),?_,?_⟩
  .show (Zou _ _ _).den=_
   dsimp only [Zou,LT.den]
   rw [decide_eq_false O];rfl
  .unfold Zf4;rw [h1];rfl
  .unfold Zf4;rw [h1];rfl
theorem Zadi(s:List UInt8):Z2s s=some (Zvk s):=by
 (unfold Z2s LF.run;dsimp only [Zafl,LT.den];unfold Zvk)
 obtain⟨x,hx,ex,_⟩:=Zai5 supW s (by decide)
 obtain⟨y,hy,ey,_⟩:=Zai5 typW s (by decide)
 have h1:Zu3=some supW:=rfl
 have h2:Zrk=some typW:=rfl
 simp only [Za0w,h1,h2,hx,hy,Option.bind_some,ex,ey]
 exact Zli fun _=>Zli fun _=>rfl
theorem Zas3(l:Zac)(s:List UInt8)(hl:l.Subs.length<=4611686018427387904):Z8f l s=some (Zf4 l.Subs s):=by
 (unfold Z8f LF.run;dsimp only [Zac9,LT.den])
 obtain⟨x,hx,_,ex⟩:=Zai5 l.Subs s hl
 simp only [hx,Option.bind_some,ex];rfl
theorem Zasf(l:Zac)(s:List UInt8)(hl:l.Subs.length<=4611686018427387904):Zv5 l s=some (Zf4 l.Subs s):=by
 (unfold Zv5 LF.run;dsimp only [Z9v,LT.den];unfold Zjd LF.run;dsimp only [Zif,LT.den];unfold Zk1 LF.run;dsimp only [Zjn,LT.den])
 simp only [Option.bind_some,Zmv]
 have hfind:=Zwl (step:=Zd6.step) l.Subs (fun i => .L0 l.Subs s (l.Subs.length:Int) (i:Int)) (fun i=>(i:Int)) (fun w=>w==s) (fun i x hx=>by
  have hi:=(List.getElem?_eq_some_iff.1 hx).1
  show (Zcm _ _ _ _).den=_
  dsimp only [Zcm,LT.den]
  rw [decide_eq_true O,Zke hx,Z2n hi hl]
  simp only [cond_true,Option.bind_some]
  rw [show (s==x)=(x==s) from by rw [Za1q,Za1q];simp [eq_comm]]
  cases x==s<;>rfl
)
 rcases hfind with ⟨h1,i,h2,h3⟩ | ⟨h1,h2⟩
 .rw [show (Zcu.L0 l.Subs s (l.Subs.length:Int) 0) = .L0 l.Subs s (l.Subs.length:Int) ((0:Nat):Int) from rfl,h3]
  unfold Zf4;rw [h1]
  simp only [Option.bind_some,Zfw]
  rw [decide_eq_true O]
 .have he:Zc3 Zd6.step (.L0 l.Subs s (l.Subs.length:Int) (l.Subs.length:Int))=some (-1):=by
   refine Zdu ?_
   show (Zcm _ _ _ _).den=_
   dsimp only [Zcm,LT.den]
   rw [decide_eq_false O];rfl
  rw [show (Zcu.L0 l.Subs s (l.Subs.length:Int) 0) = .L0 l.Subs s (l.Subs.length:Int) ((0:Nat):Int) from rfl,h2,he]
  unfold Zf4;rw [h1];rfl
def btw(n m:Int):Bool:=decide (n>=0)&&decide (n<=m)
def Zqk(b:Za):Bool:=btw b.Kind 3&&(btw b.N 1000000&&(b.Kind != 0||b.N==0))
def Z5f(a b:Int):Bool:=Zay .and .i64 a b==0
def Z8k(f:Ze):Bool:=
 btw f.Zone 5&&(btw f.Who 2&&(btw f.Self 2&&(btw f.Tap 2&&(btw f.Keys 131071&&(btw f.Types 63&&(btw f.NotTypes 63&&(Z5f f.Types f.NotTypes &&
 (btw f.Colors 31&&(btw f.NotColors 31&&(Z5f f.Colors f.NotColors&&((f.Sub==[]||Zvk f.Sub)&&(Zqk f.Power&&(Zqk f.Tough&&Zqk f.Value)))))))))))))
theorem Zam7(n m:Int):Zvb n m=some (btw n m):=by
 (unfold Zvb LF.run;dsimp only [Z01,LT.den];unfold btw)
 exact Zli fun _=>rfl
theorem Za32(b:Za):Zvd b=some (Zqk b):=by
 (unfold Zvd LF.run;dsimp only [Z04,LT.den];unfold Zqk)
 simp only [Zam7,Option.bind_some]
 refine Zli fun _=>Zli fun _=>?_
 cases b.Kind != 0<;>rfl
theorem Za76(f:Ze):(Zo6 f).den.bind (Zhm Zq6.step)=some (Zqk f.Power&&(Zqk f.Tough&&Zqk f.Value)):=by
 dsimp only [Zo6,LT.den]
 simp only [Za32,Option.bind_some]
 exact Zli fun _=>Zli fun _=>rfl
theorem Zadj(f:Ze):Z3r f=some (Z8k f):=by
 (unfold Z3r LF.run;dsimp only [Zag9,LT.den];unfold Z8k)
 simp only [Zam7,Option.bind_some,Zax7]
 refine Zgg fun _=>Zgg fun _=>Zgg fun _=>Zgg fun _=>Zgg fun _=>Zgg fun _=>Zgg fun _=>?_
 have dis:∀ {a b r:Bool} {c d:Int} {k:Option (Zv4 ⊕ Bool)},k.bind (Zhm Zq6.step)=some r->(bif (Zay .and .i64 c d != 0) then some (.inr false) else k).bind (Zhm Zq6.step)=some (Z5f c d&&r):=by
  intro a b r c d k h
  unfold Z5f
  simp only [bne]
  exact Zgg fun _=>h
 refine dis (a:=true) (b:=true) (Zgg fun _=>Zgg fun _=>dis (a:=true) (b:=true) ?_)
 cases f.Sub==[] with
 | true=>simp only [Bool.not_true,cond_false,Bool.true_or,Bool.true_and];exact Za76 f
 | false=>simp only [Bool.not_false,cond_true,Bool.false_or];exact Zgg fun _=>Za76 f
theorem Zba6(b:Za):Z2u b=some (Zqk b):=by
 (unfold Z2u LF.run;dsimp only [Z4x,LT.den])
 refine (Zbu fun _=>Zbu fun _=>Zbu fun _=>Zbu fun _=>(show _=some (b.Kind != 0||b.N==0) from by cases b.Kind != 0<;>rfl)).trans ?_
 congr 1
 (unfold Zqk;unfold btw)
 rw [Bool.eq_iff_iff]
 simp only [Bool.and_eq_true,Bool.not_eq_true',decide_eq_false_iff_not,decide_eq_true_eq,ge_iff_le,gt_iff_lt,Int.not_lt]
 constructor
 .rintro ⟨h1,h2,h3,h4,h5⟩;exact⟨⟨h1,h2⟩,⟨h3,h4⟩,h5⟩
 .rintro ⟨⟨h1,h2⟩,⟨h3,h4⟩,h5⟩;exact⟨h1,h2,h3,h4,h5⟩
theorem Zam8:∀ (d i a b:Nat),i+d=6->a < 2 ^ 62->b < 2 ^ 62->Zc3 Zny.step (.L0 (a:Int) (b:Int) (i:Int))=some (Z0c d a b)
 | 0,i,a,b,hi,_,_=>by
  refine Zdu ?_
  show (Zlj _ _ _).den=_
  dsimp only [Zlj,LT.den]
  rw [decide_eq_false O];rfl
 | d+1,i,a,b,hi,ha,hb=>by
  have hw:IntKind.wrap .i64 ((i:Int)+1)=((i+1:Nat):Int):=Zfj O O
  have hs:Zny.step (.L0 (a:Int) (b:Int) (i:Int))=some (bif decide (a % 2=1)&&decide (b % 2=1) then .inr false else .inl (.L0 ((a / 2:Nat):Int) ((b / 2:Nat):Int) ((i+1:Nat):Int))):=by
   show (Zlj _ _ _).den=_
   dsimp only [Zlj,LT.den]
   rw [decide_eq_true O,Za1s,Za1s,Za1r a ha,Za1r b hb,hw]
   cases decide (a % 2=1)<;>cases decide (b % 2=1)<;>rfl
  unfold Z0c
  by_cases h:a % 2=1/\b % 2=1
  .rw [if_pos h]
   rw [decide_eq_true h.1,decide_eq_true h.2] at hs
   exact Zdu hs
  .rw [if_neg h]
   have:(decide (a % 2=1)&&decide (b % 2=1))=false:=by
    rw [<- Bool.decide_and];exact decide_eq_false h
   rw [this] at hs
   rw [Zku hs]
   exact Zam8 d (i+1) (a / 2) (b / 2) O O O
theorem Zax8(a b m:Int)(hm:m < 64):Z2t a b m=some (btw a m&&(btw b m&&Z5f a b)):=by
 have key:∀ {r:Bool},(0<=a->a<=m->0<=b->b<=m->r=Z5f a b)->(!decide (a < 0)&&(!decide (a > m)&&(!decide (b < 0)&&(!decide (b > m)&&r))))=(btw a m&&(btw b m&&Z5f a b)):=by
  intro r hr
  unfold btw
  by_cases h1:0<=a
  .by_cases h2:a<=m
   .by_cases h3:0<=b
    .by_cases h4:b<=m
     .rw [hr h1 h2 h3 h4]
      simp [h1,h2,h3,h4,Int.not_lt.2]
     .simp [h4,Int.not_le.1 h4]
    .simp [h3,Int.not_le.1 h3]
   .simp [h2,Int.not_le.1 h2]
  .simp [h1,Int.not_le.1 h1]
 (unfold Z2t LF.run;dsimp only [Z4w,LT.den])
 by_cases hin:0<=a/\a<=m/\0<=b/\b<=m
 .obtain⟨h1,h2,h3,h4⟩:=hin
  refine (Zbu (r := !decide (a > m)&&(!decide (b < 0)&&(!decide (b > m)&&Z5f a b))) fun _=>Zbu fun _=>Zbu fun _=>Zbu fun _=>?_).trans (congrArg some (key fun _ _ _ _=>rfl))
  obtain⟨x,rfl⟩:=Int.eq_ofNat_of_zero_le h1
  obtain⟨y,rfl⟩:=Int.eq_ofNat_of_zero_le h3
  show Zc3 Zny.step (.L0 (x:Int) (y:Int) ((0:Nat):Int))=_
  rw [Zam8 6 0 x y rfl O O,Za3o O]
  unfold Z5f
  rw [Zbeo O O,Zu1]
  congr 1
  rw [decide_eq_decide];omega
 .refine (Zbu (r := !decide (a > m)&&(!decide (b < 0)&&(!decide (b > m)&&Z5f a b))) fun e1=>Zbu fun e2=>Zbu fun e3=>Zbu fun e4=>?_).trans (congrArg some (key fun _ _ _ _=>rfl))
  simp only [decide_eq_false_iff_not] at e1 e2 e3 e4
  exact absurd ⟨by omega,by omega,by omega,by omega⟩ hin
theorem Za11(f:Ze):(Zov f).den.bind (Zhm Zaim.step)=some (Zqk f.Power&&(Zqk f.Tough&&Zqk f.Value)):=by
 dsimp only [Zov,LT.den]
 simp only [Zba6,Option.bind_some]
 exact Zli fun _=>Zli fun _=>rfl
theorem Za77(f:Ze):Zabu f=some (Z8k f):=by
 (unfold Zabu LF.run;dsimp only [Zail,LT.den])
 simp only [Zax8 _ _ _ (by decide:(63:Int) < 64),Zax8 _ _ _ (by decide:(31:Int) < 64),Option.bind_some,Zadi]
 refine (Zbu fun _=>Zbu fun _=>Zbu fun _=>Zbu fun _=>Zbu fun _=>Zbu fun _=>Zbu fun _=>Zbu fun _=>Zgg fun _=>Zgg fun _=>
  (show _=some ((f.Sub==[]||Zvk f.Sub)&&(!decide (f.Keys < 0)&&(!decide (f.Keys > 131071)&&(Zqk f.Power&&(Zqk f.Tough&&Zqk f.Value))))) from ?_)).trans ?_
 .cases f.Sub==[] with
  | true=>simp only [Bool.not_true,cond_false,Bool.true_or,Bool.true_and];exact Zbu fun _=>Zbu fun _=>Za11 f
  | false=>simp only [Bool.not_false,cond_true,Bool.false_or];exact Zgg fun _=>Zbu fun _=>Zbu fun _=>Za11 f
 .congr 1
  (unfold Z8k;unfold btw)
  rw [Bool.eq_iff_iff]
  simp only [Bool.and_eq_true,Bool.not_eq_true',decide_eq_false_iff_not,decide_eq_true_eq,ge_iff_le,gt_iff_lt,Int.not_lt]
  constructor
  .rintro ⟨z1,z2,w1,w2,s1,s2,t1,t2,⟨⟨a1,a2⟩,⟨b1,b2⟩,d1⟩,⟨⟨c1,c2⟩,⟨e1,e2⟩,d2⟩,su,k1,k2,p,q,v⟩
   exact⟨⟨z1,z2⟩,⟨w1,w2⟩,⟨s1,s2⟩,⟨t1,t2⟩,⟨k1,k2⟩,⟨a1,a2⟩,⟨b1,b2⟩,d1,⟨c1,c2⟩,⟨e1,e2⟩,d2,su,p,q,v⟩
  .rintro ⟨⟨z1,z2⟩,⟨w1,w2⟩,⟨s1,s2⟩,⟨t1,t2⟩,⟨k1,k2⟩,⟨a1,a2⟩,⟨b1,b2⟩,d1,⟨c1,c2⟩,⟨e1,e2⟩,d2,su,p,q,v⟩
   exact⟨z1,z2,w1,w2,s1,s2,t1,t2,⟨⟨a1,a2⟩,⟨b1,b2⟩,d1⟩,⟨⟨c1,c2⟩,⟨e1,e2⟩,d2⟩,su,k1,k2,p,q,v⟩
end Go.PW
