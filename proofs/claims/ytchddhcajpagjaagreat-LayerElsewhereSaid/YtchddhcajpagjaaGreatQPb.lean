import Derived.Test.YtchddhcajpagjaaGreatQE
import Derived.Test.YtchddhcajpagjaaGreatQDc
import Derived.Test.YtchddhcajpagjaaGreatPwU
import Derived.Test.YtchddhcajpagjaaGreatPwYc
set_option linter.all false
set_option maxRecDepth 100000
namespace Go.PW
def okc(n:Int):Bool:=(decide (97<=n)&&decide (n<=122))||(decide (48<=n)&&decide (n<=57))||n==45
def c8(c:UInt8):Int:=(c.toNat:Int)
def lowc(c:UInt8):Bool:=decide (97<=c8 c)&&decide (c8 c<=122)
def Zamw(s:List UInt8):Bool:=
 decide (1<=s.length)&&decide (s.length<=32)&&(s.head?.map lowc).getD false&&(s.getLast?.map fun c=>c8 c != 45).getD false && !Lib.contains s [45,45]&&s.all fun c=>okc (c8 c)
theorem Zbbu{s:List UInt8}(h:1<=s.length):s[0]?=some (s[0]'(by omega))/\s.head?=some (s[0]'(by omega)):=by
 cases s with
 | nil=>simp at h
 | cons a s=>exact⟨rfl,rfl⟩
theorem Zbbv{s:List UInt8}(h:1<=s.length):idx? s (IntKind.wrap .i64 ((s.length:Int) - 1))=if s.length<=4611686018427387904 then s.getLast? else idx? s (IntKind.wrap .i64 ((s.length:Int) - 1)):=by
 split
 .rw [Zgj (by omega) (by omega),show ((s.length:Int) - 1)=((s.length - 1:Nat):Int) by omega]
  rw [List.getLast?_eq_getElem?]
  unfold idx?
  rw [if_pos (by omega)]
  simp
 .rfl
theorem occ2(s:List UInt8)(j:Nat):Lib.occAt s [45,45] j=true↔s[j]?=some (45:UInt8)/\s[j+1]?=some (45:UInt8):=by
 unfold Lib.occAt
 rw [List.isPrefixOf_iff_prefix]
 constructor
 .rintro ⟨t,ht⟩
  have h0:(s.drop j)[0]?=some 45:=by rw [<- ht];rfl
  have h1:(s.drop j)[1]?=some 45:=by rw [<- ht];rfl
  rw [List.getElem?_drop] at h0 h1
  exact⟨by simpa using h0,h1⟩
 .rintro ⟨h0,h1⟩
  refine⟨s.drop (j+2),?_⟩
  have hj:j+1 < s.length:=(List.getElem?_eq_some_iff.1 h1).1
  rw [List.drop_eq_getElem_cons (show j < s.length by omega),List.drop_eq_getElem_cons hj]
  have e0:s[j]=45:=by
   have:=List.getElem?_eq_getElem (show j < s.length by omega)
   rw [this] at h0;exact Option.some.inj h0
  have e1:s[j+1]=45:=by
   rw [List.getElem?_eq_getElem hj] at h1;exact Option.some.inj h1
  rw [e0,e1];rfl
theorem Za51(s:List UInt8):Lib.contains s [45,45]=true↔∃ j:Nat,s[j]?=some (45:UInt8)/\s[j+1]?=some (45:UInt8):=by
 unfold Lib.contains
 rw [decide_eq_true_eq]
 rcases Lib.index_spec s [45,45] with ⟨h1,h2⟩ | ⟨i,h1,h2,h3,_⟩
 .constructor
  .intro h;omega
  .rintro ⟨j,hj⟩
   have hlt:j < s.length:=(List.getElem?_eq_some_iff.1 hj.1).1
   have:=h2 j (by omega)
   rw [(occ2 s j).2 hj] at this
   cases this
 .constructor
  .intro _;exact⟨i,(occ2 s i).1 h3⟩
  .intro _;omega
theorem Za52(z:List Int)(hz:z.length<=4611686018427387904):Zcz Zsl.step (.L0 z (z.length:Int) 0)=some (z.all okc):=by
 have:=Z0k (st:=fun i=>Zsk.L0 z (z.length:Int) (i:Int)) (step:=Zsl.step) (bad:=false) z okc (fun i x hx=>?_)
 .refine this.trans ?_
  have he:Zcz Zsl.step (.L0 z (z.length:Int) (z.length:Int))=some true:=by
   refine Zdv ?_
   show (Zpr _ _ _).den=_
   dsimp only [Zpr,LT.den]
   rw [decide_eq_false (by omega)];rfl
  rw [he]
  cases z.all okc<;>rfl
 .have hi:=(List.getElem?_eq_some_iff.1 hx).1
  show (Zpr _ _ _).den=_
  dsimp only [Zpr,LT.den]
  rw [decide_eq_true (by omega),cond_true,Zj8 hx,Option.bind_some,Z2o hi hz]
  unfold okc
  rw [Za0o,Zu2]
  by_cases h1:97<=x<;>by_cases h2:x<=122<;>by_cases h3:48<=x<;>by_cases h4:x<=57<;>by_cases h5:x=45 <;>
   first
   | (exfalso;omega)
   | simp [h1,h2,h3,h4,h5,Int.not_lt.2,Int.not_le.1]
theorem Za0z{s:List UInt8}(h1:1<=s.length)(h2:s.length<=32):∃ c d,idx? s 0=some c/\s.head?=some c/\idx? s (IntKind.wrap .i64 ((s.length:Int) - 1))=some d/\s.getLast?=some d:=by
 obtain⟨e1,e2⟩:=Zbbu h1
 have hl:=Zbbv h1
 rw [if_pos (by omega)] at hl
 have:s.getLast?=some (s[s.length - 1]'(by omega)):=by rw [List.getLast?_eq_getElem?];exact List.getElem?_eq_getElem (by omega)
 exact⟨_,_,Zj8 (j:=0) e1,e2,by rw [hl];exact this,this⟩
theorem Za2o(s:List UInt8):Zaes s=some (Zamw s):=by
 (unfold Zaes LF.run;dsimp only [Zacp,LT.den];unfold Zamw)
 by_cases h1:1<=s.length
 .rw [show ((s.length:Int)==0)=false from by rw [Zu2];exact decide_eq_false (by omega)]
  by_cases h2:s.length<=32
  .obtain⟨c,d,e1,e2,e3,e4⟩:=Za0z h1 h2
   rw [show decide ((s.length:Int) > 32)=false from decide_eq_false (by omega),e1,e2,e3,e4]
   simp only [cond_false,Option.bind_some,Option.map_some,Option.getD_some,decide_eq_true h1,decide_eq_true h2,Bool.true_and,lowc]
   show Option.bind (bif decide (c8 c < 97) then _ else bif decide (c8 c > 122) then _ else bif (c8 d==45) then _ else _) _=_
   by_cases h3:97<=c8 c
   .rw [show decide (c8 c < 97)=false from decide_eq_false (by omega),decide_eq_true h3]
    by_cases h4:c8 c<=122
    .rw [show decide (c8 c > 122)=false from decide_eq_false (by omega),decide_eq_true h4]
     cases h5:(c8 d==45) with
     | true=>simp [Zfz,h5,bne]
     | false=>
      simp only [cond_false,bne,h5,Bool.not_false,Bool.true_and]
      unfold strings_Contains
      rw [if_pos (by omega),Option.bind_some]
      cases h6:Lib.contains s [45,45] with
      | true=>simp [Zfz]
      | false=>
       simp only [cond_false,Bool.not_false,Bool.true_and]
       unfold bytes?
       rw [if_pos (by omega),Option.bind_some,Option.bind_some,Zmo,Za52 _ (by rw [List.length_map];omega),List.all_map]
       rfl
    .rw [show decide (c8 c > 122)=true from decide_eq_true (by omega),decide_eq_false h4]
     simp [Zfz]
   .rw [show decide (c8 c < 97)=true from decide_eq_true (by omega),decide_eq_false h3]
    simp [Zfz]
  .rw [show decide ((s.length:Int) > 32)=true from decide_eq_true (by omega),decide_eq_false h2]
   simp [Zfz]
 .rw [show ((s.length:Int)==0)=true from by rw [Zu2];exact decide_eq_true (by omega),decide_eq_false h1]
  simp [Zfz]
theorem Za53(n:Int):Zaep n=some (decide (97<=n)&&decide (n<=122)):=by
 (unfold Zaep LF.run;dsimp only [Zabi,LT.den])
 by_cases h:n>=97
 .rw [decide_eq_true h];simp [Zfz]
 .rw [decide_eq_false h];simp [Zfz]
def okAt(s:List UInt8)(i:Nat):Bool:=(s[i]?.map fun c=>okc (c8 c)).getD false && !(decide (0 < i)&&(s[i]?.map fun c=>c8 c==45).getD false&&(s[i - 1]?.map fun c=>c8 c==45).getD false)
theorem Za8k(s:List UInt8)(h:s.length<=32)(i:Nat)(hi:i < s.length):Zu3.step (.L0 s (i:Int))=some (bif okAt s i then .inl (.L0 s ((i+1:Nat):Int)) else .inr false):=by
 have hx:=List.getElem?_eq_getElem hi
 have hw:IntKind.wrap .i64 ((i:Int)+1)=((i+1:Nat):Int):=Zgj (by omega) (by omega)
 have l1:(Zka s (i:Int)).den=some (bif !(decide (0 < i)&&(c8 s[i]==45)&&(s[i - 1]?.map fun c=>c8 c==45).getD false) then .inl (.L0 s ((i+1:Nat):Int)) else .inr false):=by
  dsimp only [Zka,LT.den]
  by_cases h0:0 < i
  .rw [show decide ((i:Int) > 0)=true from decide_eq_true (by omega),decide_eq_true h0,Zj8 hx,hw]
   have hy:=List.getElem?_eq_getElem (show i - 1 < s.length by omega)
   have hw2:IntKind.wrap .i64 ((i:Int) - 1)=((i - 1:Nat):Int):=by rw [Zgj (by omega) (by omega)];omega
   rw [hw2,Zj8 hy,hy]
   simp only [cond_true,Option.bind_some,Option.map_some,Option.getD_some,Bool.true_and]
   show (bif c8 s[i]==45 then bif c8 s[i - 1]==45 then _ else _ else _)=_
   cases c8 s[i]==45<;>cases c8 s[i - 1]==45<;>rfl
  .rw [show decide ((i:Int) > 0)=false from decide_eq_false (by omega),decide_eq_false h0,hw]
   rfl
 show (Zsc _ _).den=_
 (dsimp only [Zsc,LT.den];unfold okAt)
 rw [decide_eq_true (show (i:Int) < (s.length:Int) by omega),Zj8 hx,hx]
 simp only [cond_true,Option.bind_some,Option.map_some,Option.getD_some,Za53,l1]
 show (bif !(decide (97<=c8 s[i])&&decide (c8 s[i]<=122)) then (bif decide (c8 s[i] < 48) then (bif c8 s[i] != 45 then _ else _) else (bif decide (c8 s[i] > 57) then (bif c8 s[i] != 45 then _ else _) else _)) else _)=_
 unfold okc
 cases decide (97<=c8 s[i])&&decide (c8 s[i]<=122) with
 | true=>simp
 | false=>
  simp only [Bool.not_false,cond_true,Bool.false_or]
  by_cases h3:48<=c8 s[i]
  .rw [show decide (c8 s[i] < 48)=false from decide_eq_false (by omega),decide_eq_true h3]
   by_cases h4:c8 s[i]<=57
   .rw [show decide (c8 s[i] > 57)=false from decide_eq_false (by omega),decide_eq_true h4];simp
   .rw [show decide (c8 s[i] > 57)=true from decide_eq_true (by omega),decide_eq_false h4]
    cases h5:c8 s[i]==45<;>simp [bne,h5]
  .rw [show decide (c8 s[i] < 48)=true from decide_eq_true (by omega),decide_eq_false h3]
   cases h5:c8 s[i]==45<;>simp [bne,h5]
theorem Zbbw(c:UInt8):(c8 c==45)=decide (c=45):=by
 rw [Zu2,decide_eq_decide]
 unfold c8
 constructor
 .intro h
  have:c.toNat=45:=by omega
  exact UInt8.toNat_inj.1 (by rw [this];rfl)
 .rintro rfl;rfl
theorem Za8l(s:List UInt8):((List.range s.length).all fun i=>okAt s i)=(!Lib.contains s [45,45]&&s.all fun c=>okc (c8 c)):=by
 rw [Bool.eq_iff_iff,Bool.and_eq_true,List.all_eq_true,List.all_eq_true,Bool.not_eq_true']
 have hc:Lib.contains s [45,45]=false↔¬ ∃ j:Nat,s[j]?=some (45:UInt8)/\s[j+1]?=some (45:UInt8):=by rw [<- Za51];simp
 rw [hc]
 constructor
 .intro h
  refine⟨?_,fun c hcm=>?_⟩
  .rintro ⟨j,h1,h2⟩
   have hj:j+1 < s.length:=(List.getElem?_eq_some_iff.1 h2).1
   have:=h (j+1) (List.mem_range.2 hj)
   simp [okAt,h1,h2,c8] at this
  .obtain⟨i,hi⟩:=List.mem_iff_getElem?.1 hcm
   have:=h i (List.mem_range.2 (List.getElem?_eq_some_iff.1 hi).1)
   simp only [okAt,hi,Option.map_some,Option.getD_some,Bool.and_eq_true] at this
   exact this.1
 .rintro ⟨h1,h2⟩ i hi
  have hi:=List.mem_range.1 hi
  have hx:=List.getElem?_eq_getElem hi
  unfold okAt
  rw [hx]
  simp only [Option.map_some,Option.getD_some,h2 _ (List.getElem_mem hi),Bool.true_and,Bool.not_eq_true']
  apply Bool.eq_false_iff.2
  intro hb
  simp only [Bool.and_eq_true,decide_eq_true_eq,Zbbw] at hb
  obtain⟨⟨b1,b2⟩,b3⟩:=hb
  refine h1 ⟨i - 1,?_,?_⟩
  .cases hy:s[i - 1]? with
   | none=>simp [hy] at b3
   | some y=>simp only [hy,Option.map_some,Option.getD_some,decide_eq_true_eq] at b3;rw [b3]
  .rw [show i - 1+1=i by omega,hx,b2]
theorem Zazu(s:List UInt8):Zakq s=some (Zamw s):=by
 (unfold Zakq LF.run;dsimp only [Zah9,LT.den];unfold Zamw)
 by_cases h1:1<=s.length
 .rw [show decide ((s.length:Int) < 1)=false from decide_eq_false (by omega)]
  by_cases h2:s.length<=32
  .obtain⟨c,d,e1,e2,e3,e4⟩:=Za0z h1 h2
   rw [show decide ((s.length:Int) > 32)=false from decide_eq_false (by omega),e1,e2,e3,e4]
   simp only [cond_false,Option.bind_some,Option.map_some,Option.getD_some,decide_eq_true h1,decide_eq_true h2,Bool.true_and,Za53]
   show Option.bind (bif !lowc c then _ else bif (c8 d==45) then _ else _) _=_
   cases lowc c with
   | false=>simp [Zfz]
   | true=>
    cases h5:(c8 d==45) with
    | true=>simp [Zfz,h5,bne]
    | false=>
     simp only [cond_false,bne,h5,Bool.not_false,Bool.not_true,Bool.true_and,Option.bind_some,Zmo]
     have:=scan (st:=fun i=>Zmq.L0 s (i:Int)) (step:=Zu3.step) (bad:=false) s.length (okAt s) (fun i hi=>Za8k s h2 i hi)
     rw [show (Zmq.L0 s 0)=Zmq.L0 s ((0:Nat):Int) from rfl,this,Za8l]
     have he:Zcz Zu3.step (.L0 s (s.length:Int))=some true:=by
      refine Zdv ?_
      show (Zsc _ _).den=_
      dsimp only [Zsc,LT.den]
      rw [decide_eq_false (by omega)];rfl
     rw [he]
     cases !Lib.contains s [45,45]&&s.all fun c=>okc (c8 c)<;>rfl
  .rw [show decide ((s.length:Int) > 32)=true from decide_eq_true (by omega),decide_eq_false h2]
   simp [Zfz]
 .rw [show decide ((s.length:Int) < 1)=true from decide_eq_true (by omega),decide_eq_false h1]
  simp [Zfz]
end Go.PW
set_option maxRecDepth 100000
namespace Go.PW
def supW:List (List UInt8):=[[98,97,115,105,99],[117,110,105,113,117,101]]
def typW:List (List UInt8):=[[99,114,101,97,116,117,114,101],[105,110,115,116,97,110,116],[114,105,116,117,97,108],[114,101,108,105,99],[99,104,97,114,109],[108,97,110,100]]
def Zis(l:List (List UInt8))(s:List UInt8):Bool:=l.any fun w=>w==s
def subV(s:List UInt8):Bool:=Zamw s&&(!Zis supW s && !Zis typW s)
theorem Za54:∀ i:Nat,i < 6->(Z0j .i64 1 (i:Int)==0)=false
 | 0,_=>rfl
 | 1,_=>rfl
 | 2,_=>rfl
 | 3,_=>rfl
 | 4,_=>rfl
 | 5,_=>rfl
 | n+6,h=>absurd h (by omega)
theorem Zbbx(s:List UInt8):∃ x,Zgl s 2=some x/\(x==0) = !Zis supW s:=by
 (unfold Zgl LF.run;dsimp only [Zib,LT.den])
 simp only [Option.bind_some,Zmo]
 have hfind:=Zwk (step:=Zfx.step) supW (fun i => .L0 s 2 (i:Int)) (fun i=>Z0j .i64 1 (i:Int)) (fun w=>w==s) (fun i x hx=>by
  have hi:=(List.getElem?_eq_some_iff.1 hx).1
  have hi:i < 2:=hi
  have hw:Zps (i:Int)=some x:=by
   (unfold Zps LF.run;dsimp only [Z1d,LT.den])
   show Option.bind (Option.bind (idx? supW (i:Int)) fun x1=>some (.inr x1)) (Zhq Zr0.step)=_
   rw [Zj8 hx];rfl
  show (Zds s 2 (i:Int)).den=_
  dsimp only [Zds,LT.den]
  rw [decide_eq_true (show (i:Int) < 2 by omega),hw,Zgj (by omega) (by omega)]
  simp only [cond_true,Option.bind_some,Zauy]
  rw [show decide (¬ (i:Int) < 0)=true from decide_eq_true (by omega)]
  cases x==s<;>rfl)
 rcases hfind with ⟨h1,i,h2,h3⟩ | ⟨h1,h2⟩
 .exact⟨_,h3,by rw [Za54 i (Nat.lt_of_lt_of_le h2 (by decide))];unfold Zis;rw [h1];rfl⟩
 .refine⟨0,h2.trans (Zdv ?_),by unfold Zis;rw [h1];rfl⟩
  show (Zds s 2 2).den=_
  rfl
theorem Zbby(s:List UInt8):∃ x,Zg2 s 6=some x/\(x==0) = !Zis typW s:=by
 (unfold Zg2 LF.run;dsimp only [Zio,LT.den])
 simp only [Option.bind_some,Zmo]
 have hfind:=Zwk (step:=Zf7.step) typW (fun i => .L0 s 6 (i:Int)) (fun i=>Z0j .i64 1 (i:Int)) (fun w=>w==s) (fun i x hx=>by
  have hi:=(List.getElem?_eq_some_iff.1 hx).1
  have hi:i < 6:=hi
  have hw:Zrl (i:Int)=some x:=by
   (unfold Zrl LF.run;dsimp only [Z3q,LT.den])
   show Option.bind (Option.bind (idx? typW (i:Int)) fun x1=>some (.inr x1)) (Zhq Ztp.step)=_
   rw [Zj8 hx];rfl
  show (Zd4 s 6 (i:Int)).den=_
  dsimp only [Zd4,LT.den]
  rw [decide_eq_true (show (i:Int) < 6 by omega),hw,Zgj (by omega) (by omega)]
  simp only [cond_true,Option.bind_some,Zauy]
  rw [show decide (¬ (i:Int) < 0)=true from decide_eq_true (by omega)]
  cases x==s<;>rfl)
 rcases hfind with ⟨h1,i,h2,h3⟩ | ⟨h1,h2⟩
 .exact⟨_,h3,by rw [Za54 i (Nat.lt_of_lt_of_le h2 (by decide))];unfold Zis;rw [h1];rfl⟩
 .refine⟨0,h2.trans (Zdv ?_),by unfold Zis;rw [h1];rfl⟩
  show (Zd4 s 6 6).den=_
  rfl
theorem Za8m(s:List UInt8):Zzu s=some (subV s):=by
 (unfold Zzu LF.run;dsimp only [Z1e,LT.den];unfold subV)
 obtain⟨x,hx,ex⟩:=Zbbx s
 obtain⟨y,hy,ey⟩:=Zbby s
 simp only [Za2o,hx,hy,Option.bind_some,ex,ey]
 exact Zla fun _=>Zla fun _=>rfl
theorem Zaiv(l:List (List UInt8))(s:List UInt8)(hl:l.length<=4611686018427387904):∃ x,Z2q l s=some x/\decide (x < 0) = !Zis l s/\decide (x>=0)=Zis l s:=by
 (unfold Z2q LF.run;dsimp only [Z4w,LT.den])
 simp only [Option.bind_some,Zmo]
 have hfind:=Zwk (step:=Zv2.step) l (fun i => .L0 l s (i:Int)) (fun i=>(i:Int)) (fun w=>w==s) (fun i x hx=>by
  have hi:=(List.getElem?_eq_some_iff.1 hx).1
  show (Zlb _ _ _).den=_
  dsimp only [Zlb,LT.den]
  rw [decide_eq_true (by omega),Zj8 hx,Z2o hi hl]
  simp only [cond_true,Option.bind_some]
  cases x==s<;>rfl)
 rcases hfind with ⟨h1,i,h2,h3⟩ | ⟨h1,h2⟩
 .refine⟨_,h3,?_,?_⟩<;>unfold Zis<;>rw [h1]
  .exact decide_eq_false (by omega)
  .exact decide_eq_true (by omega)
 .refine⟨-1,h2.trans (Zdv ?_),?_,?_⟩
  .show (Zlb _ _ _).den=_
   dsimp only [Zlb,LT.den]
   rw [decide_eq_false (by omega)];rfl
  .unfold Zis;rw [h1];rfl
  .unfold Zis;rw [h1];rfl
theorem Zaxg(s:List UInt8):Z2t s=some (subV s):=by
 (unfold Z2t LF.run;dsimp only [Z4x,LT.den];unfold subV)
 obtain⟨x,hx,ex,_⟩:=Zaiv supW s (by decide)
 obtain⟨y,hy,ey,_⟩:=Zaiv typW s (by decide)
 have h1:Zpl=some supW:=rfl
 have h2:Zrj=some typW:=rfl
 simp only [Zazu,h1,h2,hx,hy,Option.bind_some,ex,ey]
 exact Zla fun _=>Zla fun _=>rfl
theorem Zar9(l:Zab)(s:List UInt8)(hl:l.Subs.length<=4611686018427387904):Z8k l s=some (Zis l.Subs s):=by
 (unfold Z8k LF.run;dsimp only [Zac5,LT.den])
 obtain⟨x,hx,_,ex⟩:=Zaiv l.Subs s hl
 simp only [hx,Option.bind_some,ex];rfl
theorem Za55(l:Zab)(s:List UInt8)(hl:l.Subs.length<=4611686018427387904):Zv5 l s=some (Zis l.Subs s):=by
 (unfold Zv5 LF.run;dsimp only [Zyb,LT.den];unfold Zf1 LF.run;dsimp only [Zfc,LT.den];unfold Zgy LF.run;dsimp only [Zga,LT.den])
 simp only [Option.bind_some,Zmo]
 have hfind:=Zwk (step:=Zcq.step) l.Subs (fun i => .L0 l.Subs s (l.Subs.length:Int) (i:Int)) (fun i=>(i:Int)) (fun w=>w==s) (fun i x hx=>by
  have hi:=(List.getElem?_eq_some_iff.1 hx).1
  show (Zbr _ _ _ _).den=_
  dsimp only [Zbr,LT.den]
  rw [decide_eq_true (by omega),Zj8 hx,Z2o hi hl]
  simp only [cond_true,Option.bind_some]
  rw [show (s==x)=(x==s) from by rw [Za0p,Za0p];simp [eq_comm]]
  cases x==s<;>rfl
)
 rcases hfind with ⟨h1,i,h2,h3⟩ | ⟨h1,h2⟩
 .rw [show (Zbg.L0 l.Subs s (l.Subs.length:Int) 0) = .L0 l.Subs s (l.Subs.length:Int) ((0:Nat):Int) from rfl,h3]
  unfold Zis;rw [h1]
  simp only [Option.bind_some,Zfz]
  rw [decide_eq_true (by omega)]
 .have he:Zcz Zcq.step (.L0 l.Subs s (l.Subs.length:Int) (l.Subs.length:Int))=some (-1):=by
   refine Zdv ?_
   show (Zbr _ _ _ _).den=_
   dsimp only [Zbr,LT.den]
   rw [decide_eq_false (by omega)];rfl
  rw [show (Zbg.L0 l.Subs s (l.Subs.length:Int) 0) = .L0 l.Subs s (l.Subs.length:Int) ((0:Nat):Int) from rfl,h2,he]
  unfold Zis;rw [h1];rfl
def btw(n m:Int):Bool:=decide (n>=0)&&decide (n<=m)
def Zqg(b:Zb):Bool:=btw b.Kind 3&&(btw b.N 1000000&&(b.Kind != 0||b.N==0))
def Z5j(a b:Int):Bool:=Za6 .and .i64 a b==0
def filV(f:Zd):Bool:=
 btw f.Zone 5&&(btw f.Who 2&&(btw f.Self 2&&(btw f.Tap 2&&(btw f.Keys 131071&&(btw f.Types 63&&(btw f.NotTypes 63&&(Z5j f.Types f.NotTypes &&
 (btw f.Colors 31&&(btw f.NotColors 31&&(Z5j f.Colors f.NotColors&&((f.Sub==[]||subV f.Sub)&&(Zqg f.Power&&(Zqg f.Tough&&Zqg f.Value)))))))))))))
theorem Zamx(n m:Int):Zvb n m=some (btw n m):=by
 (unfold Zvb LF.run;dsimp only [Z1b,LT.den];unfold btw)
 exact Zla fun _=>rfl
theorem Za2p(b:Zb):Zvc b=some (Zqg b):=by
 (unfold Zvc LF.run;dsimp only [Z1f,LT.den];unfold Zqg)
 simp only [Zamx,Option.bind_some]
 refine Zla fun _=>Zla fun _=>?_
 cases b.Kind != 0<;>rfl
theorem Za56(f:Zd):(Zov f).den.bind (Zhq Zq2.step)=some (Zqg f.Power&&(Zqg f.Tough&&Zqg f.Value)):=by
 dsimp only [Zov,LT.den]
 simp only [Za2p,Option.bind_some]
 exact Zla fun _=>Zla fun _=>rfl
theorem Zade(f:Zd):Z3r f=some (filV f):=by
 (unfold Z3r LF.run;dsimp only [Zag4,LT.den];unfold filV)
 simp only [Zamx,Option.bind_some,Za8m]
 refine Zgk fun _=>Zgk fun _=>Zgk fun _=>Zgk fun _=>Zgk fun _=>Zgk fun _=>Zgk fun _=>?_
 have dis:∀ {a b r:Bool} {c d:Int} {k:Option (Zv4 ⊕ Bool)},k.bind (Zhq Zq2.step)=some r->(bif (Za6 .and .i64 c d != 0) then some (.inr false) else k).bind (Zhq Zq2.step)=some (Z5j c d&&r):=by
  intro a b r c d k h
  unfold Z5j
  simp only [bne]
  exact Zgk fun _=>h
 refine dis (a:=true) (b:=true) (Zgk fun _=>Zgk fun _=>dis (a:=true) (b:=true) ?_)
 cases f.Sub==[] with
 | true=>simp only [Bool.not_true,cond_false,Bool.true_or,Bool.true_and];exact Za56 f
 | false=>simp only [Bool.not_false,cond_true,Bool.false_or];exact Zgk fun _=>Za56 f
theorem Za8n(b:Zb):Z2v b=some (Zqg b):=by
 (unfold Z2v LF.run;dsimp only [Z4z,LT.den])
 refine (Zbt fun _=>Zbt fun _=>Zbt fun _=>Zbt fun _=>(show _=some (b.Kind != 0||b.N==0) from by cases b.Kind != 0<;>rfl)).trans ?_
 congr 1
 (unfold Zqg;unfold btw)
 rw [Bool.eq_iff_iff]
 simp only [Bool.and_eq_true,Bool.not_eq_true',decide_eq_false_iff_not,decide_eq_true_eq,ge_iff_le,gt_iff_lt,Int.not_lt]
 constructor
 .rintro ⟨h1,h2,h3,h4,h5⟩;exact⟨⟨h1,h2⟩,⟨h3,h4⟩,h5⟩
 .rintro ⟨⟨h1,h2⟩,⟨h3,h4⟩,h5⟩;exact⟨h1,h2,h3,h4,h5⟩
theorem Zamy:∀ (d i a b:Nat),i+d=6->a < 2 ^ 62->b < 2 ^ 62->Zcz Znq.step (.L0 (a:Int) (b:Int) (i:Int))=some (Z0l d a b)
 | 0,i,a,b,hi,_,_=>by
  refine Zdv ?_
  show (Zlc _ _ _).den=_
  dsimp only [Zlc,LT.den]
  rw [decide_eq_false (by omega)];rfl
 | d+1,i,a,b,hi,ha,hb=>by
  have hw:IntKind.wrap .i64 ((i:Int)+1)=((i+1:Nat):Int):=Zgj (by omega) (by omega)
  have hs:Znq.step (.L0 (a:Int) (b:Int) (i:Int))=some (bif decide (a % 2=1)&&decide (b % 2=1) then .inr false else .inl (.L0 ((a / 2:Nat):Int) ((b / 2:Nat):Int) ((i+1:Nat):Int))):=by
   show (Zlc _ _ _).den=_
   dsimp only [Zlc,LT.den]
   rw [decide_eq_true (by omega),Za0r,Za0r,Za0q a ha,Za0q b hb,hw]
   cases decide (a % 2=1)<;>cases decide (b % 2=1)<;>rfl
  unfold Z0l
  by_cases h:a % 2=1/\b % 2=1
  .rw [if_pos h]
   rw [decide_eq_true h.1,decide_eq_true h.2] at hs
   exact Zdv hs
  .rw [if_neg h]
   have:(decide (a % 2=1)&&decide (b % 2=1))=false:=by
    rw [<- Bool.decide_and];exact decide_eq_false h
   rw [this] at hs
   rw [Zkn hs]
   exact Zamy d (i+1) (a / 2) (b / 2) (by omega) (by omega) (by omega)
theorem Zaxh(a b m:Int)(hm:m < 64):Z2u a b m=some (btw a m&&(btw b m&&Z5j a b)):=by
 have key:∀ {r:Bool},(0<=a->a<=m->0<=b->b<=m->r=Z5j a b)->(!decide (a < 0)&&(!decide (a > m)&&(!decide (b < 0)&&(!decide (b > m)&&r))))=(btw a m&&(btw b m&&Z5j a b)):=by
  intro r hr
  unfold btw
  by_cases h1:0<=a
  .by_cases h2:a<=m
   .by_cases h3:0<=b
    .by_cases h4:b<=m
     .rw [hr h1 h2 h3 h4]
      simp [h1,h2,h3,h4,Int.not_lt.2]
     .simp [h4,Int.not_le.1 h4]
    .simp [h3,Int.not_le.1 h3]
   .simp [h2,Int.not_le.1 h2]
  .simp [h1,Int.not_le.1 h1]
 (unfold Z2u LF.run;dsimp only [Z4y,LT.den])
 by_cases hin:0<=a/\a<=m/\0<=b/\b<=m
 .obtain⟨h1,h2,h3,h4⟩:=hin
  refine (Zbt (r := !decide (a > m)&&(!decide (b < 0)&&(!decide (b > m)&&Z5j a b))) fun _=>Zbt fun _=>Zbt fun _=>Zbt fun _=>?_).trans (congrArg some (key fun _ _ _ _=>rfl))
  obtain⟨x,rfl⟩:=Int.eq_ofNat_of_zero_le h1
  obtain⟨y,rfl⟩:=Int.eq_ofNat_of_zero_le h3
  show Zcz Znq.step (.L0 (x:Int) (y:Int) ((0:Nat):Int))=_
  rw [Zamy 6 0 x y rfl (by omega) (by omega),Za19 (by omega)]
  unfold Z5j
  rw [Zbbo (by omega) (by omega),Zu2]
  congr 1
  rw [decide_eq_decide];omega
 .refine (Zbt (r := !decide (a > m)&&(!decide (b < 0)&&(!decide (b > m)&&Z5j a b))) fun e1=>Zbt fun e2=>Zbt fun e3=>Zbt fun e4=>?_).trans (congrArg some (key fun _ _ _ _=>rfl))
  simp only [decide_eq_false_iff_not] at e1 e2 e3 e4
  exact absurd ⟨by omega,by omega,by omega,by omega⟩ hin
theorem Za00(f:Zd):(Zok f).den.bind (Zhq Zaid.step)=some (Zqg f.Power&&(Zqg f.Tough&&Zqg f.Value)):=by
 dsimp only [Zok,LT.den]
 simp only [Za8n,Option.bind_some]
 exact Zla fun _=>Zla fun _=>rfl
theorem Za57(f:Zd):Zabo f=some (filV f):=by
 (unfold Zabo LF.run;dsimp only [Zaic,LT.den])
 simp only [Zaxh _ _ _ (by decide:(63:Int) < 64),Zaxh _ _ _ (by decide:(31:Int) < 64),Option.bind_some,Zaxg]
 refine (Zbt fun _=>Zbt fun _=>Zbt fun _=>Zbt fun _=>Zbt fun _=>Zbt fun _=>Zbt fun _=>Zbt fun _=>Zgk fun _=>Zgk fun _=>
  (show _=some ((f.Sub==[]||subV f.Sub)&&(!decide (f.Keys < 0)&&(!decide (f.Keys > 131071)&&(Zqg f.Power&&(Zqg f.Tough&&Zqg f.Value))))) from ?_)).trans ?_
 .cases f.Sub==[] with
  | true=>simp only [Bool.not_true,cond_false,Bool.true_or,Bool.true_and];exact Zbt fun _=>Zbt fun _=>Za00 f
  | false=>simp only [Bool.not_false,cond_true,Bool.false_or];exact Zgk fun _=>Zbt fun _=>Zbt fun _=>Za00 f
 .congr 1
  (unfold filV;unfold btw)
  rw [Bool.eq_iff_iff]
  simp only [Bool.and_eq_true,Bool.not_eq_true',decide_eq_false_iff_not,decide_eq_true_eq,ge_iff_le,gt_iff_lt,Int.not_lt]
  constructor
  .rintro ⟨z1,z2,w1,w2,s1,s2,t1,t2,⟨⟨a1,a2⟩,⟨b1,b2⟩,d1⟩,⟨⟨c1,c2⟩,⟨e1,e2⟩,d2⟩,su,k1,k2,p,q,v⟩
   exact⟨⟨z1,z2⟩,⟨w1,w2⟩,⟨s1,s2⟩,⟨t1,t2⟩,⟨k1,k2⟩,⟨a1,a2⟩,⟨b1,b2⟩,d1,⟨c1,c2⟩,⟨e1,e2⟩,d2,su,p,q,v⟩
  .rintro ⟨⟨z1,z2⟩,⟨w1,w2⟩,⟨s1,s2⟩,⟨t1,t2⟩,⟨k1,k2⟩,⟨a1,a2⟩,⟨b1,b2⟩,d1,⟨c1,c2⟩,⟨e1,e2⟩,d2,su,p,q,v⟩
   exact⟨z1,z2,w1,w2,s1,s2,t1,t2,⟨⟨a1,a2⟩,⟨b1,b2⟩,d1⟩,⟨⟨c1,c2⟩,⟨e1,e2⟩,d2⟩,su,k1,k2,p,q,v⟩
end Go.PW
