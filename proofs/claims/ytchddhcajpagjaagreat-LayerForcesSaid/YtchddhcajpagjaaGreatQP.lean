import Derived.Test.YtchddhcajpagjaaGreatQE
import Derived.Test.YtchddhcajpagjaaGreatQDc
import Derived.Test.YtchddhcajpagjaaGreatPwU
import Derived.Test.YtchddhcajpagjaaGreatPwYc
set_option linter.all false
set_option maxRecDepth 100000
namespace Go.PW
def okc(n:Int):Bool:=(decide (97<=n)&&decide (n<=122))||(decide (48<=n)&&decide (n<=57))||n==45
def c8(c:UInt8):Int:=(c.toNat:Int)
def lowc(c:UInt8):Bool:=decide (97<=c8 c)&&decide (c8 c<=122)
def Zawc(s:List UInt8):Bool:=
 decide (1<=s.length)&&decide (s.length<=32)&&(s.head?.map lowc).getD false&&(s.getLast?.map fun c=>c8 c != 45).getD false && !Lib.contains s [45,45]&&s.all fun c=>okc (c8 c)
theorem Za2d{s:List UInt8}(h:1<=s.length):s[0]?=some (s[0]'(by omega))/\s.head?=some (s[0]'(by omega)):=by
 cases s with
 | nil=>simp at h
 | cons a s=>exact⟨rfl,rfl⟩
theorem Za2e{s:List UInt8}(h:1<=s.length):idx? s (IntKind.wrap .i64 ((s.length:Int) - 1))=if s.length<=4611686018427387904 then s.getLast? else idx? s (IntKind.wrap .i64 ((s.length:Int) - 1)):=by
 split
 .rw [Zgv (by omega) (by omega),show ((s.length:Int) - 1)=((s.length - 1:Nat):Int) by omega]
  rw [List.getLast?_eq_getElem?]
  unfold idx?
  rw [if_pos (by omega)]
  simp
 .rfl
theorem occ2(s:List UInt8)(j:Nat):Lib.occAt s [45,45] j=true↔s[j]?=some (45:UInt8)/\s[j+1]?=some (45:UInt8):=by
 unfold Lib.occAt
 rw [List.isPrefixOf_iff_prefix]
 constructor
 .rintro ⟨t,ht⟩
  have h0:(s.drop j)[0]?=some 45:=by rw [<- ht];rfl
  have h1:(s.drop j)[1]?=some 45:=by rw [<- ht];rfl
  rw [List.getElem?_drop] at h0 h1
  exact⟨by simpa using h0,h1⟩
 .rintro ⟨h0,h1⟩
  refine⟨s.drop (j+2),?_⟩
  have hj:j+1 < s.length:=(List.getElem?_eq_some_iff.1 h1).1
  rw [List.drop_eq_getElem_cons (show j < s.length by omega),List.drop_eq_getElem_cons hj]
  have e0:s[j]=45:=by
   have:=List.getElem?_eq_getElem (show j < s.length by omega)
   rw [this] at h0;exact Option.some.inj h0
  have e1:s[j+1]=45:=by
   rw [List.getElem?_eq_getElem hj] at h1;exact Option.some.inj h1
  rw [e0,e1];rfl
theorem Zayu(s:List UInt8):Lib.contains s [45,45]=true↔∃ j:Nat,s[j]?=some (45:UInt8)/\s[j+1]?=some (45:UInt8):=by
 unfold Lib.contains
 rw [decide_eq_true_eq]
 rcases Lib.index_spec s [45,45] with ⟨h1,h2⟩ | ⟨i,h1,h2,h3,_⟩
 .constructor
  .intro h;omega
  .rintro ⟨j,hj⟩
   have hlt:j < s.length:=(List.getElem?_eq_some_iff.1 hj.1).1
   have:=h2 j (by omega)
   rw [(occ2 s j).2 hj] at this
   cases this
 .constructor
  .intro _;exact⟨i,(occ2 s i).1 h3⟩
  .intro _;omega
theorem Za2f{s:List UInt8}(h1:1<=s.length)(h2:s.length<=32):∃ c d,idx? s 0=some c/\s.head?=some c/\idx? s (IntKind.wrap .i64 ((s.length:Int) - 1))=some d/\s.getLast?=some d:=by
 obtain⟨e1,e2⟩:=Za2d h1
 have hl:=Za2e h1
 rw [if_pos (by omega)] at hl
 have:s.getLast?=some (s[s.length - 1]'(by omega)):=by rw [List.getLast?_eq_getElem?];exact List.getElem?_eq_getElem (by omega)
 exact⟨_,_,Zpa (j:=0) e1,e2,by rw [hl];exact this,this⟩
theorem Zayv(n:Int):Z10 n=some (decide (97<=n)&&decide (n<=122)):=by
 (unfold Z10 LF.run;dsimp only [Z6h,LT.den])
 by_cases h:n>=97
 .rw [decide_eq_true h];simp [Zjg]
 .rw [decide_eq_false h];simp [Zjg]
def okAt(s:List UInt8)(i:Nat):Bool:=(s[i]?.map fun c=>okc (c8 c)).getD false && !(decide (0 < i)&&(s[i]?.map fun c=>c8 c==45).getD false&&(s[i - 1]?.map fun c=>c8 c==45).getD false)
theorem Za01(s:List UInt8)(h:s.length<=32)(i:Nat)(hi:i < s.length):Zws.step (.L0 s (i:Int))=some (bif okAt s i then .inl (.L0 s ((i+1:Nat):Int)) else .inr false):=by
 have hx:=List.getElem?_eq_getElem hi
 have hw:IntKind.wrap .i64 ((i:Int)+1)=((i+1:Nat):Int):=Zgv (by omega) (by omega)
 have l1:(Zhr s (i:Int)).den=some (bif !(decide (0 < i)&&(c8 s[i]==45)&&(s[i - 1]?.map fun c=>c8 c==45).getD false) then .inl (.L0 s ((i+1:Nat):Int)) else .inr false):=by
  dsimp only [Zhr,LT.den]
  by_cases h0:0 < i
  .rw [show decide ((i:Int) > 0)=true from decide_eq_true (by omega),decide_eq_true h0,Zpa hx,hw]
   have hy:=List.getElem?_eq_getElem (show i - 1 < s.length by omega)
   have hw2:IntKind.wrap .i64 ((i:Int) - 1)=((i - 1:Nat):Int):=by rw [Zgv (by omega) (by omega)];omega
   rw [hw2,Zpa hy,hy]
   simp only [cond_true,Option.bind_some,Option.map_some,Option.getD_some,Bool.true_and]
   show (bif c8 s[i]==45 then bif c8 s[i - 1]==45 then _ else _ else _)=_
   cases c8 s[i]==45<;>cases c8 s[i - 1]==45<;>rfl
  .rw [show decide ((i:Int) > 0)=false from decide_eq_false (by omega),decide_eq_false h0,hw]
   rfl
 show (Zk2 _ _).den=_
 (dsimp only [Zk2,LT.den];unfold okAt)
 rw [decide_eq_true (show (i:Int) < (s.length:Int) by omega),Zpa hx,hx]
 simp only [cond_true,Option.bind_some,Option.map_some,Option.getD_some,Zayv,l1]
 show (bif !(decide (97<=c8 s[i])&&decide (c8 s[i]<=122)) then (bif decide (c8 s[i] < 48) then (bif c8 s[i] != 45 then _ else _) else (bif decide (c8 s[i] > 57) then (bif c8 s[i] != 45 then _ else _) else _)) else _)=_
 unfold okc
 cases decide (97<=c8 s[i])&&decide (c8 s[i]<=122) with
 | true=>simp
 | false=>
  simp only [Bool.not_false,cond_true,Bool.false_or]
  by_cases h3:48<=c8 s[i]
  .rw [show decide (c8 s[i] < 48)=false from decide_eq_false (by omega),decide_eq_true h3]
   by_cases h4:c8 s[i]<=57
   .rw [show decide (c8 s[i] > 57)=false from decide_eq_false (by omega),decide_eq_true h4];simp
   .rw [show decide (c8 s[i] > 57)=true from decide_eq_true (by omega),decide_eq_false h4]
    cases h5:c8 s[i]==45<;>simp [bne,h5]
  .rw [show decide (c8 s[i] < 48)=true from decide_eq_true (by omega),decide_eq_false h3]
   cases h5:c8 s[i]==45<;>simp [bne,h5]
theorem Za2g(c:UInt8):(c8 c==45)=decide (c=45):=by
 rw [Z9f,decide_eq_decide]
 unfold c8
 constructor
 .intro h
  have:c.toNat=45:=by omega
  exact UInt8.toNat_inj.1 (by rw [this];rfl)
 .rintro rfl;rfl
theorem Za02(s:List UInt8):((List.range s.length).all fun i=>okAt s i)=(!Lib.contains s [45,45]&&s.all fun c=>okc (c8 c)):=by
 rw [Bool.eq_iff_iff,Bool.and_eq_true,List.all_eq_true,List.all_eq_true,Bool.not_eq_true']
 have hc:Lib.contains s [45,45]=false↔¬ ∃ j:Nat,s[j]?=some (45:UInt8)/\s[j+1]?=some (45:UInt8):=by rw [<- Zayu];simp
 rw [hc]
 constructor
 .intro h
  refine⟨?_,fun c hcm=>?_⟩
  .rintro ⟨j,h1,h2⟩
   have hj:j+1 < s.length:=(List.getElem?_eq_some_iff.1 h2).1
   have:=h (j+1) (List.mem_range.2 hj)
   simp [okAt,h1,h2,c8] at this
  .obtain⟨i,hi⟩:=List.mem_iff_getElem?.1 hcm
   have:=h i (List.mem_range.2 (List.getElem?_eq_some_iff.1 hi).1)
   simp only [okAt,hi,Option.map_some,Option.getD_some,Bool.and_eq_true] at this
   exact this.1
 .rintro ⟨h1,h2⟩ i hi
  have hi:=List.mem_range.1 hi
  have hx:=List.getElem?_eq_getElem hi
  unfold okAt
  rw [hx]
  simp only [Option.map_some,Option.getD_some,h2 _ (List.getElem_mem hi),Bool.true_and,Bool.not_eq_true']
  apply Bool.eq_false_iff.2
  intro hb
  simp only [Bool.and_eq_true,decide_eq_true_eq,Za2g] at hb
  obtain⟨⟨b1,b2⟩,b3⟩:=hb
  refine h1 ⟨i - 1,?_,?_⟩
  .cases hy:s[i - 1]? with
   | none=>simp [hy] at b3
   | some y=>simp only [hy,Option.map_some,Option.getD_some,decide_eq_true_eq] at b3;rw [b3]
  .rw [show i - 1+1=i by omega,hx,b2]
theorem Zatt(s:List UInt8):Z6i s=some (Zawc s):=by
 (unfold Z6i LF.run;dsimp only [Zab5,LT.den];unfold Zawc)
 by_cases h1:1<=s.length
 .rw [show decide ((s.length:Int) < 1)=false from decide_eq_false (by omega)]
  by_cases h2:s.length<=32
  .obtain⟨c,d,e1,e2,e3,e4⟩:=Za2f h1 h2
   rw [show decide ((s.length:Int) > 32)=false from decide_eq_false (by omega),e1,e2,e3,e4]
   simp only [cond_false,Option.bind_some,Option.map_some,Option.getD_some,decide_eq_true h1,decide_eq_true h2,Bool.true_and,Zayv]
   show Option.bind (bif !lowc c then _ else bif (c8 d==45) then _ else _) _=_
   cases lowc c with
   | false=>simp [Zjg]
   | true=>
    cases h5:(c8 d==45) with
    | true=>simp [Zjg,h5,bne]
    | false=>
     simp only [cond_false,bne,h5,Bool.not_false,Bool.not_true,Bool.true_and,Option.bind_some,Zq8]
     have:=scan (st:=fun i=>Zji.L0 s (i:Int)) (step:=Zws.step) (bad:=false) s.length (okAt s) (fun i hi=>Za01 s h2 i hi)
     rw [show (Zji.L0 s 0)=Zji.L0 s ((0:Nat):Int) from rfl,this,Za02]
     have he:Zcr Zws.step (.L0 s (s.length:Int))=some true:=by
      refine Zeb ?_
      show (Zk2 _ _).den=_
      dsimp only [Zk2,LT.den]
      rw [decide_eq_false (by omega)];rfl
     rw [he]
     cases !Lib.contains s [45,45]&&s.all fun c=>okc (c8 c)<;>rfl
  .rw [show decide ((s.length:Int) > 32)=true from decide_eq_true (by omega),decide_eq_false h2]
   simp [Zjg]
 .rw [show decide ((s.length:Int) < 1)=true from decide_eq_true (by omega),decide_eq_false h1]
  simp [Zjg]
end Go.PW
