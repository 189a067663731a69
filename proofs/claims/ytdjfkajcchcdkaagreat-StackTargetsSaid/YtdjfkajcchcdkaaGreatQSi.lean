import Derived.Test.YtdjfkajcchcdkaaGreatQE
import Derived.Test.YtdjfkajcchcdkaaGreatQDd
import Derived.Test.YtdjfkajcchcdkaaGreatPwY
import Derived.Test.YtdjfkajcchcdkaaGreatPwYi
import Derived.Test.YtdjfkajcchcdkaaGreatQDt
set_option linter.all false
set_option maxRecDepth 100000
namespace Go.PW
def okc(n:Int):Bool:=(decide (97<=n)&&decide (n<=122))||(decide (48<=n)&&decide (n<=57))||n==45
def c8(c:UInt8):Int:=(c.toNat:Int)
def lowc(c:UInt8):Bool:=decide (97<=c8 c)&&decide (c8 c<=122)
def oD(s:List UInt8):Bool:=
 decide (1<=s.length)&&decide (s.length<=32)&&(s.head?.map lowc).getD false&&(s.getLast?.map λc=>c8 c != 45).getD false && !Lib.contains s [45,45]&&s.all λc=>okc (c8 c)
def Wo{s:List UInt8}(h:1<=s.length):s[0]?=some (s[0]'(by omega))/\s.head?=some (s[0]'(by omega)):=by
 cases s with
 |nil=>simp at h
 |cons a s=>exact⟨rfl,rfl⟩
def Wp{s:List UInt8}(h:1<=s.length):idx? s (IntKind.wrap .i64 ((s.length:Int)-1))=if s.length<=4611686018427387904 then s.getLast? else idx? s (IntKind.wrap .i64 ((s.length:Int)-1)):=by
 split
 .rw [eu O O,show((s.length:Int)-1)=((s.length-1:Nat):Int) by omega];rw[List.getLast?_eq_getElem?];unfold idx?;rw[aP O];simp
 rfl
def occ2(s:List UInt8)(j:Nat):Lib.occAt s [45,45] j=true↔s[j]?=some (45:UInt8)/\s[j+1]?=some (45:UInt8):=by
 unfold Lib.occAt;rw[List.isPrefixOf_iff_prefix];constructor
 .rintro ⟨t,ht⟩;have h0:(s.drop j)[0]?=some 45:=by rw[<- ht];rfl
  have h1:(s.drop j)[1]?=some 45:=by rw[<- ht];rfl
  rw[j2]at h0 h1;exact⟨by simpa using h0,h1⟩
 rintro⟨h0,h1⟩;refine⟨s.drop (j+2),?_⟩;have hj:j+1<s.length:=(aJ.1 h1).1;rw[oE (show j<s.length by omega),oE hj];have e0:s[j]=45:=by have:=bn (show j<s.length by omega);rw[this]at h0;exact c9 h0
 have e1:s[j+1]=45:=by rw[bn hj]at h1;exact c9 h1
 rw[e0,e1];rfl
def Wq(s:List UInt8):Lib.contains s [45,45]=true↔∃j:Nat,s[j]?=some (45:UInt8)/\s[j+1]?=some (45:UInt8):=by
 unfold Lib.contains;rw[eI];rcases Lib.index_spec s [45,45]with⟨h1,h2⟩|⟨i,h1,h2,h3,_⟩
 .constructor
  .intro h;omega
  rintro⟨j,hj⟩;have hlt:j<s.length:=(aJ.1 hj.1).1;have:=h2 j O;rw[(occ2 s j).2 hj]at this;cases this
 constructor
 .intro _;exact⟨i,(occ2 s i).1 h3⟩
 intro _;omega
def Ws(z:List Int)(hz:z.length<=4611686018427387904):cd mQ.step (.L0 z (z.length:Int) 0)=some (z.all okc):=by
 have:=Z66 (st:=λi=>mR.L0 z (z.length:Int) (i:Int)) (step:=mQ.step) (bad:=false) z okc (λi x hx=>?_)
 .refine this.trans ?_;have he:cd mQ.step (.L0 z (z.length:Int) (z.length:Int))=some true:=by
   refine eU ?_;show(mS _ _ _).den=_;dsimp only[mS,LT.den];rw[bO O];rfl
  rw[he];cases z.all okc<;>rfl
 have hi:=(aJ.1 hx).1;show(mS _ _ _).den=_;dsimp only[mS,LT.den];rw[bB O,av,gp hx,bp,Z9x hi hz];unfold okc;rw[DJ,Z01];by_cases h1:97<=x<;>by_cases h2:x<=122<;>by_cases h3:48<=x<;>by_cases h4:x<=57<;>by_cases h5:x=45 <;>
  first
  |(exfalso;omega)
  |simp[h1,h2,h3,h4,h5,mT.2,oF.1]
def DK{s:List UInt8}(h1:1<=s.length)(h2:s.length<=32):∃c d,idx? s 0=some c/\s.head?=some c/\idx? s (IntKind.wrap .i64 ((s.length:Int)-1))=some d/\s.getLast?=some d:=by
 obtain⟨e1,e2⟩:=Wo h1;have hl:=Wp h1;rw[aP O]at hl;have:s.getLast?=some (s[s.length-1]'(by omega)):=by rw[List.getLast?_eq_getElem?];exact bn O
 exact⟨_,_,gp (j:=0) e1,e2,by rw[hl];exact this,this⟩
def Wt(s:List UInt8):sU s=some (oD s):=by
 (unfold sU LF.run;dsimp only[xw,LT.den];unfold oD)
 by_cases h1:1<=s.length
 .rw [show((s.length:Int)==0)=false from by rw[Z01];exact bO O];by_cases h2:s.length<=32
  .obtain⟨c,d,e1,e2,e3,e4⟩:=DK h1 h2;rw[show decide ((s.length:Int)>32)=false from bO O,e1,e2,e3,e4];simp only[au,bp,dW,gD,bB h1,bB h2,fE,lowc];show Option.bind (bif decide (c8 c<97)then _ else bif decide (c8 c>122)then _ else bif (c8 d==45)then _ else _) _=_;by_cases h3:97<=c8 c
   .rw [show decide (c8 c<97)=false from bO O,bB h3];by_cases h4:c8 c<=122
    .rw [show decide (c8 c>122)=false from bO O,bB h4];cases h5:(c8 d==45)with
     |true=>simp[fY,h5,bne]
     |false=>
      simp only[au,bne,h5,fF,fE];unfold strings_Contains;rw[aP O,bp];cases h6:Lib.contains s [45,45]with
      |true=>simp[fY]
      |false=>
       simp only[au,fF,fE];unfold bytes?;rw[aP O,bp,bp,jt,Ws _ (by rw[da];omega),List.all_map];rfl
    rw[show decide (c8 c>122)=true from bB O,bO h4];simp[fY]
   rw[show decide (c8 c<97)=true from bB O,bO h3];simp[fY]
  rw[show decide ((s.length:Int)>32)=true from bB O,bO h2];simp[fY]
 rw[show((s.length:Int)==0)=true from by rw[Z01];exact bB O,bO h1];simp[fY]
def DL(n:Int):sV n=some (decide (97<=n)&&decide (n<=122)):=by
 (unfold sV LF.run;dsimp only[xy,LT.den])
 by_cases h:n>=97
 .rw [bB h];simp[fY]
 rw[bO h];simp[fY]
def okAt(s:List UInt8)(i:Nat):Bool:=(s[i]?.map λc=>okc (c8 c)).getD false && !(decide (0<i)&&(s[i]?.map λc=>c8 c==45).getD false&&(s[i-1]?.map λc=>c8 c==45).getD false)
def Wu(s:List UInt8)(h:s.length<=32)(i:Nat)(hi:i<s.length):Z04.step (.L0 s (i:Int))=some (bif okAt s i then .inl (.L0 s ((i+1:Nat):Int))else .inr false):=by
 have hx:=bn hi;have hw:IntKind.wrap .i64 ((i:Int)+1)=((i+1:Nat):Int):=eu O O;have l1:(ju s (i:Int)).den=some (bif !(decide (0<i)&&(c8 s[i]==45)&&(s[i-1]?.map λc=>c8 c==45).getD false)then .inl (.L0 s ((i+1:Nat):Int))else .inr false):=by
  dsimp only[ju,LT.den];by_cases h0:0<i
  .rw [show decide ((i:Int)>0)=true from bB O,bB h0,gp hx,hw];have hy:=bn (show i-1<s.length by omega);have hw2:IntKind.wrap .i64 ((i:Int)-1)=((i-1:Nat):Int):=by rw[eu O O];omega
   rw[hw2,gp hy,hy];simp only[av,bp,dW,gD,fE];show(bif c8 s[i]==45 then bif c8 s[i-1]==45 then _ else _ else _)=_;cases c8 s[i]==45<;>cases c8 s[i-1]==45<;>rfl
  rw[show decide ((i:Int)>0)=false from bO O,bO h0,hw];rfl
 show(mU _ _).den=_
 (dsimp only[mU,LT.den];unfold okAt)
 rw[bB (show(i:Int)<(s.length:Int) by omega),gp hx,hx];simp only[av,bp,dW,gD,DL,l1];show(bif !(decide (97<=c8 s[i])&&decide (c8 s[i]<=122))then(bif decide (c8 s[i]<48)then(bif c8 s[i] != 45 then _ else _)else(bif decide (c8 s[i]>57)then(bif c8 s[i] != 45 then _ else _)else _))else _)=_;unfold okc;cases decide (97<=c8 s[i])&&decide (c8 s[i]<=122)with
 |true=>simp
 |false=>
  simp only[fF,av,kW];by_cases h3:48<=c8 s[i]
  .rw [show decide (c8 s[i]<48)=false from bO O,bB h3];by_cases h4:c8 s[i]<=57
   .rw [show decide (c8 s[i]>57)=false from bO O,bB h4];simp
   rw[show decide (c8 s[i]>57)=true from bB O,bO h4];cases h5:c8 s[i]==45<;>simp[bne,h5]
  rw[show decide (c8 s[i]<48)=true from bB O,bO h3];cases h5:c8 s[i]==45<;>simp[bne,h5]
def Wv(c:UInt8):(c8 c==45)=decide (c=45):=by
 rw[Z01,sW];unfold c8;constructor
 .intro h;have:c.toNat=45:=by omega
  exact UInt8.toNat_inj.1 (by rw[this];rfl)
 rintro rfl;rfl
def Ww(s:List UInt8):((List.range s.length).all λi=>okAt s i)=(!Lib.contains s [45,45]&&s.all λc=>okc (c8 c)):=by
 rw[kX,aL,bU,bU,dv];have hc:Lib.contains s [45,45]=false↔¬∃j:Nat,s[j]?=some (45:UInt8)/\s[j+1]?=some (45:UInt8):=by rw[<- Wq];simp
 rw[hc];constructor
 .intro h;refine⟨?_,λc hcm=>?_⟩
  .rintro ⟨j,h1,h2⟩;have hj:j+1<s.length:=(aJ.1 h2).1;have:=h (j+1) (kY.2 hj);simp[okAt,h1,h2,c8]at this
  obtain⟨i,hi⟩:=List.mem_iff_getElem?.1 hcm;have:=h i (kY.2 (aJ.1 hi).1);simp only[okAt,hi,dW,gD,aL]at this;exact this.1
 rintro⟨h1,h2⟩ i hi;have hi:=kY.1 hi;have hx:=bn hi;unfold okAt;rw[hx];simp only[dW,gD,h2 _ (kZ hi),fE,dv];apply Bool.eq_false_iff.2;intro hb;simp only[aL,eI,Wv]at hb;obtain⟨⟨b1,b2⟩,b3⟩:=hb;refine h1 ⟨i-1,?_,?_⟩
 .cases hy:s[i-1]? with
  |none=>simp[hy]at b3
  |some y=>simp only[hy,dW,gD,eI]at b3;rw[b3]
 rw[show i-1+1=i by omega,hx,b2]
def Wx(s:List UInt8):sX s=some (oD s):=by
 (unfold sX LF.run;dsimp only[xz,LT.den];unfold oD)
 by_cases h1:1<=s.length
 .rw [show decide ((s.length:Int)<1)=false from bO O];by_cases h2:s.length<=32
  .obtain⟨c,d,e1,e2,e3,e4⟩:=DK h1 h2;rw[show decide ((s.length:Int)>32)=false from bO O,e1,e2,e3,e4];simp only[au,bp,dW,gD,bB h1,bB h2,fE,DL];show Option.bind (bif !lowc c then _ else bif (c8 d==45)then _ else _) _=_;cases lowc c with
   |false=>simp[fY]
   |true=>
    cases h5:(c8 d==45)with
    |true=>simp[fY,h5,bne]
    |false=>
     simp only[au,bne,h5,fF,gG,fE,bp,jt];have:=scan (st:=λi=>jv.L0 s (i:Int)) (step:=Z04.step) (bad:=false) s.length (okAt s) (λi hi=>Wu s h2 i hi);rw[show(jv.L0 s 0)=jv.L0 s ((0:Nat):Int)from rfl,this,Ww];have he:cd Z04.step (.L0 s (s.length:Int))=some true:=by refine eU ?_;show(mU _ _).den=_;dsimp only[mU,LT.den];rw[bO O];rfl
     rw[he];cases !Lib.contains s [45,45]&&s.all λc=>okc (c8 c)<;>rfl
  rw[show decide ((s.length:Int)>32)=true from bB O,bO h2];simp[fY]
 rw[show decide ((s.length:Int)<1)=true from bB O,bO h1];simp[fY]
end Go.PW
set_option maxRecDepth 100000
namespace Go.PW
def supW:List (List UInt8):=[[98,97,115,105,99],[117,110,105,113,117,101]]
def typW:List (List UInt8):=[[99,114,101,97,116,117,114,101],[105,110,115,116,97,110,116],[114,105,116,117,97,108],[114,101,108,105,99],[99,104,97,114,109],[108,97,110,100]]
def eJ(l:List (List UInt8))(s:List UInt8):Bool:=l.any λw=>w==s
def subV(s:List UInt8):Bool:=oD s&&(!eJ supW s && !eJ typW s)
def DM:∀i:Nat,i<6->(Z65 .i64 1 (i:Int)==0)=false
 |0,_=>rfl
 |1,_=>rfl
 |2,_=>rfl
 |3,_=>rfl
 |4,_=>rfl
 |5,_=>rfl
 |n+6,h=>absurd h O
def Wy(s:List UInt8):∃x,sY s 2=some x/\(x==0) = !eJ supW s:=by
 (unfold sY LF.run;dsimp only[xA,LT.den])
 simp only[bp,jt];have hfind:=Z2r (step:=sZ.step) supW (λi =>.L0 s 2 (i:Int)) (λi=>Z65 .i64 1 (i:Int)) (λw=>w==s) (λi x hx=>by
  have hi:=(aJ.1 hx).1;have hi:i<2:=hi;have hw:s0 (i:Int)=some x:=by
   (unfold s0 LF.run;dsimp only[Z70,LT.den])
   show Option.bind (Option.bind (idx? supW (i:Int)) λx1=>some (.inr x1)) (dD xB.step)=_;rw[gp hx];rfl
  show(oG s 2 (i:Int)).den=_;dsimp only[oG,LT.den];rw[bB (show(i:Int)<2 by omega),hw,eu O O];simp only[av,bp,DN];rw[show decide (¬(i:Int)<0)=true from bB O];cases x==s<;>rfl)
 rcases hfind with⟨h1,i,h2,h3⟩|⟨h1,h2⟩
 .exact⟨_,h3,by rw[DM i (dL h2 aS)];unfold eJ;rw[h1];rfl⟩
 refine⟨0,h2.trans (eU ?_),by unfold eJ;rw[h1];rfl⟩;show(oG s 2 2).den=_;rfl
def Wz(s:List UInt8):∃x,s3 s 6=some x/\(x==0) = !eJ typW s:=by
 (unfold s3 LF.run;dsimp only[xC,LT.den])
 simp only[bp,jt];have hfind:=Z2r (step:=s4.step) typW (λi =>.L0 s 6 (i:Int)) (λi=>Z65 .i64 1 (i:Int)) (λw=>w==s) (λi x hx=>by
  have hi:=(aJ.1 hx).1;have hi:i<6:=hi;have hw:s5 (i:Int)=some x:=by
   (unfold s5 LF.run;dsimp only[DO,LT.den])
   show Option.bind (Option.bind (idx? typW (i:Int)) λx1=>some (.inr x1)) (dD xD.step)=_;rw[gp hx];rfl
  show(oH s 6 (i:Int)).den=_;dsimp only[oH,LT.den];rw[bB (show(i:Int)<6 by omega),hw,eu O O];simp only[av,bp,DN];rw[show decide (¬(i:Int)<0)=true from bB O];cases x==s<;>rfl)
 rcases hfind with⟨h1,i,h2,h3⟩|⟨h1,h2⟩
 .exact⟨_,h3,by rw[DM i (dL h2 aS)];unfold eJ;rw[h1];rfl⟩
 refine⟨0,h2.trans (eU ?_),by unfold eJ;rw[h1];rfl⟩;show(oH s 6 6).den=_;rfl
def WA(s:List UInt8):Z6k s=some (subV s):=by
 (unfold Z6k LF.run;dsimp only[Z71,LT.den];unfold subV)
 obtain⟨x,hx,ex⟩:=Wy s;obtain⟨y,hy,ey⟩:=Wz s;simp only[Wt,hx,hy,bp,ex,ey];exact gH λ_=>gH λ_=>rfl
def xE(l:List (List UInt8))(s:List UInt8)(hl:l.length<=4611686018427387904):∃x,Z90 l s=some x/\decide (x<0) = !eJ l s/\decide (x>=0)=eJ l s:=by
 (unfold Z90 LF.run;dsimp only[xF,LT.den])
 simp only[bp,jt];have hfind:=Z2r (step:=Z2a.step) l (λi =>.L0 l s (i:Int)) (λi=>(i:Int)) (λw=>w==s) (λi x hx=>by have hi:=(aJ.1 hx).1;show(mV _ _ _).den=_;dsimp only[mV,LT.den];rw[bB O,gp hx,Z9x hi hl];simp only[av,bp];cases x==s<;>rfl);rcases hfind with⟨h1,i,h2,h3⟩|⟨h1,h2⟩
 .refine⟨_,h3,?_,?_⟩<;>unfold eJ<;>rw[h1]
  .exact bO O
  exact bB O
 refine⟨-1,h2.trans (eU ?_),?_,?_⟩
 .show (mV _ _ _).den=_;dsimp only[mV,LT.den];rw[bO O];rfl
 .unfold eJ;rw[h1];rfl
 unfold eJ;rw[h1];rfl
def WB(s:List UInt8):Z93 s=some (subV s):=by
 (unfold Z93 LF.run;dsimp only[xG,LT.den];unfold subV)
 obtain⟨x,hx,ex,_⟩:=xE supW s aS;obtain⟨y,hy,ey,_⟩:=xE typW s aS;have h1:s6=some supW:=rfl;have h2:s7=some typW:=rfl;simp only[Wx,h1,h2,hx,hy,bp,ex,ey];exact gH λ_=>gH λ_=>rfl
def WC(l:cf)(s:List UInt8)(hl:l.Subs.length<=4611686018427387904):xH l s=some (eJ l.Subs s):=by
 (unfold xH LF.run;dsimp only[DP,LT.den])
 obtain⟨x,hx,_,ex⟩:=xE l.Subs s hl;simp only[hx,bp,ex];rfl
def WD(l:cf)(s:List UInt8)(hl:l.Subs.length<=4611686018427387904):Z2d l s=some (eJ l.Subs s):=by
 (unfold Z2d LF.run;dsimp only[Z4n,LT.den];unfold xI LF.run;dsimp only[xJ,LT.den];unfold xK LF.run;dsimp only[xL,LT.den])
 simp only[bp,jt];have hfind:=Z2r (step:=oI.step) l.Subs (λi =>.L0 l.Subs s (l.Subs.length:Int) (i:Int)) (λi=>(i:Int)) (λw=>w==s) (λi x hx=>by have hi:=(aJ.1 hx).1;show(mW _ _ _ _).den=_;dsimp only[mW,LT.den];rw[bB O,gp hx,Z9x hi hl];simp only[av,bp];rw[show(s==x)=(x==s)from by rw[DQ,DQ];simp[eq_comm]];cases x==s<;>rfl
)
 rcases hfind with⟨h1,i,h2,h3⟩|⟨h1,h2⟩
 .rw [show(k7.L0 l.Subs s (l.Subs.length:Int) 0) = .L0 l.Subs s (l.Subs.length:Int) ((0:Nat):Int)from rfl,h3]
  unfold eJ;rw[h1]
  simp only[bp,fY]
  rw[bB O]
 .have he:cd oI.step (.L0 l.Subs s (l.Subs.length:Int) (l.Subs.length:Int))=some (-1):=by
   refine eU ?_
   show(mW _ _ _ _).den=_
   dsimp only[mW,LT.den]
   rw[bO O];rfl
  rw[show(k7.L0 l.Subs s (l.Subs.length:Int) 0) = .L0 l.Subs s (l.Subs.length:Int) ((0:Nat):Int)from rfl,h2,he]
  unfold eJ;rw[h1];rfl
def btw(n m:Int):Bool:=decide (n>=0)&&decide (n<=m)
def fG(b:ae):Bool:=btw b.Kind 3&&(btw b.N 1000000&&(b.Kind != 0||b.N==0))
def disV(a b:Int):Bool:=bJ .and .i64 a b==0
def filV(f:aj):Bool:=
 btw f.Zone 5&&(btw f.Who 2&&(btw f.Self 2&&(btw f.Tap 2&&(btw f.Keys 131071&&(btw f.Types 63&&(btw f.NotTypes 63&&(disV f.Types f.NotTypes &&
 (btw f.Colors 31&&(btw f.NotColors 31&&(disV f.Colors f.NotColors&&((f.Sub==[]||subV f.Sub)&&(fG f.Power&&(fG f.Tough&&fG f.Value)))))))))))))
def DR(n m:Int):Z1g n m=some (btw n m):=by
 (unfold Z1g LF.run;dsimp only[Z7y,LT.den];unfold btw)
 exact gH λ_=>rfl
def WE(b:ae):Z1h b=some (fG b):=by
 (unfold Z1h LF.run;dsimp only[Z72,LT.den];unfold fG)
 simp only[DR,bp];refine gH λ_=>gH λ_=>?_;cases b.Kind != 0<;>rfl
def DS(f:aj):(oJ f).den.bind (dD oK.step)=some (fG f.Power&&(fG f.Tough&&fG f.Value)):=by dsimp only[oJ,LT.den];simp only[WE,bp];exact gH λ_=>gH λ_=>rfl
def DT(f:aj):s8 f=some (filV f):=by
 (unfold s8 LF.run;dsimp only[DU,LT.den];unfold filV)
 simp only[DR,bp,WA];refine eK λ_=>eK λ_=>eK λ_=>eK λ_=>eK λ_=>eK λ_=>eK λ_=>?_;have dis:∀{a b r:Bool} {c d:Int} {k:Option (Z2c⊕Bool)},k.bind (dD oK.step)=some r->(bif (bJ .and .i64 c d != 0)then some (.inr false)else k).bind (dD oK.step)=some (disV c d&&r):=by intro a b r c d k h;unfold disV;simp only[bne];exact eK λ_=>h
 refine dis (a:=true) (b:=true) (eK λ_=>eK λ_=>dis (a:=true) (b:=true) ?_);cases f.Sub==[]with
 |true=>simp only[gG,au,s9,fE];exact DS f
 |false=>simp only[fF,av,kW];exact eK λ_=>DS f
def WG(b:ae):Z95 b=some (fG b):=by
 (unfold Z95 LF.run;dsimp only[xM,LT.den])
 refine(cN λ_=>cN λ_=>cN λ_=>cN λ_=>(show _=some (b.Kind != 0||b.N==0)from by cases b.Kind != 0<;>rfl)).trans ?_;congr 1
 (unfold fG;unfold btw)
 rw[kX];simp only[aL,dv,oL,eI,k9,oM,mT];constructor
 .rintro ⟨h1,h2,h3,h4,h5⟩;exact⟨⟨h1,h2⟩,⟨h3,h4⟩,h5⟩
 rintro⟨⟨h1,h2⟩,⟨h3,h4⟩,h5⟩;exact⟨h1,h2,h3,h4,h5⟩
def DV:∀(d i a b:Nat),i+d=6->a<2 ^ 62->b<2 ^ 62->cd mX.step (.L0 (a:Int) (b:Int) (i:Int))=some (Z67 d a b)
 |0,i,a,b,hi,_,_=>by refine eU ?_;show(mY _ _ _).den=_;dsimp only[mY,LT.den];rw[bO O];rfl
 |d+1,i,a,b,hi,ha,hb=>by
  have hw:IntKind.wrap .i64 ((i:Int)+1)=((i+1:Nat):Int):=eu O O;have hs:mX.step (.L0 (a:Int) (b:Int) (i:Int))=some (bif decide (a%2=1)&&decide (b%2=1)then .inr false else .inl (.L0 ((a/2:Nat):Int) ((b/2:Nat):Int) ((i+1:Nat):Int))):=by show(mY _ _ _).den=_;dsimp only[mY,LT.den];rw[bB O,DW,DW,DX a ha,DX b hb,hw];cases decide (a%2=1)<;>cases decide (b%2=1)<;>rfl
  unfold Z67;by_cases h:a%2=1/\b%2=1
  .rw [aP h];rw[bB h.1,bB h.2]at hs;exact eU hs
  rw[aI h];have:(decide (a%2=1)&&decide (b%2=1))=false:=by rw[<- la];exact bO h
  rw[this]at hs;rw[iQ hs];exact DV d (i+1) (a/2) (b/2) O O O
def DY(a b m:Int)(hm:m<64):Z94 a b m=some (btw a m&&(btw b m&&disV a b)):=by
 have key:∀{r:Bool},(0<=a->a<=m->0<=b->b<=m->r=disV a b)->(!decide (a<0)&&(!decide (a>m)&&(!decide (b<0)&&(!decide (b>m)&&r))))=(btw a m&&(btw b m&&disV a b)):=by
  intro r hr;unfold btw;by_cases h1:0<=a
  .by_cases h2:a<=m
   .by_cases h3:0<=b
    .by_cases h4:b<=m
     .rw [hr h1 h2 h3 h4];simp[h1,h2,h3,h4,mT.2]
     simp[h4,oF.1 h4]
    simp[h3,oF.1 h3]
   simp[h2,oF.1 h2]
  simp[h1,oF.1 h1]
 (unfold Z94 LF.run;dsimp only[xN,LT.den])
 by_cases hin:0<=a/\a<=m/\0<=b/\b<=m
 .obtain⟨h1,h2,h3,h4⟩:=hin;refine(cN (r := !decide (a>m)&&(!decide (b<0)&&(!decide (b>m)&&disV a b))) λ_=>cN λ_=>cN λ_=>cN λ_=>?_).trans (dw some (key λ_ _ _ _=>rfl));obtain⟨x,rfl⟩:=Int.eq_ofNat_of_zero_le h1;obtain⟨y,rfl⟩:=Int.eq_ofNat_of_zero_le h3;show cd mX.step (.L0 (x:Int) (y:Int) ((0:Nat):Int))=_;rw[DV 6 0 x y rfl O O,WH O];unfold disV;rw[WI O O,Z01];congr 1;rw[sW];omega
 refine(cN (r := !decide (a>m)&&(!decide (b<0)&&(!decide (b>m)&&disV a b))) λe1=>cN λe2=>cN λe3=>cN λe4=>?_).trans (dw some (key λ_ _ _ _=>rfl));simp only[oL]at e1 e2 e3 e4;exact absurd ⟨by omega,by omega,by omega,by omega⟩ hin
def DZ(f:aj):(ld f).den.bind (dD xO.step)=some (fG f.Power&&(fG f.Tough&&fG f.Value)):=by dsimp only[ld,LT.den];simp only[WG,bp];exact gH λ_=>gH λ_=>rfl
def WJ(f:aj):oN f=some (filV f):=by
 (unfold oN LF.run;dsimp only[xP,LT.den])
 simp only[DY _ _ _ (by decide:(63:Int)<64),DY _ _ _ (by decide:(31:Int)<64),bp,WB];refine(cN λ_=>cN λ_=>cN λ_=>cN λ_=>cN λ_=>cN λ_=>cN λ_=>cN λ_=>eK λ_=>eK λ_=>(show _=some ((f.Sub==[]||subV f.Sub)&&(!decide (f.Keys<0)&&(!decide (f.Keys>131071)&&(fG f.Power&&(fG f.Tough&&fG f.Value)))))from ?_)).trans ?_
 .cases f.Sub==[]with
  |true=>simp only[gG,au,s9,fE];exact cN λ_=>cN λ_=>DZ f
  |false=>simp only[fF,av,kW];exact eK λ_=>cN λ_=>cN λ_=>DZ f
 congr 1
 (unfold filV;unfold btw)
 rw[kX];simp only[aL,dv,oL,eI,k9,oM,mT];constructor
 .rintro ⟨z1,z2,w1,w2,s1,s2,t1,t2,⟨⟨a1,a2⟩,⟨b1,b2⟩,d1⟩,⟨⟨c1,c2⟩,⟨e1,e2⟩,d2⟩,su,k1,k2,p,q,v⟩;exact⟨⟨z1,z2⟩,⟨w1,w2⟩,⟨s1,s2⟩,⟨t1,t2⟩,⟨k1,k2⟩,⟨a1,a2⟩,⟨b1,b2⟩,d1,⟨c1,c2⟩,⟨e1,e2⟩,d2,su,p,q,v⟩
 rintro⟨⟨z1,z2⟩,⟨w1,w2⟩,⟨s1,s2⟩,⟨t1,t2⟩,⟨k1,k2⟩,⟨a1,a2⟩,⟨b1,b2⟩,d1,⟨c1,c2⟩,⟨e1,e2⟩,d2,su,p,q,v⟩;exact⟨z1,z2,w1,w2,s1,s2,t1,t2,⟨⟨a1,a2⟩,⟨b1,b2⟩,d1⟩,⟨⟨c1,c2⟩,⟨e1,e2⟩,d2⟩,su,k1,k2,p,q,v⟩
end Go.PW
set_option maxRecDepth 100000
namespace Go.PW
def sd{n:Int}(h1 : -1000000<=n)(h2:n<=1000000):tY n=some n/\B3 n=some n:=by
 constructor
 ·(unfold tY LF.run;dsimp only[yG,LT.den])
  simp only[bp,fY]
  (unfold minI;unfold maxI)
  congr 1;repeat' split;all_goals omega
 ·(unfold B3 LF.run;dsimp only[Sj,LT.den])
  rw[bO O,bO O];rfl
def B4{a b:Int}(h1:0<=a)(h2:a<=100000)(h3:0<=b)(h4:b<=100000):ua a b=some (a+b)/\B5 a b=some (a+b):=by
 obtain⟨a1,a2⟩:=sd (n:=a) O O;obtain⟨b1,b2⟩:=sd (n:=b) O O;obtain⟨c1,c2⟩:=sd (n:=a+b) O O;have hw:IntKind.wrap .i64 (a+b)=a+b:=eu O O;constructor
 ·(unfold ua LF.run;dsimp only[yH,LT.den])
  simp only[a1,b1,c1,hw,bp];rfl
 ·(unfold B5 LF.run;dsimp only[Sk,LT.den])
  simp only[a2,b2,c2,hw,bp];rfl
def mul_zero{a:Int}(h1:0<=a)(h2:a<=100000):uj a 0=some 0/\AE a 0=some 0:=by
 obtain⟨a1,a2⟩:=sd (n:=a) O O;obtain⟨b1,b2⟩:=sd (n:=0) O O;have hw:IntKind.wrap .i64 (a*0)=0:=by rw[Int.mul_zero];rfl
 constructor
 ·(unfold uj LF.run;dsimp only[yR,LT.den])
  simp only[a1,b1,hw,bp];rfl
 ·(unfold AE LF.run;dsimp only[Mo,LT.den])
  simp only[a2,b2,hw,bp];rfl
def kL(c:Z4):Bool:=btw c.Generic 99&&(btw c.X 2&&c.Color.list.all λn=>btw n 9)
def Zfh(c:Z4):tU c=some (kL c):=by
 (unfold tU LF.run;dsimp only[yu,LT.den])
 simp only[bp,jt];have:=Z66 (st:=λi=>ln.L0 c c.Color (i:Int)) (step:=nc.step) (bad:=false) c.Color.list (λn=>btw n 9) (λi x hx=>by
  have hi:=(aJ.1 hx).1;have hi:i<5:=hi;show(nf _ _ _).den=_;dsimp only[nf,LT.den];rw[bB O,gp hx,eu O O];simp only[av,bp];unfold btw;by_cases h1:x<0
  .rw [bB h1,bO (show ¬x>=0 by omega)];rfl
  rw[bO h1,bB (show x>=0 by omega)];by_cases h2:x>9
  .rw [bB h2,bO (show ¬x<=9 by omega)];rfl
  rw[bO h2,bB (show x<=9 by omega)];rfl)
 rw[show(ln.L0 c c.Color 0) = .L0 c c.Color ((0:Nat):Int)from rfl,this];have he:cd nc.step (.L0 c c.Color ((c.Color.list.length:Nat):Int))=some (btw c.Generic 99&&btw c.X 2):=by
  have e:nc.step (.L0 c c.Color ((c.Color.list.length:Nat):Int))=some (.inr (btw c.Generic 99&&btw c.X 2)):=by
   show(nf c c.Color 5).den=_
   (dsimp only[nf,LT.den];unfold btw)
   rw[bO O];cases decide (c.Generic>=0)<;>cases decide (c.Generic<=99)<;>cases decide (c.X>=0)<;>rfl
  exact eU e
 rw[he];unfold kL;cases c.Color.list.all λn=>btw n 9<;>cases btw c.Generic 99<;>cases btw c.X 2<;>rfl
def Zfi(c:Z4):nV c=some (kL c):=by
 (unfold nV LF.run;dsimp only[Bb,LT.den])
 have hl:cd jm.step (.L0 c 0)=some (c.Color.list.all λn=>btw n 9):=by
  have:=Z66 (st:=λi=>jR.L0 c (i:Int)) (step:=jm.step) (bad:=false) c.Color.list (λn=>btw n 9) (λi x hx=>by
   have hi:=(aJ.1 hx).1;have hi:i<5:=hi;show(nU _ _).den=_;dsimp only[nU,LT.den];rw[bB O,gp hx,eu O O];simp only[av,bp];unfold btw;by_cases h1:x<0
   .rw [bB h1,bO (show ¬x>=0 by omega)];rfl
   rw[bO h1,bB (show x>=0 by omega)];by_cases h2:x>9
   .rw [bB h2,bO (show ¬x<=9 by omega)];rfl
   rw[bO h2,bB (show x<=9 by omega)];rfl)
  rw[show(jR.L0 c 0) = .L0 c ((0:Nat):Int)from rfl,this];have he:cd jm.step (.L0 c ((c.Color.list.length:Nat):Int))=some true:=Sl
  rw[he];cases c.Color.list.all λn=>btw n 9<;>rfl
 refine(cN λ_=>cN λ_=>cN λ_=>cN λ_=>(show Option.bind (some (Sum.inl (jR.L0 c 0))) (dD jm.step)=some (c.Color.list.all λn=>btw n 9)from hl)).trans ?_;congr 1
 (unfold kL;unfold btw)
 rw[kX];simp only[aL,dv,oL,eI,k9,oM,mT];constructor
 .rintro ⟨h1,h2,h3,h4,h5⟩;exact⟨⟨h1,h2⟩,⟨h3,h4⟩,h5⟩
 rintro⟨⟨h1,h2⟩,⟨h3,h4⟩,h5⟩;exact⟨h1,h2,h3,h4,h5⟩
def valV(c:Z4):Int:=bif kL c then c.Generic+c.Color.a0+c.Color.a1+c.Color.a2+c.Color.a3+c.Color.a4 else 0
def Zfj{c:Z4}(h:kL c=true):(0<=c.Generic/\c.Generic<=99)/\(0<=c.X/\c.X<=2)/\(0<=c.Color.a0/\c.Color.a0<=9)/\(0<=c.Color.a1/\c.Color.a1<=9)/\(0<=c.Color.a2/\c.Color.a2<=9)/\(0<=c.Color.a3/\c.Color.a3<=9)/\(0<=c.Color.a4/\c.Color.a4<=9):=by simpa[kL,btw,A5.list]using h
def Sm(c:Z4):Z6l c 0=some (valV c)/\AH c 0=some (valV c):=by
 (unfold Z6l LF.run;dsimp only[Z75,LT.den];unfold AH LF.run;dsimp only[Mr,LT.den];unfold valV)
 rw[Zfh,Zfi];simp only[bp];cases hc:kL c with
 |false=>exact⟨rfl,rfl⟩
 |true=>
  obtain⟨g,x,h0,h1,h2,h3,h4⟩:=Zfj hc;obtain⟨gen,xx,⟨a0,a1,a2,a3,a4⟩⟩:=c;simp only at g x h0 h1 h2 h3 h4⊢;simp only[gG,au,bp,jt,av];constructor
  .have hw:∀{n:Int},0<=n->n<=1000->IntKind.wrap .i64 n=n:=λh1 h2=>eu O O;have r:∀(v i y:Int),i<5->idx? [a0,a1,a2,a3,a4] i=some y->0<=v+y->v+y<=1000->0<=i->cd pO.step (.L0 0 ⟨gen,xx,⟨a0,a1,a2,a3,a4⟩⟩ v ⟨a0,a1,a2,a3,a4⟩ i)=cd pO.step (.L0 0 ⟨gen,xx,⟨a0,a1,a2,a3,a4⟩⟩ (v+y) ⟨a0,a1,a2,a3,a4⟩ (i+1)):=λv i y hi hy h1 h2 h0=>by
    refine iQ ?_;show(nm _ _ _ _ _).den=_;dsimp only[nm,LT.den];rw[bB hi,show idx? (A5.list (⟨a0,a1,a2,a3,a4⟩:A5 Int)) i=some y from hy,bp,hw h1 h2,eu O O];rfl
   rw[r gen 0 a0 O rfl O O O,r _ _ a1 O rfl O O O,r _ _ a2 O rfl O O O,r _ _ a3 O rfl O O O,r _ _ a4 O rfl O O O];refine eU ?_;show(nm _ _ _ _ 5).den=_;dsimp only[nm,LT.den];have e1:=(mul_zero (a:=xx) O O).1;have e2:=(B4 (a:=gen+a0+a1+a2+a3+a4) (b:=0) O O O O).1;rw[bO O];simp only[au,show maxI 0 0=0 from rfl,e1,e2,bp,Int.add_zero]
  have r:∀(v i y:Int),i<5->idx? [a0,a1,a2,a3,a4] i=some y->0<=v->v<=1000->0<=y->y<=9->0<=i->cd Z2e.step (.L0 0 ⟨gen,xx,⟨a0,a1,a2,a3,a4⟩⟩ v i)=cd Z2e.step (.L0 0 ⟨gen,xx,⟨a0,a1,a2,a3,a4⟩⟩ (v+y) (i+1)):=λv i y hi hy h1 h2 h3 h4 h0=>by refine iQ ?_;show(qX _ _ _ _).den=_;dsimp only[qX,LT.den];rw[bB hi,show idx? (A5.list (⟨a0,a1,a2,a3,a4⟩:A5 Int)) i=some y from hy,bp,(B4 h1 O h3 O).2,bp,eu O O];rfl
  rw[r gen 0 a0 O rfl O O O O O,r _ _ a1 O rfl O O O O O,r _ _ a2 O rfl O O O O O,r _ _ a3 O rfl O O O O O,r _ _ a4 O rfl O O O O O];refine eU ?_;show(qX _ _ _ 5).den=_;dsimp only[qX,LT.den];have e1:=(mul_zero (a:=xx) O O).2;have e2:=(B4 (a:=gen+a0+a1+a2+a3+a4) (b:=0) O O O O).2;rw[bO O,bO O];simp only[au,e1,e2,bp,Int.add_zero]
def metV(b:ae)(n:Int):Bool:=bif b.Kind==0 then true else bif b.Kind==1 then decide (n>=b.N)else bif b.Kind==2 then decide (n<=b.N)else bif b.Kind==3 then n==b.N else false
def wh(b:ae)(n:Int):ui b n=some (metV b n)/\AD b n=some (metV b n):=by
 (unfold ui LF.run;dsimp only[yO,LT.den];unfold AD LF.run;dsimp only[Mm,LT.den];unfold metV)
 cases b.Kind==0<;>cases b.Kind==1<;>cases b.Kind==2<;>cases b.Kind==3<;>exact⟨rfl,rfl⟩
def Z6p(h s n:Int):Bool:=(s==0||bJ .and .i64 h s != 0)&&bJ .and .i64 h n==0
def oneV(a b w:Int):Bool:=bif w==1 then a==b else bif w != 2 then true else a != b
def tapV(t:Bool)(w:Int):Bool:=bif w==1 then t else bif w != 2 then true else !t
def fA(t:ah):Bool:=bJ .and .i64 t.Line.Types 1 != 0
def bouV(cr:Bool)(b:ae)(n:Int):Bool:=b.Kind==0||(cr&&metV b n)
def endV(t:ah)(f:aj):Bool:=bouV (fA t) f.Power t.Power&&(bouV (fA t) f.Tough t.Tough&&metV f.Value (valV t.Cost))
def keyV(t:ah)(f:aj):Bool:=bJ .and .i64 t.Keys f.Keys==f.Keys
def mB(t:ah)(f:aj):Bool:=f.Sub==[]||eJ t.Line.Subs f.Sub
def matV(o:ak)(t:ah)(you source:Int)(f:aj):Bool:=
 filV f&&(o.Zone==f.Zone&&(oneV t.Control you f.Who&&(oneV o.Id source f.Self&&(Z6p t.Line.Types f.Types f.NotTypes&&(Z6p t.Colors f.Colors f.NotColors &&
  (mB t f&&(keyV t f&&(tapV o.Tapped f.Tap&&endV t f))))))))
def Zfk(h s n:Int):uh h s n=some (Z6p h s n):=by
 (unfold uh LF.run;dsimp only[yN,LT.den];unfold Z6p)
 cases s==0<;>cases bJ .and .i64 h s != 0<;>rfl
def Zfl(b:ae)(n:Int)(cr:Bool):uk b n cr=some (bouV cr b n):=by
 (unfold uk LF.run;dsimp only[yS,LT.den];unfold bouV)
 rw[(wh b n).1];cases b.Kind==0<;>cases cr<;>cases metV b n<;>rfl
def m4(t:ah)(f:aj):(jD t f (fA t)).den.bind (dD lQ.step)=some (endV t f):=by
 (dsimp only[jD,LT.den];unfold endV)
 simp only[Zfl,(Sm _).1,(wh _ _).1,bp];exact gH λ_=>gH λ_=>rfl
def m3(o:ak)(t:ah)(f:aj)(v:Bool):(km o t f (fA t) v).den.bind (dD lQ.step)=some (!v&&(tapV o.Tapped f.Tap&&endV t f)):=by
 dsimp only[km,LT.den];refine cN λ_=>?_;have hm:=m4 t f;unfold tapV;by_cases h1:f.Tap=1
 .rw [show(f.Tap==1)=true from by rw[h1];rfl,show(f.Tap==2)=false from by rw[h1];rfl];cases o.Tapped
  .rfl
  simpa using hm
 rw[show(f.Tap==1)=false from jN.2 h1];cases h2:f.Tap==2 with
 |false=>simpa[bne,h2]using hm
 |true=>
  cases o.Tapped
  .simpa [bne,h2]using hm
  simp[bne,h2,fY]
def m2(o:ak)(t:ah)(f:aj)(v:Bool)(ht:t.Line.Subs.length<=4611686018427387904) :
 (lA o t f (fA t) v).den.bind (dD lQ.step)=some (!v&&(mB t f&&(keyV t f&&(tapV o.Tapped f.Tap&&endV t f)))):=by
 dsimp only[lA,LT.den];refine cN λ_=>?_;have hk:yQ t.Keys f.Keys=some (keyV t f):=rfl;simp only[WD _ _ ht,hk,bp];unfold mB;cases f.Sub==[]with
 |true=>simp only[gG,au,s9,fE];rw[m3,Bool.not_not]
 |false=>
  simp only[fF,av,kW];cases eJ t.Line.Subs f.Sub with
  |false=>simp only[fF,av];rw[m3];rfl
  |true=>simp only[gG,au];rw[m3,Bool.not_not];rfl
def m1(o:ak)(t:ah)(f:aj)(v:Bool)(ht:t.Line.Subs.length<=4611686018427387904) :
 (iY o t f (fA t) v).den.bind (dD lQ.step)=some (!v&&(Z6p t.Line.Types f.Types f.NotTypes&&(Z6p t.Colors f.Colors f.NotColors&&(mB t f&&(keyV t f&&(tapV o.Tapped f.Tap&&endV t f)))))):=by
 dsimp only[iY,LT.den];refine cN λ_=>?_;simp only[Zfk,bp];cases Z6p t.Line.Types f.Types f.NotTypes with
 |false=>simp only[fF,av];rw[m2 o t f _ ht];rfl
 |true=>simp only[gG,au];rw[m2 o t f _ ht,Bool.not_not];rfl
def m0(o:ak)(t:ah)(source:Int)(f:aj)(v:Bool)(ht:t.Line.Subs.length<=4611686018427387904) :
 (ga source o t f (fA t) v).den.bind (dD lQ.step)=some (!v&&(oneV o.Id source f.Self&&(Z6p t.Line.Types f.Types f.NotTypes&&(Z6p t.Colors f.Colors f.NotColors&&(mB t f&&(keyV t f&&(tapV o.Tapped f.Tap&&endV t f))))))):=by
 dsimp only[ga,LT.den];refine cN λ_=>?_;have hm:=λv=>m1 o t f v ht;unfold oneV;by_cases h1:f.Self=1
 .rw [show(f.Self==1)=true from by rw[h1];rfl,show(f.Self==2)=false from by rw[h1];rfl];cases h:o.Id==source
  .simp only[av,bne,h,fF];rw[hm];rfl
  simp only[av,bne,h,gG,au];rw[hm];rfl
 rw[show(f.Self==1)=false from jN.2 h1];cases h2:f.Self==2 with
 |false=>simp only[au,bne,h2,fF,av];rw[hm];rfl
 |true=>simp only[au,bne,h2,gG,av];rw[hm]
def Zfm(o:ak)(t:ah)(you source:Int)(f:aj)(ht:t.Line.Subs.length<=4611686018427387904):uq o t you source f=some (matV o t you source f):=by
 (unfold uq LF.run;dsimp only[Z1j,LT.den];unfold matV)
 rw[DT,bp];refine eK λ_=>?_;have hz:(o.Zone != f.Zone) = !(o.Zone==f.Zone):=rfl;rw[hz];refine eK λ_=>?_;have hm:=λv=>m0 o t source f v ht;show Option.bind (bif (f.Who==1)then bif (t.Control != you)then(ga source o t f (fA t) _).den else bif (f.Who==2)then(ga source o t f (fA t) _).den else(ga source o t f (fA t) _).den else bif (f.Who==2)then(ga source o t f (fA t) _).den else(ga source o t f (fA t) _).den) _=_;unfold oneV;by_cases h1:f.Who=1
 .rw [show(f.Who==1)=true from by rw[h1];rfl,show(f.Who==2)=false from by rw[h1];rfl];cases h:t.Control==you
  .simp only[av,bne,h,fF];rw[hm];rfl
  simp only[av,bne,h,gG,au];rw[hm];rfl
 rw[show(f.Who==1)=false from jN.2 h1];cases h2:f.Who==2 with
 |false=>simp only[au,bne,h2,fF,av];rw[hm];rfl
 |true=>simp only[au,bne,h2,gG,av];rw[hm];rfl
def b0(t:ah)(f:aj):(nN t f (fA t)).den.bind (dD Z8k.step)=some (bouV (fA t) f.Tough t.Tough&&metV f.Value (valV t.Cost)):=by
 (dsimp only[nN,LT.den];unfold bouV)
 simp only[(Sm _).2,(wh _ _).2,bp,bne];cases f.Tough.Kind==0<;>cases fA t<;>cases metV f.Tough t.Tough<;>rfl
def Zfn(t:ah)(f:aj):AI t f=some (endV t f):=by
 (unfold AI LF.run;dsimp only[Ms,LT.den];unfold endV)
 have hs:Sn t.Line.Types 1=some (fA t):=rfl;rw[hs,bp];simp only[(wh _ _).2,bp,bne];have hb:=b0 t f;unfold bouV at hb⊢;cases f.Power.Kind==0 with
 |true=>simpa using hb
 |false=>
  cases hc:fA t with
  |false=>rfl
  |true=>
   rw[hc]at hb;cases metV f.Power t.Power
   .rfl
   simpa using hb
def r1(t:ah)(f:aj)(ht:t.Line.Subs.length<=4611686018427387904):(qY t f).den.bind (dD ZcZ.step)=some (mB t f&&(keyV t f&&endV t f)):=by
 (dsimp only[qY,LT.den];unfold mB)
 have hk:So t.Keys f.Keys=some (keyV t f):=rfl;simp only[WC _ _ ht,hk,Zfn,bp];cases f.Sub==[]with
 |true=>simp only[gG,au,s9,fE];exact eK λ_=>rfl
 |false=>simp only[fF,av,kW];exact eK λ_=>eK λ_=>rfl
end Go.PW
set_option maxRecDepth 100000
namespace Go.PW
abbrev Bnd(n:Nat):Prop:=n<=4611686018427387904
def oa:ah:=⟨[],⟨0,0,⟨0,0,0,0,0⟩⟩,0,⟨0,0,[]⟩,0,0,0,[],0⟩
def atV(all:List ah)(i:Nat):ah:=(all[i]?).getD oa
def Zfo{all:List ah}(ht:∀t∈all,Bnd t.Line.Subs.length)(i:Nat):Bnd (atV all i).Line.Subs.length:=by
 unfold atV;by_cases h:i<all.length
 .rw [bn h];exact ht _ (kZ h)
 rw[lM (show all.length<=i by omega)];exact fW _
def mat(all:List ah)(you src:Int)(f:aj)(i:Nat)(o:ak):Bool:=matV o (atV all i) you src f
def nq(s:ab)(all:List ah)(you src:Int)(f:aj):List Int:=filt (mat all you src f) (λo=>o.Id) 0 s.Objects
def YN(s:ab)(all:List ah)(you src:Int)(f:aj)(hs:s.Objects.length*128<=reachBytes)(ht:∀t∈all,Bnd t.Line.Subs.length):Z6m s all you src f=some (nq s all you src f):=by
 have hs':s.Objects.length*128<=140737488351232:=hs
 (unfold Z6m LF.run;dsimp only[LJ,LT.den])
 have h:=Zff (step:=Z76.step) (st:=λi acc =>.L0 all you src f acc s.Objects (s.Objects.length:Int) (i:Int)) s.Objects (mat all you src f) (λo=>o.Id) (λi x acc hx ha=>by
  have hi:=(aJ.1 hx).1;have l1:∀t,t=atV all i->(qT all you src f acc x t s.Objects (s.Objects.length:Int) (i:Int)).den=some (.inl (.L0 all you src f (bif mat all you src f i x then acc++[x.Id]else acc) s.Objects (s.Objects.length:Int) ((i+1:Nat):Int))):=by
   rintro t rfl;dsimp only[qT,LT.den];rw[Zfm _ _ _ _ _ (Zfo ht i),bp,Z9x hi O];show(bif mat all you src f i x then _ else _)=_;cases mat all you src f i x with
   |true=>rw[av,MF aZ aS];rfl
   |false=>rfl
  show(qU _ _ _ _ _ _ _ _).den=_;dsimp only[qU,LT.den];rw[bB (show(i:Int)<(s.Objects.length:Int) by omega),av,gp hx,bp];by_cases hl:i<all.length
  .rw [bB (show(i:Int)<(all.length:Int) by omega),av,Zdp all hl,bp];exact l1 _ (by simp[atV,bn hl])
  rw[bO (show ¬(i:Int)<(all.length:Int) by omega),au];exact l1 _ (by simp[atV,lM (show all.length<=i by omega),oa]))
 refine bP h (eU ?_);show(qU _ _ _ _ _ _ _ _).den=_;dsimp only[qU,LT.den];rw[bO O];rfl
end Go.PW
set_option maxRecDepth 100000
namespace Go.PW
def ixO(l:List ak)(id:Int):Int:=match l.findIdx? λo=>o.Id==id with
 |some k=>k
 |none => -1
abbrev NoId(l:List ak)(id v:Int):Prop:=∀(k:Nat) x,(k:Int)<v->l[k]?=some x->x.Id≠id
def ZfA{l:List ak}{id:Int}:NoId l id 0:=λk x hk=>bg
def ZfB{l:List ak}{id v w:Int}{x:ak}(hx:l[v.toNat]?=some x)(h:NoId l id v)(h0:0<=v)(hn:x.Id≠id)(hw:w=v+1):NoId l id w:=λk y hk hy=>by
 rcases vg h0 hw hk hy hx with hk|rfl
 .exact h k y hk hy
 exact hn
def Tz{l:List ak}{id v:Int}{x:ak}(hx:l[v.toNat]?=some x)(h:NoId l id v)(h0:0<=v)(hn:x.Id=id):v=ixO l id:=by unfold ixO;obtain⟨hi,he⟩:=aJ.1 hx;rw[List.findIdx?_eq_some_iff_getElem.2 ⟨hi,by rw[he];exact nA.2 hn,λj hj=>by have:=h j l[j] O (bn O);simpa using this⟩];show v=((v.toNat:Nat):Int);omega
def Cp{l:List ak}{id v:Int}(h:NoId l id v)(hv:(l.length:Int)<=v) : -1=ixO l id:=by unfold ixO;rw[List.findIdx?_eq_none_iff.2 λx hx=>by obtain⟨k,hk,he⟩:=List.mem_iff_getElem.1 hx;have:=h k x O (by rw[bn hk,he]);simpa using this]
def TA(l:List ak)(id:Int):(ixO l id = -1/\∀x,x∈l->x.Id≠id)\/∃x,0<=ixO l id/\ixO l id<l.length/\l[(ixO l id).toNat]?=some x/\x.Id=id:=by
 unfold ixO;cases h:l.findIdx? λo=>o.Id==id with
 |none=>
  left;refine⟨rfl,λx hx=>?_⟩;have:=List.findIdx?_eq_none_iff.1 h x hx;simpa using this
 |some k=>
  right;obtain⟨hi,he,_⟩:=List.findIdx?_eq_some_iff_getElem.1 h;refine⟨l[k],by show 0<=(k:Int);omega,by show(k:Int)<_;omega,?_,by simpa using he⟩;show l[(k:Int).toNat]?=_;rw[Int.toNat_natCast,bn hi]
def JX(l:List ak)(id:Int) : -1<=ixO l id/\ixO l id<l.length:=by rcases TA l id with⟨h,_⟩|⟨x,h1,h2,_⟩<;>omega
abbrev Cq:ak:=⟨0,0,0,0,0,false,false,false,false,0,⟨0,0,0⟩,0,0,0,false,0,0⟩
def fdV(l:List ak)(id:Int):ak×Bool:=match l.find? λo=>o.Id==id with
 |some o=>(o,true)
 |none=>(Cq,false)
def ZfC{l:List ak}{id:Int}(h:ixO l id<0):(Cq,false)=fdV l id:=by
 unfold fdV;rcases TA l id with⟨_,hn⟩|⟨x,h1,_⟩
 .rw [List.find?_eq_none.2 λx hx=>by simpa using hn x hx]
 omega
def ZfD{l:List ak}{id:Int}{x:ak}(hx:l[(ixO l id).toNat]?=some x)(h:¬ixO l id<0):(x,true)=fdV l id:=by
 unfold fdV;have hf:l.find? (λo=>o.Id==id)=some x:=by
  unfold ixO at hx h;cases he:l.findIdx? λo=>o.Id==id with
  |none=>rw[he]at h;exact absurd aS h
  |some k=>
   rw[he]at hx;obtain⟨hi,h1,h2⟩:=List.findIdx?_eq_some_iff_getElem.1 he;have hx:l[k]?=some x:=hx;rw[bn hi]at hx;have e:=c9 hx;exact List.find?_eq_some_iff_getElem.2 ⟨by rw[<- e];exact h1,k,hi,e,λj hj=>by simpa using h2 j hj⟩
 rw[hf]
def trV(all:List ah)(i:Int):ah:=(if i<0 then none else all[i.toNat]?).getD oa
def ZfE{all:List ah}{i:Int}(h:i>=(all.length:Int)):oa=trV all i:=by unfold trV;rw[aI O,lM O];rfl
def ZfF{all:List ah}{i:Int}{x:ah}(hx:all[i.toNat]?=some x)(h:¬i<0):x=trV all i:=by unfold trV;rw[aI h,hx];rfl
def Z4s(ps:List bC)(p:Int):Bool:=decide (0<=p)&&((ps[p.toNat]?).map λx => !x.Lost).getD false
def Z4t(ps:List bC)(v:Int):List Int:=((List.range v.toNat).map λi:Nat=>(i:Int)).filter (Z4s ps)
def Cr{ps:List bC}{p:Int}(h:p<0\/p>=(ps.length:Int)):Z4s ps p=false:=by
 unfold Z4s;by_cases h1:0<=p
 .rw [lM O];simp
 rw[bO h1];rfl
def wE{ps:List bC}{p:Int}{x:bC}(hx:ps[p.toNat]?=some x)(h:0<=p):Z4s ps p = !x.Lost:=by unfold Z4s;rw[bB h,hx];rfl
def TB{ps:List bC}{v w:Int}(h0:0<=v)(hw:w=v+1):Z4t ps w=Z4t ps v++(if Z4s ps v then[v]else[]):=by
 unfold Z4t;have:w.toNat=v.toNat+1:=bg
 rw[this,List.range_succ,eL,j3];congr 1;show List.filter (Z4s ps) [((v.toNat:Nat):Int)]=_;rw[oO h0,j4];rfl
def ZfG{ps:List bC}{acc z:List Int}{v w:Int}{x:bC}(hz:z=acc++[v])(hx:ps[v.toNat]?=some x)(h:acc=Z4t ps v)(h0:0<=v)(hl:x.Lost=false)(hw:w=v+1):z=Z4t ps w:=by rw[TB h0 hw,wE hx h0,hl,hz,h];rfl
def ZfH{ps:List bC}{acc:List Int}{v w:Int}{x:bC}(hx:ps[v.toNat]?=some x)(h:acc=Z4t ps v)(h0:0<=v)(hl:x.Lost=true)(hw:w=v+1):acc=Z4t ps w:=by rw[TB h0 hw,wE hx h0,hl,h];exact(cC _).symm
def dp(ps:List bC):List Int:=Z4t ps ps.length
def XX{ps:List bC}{acc:List Int}{v:Int}(h:acc=Z4t ps v)(hv:v<=(ps.length:Int))(hl:(ps.length:Int)<=v):acc=dp ps:=by unfold dp;rw[h];congr 1;omega
def Z8n(ps:List bC)(p:Int):List Int:=if p<0\/p>=(ps.length:Int)then dp ps else(dp ps).filter (λx=>decide (p<x))++(dp ps).filter (λx=>decide (x<p))
def Z1q{ps:List bC}{x:Int}:x∈dp ps↔Z4s ps x=true:=by
 unfold dp Z4t;rw[gy];refine⟨λh=>h.2,λh=>⟨?_,h⟩⟩;have h1:0<=x/\x<ps.length:=by refine Classical.byContradiction λhn=>?_;rw[Cr O]at h;cases h
 exact gJ.2 ⟨x.toNat,kY.2 O,by omega⟩
def TC{ps:List bC}{x:Int}(h:x∈dp ps):0<=x:=by refine Classical.byContradiction λhn=>?_;have:=Z1q.1 h;rw[Cr O]at this;cases this
def ZfI{ps:List bC}{p:Int}:(dp ps).filter (λx=>decide ((-1:Int)<x))++(dp ps).filter (λx=>decide (x<(-1:Int)))=dp ps:=by rw[qV.2 λx hx=>bB (show(-1:Int)<x by have:=TC hx;omega),List.filter_eq_nil_iff.2 λx hx=>by have:=TC hx;simp;omega,cC]
abbrev wF:aj:=⟨0,0,0,0,0,0,0,[],0,0,⟨0,0⟩,⟨0,0⟩,⟨0,0⟩⟩
def clV(n:Int):Int:=minI (maxI n (-1000000)) 1000000
def muV(a b:Int):Int:=clV (IntKind.wrap .i64 (clV a*clV b))
def amV(a:dO):Bool:=
 if a.Kind=0 then decide (0<=a.N/\a.N<=1000000/\a.Counter=0/\a.Filter=wF)
 else if a.Kind=2 then decide (1<=a.N/\a.N<=99/\a.Counter=0)&&filV a.Filter
 else if a.Kind=4 then decide (0<=a.Counter/\a.Counter<=2/\a.N=0/\a.Filter=wF)
 else decide (0<=a.Kind/\a.Kind<=7/\a.N=0/\a.Counter=0/\a.Filter=wF)
def usV(a:dO):dO:=if a.Kind=2 then⟨0,0,a.Counter,wF⟩ else if a.Kind=0 then⟨0,0,a.Counter,a.Filter⟩ else if a.Kind=4 then⟨0,a.N,0,a.Filter⟩ else⟨0,a.N,a.Counter,a.Filter⟩
theorem ZfJ(x y:dO):az (dB x) (dB y)=decide (x=y):=Z9y Zau x y
def ZfK{l:List ak}{id i:Int}(hi:i=ixO l id)(h:i<0):(Cq,false)=fdV l id:=ZfC (hi▸h)
def TD{l:List ak}{id i:Int}{x:ak}(hx:l[i.toNat]?=some x)(hi:i=ixO l id)(h:¬i<0):(x,true)=fdV l id:=by subst hi;exact ZfD hx h
def XZ{ps:List bC}{p q:Int}{a b z:List Int}{v:Int}(hz:z=b++a)(ha:a=((dp ps).take v.toNat).filter λx=>decide (x<q))(hb:b=((dp ps).take v.toNat).filter λx=>decide (q<x))(hq:(q = -1/\(p<0\/p>=(ps.length:Int)))\/(q=p/\0<=p/\p<(ps.length:Int)))(hv:((dp ps).length:Int)<=v):z=Z8n ps p:=by
 rw[fC O]at ha hb;rw[hz,ha,hb];unfold Z8n;rcases hq with⟨rfl,h⟩|⟨rfl,h1,h2⟩
 .rw [aP h];exact ZfI (p:=p)
 rw[aI O]
def ZaV(s:ab)(all:List ah)(you src:Int)(f:aj):(nq s all you src f).length<=s.Objects.length:=yV ..
end Go.PW
set_option maxRecDepth 100000
namespace Go.PW
def kwB(a b:Int):Bool:=bJ .and .i64 a b==b
def hidB(s:ab)(all:List ah)(you src id:Int):Bool:=
 if ixO s.Objects id<0 then true
 else if(fdV s.Objects id).1.Zone=0 then kwB (trV all (ixO s.Objects id)).Keys 2048&&decide ((trV all (ixO s.Objects id)).Control≠you)
 else if(fdV s.Objects id).1.Zone=5 then decide (id=src)else false
def lgP(s:ab)(sp:bo):List bc:=if sp.Player then(dp s.Players).map λx=>⟨6,x,0⟩ else[]
def lgO(s:ab)(all:List ah)(c:bV)(sp:bo):List bc:=((nq s all c.You c.Source sp.Filter).filter λid => !hidB s all c.You c.Source id).map λx=>⟨5,x,0⟩
def lgV(s:ab)(all:List ah)(c:bV)(sp:bo):List bc:=lgP s sp++(if sp.Object then lgO s all c sp else[])
theorem fdZ{l:List ak}{id i:Int}{x:ak}(hx:l[i.toNat]?=some x)(hi:i=ixO l id)(h:¬i<0):(fdV l id).1=x:=by rw[<- TD hx hi h]
section
variable {s:ab} {all:List ah} {you src id i:Int} {w:Bool} {x:ak}
end
def ZfL{s:ab}{all:List ah}{c:bV}{sp:bo}(h:sp.Object=false):lgP s sp=lgV s all c sp:=by unfold lgV;rw[h];exact(cC _).symm
def ZfM{s:ab}{all:List ah}{c:bV}{sp:bo}(h:sp.Object=true):lgP s sp++lgO s all c sp=lgV s all c sp:=by unfold lgV;rw[h];rfl
def ZfN{s:ab}{sp:bo}(h:sp.Player=true):(dp s.Players).map (λx=>(⟨6,x,0⟩:bc))=lgP s sp:=by unfold lgP;rw[h];rfl
def ZfO{s:ab}{sp:bo}(h:sp.Player=false):[]=lgP s sp:=by unfold lgP;rw[h];rfl
def ZfP{α β:Type}{f:α->β}{l:List α}{acc z:List β}{v w:Int}{x:α}{y:β}(hz:z=acc++[y])(hx:l[v.toNat]?=some x)(h:acc=(l.take v.toNat).map f)(h0:0<=v)(hy:y=f x)(hw:w=v+1):z=(l.take w.toNat).map f:=by rw[hz,h,jZ hx h0 hw,eL,hy];rfl
def ZaM{α β:Type}{f:α->β}{l:List α}{acc:List β}{v:Int}(h:acc=(l.take v.toNat).map f)(hv:(l.length:Int)<=v):acc=l.map f:=by rw[h,fC O]
end Go.PW
set_option maxRecDepth 100000
namespace Go.PW
def akV(k:bm):Z0b:=⟨k.answers,k.pending,k.waits,k.bad,k.used⟩
abbrev mK:Z3:=⟨0,0,0,0,0,0,[]⟩
def nwV(a:List (List Int)):Z0b:=⟨a,mK,false,false,0⟩
def Wg{a l:List (List Int)}{b:bm}{v w:Int}{x y:List Int}{z:List (List Int)}(hb:b=⟨a.take v.toNat,0,mK,false,false⟩)(hl:l=a)(hx:l[v.toNat]?=some x)(h0:0<=v)(hz:z=b.answers++[y])(hy:y=x)(hw:w=v+1):(⟨z,b.used,b.pending,b.waits,b.bad⟩:bm)=⟨a.take w.toNat,0,mK,false,false⟩:=by subst hl;rw[hz,hy,hb,jZ hx h0 hw]
def Wh{a:List (List Int)}{b:bm}{v:Int}(hb:b=⟨a.take v.toNat,0,mK,false,false⟩)(h:(a.length:Int)<=v):akV b=nwV a:=by rw[hb,fC O];rfl
end Go.PW
set_option maxRecDepth 100000
namespace Go.PW
abbrev Cons(l:List ak)(v:Int):Prop:=(∀(k:Nat) x,(k:Int)<v->l[k]?=some x->1<=x.Id)/\∀(k:Nat) x y,(k:Int)+1<v->l[k]?=some x->l[k+1]?=some y->x.Id<y.Id
def Zgk{l:List ak}:Cons l 0:=⟨λk x h=>by omega,λk x y h=>by omega⟩
def UA{l:List ak}{v w:Int}{x:ak}(hx:l[v.toNat]?=some x)(h:Cons l v)(h0:0<=v)(h1:1<=x.Id)(h2:∀y,0<v->l[(v-1).toNat]?=some y->y.Id<x.Id)(hw:w=v+1):Cons l w:=by
 refine⟨λk y hk hy=>?_,λk y z hk hy hz=>?_⟩
 .rcases vg h0 hw hk hy hx with h'|rfl
  .exact h.1 k y h' hy
  exact h1
 by_cases hk':(k:Int)+1<v
 .exact h.2 k y z hk' hy hz
 have e:k+1=v.toNat:=bg
 rw[e,hx]at hz;cases hz;exact h2 y O (by rw[show(v-1).toNat=k by omega];exact hy)
abbrev Ids(l:List ak):Prop:=(∀o,o∈l->1<=o.Id)/\∀(i j:Nat) x y,l[i]?=some x->l[j]?=some y->x.Id=y.Id->i=j
def C3{l:List ak}(h:Cons l l.length):∀(d i:Nat) x y,l[i]?=some x->l[i+d+1]?=some y->x.Id<y.Id:=by
 intro d;induction d with
 |zero=>intro i x y hx hy;exact h.2 i x y (by have:=(aJ.1 hy).1;omega) hx hy
 |succ d ih=>
  intro i x y hx hy;have hl:=(aJ.1 hy).1;have hz:=bn (l:=l) (i:=i+d+1) O;have h1:=ih i x _ hx hz;have h2:=h.2 (i+d+1) _ y O hz hy;omega
def Zf4{l:List ak}{v:Int}(h:Cons l v)(hv:(l.length:Int)<=v):Ids l:=by
 have h':Cons l l.length:=⟨λk x hk=>h.1 k x O,λk x y hk=>h.2 k x y O⟩;refine⟨λo ho=>?_,λi j x y hx hy e=>?_⟩
 .obtain⟨k,hk⟩:=List.mem_iff_getElem?.1 ho;exact h'.1 k o (by have:=(aJ.1 hk).1;omega) hk
 rcases Nat.lt_trichotomy i j with hij|hij|hij
 .have:=C3 h' (j-i-1) i x y hx Sy;omega
 .exact hij
 have:=C3 h' (i-j-1) j y x hy (by rw[show j+(i-j-1)+1=i by omega];exact hx);omega
section
variable {s:ab} {all:List ah} {c:bV} {sp:bo}
end
def one{x y:bc}(h:az (bj x) (bj y)=false):x≠y:=by rw[Zay]at h;exact of_decide_eq_false h
def teq{x y:bW}(h:az (cc x) (cc y)=true):x=y:=by rw[Zaw]at h;exact gE h
section
variable {s:ab} {all:List ah} {c:bV} {sp:bo} {t:bW} {sps:List bo} {l acc z:List bW} {a b b':Bool} {v w:Int}
end
def Zgl{l:List ak}{v w:Int}{x z:ak}(hz:l[w.toNat]?=some z)(e:w=v-1)(h:¬z.Id>=x.Id):∀y,0<v->l[(v-1).toNat]?=some y->y.Id<x.Id:=λy _ hy=>by rw[<- e,hz]at hy;cases hy;omega
end Go.PW
set_option maxRecDepth 100000
namespace Go.PW
def Z8o(c:Z4):Bool:=decide (0<=c.Generic/\c.Generic<=99/\0<=c.X/\c.X<=2/\∀n,n∈A5.list c.Color->0<=n/\n<=9)
def bt(n:Int)(k:Nat):Int:=if n>0 then(2:Int) ^ k else 0
def coP(x:A5 Int)(v:Int):Int:=(if 0<v then bt x.a0 0 else 0)+((if 1<v then bt x.a1 1 else 0)+((if 2<v then bt x.a2 2 else 0)+((if 3<v then bt x.a3 3 else 0)+(if 4<v then bt x.a4 4 else 0))))
def coV(c:Z4):Int:=if Z8o c then coP c.Color 5 else 0
def Zf7(x:A5 Int):0=coP x 0:=by simp[coP]
def U3{x:A5 Int}{v w n:Int}(hx:(A5.list x)[v.toNat]?=some n)(h0:0<=v)(h5:v<5)(hw:w=v+1):coP x w=coP x v+bt n v.toNat/\0<=coP x v/\coP x v<2 ^ v.toNat:=by
 subst hw;have b:∀n k,0<=bt n k/\bt n k<=(2:Int) ^ k:=λn k=>by unfold bt;split<;>constructor<;>first|exact ss _|exact Int.le_of_lt (Int.pow_pos aS)|exact Int.le_of_lt (Int.pow_pos aS)|omega
 have b0:=b x.a0 0;have b1:=b x.a1 1;have b2:=b x.a2 2;have b3:=b x.a3 3;have hv:v=0\/v=1\/v=2\/v=3\/v=4:=bg
 rcases hv with rfl|rfl|rfl|rfl|rfl<;>(simp[A5.list]at hx;subst hx;simp[coP]at *;try omega)
def ZiD:∀i:Fin 5,∀v:Fin 16,v.val<2 ^ i.val->bJ .or .i64 (v.val:Int) (Z65 .i64 1 (i.val:Int))=((v.val+2 ^ i.val:Nat):Int):=by decide+kernel
def Zf8{x:A5 Int}{v w n a:Int}(hx:(A5.list x)[v.toNat]?=some n)(h:a=coP x v)(h0:0<=v)(h5:v<5)(hp:n>0)(hw:w=v+1):bJ .or .i64 a (Z65 .i64 1 v)=coP x w:=by
 obtain⟨h1,h2,h3⟩:=U3 hx h0 h5 hw;rw[h1,<- h];rw[<- h]at h2 h3;have hv:v.toNat<=4:=bg
 have hb:(2:Int) ^ v.toNat<=16:=by
  have:v.toNat=0\/v.toNat=1\/v.toNat=2\/v.toNat=3\/v.toNat=4:=bg
  rcases this with h|h|h|h|h<;>rw[h]<;>decide
 have:=ZiD ⟨v.toNat,by omega⟩ ⟨a.toNat,by omega⟩ (by
  have:(a.toNat:Int)<((2 ^ v.toNat:Nat):Int):=by rw[Int.natCast_pow];show(a.toNat:Int)<(2:Int) ^ v.toNat;omega
  exact_mod_cast this)
 simp only at this;rw[show((a.toNat:Nat):Int)=a by omega,show((v.toNat:Nat):Int)=v by omega]at this;rw[this];unfold bt;rw[aP hp]
 push_cast
 omega
def Zf9{x:A5 Int}{v w n a:Int}(hx:(A5.list x)[v.toNat]?=some n)(h:a=coP x v)(h0:0<=v)(h5:v<5)(hp:¬n>0)(hw:w=v+1):a=coP x w:=by rw[(U3 hx h0 h5 hw).1,<- h];unfold bt;rw[aI hp];omega
def ZiE{x:A5 Int}(h:x=⟨0,0,0,0,0⟩)(v:Int):0=coP x v:=by subst h;unfold coP bt;simp
def a5eq{x y:A5 Int}:az (cA5 (cI .i64) x) (cA5 (cI .i64) y)=decide (x=y):=Z9y (Zdq (nD .i64)) x y
def ZfY{c:Z4}{n v:Int}(hx:(A5.list c.Color)[v.toNat]?=some n)(h:n<0\/n>9):false=Z8o c:=by
 symm;unfold Z8o
 exact bO λhc=>by have:=hc.2.2.2.2 n (cj hx);omega
def ZfZ{c:Z4}{v:Int}(h:∀(k:Nat) x,(k:Int)<v->(A5.list c.Color)[k]?=some x->0<=x/\x<=9)(hv:5<=v):Z8o c=decide (0<=c.Generic/\c.Generic<=99/\0<=c.X/\c.X<=2):=by
 have hall:∀n,n∈A5.list c.Color->0<=n/\n<=9:=λn hn=>by obtain⟨k,hk⟩:=List.mem_iff_getElem?.1 hn;have:k<5:=(aJ.1 hk).1;exact h k n O hk
 unfold Z8o;rw[sW];exact⟨λh=>⟨h.1,h.2.1,h.2.2.1,h.2.2.2.1⟩,λh=>⟨h.1,h.2.1,h.2.2.1,h.2.2.2,hall⟩⟩
def Zf2{c:Z4}(h:Z8o c=false):0=coV c:=by unfold coV;rw[h];rfl
def Zf1{c:Z4}(h:az (cA5 (cI .i64) c.Color) (cA5 (cI .i64) ⟨0,0,0,0,0⟩)=true):0=coV c:=by
 rw[a5eq]at h;unfold coV;split
 .exact ZiE (gE h) 5
 rfl
def Zf0{c:Z4}{x:A5 Int}{a v:Int}(h:Z8o c=true)(e:x=c.Color)(hx:a=coP x v)(h1:5<=v)(h2:v<=5):a=coV c:=by
 obtain rfl:v=5:=bg
 subst e;unfold coV;rw[hx,h];rfl
def prV(c:aw):ah:=⟨c.Name,c.Cost,bJ .or .i64 (coV c.Cost) c.Color,c.Line,c.Power,c.Tough,c.Keys,c.Abilities,0⟩
def cdAt(cards:List aw)(i:Int):ah:=match(if i<0 then none else cards[i.toNat]?)with|some c=>prV c|none=>oa
def UF{cards:List aw}{i:Int}{c:aw}(hx:cards[i.toNat]?=some c)(h:0<=i):cdAt cards i=prV c:=by unfold cdAt;rw[aI O,hx]
def CL{cards:List aw}{i:Int}(h:i<0\/i>=(cards.length:Int)):cdAt cards i=oa:=by
 unfold cdAt;by_cases h0:i<0
 .rw [aP h0]
 rw[aI h0,lM O]
def baV(cards:List aw)(o:ak):ah:={ cdAt cards (if o.Copy<0 then o.Card else o.Copy)with Control:=if o.Zone=0\/o.Zone=5 then o.Control else o.Owner }
def D4{cards:List aw}(h:∀c,c∈cards->c.Abilities.length<=8)(o:ak):(baV cards o).Abilities.length<=8:=by
 show(cdAt cards _).Abilities.length<=8;generalize (if o.Copy<0 then o.Card else o.Copy)=i;by_cases h0:i<0
 .rw [CL (.inl h0)];exact fW _
 cases hx:cards[i.toNat]? with
 |none=>rw[CL (.inr (by have:=List.getElem?_eq_none_iff.1 hx;omega))];exact fW _
 |some c=>rw[UF hx O];exact h c (cj hx)
def Z8p{α:Type}{l:List α}{i:Nat}{x:α}(h:l[i]?=some x):l.set i x=l:=by
 obtain⟨hi,he⟩:=aJ.1 h;refine List.ext_getElem? λj=>?_;rw[List.getElem?_set];split
 .rename_i e;subst e;exact h.symm
 rfl
def ZgH{a b:an}{v:Int}{x:bh}{m:List ai}{z:List bh}(e:b=a)(hx:b.Effects[v.toNat]?=some x)(hm:m=x.Mods)(hz:z=b.Effects.set v.toNat ⟨x.Op,x.Ref,x.Amount,x.Counter,x.Zone,x.Card,x.Filter,x.Pool,m⟩):(⟨b.Kind,b.Filter,b.Mods,b.Price,b.Slow,b.Trigger,b.May,b.Specs,z,b.Replace⟩:an)=a:=by subst hm;have:z=b.Effects:=hz.trans (Z8p hx);rw[this];exact e
def pr_0{c:aw}{m:Int}{s:List (List UInt8)}(hm:m=coV c.Cost)(hs:s=c.Line.Subs):(⟨c.Name,c.Cost,bJ .or .i64 m c.Color,⟨c.Line.Super,c.Line.Types,s⟩,c.Power,c.Tough,c.Keys,[],0⟩:ah)={ prV c with Abilities:=c.Abilities.take (0:Int).toNat }:=by subst hm;subst hs;rfl
def Zgr{c:aw}{t:ah}{v w:Int}{x y:an}{z:List an}(h:t={ prV c with Abilities:=c.Abilities.take v.toNat })(hx:c.Abilities[v.toNat]?=some x)(h0:0<=v)(hw:w=v+1)(hy:y=x)(hz:z=t.Abilities++[y]) :
 (⟨t.Name,t.Cost,t.Colors,t.Line,t.Power,t.Tough,t.Keys,z,t.Control⟩:ah)={ prV c with Abilities:=c.Abilities.take w.toNat }:=by
 subst hy;subst hz;subst h;rw[jZ hx h0 hw]
def Yk{c:aw}{t:ah}{v:Int}(h:t={ prV c with Abilities:=c.Abilities.take v.toNat })(hv:(c.Abilities.length:Int)<=v):t=prV c:=by rw[h,fC O];rfl
def ba_c{cards:List aw}{o:ak}{t:ah}{i:Int}(h:t=cdAt cards i)(hi:i=if o.Copy<0 then o.Card else o.Copy)(hz:o.Zone=0\/o.Zone=5):(⟨t.Name,t.Cost,t.Colors,t.Line,t.Power,t.Tough,t.Keys,t.Abilities,o.Control⟩:ah)=baV cards o:=by unfold baV;rw[aP hz,<- hi,<- h]
def ba_o{cards:List aw}{o:ak}{t:ah}{i:Int}(h:t=cdAt cards i)(hi:i=if o.Copy<0 then o.Card else o.Copy)(hz:¬(o.Zone=0\/o.Zone=5)):(⟨t.Name,t.Cost,t.Colors,t.Line,t.Power,t.Tough,t.Keys,t.Abilities,o.Owner⟩:ah)=baV cards o:=by unfold baV;rw[aI hz,<- hi,<- h]
def st_0{s a:ab}{v:Int}{x y:bC}{z:List bC}(e:s=a)(hx:s.Players[v.toNat]?=some x)(hy:y=x)(hz:z=s.Players.set v.toNat y):(⟨z,s.Objects,s.Battlefield,s.Exile,s.Stack,s.Waiting,s.Conts,s.Turn,s.Active,s.Step,s.Begun,s.Priority,s.Passes,s.NextId,s.NextStamp,s.Seed,s.Extra,s.Over,s.Winner⟩:ab)=a:=by subst hy;rw[hz,Z8p hx];exact e
def Zgz{s a:ab}{v:Int}{x x8:Z1}{y:an}{m:List bW}{z w:List Z1}(e:s=a)(hx:s.Stack[v.toNat]?=some x)(hy:y=x.Ability)(hz:z=s.Stack.set v.toNat ⟨x.Id,x.Kind,x.Source,x.Control,x.X,x.Copy,y,x.Targets,x.Event⟩)(hx8:z[v.toNat]?=some x8)(hm:m=x8.Targets)(hw:w=z.set v.toNat ⟨x8.Id,x8.Kind,x8.Source,x8.Control,x8.X,x8.Copy,x8.Ability,m,x8.Event⟩):(⟨s.Players,s.Objects,s.Battlefield,s.Exile,w,s.Waiting,s.Conts,s.Turn,s.Active,s.Step,s.Begun,s.Priority,s.Passes,s.NextId,s.NextStamp,s.Seed,s.Extra,s.Over,s.Winner⟩:ab)=a:=by subst hy;subst hm;rw[hw,Z8p hx8,hz,Z8p hx];exact e
def st_2{s a:ab}{v:Int}{x:Z2}{y:an}{z:List Z2}(e:s=a)(hx:s.Waiting[v.toNat]?=some x)(hy:y=x.Ability)(hz:z=s.Waiting.set v.toNat ⟨x.Source,x.Control,y,x.Event⟩):(⟨s.Players,s.Objects,s.Battlefield,s.Exile,s.Stack,z,s.Conts,s.Turn,s.Active,s.Step,s.Begun,s.Priority,s.Passes,s.NextId,s.NextStamp,s.Seed,s.Extra,s.Over,s.Winner⟩:ab)=a:=by subst hy;rw[hz,Z8p hx];exact e
def st_3{s a:ab}{v:Int}{x y:ck}{m:List Int}{q:List ai}{z w:List ck}(e:s=a)(hx:s.Conts[v.toNat]?=some x)(hm:m=x.Objects)(hz:z=s.Conts.set v.toNat ⟨x.Stamp,x.Control,x.Source,x.Until,m,x.Mods⟩)(hy:z[v.toNat]?=some y)(hq:q=y.Mods)(hw:w=z.set v.toNat ⟨y.Stamp,y.Control,y.Source,y.Until,y.Objects,q⟩):(⟨s.Players,s.Objects,s.Battlefield,s.Exile,s.Stack,s.Waiting,w,s.Turn,s.Active,s.Step,s.Begun,s.Priority,s.Passes,s.NextId,s.NextStamp,s.Seed,s.Extra,s.Over,s.Winner⟩:ab)=a:=by subst hm;subst hq;have:z=s.Conts:=hz.trans (Z8p hx);rw[hw,Z8p hy,this];exact e
def sfA{l m:List U}(h:az l l=true)(k:az m m=true):az (l++m) (l++m)=true:=by rw[Z16 _ _ _ _ rfl,h,k];rfl
def sfI(k:IntKind)(n:Int):az (cI k n) (cI k n)=true:=by simp[cI,az,hU]
def sfB(b:Bool):az (cB b) (cB b)=true:=by simp[cB,az,hU]
def sfS(b:List UInt8):az (cS b) (cS b)=true:=by simp[cS,az,hU]
def sf3(x:A3 Int):az ((cA3 (cI .i64)) x) ((cA3 (cI .i64)) x)=true:=by simp[cA3,cI,az,hU,A3.list]
def sf5(x:A5 Int):az ((cA5 (cI .i64)) x) ((cA5 (cI .i64)) x)=true:=by simp[cA5,cI,az,hU,A5.list]
theorem sf6(x:A6 Int):az ((cA6 (cI .i64)) x) ((cA6 (cI .i64)) x)=true:=by simp[cA6,cI,az,hU,A6.list]
def ZiF(x:ae):az (e9 x) (e9 x)=true:=by unfold e9;repeat' first|exact sfI _ _|exact sfB _|exact sfS _|exact sf3 _|exact sf5 _|exact sf6 _|refine sfA ?_ ?_
theorem U4(x:fa):az (fQ x) (fQ x)=true:=by unfold fQ;repeat' first|exact sfI _ _|exact sfB _|exact sfS _|exact sf3 _|exact sf5 _|exact sf6 _|refine sfA ?_ ?_
theorem ov(x:aj):az (bf x) (bf x)=true:=by unfold bf;repeat' first|exact sfI _ _|exact sfB _|exact sfS _|exact sf3 _|exact sf5 _|exact sf6 _|exact ZiF _|refine sfA ?_ ?_
theorem ZiG(x:dO):az (dB x) (dB x)=true:=by unfold dB;repeat' first|exact sfI _ _|exact sfB _|exact sfS _|exact sf3 _|exact sf5 _|exact sf6 _|exact ov _|exact U4 _|refine sfA ?_ ?_
theorem U5(x:Z4):az (cJ x) (cJ x)=true:=by unfold cJ;repeat' first|exact sfI _ _|exact sfB _|exact sfS _|exact sf3 _|exact sf5 _|exact sf6 _|refine sfA ?_ ?_
theorem ZiH(x:gM):az (hN x) (hN x)=true:=by unfold hN;repeat' first|exact sfI _ _|exact sfB _|exact sfS _|exact sf3 _|exact sf5 _|exact sf6 _|exact U5 _|refine sfA ?_ ?_
theorem ZiI(x:ai):az (aF x) (aF x)=true:=by unfold aF;repeat' first|exact sfI _ _|exact sfB _|exact sfS _|exact sf3 _|exact sf5 _|exact sf6 _|exact ov _|refine sfA ?_ ?_
theorem ZiJ(x:bo):az (bS x) (bS x)=true:=by unfold bS;repeat' first|exact sfI _ _|exact sfB _|exact sfS _|exact sf3 _|exact sf5 _|exact sf6 _|exact ov _|refine sfA ?_ ?_
theorem ZiK(x:eW):az (gP x) (gP x)=true:=by unfold gP;repeat' first|exact sfI _ _|exact sfB _|exact sfS _|exact sf3 _|exact sf5 _|exact sf6 _|exact ov _|refine sfA ?_ ?_
theorem ZiL(x:dn):az (fw x) (fw x)=true:=by unfold fw;repeat' first|exact sfI _ _|exact sfB _|exact sfS _|exact sf3 _|exact sf5 _|exact sf6 _|exact ov _|refine sfA ?_ ?_
theorem ZiM(x:bW):az (cc x) (cc x)=true:=by unfold cc;repeat' first|exact sfI _ _|exact sfB _|exact sfS _|exact sf3 _|exact sf5 _|exact sf6 _|refine sfA ?_ ?_
theorem ZiN(x:jA):az (jK x) (jK x)=true:=by unfold jK;repeat' first|exact sfI _ _|exact sfB _|exact sfS _|exact sf3 _|exact sf5 _|exact sf6 _|refine sfA ?_ ?_
theorem ZiO(x:ak):az (aC x) (aC x)=true:=by unfold aC;repeat' first|exact sfI _ _|exact sfB _|exact sfS _|exact sf3 _|exact sf5 _|exact sf6 _|refine sfA ?_ ?_
def sm{p:Prop}(h:p:=by intro h;subst h;first|rfl|(exfalso;omega)|grind[U4,ov,ZiG,U5,ZiH,ZiI,ZiJ,ZiK,ZiL,ZiM,ZiN,ZiO,sf6]):=h
end Go.PW
set_option maxRecDepth 100000
namespace Go.PW
def abF{α:Type}(f:Int->an->α)(l:List an)(v:Int):List α:=((l.take v.toNat).zipIdx.filter λp=>p.1.Kind==1).map λp=>f p.2 p.1
def D0{α:Type}{f:Int->an->α}{l:List an}{v w:Int}{x:an}(hx:l[v.toNat]?=some x)(h0:0<=v)(hw:w=v+1) :
 abF f l w=abF f l v++if x.Kind==1 then[f v x]else[]:=by
 subst hw;have hv:(v+1).toNat=v.toNat+1:=bg
 have hlt:=(aJ.1 hx).1;unfold abF;rw[hv,lf,hx,ta,List.zipIdx_append,j3,eL];congr 1;rw[fH,tb O,aM];simp only[List.zipIdx_cons,List.zipIdx_nil,j4,tc];split
 .simp only[cw,fI];rw[oO h0]
 rfl
def D1{α:Type}{f:Int->an->α}{l:List an}{c z a:List α}{v w:Int}{x:an}{y:α}(hz:z=a++[y])(ha:a=c++abF f l v)(hx:l[v.toNat]?=some x)(h0:0<=v)(hw:w=v+1)(hk:x.Kind=1)(hy:y=f v x):z=c++abF f l w:=by rw[D0 hx h0 hw,aP lg,hz,ha,hy,gI]
def WK{α:Type}{f:Int->an->α}{l:List an}{c a:List α}{v w:Int}{x:an}(ha:a=c++abF f l v)(hx:l[v.toNat]?=some x)(h0:0<=v)(hw:w=v+1)(hk:¬x.Kind=1):a=c++abF f l w:=by rw[D0 hx h0 hw,aI lg,ha,cC]
def WL{α:Type}{f:Int->an->α}{l:List an}{c a:List α}(h:a=c):a=c++abF f l 0:=by rw[h];simp[abF]
def obF1{α:Type}(f:ak->Int->an->α)(cards:List aw)(o:ak):List α:=if o.Zone=0 then abF (f o) (baV cards o).Abilities (baV cards o).Abilities.length else[]
def obF{α:Type}(f:ak->Int->an->α)(cards:List aw)(l:List ak)(v:Int):List α:=(l.take v.toNat).flatMap (obF1 f cards)
def WM{α:Type}{f:ak->Int->an->α}{cards:List aw}{l:List ak}:([]:List α)=obF f cards l 0:=by simp[obF]
def D2{α:Type}{f:ak->Int->an->α}{cards:List aw}{l:List ak}{v w:Int}{x:ak}(hx:l[v.toNat]?=some x)(h0:0<=v)(hw:w=v+1):obF f cards l w=obF f cards l v++obF1 f cards x:=by
 subst hw;have hv:(v+1).toNat=v.toNat+1:=bg
 unfold obF;rw[hv,lf,hx,ta,List.flatMap_append];simp
def WN{α:Type}{f:ak->Int->an->α}{cards:List aw}{l:List ak}{a:List α}{v w:Int}{x:ak}(ha:a=obF f cards l v)(hx:l[v.toNat]?=some x)(h0:0<=v)(hw:w=v+1)(hz:x.Zone≠0):a=obF f cards l w:=by rw[D2 hx h0 hw,obF1,aI hz,cC,ha]
def WO{α:Type}{f:ak->Int->an->α}{cards:List aw}{l:List ak}{a:List α}{v w u:Int}{x:ak}{t:List an}(ha:a=obF f cards l v++abF (f x) t u)(ht:t=(baV cards x).Abilities)(hx:l[v.toNat]?=some x)(h0:0<=v)(hw:w=v+1)(hz:x.Zone=0)(hu:u=t.length):a=obF f cards l w:=by rw[D2 hx h0 hw,obF1,aP hz,ha,hu,ht]
def D3{α:Type}{f:Int->an->α}{l:List an}{v:Int}:(abF f l v).length<=l.length:=by unfold abF;rw[da];refine cX (List.length_filter_le _ _) ?_;rw[List.length_zipIdx,fH];omega
def td{α:Type}{f:ak->Int->an->α}{cards:List aw}{l:List ak}{v:Int}(h:∀c,c∈cards->c.Abilities.length<=8):(obF f cards l v).length<=8*l.length:=by
 unfold obF;have key:∀m:List ak,(m.flatMap (obF1 f cards)).length<=8*m.length:=by
  intro m;induction m with
  |nil=>simp
  |cons o r ih=>
   rw[List.flatMap_cons,bF,bT];have:(obF1 f cards o).length<=8:=by
    unfold obF1;split
    .exact cX D3 (D4 h o)
    simp
   omega
 refine cX (key _) ?_;rw[fH];omega
def coF{α:Type}(g:ck->α)(l:List ck)(v:Int):List α:=(l.take v.toNat).map g
def D5{α:Type}{g:ck->α}{l:List ck}{c a z:List α}{v w:Int}{x:ck}{y:α}(hz:z=a++[y])(ha:a=c++coF g l v)(hx:l[v.toNat]?=some x)(h0:0<=v)(hw:w=v+1)(hy:y=g x):z=c++coF g l w:=by
 subst hw;have hv:(v+1).toNat=v.toNat+1:=bg
 unfold coF;rw[hv,lf,hx,ta,eL,hz,ha,hy,gI];rfl
def WQ{α:Type}{g:ck->α}{l:List ck}{c a:List α}(h:a=c):a=c++coF g l 0:=by rw[h];simp[coF]
def FS{α:Type}(f:ak->Int->an->α)(g:ck->α)(cards:List aw)(s:ab):List α:=obF f cards s.Objects s.Objects.length++coF g s.Conts s.Conts.length
def WR{α:Type}{f:ak->Int->an->α}{g:ck->α}{cards:List aw}{s:ab}{a:List α}{v:Int}{l:List ck}(h:a=obF f cards s.Objects s.Objects.length++coF g l v)(hl:l=s.Conts)(hv:v=l.length):a=FS f g cards s:=by rw[h,hv,hl];rfl
def WS{α:Type}{f:ak->Int->an->α}{g:ck->α}{cards:List aw}{s:ab}(h:∀c,c∈cards->c.Abilities.length<=8):(FS f g cards s).length<=8*s.Objects.length+s.Conts.length:=by unfold FS coF;have:=td (f:=f) (l:=s.Objects) (v:=s.Objects.length) h;rw[bF,da,fH];omega
abbrev WU:aj:=⟨0,0,0,0,0,0,0,[],0,0,⟨0,0⟩,⟨0,0⟩,⟨0,0⟩⟩
def fL(o:ak)(k:Int)(a:an):cU:=⟨o.Id,k,o.Control,o.Stamp,false,[],a.Filter,a.Mods⟩
def gL(c:ck):cU:=⟨c.Source,-1,c.Control,c.Stamp,true,c.Objects,WU,c.Mods⟩
end Go.PW
namespace Go.PW
def Yz{i j n:Int}(h0:0<=i)(h1:i<=j)(h2:j<=n)(h3:n<=140737488351232):IntKind.wrap .i64 (shrI .u64 (IntKind.wrap .u64 (IntKind.wrap .i64 (i+j))) 1)=(i+j)/2:=by
 have a:IntKind.wrap .i64 (i+j)=i+j:=eu O O;have b:IntKind.wrap .u64 (i+j)=i+j:=by
  have:IntKind.u64.wrap (i+j)=(i+j)%18446744073709551616:=by simp[IntKind.wrap,IntKind.bits,IntKind.signed]
  rw[this];omega
 have c:shrI .u64 (i+j) 1=(i+j)/2:=by unfold shrI;rw[Int.fdiv_eq_ediv_of_nonneg _ aS];rfl
 rw[a,b,c];exact eu O O
def HI(n:Nat)(hs:List (List Int)):Prop:=∀h,h∈hs->h.length<=n/\∀k,k∈h->0<=k/\k<(n:Int)
def Iy{n:Nat}:HI n []:=λ_ h=>di
def Iz{n:Nat}{hs:List (List Int)}(h:∀e,e∈hs->e=[]):HI n hs:=λe he=>by rw[h e he];exact⟨fW _,λ_ h=>by cases h⟩
def Zq{n:Nat}{hs hs':List (List Int)}{v:List Int}(h:HI n hs)(hl:v.length<=n)(hv:∀k,k∈v->0<=k/\k<(n:Int))(hm:∀e,e∈hs'->e=v\/e∈hs):HI n hs':=λe he=>by
 rcases hm e he with rfl|h1
 .exact⟨hl,hv⟩
 exact h e h1
def ML(fs:List cU)(a:Int)(l:List Int):Prop:=∀f,fs[a.toNat]?=some f->l.length=f.Mods.length
def ml_i{fs:List cU}{a:Int}{l:List Int}{f:cU}(h:fs[a.toNat]?=some f)(hl:l.length=f.Mods.length):ML fs a l:=λg hg=>by have:=c9 (hg.symm.trans h);subst this;exact hl
def INR(n:Nat)(l:List Int):Prop:=∀k,k∈l->0<=k/\k<(n:Int)
def CM{n:Nat}:INR n []:=λ_ h=>di
def UG{n:Nat}{a b:List Int}{k:Int}(hb:b=a++[k])(h:INR n a)(h0:0<=k)(h1:k<(n:Int)):INR n b:=λx hx=>by
 subst hb;rcases cD.1 hx with h2|h2
 .exact h x h2
 rw[gC]at h2;subst h2;exact⟨h0,h1⟩
def uD{n:Nat}{a:List Int}{i:Nat}{k:Int}(h:INR n a)(m:a[i]?=some k):0<=k/\k<(n:Int):=h k (cj m)
def ZgB{n:Nat}{a b:List Int}(h:INR n a)(hs:∀x,x∈b->x∈a):INR n b:=λk hk=>h k (hs k hk)
def SUB(b a:List Int):Prop:=∀x,x∈b->x∈a
def UH{a:List Int}:SUB [] a:=λ_ h=>di
def ZgL{a b c:List Int}{x:Int}{i:Nat}(hc:c=b++[x])(h:SUB b a)(m:a[i]?=some x):SUB c a:=λy hy=>by
 subst hc;rcases cD.1 hy with h2|h2
 .exact h y h2
 rw[gC]at h2;subst h2;exact cj m
def sub_app'{a b c d:List Int}{x:Int}{i:Nat}(hc:c=b++[x])(h:SUB b a)(hd:SUB d a)(m:d[i]?=some x):SUB c a:=λy hy=>by
 subst hc;rcases cD.1 hy with h2|h2
 .exact h y h2
 rw[gC]at h2;subst h2;exact hd _ (cj m)
def ZgO{a d:List Int}{x:Int}{i:Nat}(hd:SUB d a)(m:d[i]?=some x):x<0\/x∈a :=.inr (hd _ (cj m))
def RWS(n:Nat)(m:List (List Bool)):Prop:=∀r,r∈m->r.length=n
def ZgG{n:Nat}{m m':List (List Bool)}{i j:Int}{y:List Bool}{v:Bool}(h:RWS n m)(hy:m[i.toNat]?=some y)(e:m'=m.set i.toNat (y.set j.toNat v)):RWS n m':=λr hr=>by
 subst e;rcases lV hr with h1|h1
 .exact h r h1
 rw[h1,gq];exact h y (cj hy)
def Z3r{n:Nat}{m:List (List Bool)}{i:Nat}{y:List Bool}(h:RWS n m)(hy:m[i]?=some y):y.length=n:=h y (cj hy)
def RWV(n:Nat)(m:List (List Bool))(v:Int):Prop:=∀(k:Nat) r,(k:Int)<v->m[k]?=some r->r.length=n
def UD{n:Nat}{m:List (List Bool)}:RWV n m 0:=λk r hk=>bg
def ZiY{n:Nat}{m m':List (List Bool)}{v w:Int}{y:List Bool}(h:RWV n m v)(h0:0<=v)(hw:w=v+1)(hy:y.length=n)(e:m'=m.set v.toNat y):RWV n m' w:=λk r hk hr=>by
 subst e;subst hw;by_cases hkv:k=v.toNat
 .subst hkv;rw[List.getElem?_set_self']at hr;cases h1:m[v.toNat]? with
  |none=>rw[h1]at hr;simp at hr
  |some z=>rw[h1]at hr;simp at hr;subst hr;exact hy
 rw[iG (λe=>hkv e.symm)]at hr;exact h k r O hr
def ZgF{n:Nat}{m:List (List Bool)}{v:Int}(h:RWV n m v)(hv:(m.length:Int)<=v):RWS n m:=λr hr=>by obtain⟨k,hk⟩:=List.mem_iff_getElem?.1 hr;have:=(aJ.1 hk).1;exact h k r O hk
def neI(i x:Int):Bool := !(x==i)
def ZiZ{l:List Int}{i:Int}(h:i∈l):(l.filter (neI i)).length<l.length:=by
 induction l with
 |nil=>cases h
 |cons a l ih=>
  rw[j4];by_cases ha:a=i
  .subst ha;have:neI a a=false:=by simp[neI]
   rw[this];have:=List.length_filter_le (neI a) l;simp only[fb,fy,bT];omega
  rcases cn.1 h with h1|h1
  .exact absurd h1.symm ha
  have:=ih h1;split<;>simp only[bT]<;>omega
def Zi0{l:List Int}{p:Int->Bool}:SUB (l.filter p) l:=λx hx=>(gy.1 hx).1
def Zgm{n:Nat}{m m':List (List Bool)}{w i j:Int}{y:List Bool}{v:Bool}(h:RWV n m w)(hy:m[i.toNat]?=some y)(hw:i<w)(h0:0<=i)(e:m'=m.set i.toNat (y.set j.toNat v)):RWV n m' w:=λk r hk hr=>by
 subst e;by_cases hkv:k=i.toNat
 .subst hkv;rw[List.getElem?_set_self',hy]at hr;simp at hr;rw[<- hr,gq];exact h i.toNat y O hy
 rw[iG (λe=>hkv e.symm)]at hr;exact h k r hk hr
def pW{n:Nat}{m:List (List Bool)}{w:Int}{i:Nat}{y:List Bool}(h:RWV n m w)(hi:(i:Int)<w)(hy:m[i]?=some y):y.length=n:=h i y hi hy
def POS(l:List Int):Prop:=∀k,k∈l->0<=k
def Ze{a d:List Int}{i:Nat}{k:Int}(h:POS a)(hs:SUB d a)(m:d[i]?=some k):0<=k:=h k (hs k (cj m))
def ZaF{n:Nat}{a:List Int}(h:INR n a):POS a:=λk hk=>(h k hk).1
def UE{n:Nat}{m m':List (List Bool)}{v w:Int}{y:List Bool}(e:m'.length=m.length/\(∀e:List Bool,e∈m'->e=y\/e∈m)/\m'=m.set v.toNat y)(h:RWV n m v)(h0:0<=v)(hw:w=v+1)(hy:y.length=n):RWV n m' w:=ZiY h h0 hw hy e.2.2
def ZgQ{n k:Nat}{m:List (List Bool)}(h:RWS n m)(e:k=n):RWS k m:=by rw[e];exact h
def ZaE{n k:Nat}{m:List Int}(h:INR n m)(e:k=n):INR k m:=by rw[e];exact h
def asz{p:Prop}(h:p:=by with_reducible assumption):=h
def ZaG{n:Nat}{a:List Int}{k:Int}(h:INR n a)(hk:k<0\/k∈a):k<0\/(0<=k/\k<(n:Int)):=hk.imp id (h k)
def flt_lt'{r l:List Int}{i:Int}(e:r=l.filter (neI i))(h:i<0\/i∈l)(h0:¬i<0):r.length<l.length:=by rw[e];exact ZiZ (h.resolve_left h0)
def flt_sub'{r l:List Int}{p:Int->Bool}(e:r=l.filter p):SUB r l:=by rw[e];exact Zi0
def UI{n i:Nat}{hs:List (List Int)}{x:List Int}(h:HI n hs)(m:hs[i]?=some x):x.length<=n/\INR n x:=h x (cj m)
def Tot.lk{α:Type}{x:α}:Tot (Option.some x) λr=>r=x:=⟨x,rfl,rfl⟩
abbrev SZV(v:dA):Prop:=(SzL 8 (λ_=>True)) v.hits/\(SzL 8 (λ_=>True)) v.numbers
def MSZ(m:List (Int×dA)):Prop:=∀p,p∈m->SZV p.2
def ZgM:MSZ []:=λ_ h=>di
def ZgN{m z:List (Int×dA)}{n:Int}{x:dA}(e:z=bZ m n x)(h:MSZ m)(hx:SZV x):MSZ z:=λp hp=>by
 subst e;rcases MD hp with h1|h1
 .exact h p h1
 rw[h1];exact hx
def Zi1{m:List (Int×dA)}{n:Int}{z:dA}{x:dA×Bool}(e:x=mlk m n z)(h:MSZ m)(hz:SZV z):SZV x.1:=by
 subst e;unfold mlk;split
 .rename_i y hy;have key:∀{m:List (Int×dA)},dR m n=some y->∃p,p∈m/\p.2=y:=by
   intro m;induction m with
   |nil=>intro h;cases h
   |cons q m ih=>
    intro h;obtain⟨k,w⟩:=q;unfold dR at h;cases hk:k==n with
    |true=>rw[hk,av]at h;exact⟨(k,w),by simp,c9 h⟩
    |false=>
     rw[hk,au]at h;obtain⟨p,h1,h2⟩:=ih h;exact⟨p,cK _ h1,h2⟩
  obtain⟨p,h1,h2⟩:=key hy;rw[<- h2];exact h p h1
 exact hz
def szx{p:Prop}(h:p:=by first|with_reducible assumption|(dsimp only;with_reducible assumption)|exact⟨by omega,λ_ _=>trivial⟩|exact⟨by omega,λr hr=>⟨by rw[(by assumption:RWS _ _) r hr];omega,λ_ _=>trivial⟩⟩|exact Zi1 V V ⟨SzL.nil,SzL.nil⟩|exact(by with_reducible assumption:Z0 _).2.1|exact(by with_reducible assumption:Z0 _).2.2):=h
def SrtO(l:List ak):Prop:=∀(i j:Nat) x y,i<j->l[i]?=some x->l[j]?=some y->x.Id<y.Id
def Zf5{l:List ak}{v:Int}(h:Cons l v)(hv:(l.length:Int)<=v):SrtO l:=by have h':Cons l l.length:=⟨λk x hk=>h.1 k x O,λk x y hk=>h.2 k x y O⟩;intro i j x y hij hx hy;exact C3 h' (j-i-1) i x y hx Sy
def BSI(l:List ak)(id i j:Int):Prop:=SrtO l->(∀(k:Nat) x,(k:Int)<i->l[k]?=some x->x.Id<id)/\∀(k:Nat) x,j<=(k:Int)->l[k]?=some x->id<=x.Id
def Zgt{l:List ak}{id n:Int}(hn:n=l.length):BSI l id 0 n:=λ_=>⟨λk x hk=>by omega,λk x hk hx=>by have:=(aJ.1 hx).1;omega⟩
def Zgu{l:List ak}{id i j k i':Int}{x:ak}(h:BSI l id i j)(m:l[k.toNat]?=some x)(hx:x.Id<id)(h0:0<=k)(e:i'=k+1):BSI l id i' j:=λhs=>⟨λq y hq hy=>by
 by_cases hqk:q=k.toNat
 .subst hqk;have:=c9 (hy.symm.trans m);subst this;exact hx
 have:=hs q k.toNat y x O hy m;omega,(h hs).2⟩
def Zgv{l:List ak}{id i j k j':Int}{x:ak}(h:BSI l id i j)(m:l[k.toNat]?=some x)(hx:id<=x.Id)(h0:0<=k)(e:j'=k):BSI l id i j':=λhs=>⟨(h hs).1,λq y hq hy=>by
 by_cases hqk:q=k.toNat
 .subst hqk;have:=c9 (hy.symm.trans m);subst this;exact hx
 have:=hs k.toNat q x y O m hy;omega⟩
def BSP(l:List ak)(id:Int)(r:Int×Bool):Prop:=SrtO l->(r.2=true->r.1=ixO l id)/\(r.2=false -> -1=ixO l id)
def ZgD{l:List ak}{id i j c:Int}{x:ak}(h:BSI l id i j)(hij:j<=i)(m:l[i.toNat]?=some x)(h0:0<=i)(hc:(c = -1/\x.Id<id)\/(c=1/\id<x.Id)\/(c=0/\x.Id=id)):BSP l id (i,c==0):=λhs=>by
 obtain⟨h1,h2⟩:=h hs;refine⟨λhr=>?_,λhr=>?_⟩
 .have hr:c=0:=by simpa using hr
  exact Tz m (λk y hk hy=>by have:=h1 k y hk hy;omega) h0 O
 have hr:c≠0:=by simpa using hr
 refine Cp (v:=l.length) (λk y hk hy=>?_) (ss _);by_cases hki:(k:Int)<i
 .have:=h1 k y hki hy;omega
 by_cases hke:k=i.toNat
 .subst hke;have:=c9 (hy.symm.trans m);subst this;have:=h2 i.toNat y O hy;omega
 have:=hs i.toNat k x y O m hy;have:=h2 i.toNat x O m;omega
def ZgE{l:List ak}{id i j:Int}(h:BSI l id i j)(hn:(l.length:Int)<=i):BSP l id (i,false):=λhs=>by obtain⟨h1,_⟩:=h hs;exact⟨λhr=>absurd hr Bool.false_ne_true,λ_=>Cp (v:=l.length) (λk y hk hy=>by have:=h1 k y O hy;omega) (ss _)⟩
def li_n{l:List ak}{id:Int}{r:Int×Bool}(h:BSP l id r)(hb:r.2=false):SrtO l -> -1=ixO l id:=λhs=>(h hs).2 hb
def li_y{l:List ak}{id:Int}{r:Int×Bool}(h:BSP l id r)(hb:r.2=true):SrtO l->r.1=ixO l id:=λhs=>(h hs).1 hb
noncomputable def allV(c:List aw)(s:ab):List ah:=(Z3m c s).getD []
end Go.PW
set_option maxRecDepth 100000
namespace Go.PW
def puI(s:ab)(it:Z1):Z1:=if it.Kind=2 then { it with Id:=s.NextId } else it
def puS(s:ab)(it:Z1):ab:=if 64<=s.Stack.length then s else { s with Stack:=s.Stack++[puI s it],NextId:=if it.Kind=2 then IntKind.wrap .i64 (s.NextId+1)else s.NextId }
def Jk{s t:ab}{it:Z1}(ht:t=s)(h:(t.Stack.length:Int)>=64):t=puS s it:=by subst ht;unfold puS;rw[aP O]
def pu_full'{s:ab}{it:Z1}(h:(s.Stack.length:Int)>=64):s=puS s it:=Jk rfl h
def pu_b{s t:ab}{it:Z1}{z:List Z1}(ht:t=s)(hk:it.Kind=2)(hz:z=t.Stack++[{ it with Id:=t.NextId }])(h:¬(s.Stack.length:Int)>=64):({ t with Stack:=z,NextId:=IntKind.wrap .i64 (t.NextId+1) }:ab)=puS s it:=by subst ht;subst hz;unfold puS puI;rw[aI O,aP hk,aP hk]
def pu_d{s t:ab}{it:Z1}{z:List Z1}(ht:t=s)(hk:¬it.Kind=2)(hz:z=t.Stack++[it])(h:¬(s.Stack.length:Int)>=64):({ t with Stack:=z }:ab)=puS s it:=by subst ht;subst hz;unfold puS puI;rw[aI O,aI hk,aI hk]
def pu_a{r s t:ab}{it:Z1}{z:List Z1}(ht:t=s)(hk:it.Kind=2)(hz:z=t.Stack++[{ it with Id:=t.NextId }])(h:¬(t.Stack.length:Int)>=64)(hr:r=({ t with Stack:=z,NextId:=IntKind.wrap .i64 (t.NextId+1) }:ab)):r=puS s it:=hr.trans (pu_b ht hk hz (by subst ht;exact h))
def pu_c{r s t:ab}{it:Z1}{z:List Z1}(ht:t=s)(hk:¬it.Kind=2)(hz:z=t.Stack++[it])(h:¬(t.Stack.length:Int)>=64)(hr:r=({ t with Stack:=z }:ab)):r=puS s it:=hr.trans (pu_d ht hk hz (by subst ht;exact h))
end Go.PW
set_option maxRecDepth 100000
namespace Go.PW
def fZ(n:Int)(a:List Int):Prop:=(a.length:Int)=n/\(∀x,x∈a->0<=x/\x<n)/\a.Nodup
def FstN(l:List Int)(v:Int):Prop:=(l.length:Int)=v/\∀(k:Nat) y,l[k]?=some y->y=(k:Int)
def fs_0:FstN [] 0:=⟨rfl,λk y hk=>by simp at hk⟩
def ZgP{l m:List Int}{v w:Int}(h:FstN l v)(hm:m=l++[v])(hw:w=v+1):FstN m w:=by
 subst hm;refine⟨by rw[bF];have:=h.1;simp;omega,λk y hk=>?_⟩;rw[List.getElem?_append]at hk;split at hk
 .exact h.2 k y hk
 have:=(aJ.1 hk).1;simp at this;have hl:=h.1;have e:k-l.length=0:=bg
 rw[e]at hk;simp at hk;omega
def X3{l:List Int}{v n:Int}(h:FstN l v)(h1:¬v<n)(h2:0<=n->v<=n):0<=n->fZ n l:=λhn=>by
 have hv:v=n:=by have:=h2 hn;omega
 subst hv;refine⟨h.1,λx hx=>?_,?_⟩
 .obtain⟨k,hk⟩:=List.mem_iff_getElem?.1 hx;have:=(aJ.1 hk).1;have:=h.2 k x hk;have:=h.1;omega
 refine wC.2 λi j hi hj hij e=>?_;have e1:=h.2 i _ (bn hi);have e2:=h.2 j _ (bn hj);omega
def DisT(l:List Int)(v:Int):Prop:=∀(i j:Nat) x y,i<j->(j:Int)<v->l[i]?=some x->l[j]?=some y->x≠y
def di_0{l:List Int}:DisT l 0:=λi j x y h1 h2=>bg
def ZgC{l m:List Int}{v w r:Int}{x:Int}(h:DisT l v)(hx:l[v.toNat]?=some x)(hr:r=v)(hm:l=m)(hf:∀(k:Nat) y,(k:Int)<r->m[k]?=some y->y≠x)(h0:0<=v)(hw:w=v+1):DisT l w:=λi j a b h1 h2 ha hb=>by
 subst hm;by_cases e:(j:Int)<v
 .exact h i j a b h1 e ha hb
 have hj:j=v.toNat:=bg
 subst hj;rw[hx]at hb;cases hb;exact hf i a O ha
def Zga{l m:List Int}{v:Int}(h:DisT l v)(hm:l=m)(hv:(l.length:Int)<=v):m.Nodup:=by subst hm;refine wC.2 λi j hi hj hij e=>?_;exact h i j _ _ hij O (bn hi) (bn hj) e
def pig:∀(n:Nat) (a:List Int),a.Nodup->(∀x,x∈a->0<=x/\x<(n:Int))->a.length<=n
 |0,a,_,h=>by
  cases a with
  |nil=>simp
  |cons x l=>have:=h x al;omega
 |n+1,a,hd,h=>by
  have h1:=pig n (a.erase (n:Int)) (hd.erase _) λx hx=>by rw[hd.mem_erase_iff]at hx;have:=h x hx.2;have h2:x≠(n:Int):=hx.1;omega
  have h2:a.length<=(a.erase (n:Int)).length+1:=by
   by_cases hm:(n:Int)∈a
   .have:=(List.perm_cons_erase hm).length_eq;simp at this;omega
   rw[List.erase_of_not_mem hm];omega
  omega
def Vx(f:Int->Bool):∀(n:Nat) (a:List Int),fZ n a->a.countP f=(List.range n).countP λi:Nat=>f (i:Int)
 |0,a,h=>by
  cases a with
  |nil=>rfl
  |cons x l=>have:=h.2.1 x al;omega
 |n+1,a,h=>by
  have hm:(n:Int)∈a:=Classical.byContradiction λhm=>by
   have:=pig n a h.2.2 λx hx=>by have:=h.2.1 x hx;have h2:x≠(n:Int):=λe=>hm (e▸hx);omega
   have:=h.1;omega
  have hp:=List.perm_cons_erase hm;have hl:=hp.length_eq;rw[hp.countP_eq,sw,List.range_succ,sx,
   Vx f n (a.erase (n:Int)) ⟨by have:=h.1;simp at hl;omega,λx hx=>by rw[h.2.2.mem_erase_iff]at hx;have:=h.2.1 x hx.2;have h2:x≠(n:Int):=hx.1;omega,h.2.2.erase _⟩]
  simp[sw]
def Vy{α:Type}(l:List α)(g:α->Bool):∀k,k<=l.length->((List.range k).countP λi=>((l[i]?).map g).getD false)=(l.take k).countP g
 |0,_=>rfl
 |k+1,h=>by
  have hk:k<l.length:=bg
  rw[List.range_succ,sx,Vy l g k O,List.take_succ_eq_append_getElem hk,sx];congr 1;simp[sw,bn hk]
def Vz{α:Type}(n p:Int)(x:α):∀m:List (Int×α),dR (bZ m n x) p=if p=n then some x else dR m p
 |[]=>by
  simp only[bZ,dR];by_cases h:p=n
  .rw [aP h,nA.2 h.symm,av]
  rw[aI h,jN.2 (de h),au]
 |(j,y)::r=>by
  simp only[bZ];by_cases hj:j=n
  .rw [nA.2 hj,av];simp only[dR];by_cases h:p=n
   .rw [aP h,nA.2 (hj.trans h.symm),av]
   rw[aI h,jN.2 (λe=>h (e.symm.trans hj)),au,au]
  rw[jN.2 hj,au];simp only[dR];rw[Vz n p x r];by_cases h:j=p
  .rw [nA.2 h,av,av,aI (λe=>hj (h.trans e))]
  rw[jN.2 h,au,au]
def er(w:List Z2)(p:Int):Nat->List bc
 |0=>[]
 |k+1=>er w p k++(match w[k]? with|some x=>if x.Control=p then[⟨11,(k:Int),0⟩]else[]|none=>[])
def Z4u(w:List Z2)(m:List (Int×List bc))(v:Int):Prop:=∀p,(mlk m p []).1=er w p v.toNat
def mt_0{w:List Z2}:Z4u w [] 0:=λp=>rfl
def ZgA{w u:List Z2}{m m':List (Int×List bc)}{v v':Int}{x:Z2}{l l':List bc}(h:Z4u w m v)(hu:u=w)(hx:u[v.toNat]?=some x)(hl:l=(mlk m x.Control []).1)(hl':l'=l++[⟨11,v,0⟩])(hm:m'=bZ m x.Control l')(h0:0<=v)(hv:v'=v+1):Z4u w m' v':=λp=>by
 subst hm;subst hl';subst hl;subst hu;have e:v'.toNat=v.toNat+1:=bg
 have e2:((v.toNat:Nat):Int)=v:=bg
 rw[e];simp only[er,hx,e2];rw[<- h p];have:(mlk (bZ m x.Control ((mlk m x.Control []).1++[⟨11,v,0⟩])) p []).1=if p=x.Control then(mlk m x.Control []).1++[⟨11,v,0⟩]else(mlk m p []).1:=by
  unfold mlk;rw[Vz];by_cases hp:p=x.Control
  .rw [aP hp,aP hp]
  rw[aI hp,aI hp]
 rw[this];by_cases hp:x.Control=p
 .rw [aP hp,aP hp.symm,hp]
 rw[aI hp,aI (de hp),cC]
def VA(w:List Z2)(p:Int):∀k,(er w p k).length<=k
 |0=>aW _
 |k+1=>by
  simp only[er,bF];have:=VA w p k;split
  .split<;>simp<;>omega
  simp;omega
def Zfp{w:List Z2}{m:List (Int×List bc)}{v p:Int}{l:List bc}(h:Z4u w m v)(hl:(mlk m p []).1=l):l.length<=v.toNat:=by rw[<- hl,h p];exact VA _ _ _
def Ds(w:List Z2)(p:Int):∀k o,o∈er w p k->0<=o.A/\o.A<(k:Int)/\∃x,w[o.A.toNat]?=some x/\x.Control=p
 |0,o,h=>by simp[er]at h
 |k+1,o,h=>by
  simp only[er,cD]at h;rcases h with h|h
  .obtain⟨h1,h2,h3⟩:=Ds w p k o h;exact⟨h1,by omega,h3⟩
  split at h
  .rename_i x hx;split at h
   .rename_i hc;simp at h;subst h;exact⟨by simp,by simp;omega,x,by simpa using hx,hc⟩
   simp at h
  simp at h
def esp(w:List Z2)(o:bc):Bool:=((w[o.A.toNat]?).map λx:Z2=>x.Ability.Specs.isEmpty).getD false
def fV:List Nat->Nat
 |[]=>0
 |x::l=>x+fV l
def Dt:∀l m:List Nat,fV (l++m)=fV l+fV m
 |[],m=>by simp[fV]
 |x::l,m=>by simp only[eR,fV,Dt l m];omega
def SA(w:List Z2)(ps:List Int)(k:Nat):Nat:=fV (ps.map λp=>(er w p k).length)
def SE(w:List Z2)(ps:List Int)(k:Nat):Nat:=fV (ps.map λp=>(er w p k).countP (esp w))
def Du{α:Type}(g:Int->Nat)(c:Int)(d:Nat):∀ps:List Int,ps.Nodup->fV (ps.map λp=>g p+if c=p then d else 0)=fV (ps.map g)+if c∈ps then d else 0
 |[],_=>by simp[fV]
 |p::ps,h=>by
  rw[List.nodup_cons]at h;simp only[cw,fV,Du (α:=α) g c d ps h.2,cn];by_cases e:c=p
  .subst e;rw[aP rfl,aI h.1,aP (Or.inl rfl)];omega
  rw[aI e];by_cases e2:c∈ps
  .rw [aP e2,aP (Or.inr e2)];omega
  rw[aI e2,aI (λh=>h.elim e e2)];omega
def Dv(w:List Z2)(ps:List Int)(h:ps.Nodup):∀k,SA w ps k<=k
 |0=>by
  unfold SA;simp only[er,cg];have:∀l:List Int,fV (l.map λ_=>0)=0:=λl=>by induction l with
   |nil=>rfl
   |cons x l ih=>simp only[cw,fV,ih]
  rw[this];exact aW _
 |k+1=>by
  have ih:=Dv w ps h k;unfold SA at ih⊢;cases hx:w[k]? with
  |none=>simp only[er,hx,cC];omega
  |some x=>
   have:=Du (α:=Nat) (λp=>(er w p k).length) x.Control 1 ps h;have e:(ps.map λp=>(er w p (k+1)).length)=ps.map λp=>(er w p k).length+if x.Control=p then 1 else 0:=by apply List.map_congr_left;intro p _;simp only[er,hx,bF];split<;>simp
   rw[e,this];split<;>omega
def VB(w:List Z2)(ps:List Int)(h:ps.Nodup)(k:Nat){x:Z2}(hx:w[k]?=some x):SE w ps (k+1)=SE w ps k+if x.Control∈ps then(if x.Ability.Specs.isEmpty then 1 else 0)else 0:=by
 unfold SE;have:=Du (α:=Nat) (λp=>(er w p k).countP (esp w)) x.Control (if x.Ability.Specs.isEmpty then 1 else 0) ps h;rw[<- this];congr 1;apply List.map_congr_left;intro p _;simp only[er,hx,sx];congr 1;split
 .simp [sw,esp,hx]
 simp
def Dw(w:List Z2)(ps:List Int)(p:Int)(k:Nat):SA w (ps++[p]) k=SA w ps k+(er w p k).length:=by unfold SA;rw[eL,Dt];simp[fV]
def VC(w:List Z2)(ps:List Int)(p:Int)(k:Nat):SE w (ps++[p]) k=SE w ps k+(er w p k).countP (esp w):=by unfold SE;rw[eL,Dt];simp[fV]
def cR(s:ab):List Int:=if s.Active∈dp s.Players then s.Active::Z8n s.Players s.Active else Z8n s.Players s.Active
def plF(s:ab)(p:Int):Int:=if s.Active<=p then p-s.Active else p-s.Active+(s.Players.length:Int)
def Z3s{ps:List bC}{p:Int}(h:Z4s ps p=true):0<=p/\p<(ps.length:Int):=by
 by_cases h1:p<0\/p>=(ps.length:Int)
 .rw [Cr h1]at h;cases h
 omega
def VD(ps:List bC):(dp ps).Pairwise (· < ·):=by unfold dp Z4t;refine List.Pairwise.filter _ (List.pairwise_map.2 ?_);exact List.pairwise_lt_range.imp λh=>bg
def gZ(s:ab):Prop:=0<=s.Active/\s.Active<(s.Players.length:Int)
def VE{s:ab}(ha:gZ s):Z8n s.Players s.Active=(dp s.Players).filter (λx=>decide (s.Active<x))++(dp s.Players).filter (λx=>decide (x<s.Active)):=by unfold Z8n;rw[aI (by have:=ha.1;have:=ha.2;omega)]
def VF{s:ab}(ha:gZ s):(Z8n s.Players s.Active).Pairwise λx y=>plF s x<plF s y:=by
 rw[VE ha];refine List.pairwise_append.2 ⟨?_,?_,λx hx y hy=>?_⟩
 .refine (List.Pairwise.filter (λx=>decide (s.Active<x)) (VD s.Players)).imp_of_mem λ{x y} hx hy h=>?_;have h1:=(gy.1 hx).2;have h2:=(gy.1 hy).2;simp only[eI]at h1 h2;unfold plF;rw[aP O,aP O];omega
 .refine (List.Pairwise.filter (λx=>decide (x<s.Active)) (VD s.Players)).imp_of_mem λ{x y} hx hy h=>?_;have h1:=(gy.1 hx).2;have h2:=(gy.1 hy).2;simp only[eI]at h1 h2;unfold plF;rw[aI O,aI O];omega
 have h1:=(gy.1 hx).2;have h2:=(gy.1 hy).2;have h3:=Z3s (Z1q.1 (gy.1 hx).1);have h4:=Z3s (Z1q.1 (gy.1 hy).1);simp only[eI]at h1 h2;unfold plF;rw[aP O,aI O];omega
def Dx{s:ab}(ha:gZ s){x:Int}:x∈Z8n s.Players s.Active↔Z4s s.Players x=true/\x≠s.Active:=by
 rw[VE ha,cD,gy,gy,Z1q];simp only[eI];constructor
 .rintro (⟨h1,h2⟩|⟨h1,h2⟩)<;>exact⟨h1,by omega⟩
 rintro⟨h1,h2⟩;by_cases h:s.Active<x
 .exact Or.inl ⟨h1,h⟩
 exact Or.inr ⟨h1,by omega⟩
def VG{s:ab}(ha:gZ s):(cR s).Pairwise λx y=>plF s x<plF s y:=by
 unfold cR;split
 .refine List.pairwise_cons.2 ⟨λy hy=>?_,VF ha⟩;have h:=(Dx ha).1 hy;have h2:=Z3s h.1;unfold plF;rw[aP (ss _)];have:=ha.1;have:=ha.2;have:=h.2;split<;>omega
 exact VF ha
def xh{s:ab}(ha:gZ s):(cR s).Nodup:=(VG ha).imp λh e=>by rw[e]at h;omega
def VH{s:ab}(ha:gZ s){x:Int}:x∈cR s↔Z4s s.Players x=true:=by
 unfold cR;split
 .rename_i h;rw[cn,Dx ha];constructor
  .rintro (h1|h1)
   .rw [h1];exact Z1q.1 h
   exact h1.1
  intro h1;by_cases e:x=s.Active
  .exact Or.inl e
  exact Or.inr ⟨h1,e⟩
 rename_i h;rw[Dx ha];exact⟨λh1=>h1.1,λh1=>⟨h1,λe=>h (Z1q.2 (e▸h1))⟩⟩
def Zgw{s:ab}{l o r:List Int}{x:Bool}(hl:l=dp s.Players)(hi:x=true↔s.Active∈l)(hx:x=true)(ho:o=Z8n s.Players s.Active)(hr:r=s.Active::o):r=cR s:=by have hm:=hi.1 hx;subst hl;subst ho;unfold cR;rw[aP hm];exact hr
def Zgx{s:ab}{l o:List Int}{x:Bool}(hl:l=dp s.Players)(hi:x=true↔s.Active∈l)(hx:x=false)(ho:o=Z8n s.Players s.Active):o=cR s:=by
 have hm:¬s.Active∈l:=λh=>by rw[hi.2 h]at hx;cases hx
 subst hl;unfold cR;rw[aI hm];exact ho
def Bef(ps:List Int)(x y:Int):Prop:=∃i j:Nat,i<=j/\ps[i]?=some x/\ps[j]?=some y
def ZjS{s:ab}(ha:gZ s){x y:Int}(h:Bef (cR s) x y):plF s x<=plF s y:=by
 obtain⟨i,j,hij,hx,hy⟩:=h;obtain⟨hi,ex⟩:=aJ.1 hx;obtain⟨hj,ey⟩:=aJ.1 hy;by_cases e:i=j
 .subst e;rw[<- ex,<- ey];exact ss _
 have:=wC.1 (VG ha) i j hi hj O;rw[ex,ey]at this;omega
def ZjT{ps qs:List Int}{x y:Int}(h:Bef ps x y):Bef (ps++qs) x y:=by
 obtain⟨i,j,hij,hx,hy⟩:=h;refine⟨i,j,hij,?_,?_⟩
 .rw [dy (aJ.1 hx).1];exact hx
 rw[dy (aJ.1 hy).1];exact hy
def ZjU{ps:List Int}{p x:Int}(h:x∈ps++[p]):Bef (ps++[p]) x p:=by obtain⟨k,hk⟩:=List.mem_iff_getElem?.1 h;have:=(aJ.1 hk).1;refine⟨k,ps.length,by simp at this;omega,hk,by simp⟩
def tS(s:ab)(l:List Z1):ab:={ s with Waiting:=[],Stack:=s.Stack++l,NextId:=s.NextId+(l.length:Int) }
def ZjV(ps:List Int)(it:Z1):Prop:=it.Kind=2/\it.Targets.length=it.Ability.Specs.length/\it.Control∈ps
def TrO(s t:ab)(ps:List Int)(n m:Nat):Prop:=∃l,t=tS s l/\l.length<=n/\m<=l.length/\(∀it,it∈l->ZjV ps it)/\l.Pairwise λa b=>Bef ps a.Control b.Control
def PutR(s:ab)(w:Z2)(t:ab):Prop:=(t=s/\w.Ability.Specs.isEmpty=false)\/∃g:List bW,g.length=w.Ability.Specs.length/\t=puS s ⟨0,2,w.Source,w.Control,0,false,w.Ability,g,w.Event⟩
def SmT(s:ab):Prop:=gZ s/\s.Stack.length<=8/\s.Waiting.length<=8/\1<=s.NextId/\s.NextId<=1000000000
def tr_0{s t:ab}(h:t={ s with Waiting:=[] }):TrO s t [] 0 0:=⟨[],by rw[h];unfold tS;simp,aW _,aW _,λit h=>by simp at h,List.Pairwise.nil⟩
def VI{s t:ab}{ps:List Int}{n m:Nat}(p:Int)(h:TrO s t ps n m):TrO s t (ps++[p]) n m:=by obtain⟨l,h1,h2,h3,h4,h5⟩:=h;exact⟨l,h1,h2,h3,λit hi=>⟨(h4 it hi).1,(h4 it hi).2.1,List.mem_append_left _ (h4 it hi).2.2⟩,h5.imp λh=>ZjT h⟩
def ZjW{s t t':ab}{ps:List Int}{p:Int}{n m:Nat}{w:Z2}(h:TrO s t (ps++[p]) n m)(hp:PutR t w t')(hs:SmT s)(hc:w.Control=p)(hn:n<=8):TrO s t' (ps++[p]) (n+1) (m+if w.Ability.Specs.isEmpty then 1 else 0):=by
 obtain⟨l,h1,h2,h3,h4,h5⟩:=h;rcases hp with⟨e,he⟩|⟨g,hg,e⟩
 .rw [e,he];exact⟨l,h1,by omega,h3,h4,h5⟩
 have hl:t.Stack.length<=16:=by rw[h1];unfold tS;have:=hs.2.1;simp;omega
 unfold puS puI at e;rw[aI O,aP rfl,aP rfl]at e;have hw:IntKind.wrap .i64 (t.NextId+1)=t.NextId+1:=by
  have h6:t.NextId=s.NextId+(l.length:Int):=by rw[h1];rfl
  have:=hs.2.2.2;exact nG _ O O
 rw[hw]at e;refine⟨l++[{ (⟨0,2,w.Source,w.Control,0,false,w.Ability,g,w.Event⟩:Z1)with Id:=t.NextId }],?_,by simp;omega,?_,?_,?_⟩
 .rw [e,h1];unfold tS;simp;omega
 .simp;split<;>omega
 .intro it hi;rcases cD.1 hi with hi|hi
  .exact h4 it hi
  simp only[gC]at hi;subst hi;exact⟨rfl,hg,by simp[hc]⟩
 refine List.pairwise_append.2 ⟨h5,List.pairwise_singleton _ _,λa ha b hb=>?_⟩;simp only[gC]at hb;subst hb;show Bef (ps++[p]) a.Control w.Control;rw[hc];exact ZjU (h4 a ha).2.2
def SBd(s:ab):Prop:=s.Objects.length<=60/\s.Players.length<=4/\s.Conts.length<=64
def ZgI{x:Bool}{s:ab}{w:Z2}(h:x=false->1<=w.Ability.Specs.length)(hb:x=false):PutR s w s:=by
 refine Or.inl ⟨rfl,?_⟩;have:=h hb;cases hs:w.Ability.Specs with
 |nil=>rw[hs]at this;simp at this
 |cons a l=>rfl
def ZgJ{x:List bW×Bool×bm}{s r:ab}{w:Z2}(h:x.2.1=true->x.1.length=w.Ability.Specs.length)(hb:x.2.1=true)(hr:r=puS s ⟨0,2,w.Source,w.Control,0,false,w.Ability,x.1,w.Event⟩):PutR s w r:=Or.inr ⟨x.1,h hb,hr⟩
def ZgK{s t:ab}{w:Z2}(h:PutR s w t)(hs:SBd s):SBd t:=by
 rcases h with⟨e,_⟩|⟨g,_,e⟩
 .rw [e];exact hs
 rw[e];unfold puS;split
 .exact hs
 exact hs
def sb_0{s x:ab}(hx:x=s)(h:SBd s):SBd { x with Waiting:=[] }:=by subst hx;exact h
def cE(w:List Z2)(l:List bc)(a:List Int):Nat:=a.countP λi=>((l[i.toNat]?).map (esp w)).getD false
def T1(s t:ab)(j:Int):Prop:=TrO s t ((cR s).take j.toNat) (SA s.Waiting ((cR s).take j.toNat) s.Waiting.length) (SE s.Waiting ((cR s).take j.toNat) s.Waiting.length)
def T2(s t:ab)(j:Int)(l:List bc)(a:List Int)(k:Int):Prop:=∃p,(cR s)[j.toNat]?=some p/\l=er s.Waiting p s.Waiting.length/\fZ (l.length:Int) a/\TrO s t ((cR s).take j.toNat++[p]) (SA s.Waiting ((cR s).take j.toNat) s.Waiting.length+k.toNat) (SE s.Waiting ((cR s).take j.toNat) s.Waiting.length+cE s.Waiting l (a.take k.toNat))
def TrF(s t:ab):Prop:=TrO s t (cR s) (SA s.Waiting (cR s) s.Waiting.length) (SE s.Waiting (cR s) s.Waiting.length)
def Dy{l:List Int}{j:Nat}{p:Int}(h:l[j]?=some p):l.take (j+1)=l.take j++[p]:=by obtain⟨hj,e⟩:=aJ.1 h;rw[List.take_succ_eq_append_getElem hj,e]
def t1_0{s t:ab}(h:t={ s with Waiting:=[] }):T1 s t 0:=tr_0 h
def Za1{s t:ab}{j:Int}{o:List Int}(h:T1 s t j)(ho:o=cR s)(hj:(o.length:Int)<=j):TrF s t:=by subst ho;unfold T1 at h;rw[fC O]at h;exact h
def VJ{s:ab}{m:List (Int×List bc)}{p v:Int}{l:List bc}(h:Z4u s.Waiting m v)(hv:v=(s.Waiting.length:Int))(hl:(mlk m p []).1=l):l=er s.Waiting p s.Waiting.length:=by rw[<- hl,h p];congr 1;omega
def Zgp{s t:ab}{o:List Int}{m:List (Int×List bc)}{p v j j':Int}{l:List bc}(h:T1 s t j)(hm:Z4u s.Waiting m v)(hv:v=(s.Waiting.length:Int))(ho:o=cR s)(hx:o[j.toNat]?=some p)(hl:(mlk m p []).1=l)(h0:(l.length:Int)=0)(hj:0<=j)(hw:j'=j+1):T1 s t j':=by
 subst ho;have e:=VJ hm hv hl;have e2:j'.toNat=j.toNat+1:=bg
 have e3:l=[]:=List.length_eq_zero_iff.1 O;unfold T1 at h⊢;rw[e2,Dy hx,Dw,VC,<- e,e3];exact VI p h
def t2_0{s t:ab}{r:List Int}{m:List (Int×List bc)}{p v j:Int}{l:List bc}{a:List Int}(h:T1 s t j)(hm:Z4u s.Waiting m v)(hv:v=(s.Waiting.length:Int))(hr:r=cR s)(hx:r[j.toNat]?=some p)(hl:(mlk m p []).1=l)(ha:fZ (l.length:Int) a):T2 s t j l a 0:=⟨p,hr▸hx,VJ hm hv hl,ha,VI p h⟩
def Za2{s t:ab}{j k i:Int}{l:List bc}{a:List Int}{o:bc}(h:T2 s t j l a k)(ho:l[i.toNat]?=some o):0<=o.A/\o.A<(s.Waiting.length:Int):=by obtain⟨p,_,h2,_,_⟩:=h;obtain⟨h3,h4,_⟩:=Ds s.Waiting p _ o (by rw[<- h2];exact cj ho);exact⟨h3,h4⟩
def Zgj{s t:ab}{j k i:Int}{l:List bc}{a:List Int}(h:T2 s t j l a k)(hk:a[k.toNat]?=some i)(hn:¬(i>=0/\i<(l.length:Int))){q:Prop}:q:=by obtain⟨p,_,_,h3,_⟩:=h;exact absurd (h3.2.1 i (cj hk)) hn
def Zgi{s t t':ab}{j k k' i:Int}{l:List bc}{a:List Int}{o:bc}{w:Z2}(h:T2 s t j l a k)(hk:a[k.toNat]?=some i)(ho:l[i.toNat]?=some o)(hw:s.Waiting[o.A.toNat]?=some w)(hp:PutR t w t')(hs:SmT s)(h0:0<=k)(hk':k'=k+1):T2 s t' j l a k':=by
 obtain⟨p,h1,h2,h3,h4⟩:=h;refine⟨p,h1,h2,h3,?_⟩;have e:k'.toNat=k.toNat+1:=bg
 obtain⟨hka,hki⟩:=aJ.1 hk;obtain⟨_,_,x,hx,hc⟩:=Ds s.Waiting p _ o (by rw[<- h2];exact cj ho);rw[hw]at hx;cases hx;have hb:SA s.Waiting ((cR s).take j.toNat) s.Waiting.length+l.length<=8:=by have:=Dv s.Waiting ((cR s).take j.toNat++[p]) (by rw[<- Dy h1];exact(xh hs.1).sublist (List.take_sublist _ _)) s.Waiting.length;rw[Dw,<- h2]at this;have:=hs.2.2.1;omega
 have hl:=h3.1;have:=ZjW h4 hp hs hc O;have e2:cE s.Waiting l (a.take k'.toNat)=cE s.Waiting l (a.take k.toNat)+if w.Ability.Specs.isEmpty then 1 else 0:=by rw[e,List.take_succ_eq_append_getElem hka,hki];unfold cE;rw[sx];congr 1;simp[sw,ho,esp,hw]
 rw[e2,e,<- l9,<- l9];exact this
def Zgq{s t:ab}{j k j':Int}{l:List bc}{a:List Int}(h:T2 s t j l a k)(hk:k=(a.length:Int))(hj:0<=j)(hw:j'=j+1):T1 s t j':=by
 obtain⟨p,h1,h2,h3,h4⟩:=h;have e2:j'.toNat=j.toNat+1:=bg
 have hl:=h3.1;have ek:k.toNat=l.length:=bg
 have ec:cE s.Waiting l (a.take k.toNat)=l.countP (esp s.Waiting):=by rw[fC O];unfold cE;rw[Vx _ l.length a h3];have:=Vy l (esp s.Waiting) l.length (aW _);rw[fC (aW _)]at this;rw[<- this];rfl
 unfold T1;rw[e2,Dy h1,Dw,VC,<- h2];rw[ec,ek]at h4;exact h4
def tf_w{s t:ab}(h:TrF s t):t.Waiting=[]:=by obtain⟨l,h1,_⟩:=h;rw[h1];rfl
def qH{s t:ab}(h:TrF s t)(hs:SmT s):s.Stack.length<=t.Stack.length/\t.Stack.length<=s.Stack.length+s.Waiting.length/\t.NextId=s.NextId+(t.Stack.length:Int)-(s.Stack.length:Int)/\s.Stack.length+SE s.Waiting (cR s) s.Waiting.length<=t.Stack.length:=by
 obtain⟨l,h1,h2,h3,_⟩:=h;have:=Dv s.Waiting (cR s) (xh hs.1) s.Waiting.length;have e1:t.Stack.length=s.Stack.length+l.length:=by rw[h1];unfold tS;simp
 have e2:t.NextId=s.NextId+(l.length:Int):=by rw[h1];rfl
 refine⟨by omega,by omega,by omega,by omega⟩
def Zgb{s t:ab}{i:Int}{x y:Z1}(h:TrF s t)(hx:t.Stack[i.toNat]?=some x)(hy:s.Stack[i.toNat]?=some y)(hn:¬x.Id=y.Id):False:=by obtain⟨l,h1,_⟩:=h;rw[h1]at hx;unfold tS at hx;rw[dy (aJ.1 hy).1,hy]at hx;cases hx;exact hn rfl
def Z8q{s t:ab}{i:Int}{x:Z1}(h:TrF s t)(hs:SmT s)(hx:t.Stack[i.toNat]?=some x)(hi:¬i<(s.Stack.length:Int)):x.Kind=2/\x.Targets.length=x.Ability.Specs.length/\Z4s s.Players x.Control=true:=by obtain⟨l,h1,_,_,h4,_⟩:=h;rw[h1]at hx;unfold tS at hx;rw[dU O]at hx;have:=h4 x (cj hx);exact⟨this.1,this.2.1,(VH hs.1).1 this.2.2⟩
def ZjX{s t:ab}{i j:Int}{x y:Z1}(h:TrF s t)(hs:SmT s)(hx:t.Stack[i.toNat]?=some x)(hy:t.Stack[j.toNat]?=some y)(hj:¬j<(s.Stack.length:Int))(hij:i=j+1):plF s y.Control<=plF s x.Control:=by obtain⟨l,h1,_,_,_,h5⟩:=h;rw[h1]at hx hy;unfold tS at hx hy;rw[dU O]at hx hy;obtain⟨a1,b1⟩:=aJ.1 hx;obtain⟨a2,b2⟩:=aJ.1 hy;have:=wC.1 h5 _ _ a2 a1 O;rw[b1,b2]at this;exact ZjS hs.1 this
def Za4{p A n r:Int}(h0:0<=p)(h1:p<n)(h2:0<=A)(h3:A<n)(hr:r=Int.tmod (p-A+n) n):r=if A<=p then p-A else p-A+n:=by
 rw[hr,Int.tmod_eq_emod_of_nonneg O];split
 .rw [Int.add_emod_right,ra O O]
 exact ra O O
def Uz{x:Bool}{s:ab}(h:x=true->1<=s.NextId/\s.NextId<=1000000000/\gZ s)(hr:x=true)(h1:s.Objects.length<=60)(h2:s.Players.length<=4)(h3:s.Conts.length<=8)(h4:s.Stack.length<=8)(h5:s.Waiting.length<=8):SmT s/\SBd s:=⟨⟨(h hr).2.2,h4,h5,(h hr).1,(h hr).2.1⟩,h1,h2,by omega⟩
def Zgs{x:Bool}{a:List Int}{n:Int}(h1:x=true->∀y,y∈a->0<=y/\y<n)(h2:x=true->a.Nodup)(hr:x=true)(hl:(a.length:Int)=n):fZ n a:=⟨hl,h1 hr,h2 hr⟩
def k4{b:Bool}{k:Int}(h:b=true->¬k=4)(hb:b=true)(hk:k=4):False:=h hb hk
def X0{r n a:Int}{l:List Int}(h:(r = -1/\¬a∈l)\/(0<=r/\r<n))(hm:0<=r->a∈l):decide (r>=0)=true↔a∈l:=by
 rw[eI];rcases h with h|h
 .exact⟨λh2=>by omega,λh2=>absurd h2 h.2⟩
 exact⟨λ_=>hm h.1,λ_=>h.1⟩
def UB{c:Z3}{l:List bc}{k:Int}{r:List Int}(e:l=c.Options)(h:k=4->fZ (l.length:Int) r):k=4->fZ (c.Options.length:Int) r:=by subst e;exact h
def UC{b:Bool}{k n:Int}{a r:List Int}(e:r=a)(h:k=4->b=true->fZ n a)(hb:b=true):k=4->fZ n r:=by subst e;exact λhk=>h hk hb
def Zf6{l:List Int}{k:Nat}{a x:Int}(h:l[k]?=some x)(e:a=x):a∈l:=by subst e;exact cj h
def of_ieq'{l:List Int}{k:Nat}{a x:Int}(h:l[k]?=some x)(e:x=a):a∈l:=by subst e;exact cj h
def Zgy{v n:Int}{r:List Int}(hv:v=n)(h:0<=v->fZ v r)(h0:0<=n):fZ n r:=by subst hv;exact h h0
def lo_w{s t:ab}(h:TrF s t)(hn:¬(t.Waiting.length:Int)=0):False:=hn (by rw[tf_w h];rfl)
def Zgc{s t:ab}{i:Int}{x:Z1}(h:TrF s t)(hs:SmT s)(hx:t.Stack[i.toNat]?=some x)(hi:¬i<(s.Stack.length:Int))(hn:x.Control<0):False:=S0
def Zgd{s t:ab}{i:Int}{x:Z1}(h:TrF s t)(hs:SmT s)(hx:t.Stack[i.toNat]?=some x)(hi:¬i<(s.Stack.length:Int))(hn:x.Control>=(s.Players.length:Int)):False:=S0
def Zge{s t:ab}{i:Int}{x:Z1}{q:bC}(h:TrF s t)(hs:SmT s)(hx:t.Stack[i.toNat]?=some x)(hi:¬i<(s.Stack.length:Int))(hp:s.Players[x.Control.toNat]?=some q)(hn:q.Lost=true):False:=by have h1:=(Z8q h hs hx hi).2.2;rw[wE hp (Z3s h1).1,hn]at h1;cases h1
def Zgf{s t:ab}{i:Int}{x:Z1}(h:TrF s t)(hs:SmT s)(hx:t.Stack[i.toNat]?=some x)(hi:¬i<(s.Stack.length:Int))(hn:¬x.Kind=2):False:=hn (Z8q h hs hx hi).1
def Zgg{s t:ab}{i:Int}{x:Z1}(h:TrF s t)(hs:SmT s)(hx:t.Stack[i.toNat]?=some x)(hi:¬i<(s.Stack.length:Int))(hn:¬(x.Targets.length:Int)=(x.Ability.Specs.length:Int)):False:=hn (by rw[(Z8q h hs hx hi).2.1])
def Zgh{s t:ab}{i j r1 r2:Int}{x y:Z1}(h:TrF s t)(hs:SmT s)(hg:r1>r2)(e1:0<=y.Control->y.Control<(s.Players.length:Int)->r1=plF s y.Control)(e2:0<=x.Control->x.Control<(s.Players.length:Int)->r2=plF s x.Control)(hx:t.Stack[i.toNat]?=some x)(hy:t.Stack[j.toNat]?=some y)(hj:¬j<(s.Stack.length:Int))(hij:i=j+1):False:=by have a:=Z3s (Z8q h hs hy hj).2.2;have b:=Z3s (Z8q h hs hx O).2.2;have c:=ZjX h hs hx hy hj hij;rw[e1 a.1 a.2,e2 b.1 b.2]at hg;omega
def se_0{w:List Z2}{ps:List Int}{k:Nat}:(0:Int)<=(SE w ps k:Int):=bg
def Zgo{s:ab}{v k k':Int}{x:Z2}(hs:SmT s)(h:v<=(SE s.Waiting (cR s) k.toNat:Int))(hx:s.Waiting[k.toNat]?=some x)(hk:0<=k)(hk':k'=k+1):v<=(SE s.Waiting (cR s) k'.toNat:Int):=by
 have e:k'.toNat=k.toNat+1:=bg
 rw[e,VB _ _ (xh hs.1) _ hx];omega
def Zgn{s:ab}{v v' k k':Int}{x:Z2}{q:bC}(hs:SmT s)(h:v<=(SE s.Waiting (cR s) k.toNat:Int))(hx:s.Waiting[k.toNat]?=some x)(he:(x.Ability.Specs.length:Int)=0)(h0:x.Control>=0)(hp:s.Players[x.Control.toNat]?=some q)(hl:q.Lost=false)(hk:0<=k)(hv:v'=v+1)(hk':k'=k+1):v'<=(SE s.Waiting (cR s) k'.toNat:Int):=by
 have e:k'.toNat=k.toNat+1:=bg
 have hm:x.Control∈cR s:=(VH hs.1).2 (by rw[wE hp h0,hl];rfl);have he2:x.Ability.Specs.isEmpty=true:=by rw[List.isEmpty_iff];exact List.length_eq_zero_iff.1 O
 rw[e,VB _ _ (xh hs.1) _ hx,aP hm,aP he2];omega
def Zf3{w:List Z2}{ps:List Int}{v k:Int}{n:Nat}(h:v<=(SE w ps k.toNat:Int))(hk:k=(n:Int)):v<=(SE w ps n:Int):=by
 have e:n=k.toNat:=bg
 rw[e];exact h
def ak_1{u:Int}{n:Nat}(h0:0<=u)(h1:u<=(n:Int))(hne:¬u=(n:Int))(hn:n*24<=140737488351232):0<=IntKind.wrap .i64 (u+1)/\IntKind.wrap .i64 (u+1)<=(n:Int):=by rw[nG (u+1) O O];omega
end Go.PW
