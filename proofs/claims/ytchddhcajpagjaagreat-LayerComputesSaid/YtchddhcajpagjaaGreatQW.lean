import Derived.Test.YtchddhcajpagjaaGreatQE
import Derived.Test.YtchddhcajpagjaaGreatQDc
import Derived.Test.YtchddhcajpagjaaGreatPwY
import Derived.Test.YtchddhcajpagjaaGreatPwYi
set_option linter.all false
set_option maxRecDepth 100000
namespace Go.PW
def okc(n:Int):Bool:=(decide (97<=n)&&decide (n<=122))||(decide (48<=n)&&decide (n<=57))||n==45
def c8(c:UInt8):Int:=(c.toNat:Int)
def lowc(c:UInt8):Bool:=decide (97<=c8 c)&&decide (c8 c<=122)
def tW(s:List UInt8):Bool:=
 decide (1<=s.length)&&decide (s.length<=32)&&(s.head?.map lowc).getD false&&(s.getLast?.map λc=>c8 c != 45).getD false && !Lib.contains s [45,45]&&s.all λc=>okc (c8 c)
def ZAX{s:List UInt8}(h:1<=s.length):s[0]?=some (s[0]'(by omega))/\s.head?=some (s[0]'(by omega)):=by
 cases s with
 |nil=>simp at h
 |cons a s=>exact⟨rfl,rfl⟩
def ZAY{s:List UInt8}(h:1<=s.length):idx? s (IntKind.wrap .i64 ((s.length:Int)-1))=if s.length<=4611686018427387904 then s.getLast? else idx? s (IntKind.wrap .i64 ((s.length:Int)-1)):=by
 split
 .rw [fg O O,show((s.length:Int)-1)=((s.length-1:Nat):Int) by omega];rw[Vi];unfold idx?;rw[ar O];simp
 rfl
def occ2(s:List UInt8)(j:Nat):Lib.occAt s [45,45] j=true↔s[j]?=some (45:UInt8)/\s[j+1]?=some (45:UInt8):=by
 unfold Lib.occAt;rw[List.isPrefixOf_iff_prefix];constructor
 .rintro ⟨t,ht⟩;have h0:(s.drop j)[0]?=some 45:=by rw[<- ht];rfl
  have h1:(s.drop j)[1]?=some 45:=by rw[<- ht];rfl
  rw[kI]at h0 h1;exact⟨by simpa using h0,h1⟩
 rintro⟨h0,h1⟩;refine⟨s.drop (j+2),?_⟩;have hj:j+1<s.length:=(aL.1 h1).1;rw[xF (show j<s.length by omega),xF hj];have e0:s[j]=45:=by have:=bj (show j<s.length by omega);rw[this]at h0;exact cA h0
 have e1:s[j+1]=45:=by rw[bj hj]at h1;exact cA h1
 rw[e0,e1];rfl
def ZAZ(s:List UInt8):Lib.contains s [45,45]=true↔∃j:Nat,s[j]?=some (45:UInt8)/\s[j+1]?=some (45:UInt8):=by
 unfold Lib.contains;rw[gW];rcases Lib.index_spec s [45,45]with⟨h1,h2⟩|⟨i,h1,h2,h3,_⟩
 .constructor
  .intro h;omega
  rintro⟨j,hj⟩;have hlt:j<s.length:=(aL.1 hj.1).1;have:=h2 j O;rw[(occ2 s j).2 hj]at this;cases this
 constructor
 .intro _;exact⟨i,(occ2 s i).1 h3⟩
 intro _;omega
def ZA0(z:List Int)(hz:z.length<=4611686018427387904):bZ tY.step (.L0 z (z.length:Int) 0)=some (z.all okc):=by
 have:=Z24 (st:=λi=>Z6m.L0 z (z.length:Int) (i:Int)) (step:=tY.step) (bad:=false) z okc (λi x hx=>?_)
 .refine this.trans ?_;have he:bZ tY.step (.L0 z (z.length:Int) (z.length:Int))=some true:=by
   refine fc ?_;show(ua _ _ _).den=_;dsimp only[ua,LT.den];rw[bn O];rfl
  rw[he];cases z.all okc<;>rfl
 have hi:=(aL.1 hx).1;show(ua _ _ _).den=_;dsimp only[ua,LT.den];rw[bh O,aD,gz hx,bf,sG hi hz];unfold okc;rw[UJ,mR];by_cases h1:97<=x<;>by_cases h2:x<=122<;>by_cases h3:48<=x<;>by_cases h4:x<=57<;>by_cases h5:x=45 <;>
  first
  |(exfalso;omega)
  |simp[h1,h2,h3,h4,h5,oL.2,s9.1]
def XW{s:List UInt8}(h1:1<=s.length)(h2:s.length<=32):∃c d,idx? s 0=some c/\s.head?=some c/\idx? s (IntKind.wrap .i64 ((s.length:Int)-1))=some d/\s.getLast?=some d:=by
 obtain⟨e1,e2⟩:=ZAX h1;have hl:=ZAY h1;rw[ar O]at hl;have:s.getLast?=some (s[s.length-1]'(by omega)):=by rw[Vi];exact bj O
 exact⟨_,_,gz (j:=0) e1,e2,by rw[hl];exact this,this⟩
def ZA1(s:List UInt8):ED s=some (tW s):=by
 (unfold ED LF.run;dsimp only[XX,LT.den];unfold tW)
 by_cases h1:1<=s.length
 .rw [show((s.length:Int)==0)=false from by rw[mR];exact bn O];by_cases h2:s.length<=32
  .obtain⟨c,d,e1,e2,e3,e4⟩:=XW h1 h2;rw[show decide ((s.length:Int)>32)=false from bn O,e1,e2,e3,e4];simp only[aE,bf,Option.map_some,iA,bh h1,bh h2,fD,lowc];show Option.bind (bif decide (c8 c<97)then _ else bif decide (c8 c>122)then _ else bif (c8 d==45)then _ else _) _=_;by_cases h3:97<=c8 c
   .rw [show decide (c8 c<97)=false from bn O,bh h3];by_cases h4:c8 c<=122
    .rw [show decide (c8 c>122)=false from bn O,bh h4];cases h5:(c8 d==45)with
     |true=>simp[gy,h5,bne]
     |false=>
      simp only[aE,bne,h5,fO,fD];unfold strings_Contains;rw[ar O,bf];cases h6:Lib.contains s [45,45]with
      |true=>simp[gy]
      |false=>
       simp only[aE,fO,fD];unfold bytes?;rw[ar O,bf,bf,kf,ZA0 _ (by rw[cN];omega),yF];rfl
    rw[show decide (c8 c>122)=true from bh O,bn h4];simp[gy]
   rw[show decide (c8 c<97)=true from bh O,bn h3];simp[gy]
  rw[show decide ((s.length:Int)>32)=true from bh O,bn h2];simp[gy]
 rw[show((s.length:Int)==0)=true from by rw[mR];exact bh O,bn h1];simp[gy]
def XY(n:Int):uA n=some (decide (97<=n)&&decide (n<=122)):=by
 (unfold uA LF.run;dsimp only[yG,LT.den])
 by_cases h:n>=97
 .rw [bh h];simp[gy]
 rw[bn h];simp[gy]
def okAt(s:List UInt8)(i:Nat):Bool:=(s[i]?.map λc=>okc (c8 c)).getD false && !(decide (0<i)&&(s[i]?.map λc=>c8 c==45).getD false&&(s[i-1]?.map λc=>c8 c==45).getD false)
def ZA2(s:List UInt8)(h:s.length<=32)(i:Nat)(hi:i<s.length):nv.step (.L0 s (i:Int))=some (bif okAt s i then .inl (.L0 s ((i+1:Nat):Int))else .inr false):=by
 have hx:=bj hi;have hw:IntKind.wrap .i64 ((i:Int)+1)=((i+1:Nat):Int):=fg O O;have l1:(jW s (i:Int)).den=some (bif !(decide (0<i)&&(c8 s[i]==45)&&(s[i-1]?.map λc=>c8 c==45).getD false)then .inl (.L0 s ((i+1:Nat):Int))else .inr false):=by
  dsimp only[jW,LT.den];by_cases h0:0<i
  .rw [show decide ((i:Int)>0)=true from bh O,bh h0,gz hx,hw];have hy:=bj (show i-1<s.length by omega);have hw2:IntKind.wrap .i64 ((i:Int)-1)=((i-1:Nat):Int):=by rw[fg O O];omega
   rw[hw2,gz hy,hy];simp only[aD,bf,Option.map_some,iA,fD];show(bif c8 s[i]==45 then bif c8 s[i-1]==45 then _ else _ else _)=_;cases c8 s[i]==45<;>cases c8 s[i-1]==45<;>rfl
  rw[show decide ((i:Int)>0)=false from bn O,bn h0,hw];rfl
 show(nu _ _).den=_
 (dsimp only[nu,LT.den];unfold okAt)
 rw[bh (show(i:Int)<(s.length:Int) by omega),gz hx,hx];simp only[aD,bf,Option.map_some,iA,XY,l1];show(bif !(decide (97<=c8 s[i])&&decide (c8 s[i]<=122))then(bif decide (c8 s[i]<48)then(bif c8 s[i] != 45 then _ else _)else(bif decide (c8 s[i]>57)then(bif c8 s[i] != 45 then _ else _)else _))else _)=_;unfold okc;cases decide (97<=c8 s[i])&&decide (c8 s[i]<=122)with
 |true=>simp
 |false=>
  simp only[fO,aD,mD];by_cases h3:48<=c8 s[i]
  .rw [show decide (c8 s[i]<48)=false from bn O,bh h3];by_cases h4:c8 s[i]<=57
   .rw [show decide (c8 s[i]>57)=false from bn O,bh h4];simp
   rw[show decide (c8 s[i]>57)=true from bh O,bn h4];cases h5:c8 s[i]==45<;>simp[bne,h5]
  rw[show decide (c8 s[i]<48)=true from bh O,bn h3];cases h5:c8 s[i]==45<;>simp[bne,h5]
def ZA3(c:UInt8):(c8 c==45)=decide (c=45):=by
 rw[mR,sg];unfold c8;constructor
 .intro h;have:c.toNat=45:=by omega
  exact UInt8.toNat_inj.1 (by rw[this];rfl)
 rintro rfl;rfl
def ZA4(s:List UInt8):((List.range s.length).all λi=>okAt s i)=(!Lib.contains s [45,45]&&s.all λc=>okc (c8 c)):=by
 rw[ka,aO,bO,bO,dA];have hc:Lib.contains s [45,45]=false↔¬∃j:Nat,s[j]?=some (45:UInt8)/\s[j+1]?=some (45:UInt8):=by rw[<- ZAZ];simp
 rw[hc];constructor
 .intro h;refine⟨?_,λc hcm=>?_⟩
  .rintro ⟨j,h1,h2⟩;have hj:j+1<s.length:=(aL.1 h2).1;have:=h (j+1) (pc.2 hj);simp[okAt,h1,h2,c8]at this
  obtain⟨i,hi⟩:=List.mem_iff_getElem?.1 hcm;have:=h i (pc.2 (aL.1 hi).1);simp only[okAt,hi,Option.map_some,iA,aO]at this;exact this.1
 rintro⟨h1,h2⟩ i hi;have hi:=pc.1 hi;have hx:=bj hi;unfold okAt;rw[hx];simp only[Option.map_some,iA,h2 _ (kN hi),fD,dA];apply Bool.eq_false_iff.2;intro hb;simp only[aO,gW,ZA3]at hb;obtain⟨⟨b1,b2⟩,b3⟩:=hb;refine h1 ⟨i-1,?_,?_⟩
 .cases hy:s[i-1]? with
  |none=>simp[hy]at b3
  |some y=>simp only[hy,Option.map_some,iA,gW]at b3;rw[b3]
 rw[show i-1+1=i by omega,hx,b2]
def ZA5(s:List UInt8):uB s=some (tW s):=by
 (unfold uB LF.run;dsimp only[yH,LT.den];unfold tW)
 by_cases h1:1<=s.length
 .rw [show decide ((s.length:Int)<1)=false from bn O];by_cases h2:s.length<=32
  .obtain⟨c,d,e1,e2,e3,e4⟩:=XW h1 h2;rw[show decide ((s.length:Int)>32)=false from bn O,e1,e2,e3,e4];simp only[aE,bf,Option.map_some,iA,bh h1,bh h2,fD,XY];show Option.bind (bif !lowc c then _ else bif (c8 d==45)then _ else _) _=_;cases lowc c with
   |false=>simp[gy]
   |true=>
    cases h5:(c8 d==45)with
    |true=>simp[gy,h5,bne]
    |false=>
     simp only[aE,bne,h5,fO,ir,fD,bf,kf];have:=scan (st:=λi=>jV.L0 s (i:Int)) (step:=nv.step) (bad:=false) s.length (okAt s) (λi hi=>ZA2 s h2 i hi);rw[show(jV.L0 s 0)=jV.L0 s ((0:Nat):Int)from rfl,this,ZA4];have he:bZ nv.step (.L0 s (s.length:Int))=some true:=by refine fc ?_;show(nu _ _).den=_;dsimp only[nu,LT.den];rw[bn O];rfl
     rw[he];cases !Lib.contains s [45,45]&&s.all λc=>okc (c8 c)<;>rfl
  rw[show decide ((s.length:Int)>32)=true from bh O,bn h2];simp[gy]
 rw[show decide ((s.length:Int)<1)=true from bh O,bn h1];simp[gy]
end Go.PW
set_option maxRecDepth 100000
namespace Go.PW
def supW:List (List UInt8):=[[98,97,115,105,99],[117,110,105,113,117,101]]
def typW:List (List UInt8):=[[99,114,101,97,116,117,114,101],[105,110,115,116,97,110,116],[114,105,116,117,97,108],[114,101,108,105,99],[99,104,97,114,109],[108,97,110,100]]
def dm(l:List (List UInt8))(s:List UInt8):Bool:=l.any λw=>w==s
def ga(s:List UInt8):Bool:=tW s&&(!dm supW s && !dm typW s)
def XZ:∀i:Nat,i<6->(Z23 .i64 1 (i:Int)==0)=false
 |0,_=>rfl
 |1,_=>rfl
 |2,_=>rfl
 |3,_=>rfl
 |4,_=>rfl
 |5,_=>rfl
 |n+6,h=>absurd h O
def ZA6(s:List UInt8):∃x,EE s 2=some x/\(x==0) = !dm supW s:=by
 (unfold EE LF.run;dsimp only[X0,LT.den])
 simp only[bf,kf];have hfind:=s5 (step:=EF.step) supW (λi =>.L0 s 2 (i:Int)) (λi=>Z23 .i64 1 (i:Int)) (λw=>w==s) (λi x hx=>by
  have hi:=(aL.1 hx).1;have hi:i<2:=hi;have hw:EG (i:Int)=some x:=by
   (unfold EG LF.run;dsimp only[Z3v,LT.den])
   show Option.bind (Option.bind (idx? supW (i:Int)) λx1=>some (.inr x1)) (dh EH.step)=_;rw[gz hx];rfl
  show(yb s 2 (i:Int)).den=_;dsimp only[yb,LT.den];rw[bh (show(i:Int)<2 by omega),hw,fg O O];simp only[aD,bf,UI];rw[show decide (¬(i:Int)<0)=true from bh O];cases x==s<;>rfl)
 rcases hfind with⟨h1,i,h2,h3⟩|⟨h1,h2⟩
 .exact⟨_,h3,by rw[XZ i (eF h2 bF)];unfold dm;rw[h1];rfl⟩
 refine⟨0,h2.trans (fc ?_),by unfold dm;rw[h1];rfl⟩;show(yb s 2 2).den=_;rfl
def ZA7(s:List UInt8):∃x,EI s 6=some x/\(x==0) = !dm typW s:=by
 (unfold EI LF.run;dsimp only[X1,LT.den])
 simp only[bf,kf];have hfind:=s5 (step:=EJ.step) typW (λi =>.L0 s 6 (i:Int)) (λi=>Z23 .i64 1 (i:Int)) (λw=>w==s) (λi x hx=>by
  have hi:=(aL.1 hx).1;have hi:i<6:=hi;have hw:Z0k (i:Int)=some x:=by
   (unfold Z0k LF.run;dsimp only[Z6n,LT.den])
   show Option.bind (Option.bind (idx? typW (i:Int)) λx1=>some (.inr x1)) (dh EK.step)=_;rw[gz hx];rfl
  show(yc s 6 (i:Int)).den=_;dsimp only[yc,LT.den];rw[bh (show(i:Int)<6 by omega),hw,fg O O];simp only[aD,bf,UI];rw[show decide (¬(i:Int)<0)=true from bh O];cases x==s<;>rfl)
 rcases hfind with⟨h1,i,h2,h3⟩|⟨h1,h2⟩
 .exact⟨_,h3,by rw[XZ i (eF h2 bF)];unfold dm;rw[h1];rfl⟩
 refine⟨0,h2.trans (fc ?_),by unfold dm;rw[h1];rfl⟩;show(yc s 6 6).den=_;rfl
def Wa(s:List UInt8):Z2e s=some (ga s):=by
 (unfold Z2e LF.run;dsimp only[X2,LT.den];unfold ga)
 obtain⟨x,hx,ex⟩:=ZA6 s;obtain⟨y,hy,ey⟩:=ZA7 s;simp only[ZA1,hx,hy,bf,ex,ey];exact iu λ_=>iu λ_=>rfl
def EL(l:List (List UInt8))(s:List UInt8)(hl:l.length<=4611686018427387904):∃x,yL l s=some x/\decide (x<0) = !dm l s/\decide (x>=0)=dm l s:=by
 (unfold yL LF.run;dsimp only[FH,LT.den])
 simp only[bf,kf];have hfind:=s5 (step:=Z7y.step) l (λi =>.L0 l s (i:Int)) (λi=>(i:Int)) (λw=>w==s) (λi x hx=>by have hi:=(aL.1 hx).1;show(pI _ _ _).den=_;dsimp only[pI,LT.den];rw[bh O,gz hx,sG hi hl];simp only[aD,bf];cases x==s<;>rfl);rcases hfind with⟨h1,i,h2,h3⟩|⟨h1,h2⟩
 .refine⟨_,h3,?_,?_⟩<;>unfold dm<;>rw[h1]
  .exact bn O
  exact bh O
 refine⟨-1,h2.trans (fc ?_),?_,?_⟩
 .show (pI _ _ _).den=_;dsimp only[pI,LT.den];rw[bn O];rfl
 .unfold dm;rw[h1];rfl
 unfold dm;rw[h1];rfl
def TL(s:List UInt8):Z5p s=some (ga s):=by
 (unfold Z5p LF.run;dsimp only[FI,LT.den];unfold ga)
 obtain⟨x,hx,ex,_⟩:=EL supW s bF;obtain⟨y,hy,ey,_⟩:=EL typW s bF;have h1:yK=some supW:=rfl;have h2:uC=some typW:=rfl;simp only[ZA5,h1,h2,hx,hy,bf,ex,ey];exact iu λ_=>iu λ_=>rfl
def Mg(l:aK)(s:List UInt8)(hl:l.Subs.length<=4611686018427387904):Z2j l s=some (dm l.Subs s):=by
 (unfold Z2j LF.run;dsimp only[PL,LT.den])
 obtain⟨x,hx,_,ex⟩:=EL l.Subs s hl;simp only[hx,bf,ex];rfl
def Qw(l:aK)(s:List UInt8)(hl:l.Subs.length<=4611686018427387904):xR l s=some (dm l.Subs s):=by
 (unfold xR LF.run;dsimp only[X3,LT.den];unfold X4 LF.run;dsimp only[X5,LT.den];unfold X6 LF.run;dsimp only[X7,LT.den])
 simp only[bf,kf];have hfind:=s5 (step:=yd.step) l.Subs (λi =>.L0 l.Subs s (l.Subs.length:Int) (i:Int)) (λi=>(i:Int)) (λw=>w==s) (λi x hx=>by have hi:=(aL.1 hx).1;show(ub _ _ _ _).den=_;dsimp only[ub,LT.den];rw[bh O,gz hx,sG hi hl];simp only[aD,bf];rw[show(s==x)=(x==s)from by rw[UK,UK];simp[eq_comm]];cases x==s<;>rfl
)
 rcases hfind with⟨h1,i,h2,h3⟩|⟨h1,h2⟩
 .rw [show(uc.L0 l.Subs s (l.Subs.length:Int) 0) = .L0 l.Subs s (l.Subs.length:Int) ((0:Nat):Int)from rfl,h3]
  unfold dm;rw[h1]
  simp only[bf,gy]
  rw[bh O]
 .have he:bZ yd.step (.L0 l.Subs s (l.Subs.length:Int) (l.Subs.length:Int))=some (-1):=by
   refine fc ?_
   show(ub _ _ _ _).den=_
   dsimp only[ub,LT.den]
   rw[bn O];rfl
  rw[show(uc.L0 l.Subs s (l.Subs.length:Int) 0) = .L0 l.Subs s (l.Subs.length:Int) ((0:Nat):Int)from rfl,h2,he]
  unfold dm;rw[h1];rfl
def btw(n m:Int):Bool:=decide (n>=0)&&decide (n<=m)
def gh(b:ah):Bool:=btw b.Kind 3&&(btw b.N 1000000&&(b.Kind != 0||b.N==0))
def Z8r(a b:Int):Bool:=aR .and .i64 a b==0
def Z00(f:al):Bool:=
 btw f.Zone 5&&(btw f.Who 2&&(btw f.Self 2&&(btw f.Tap 2&&(btw f.Keys 131071&&(btw f.Types 63&&(btw f.NotTypes 63&&(Z8r f.Types f.NotTypes &&
 (btw f.Colors 31&&(btw f.NotColors 31&&(Z8r f.Colors f.NotColors&&((f.Sub==[]||ga f.Sub)&&(gh f.Power&&(gh f.Tough&&gh f.Value)))))))))))))
def X8(n m:Int):EM n m=some (btw n m):=by
 (unfold EM LF.run;dsimp only[Z3t,LT.den];unfold btw)
 exact iu λ_=>rfl
def ZA8(b:ah):EN b=some (gh b):=by
 (unfold EN LF.run;dsimp only[Z3w,LT.den];unfold gh)
 simp only[X8,bf];refine iu λ_=>iu λ_=>?_;cases b.Kind != 0<;>rfl
def X9(f:al):(ud f).den.bind (dh ue.step)=some (gh f.Power&&(gh f.Tough&&gh f.Value)):=by dsimp only[ud,LT.den];simp only[ZA8,bf];exact iu λ_=>iu λ_=>rfl
def Qz(f:al):Z6o f=some (Z00 f):=by
 (unfold Z6o LF.run;dsimp only[Ya,LT.den];unfold Z00)
 simp only[X8,bf,Wa];refine dQ λ_=>dQ λ_=>dQ λ_=>dQ λ_=>dQ λ_=>dQ λ_=>dQ λ_=>?_;have dis:∀{a b r:Bool} {c d:Int} {k:Option (ye⊕Bool)},k.bind (dh ue.step)=some r->(bif (aR .and .i64 c d != 0)then some (.inr false)else k).bind (dh ue.step)=some (Z8r c d&&r):=by intro a b r c d k h;unfold Z8r;simp only[bne];exact dQ λ_=>h
 refine dis (a:=true) (b:=true) (dQ λ_=>dQ λ_=>dis (a:=true) (b:=true) ?_);cases f.Sub==[]with
 |true=>simp only[ir,aE,wU,fD];exact X9 f
 |false=>simp only[fO,aD,mD];exact dQ λ_=>X9 f
def ZA9(b:ah):Z5r b=some (gh b):=by
 (unfold Z5r LF.run;dsimp only[Z70,LT.den])
 refine(cF λ_=>cF λ_=>cF λ_=>cF λ_=>(show _=some (b.Kind != 0||b.N==0)from by cases b.Kind != 0<;>rfl)).trans ?_;congr 1
 (unfold gh;unfold btw)
 rw[ka];simp only[aO,dA,oG,gW,mA,sB,oL];constructor
 .rintro ⟨h1,h2,h3,h4,h5⟩;exact⟨⟨h1,h2⟩,⟨h3,h4⟩,h5⟩
 rintro⟨⟨h1,h2⟩,⟨h3,h4⟩,h5⟩;exact⟨h1,h2,h3,h4,h5⟩
def Yb:∀(d i a b:Nat),i+d=6->a<2 ^ 62->b<2 ^ 62->bZ ny.step (.L0 (a:Int) (b:Int) (i:Int))=some (Z25 d a b)
 |0,i,a,b,hi,_,_=>by refine fc ?_;show(nx _ _ _).den=_;dsimp only[nx,LT.den];rw[bn O];rfl
 |d+1,i,a,b,hi,ha,hb=>by
  have hw:IntKind.wrap .i64 ((i:Int)+1)=((i+1:Nat):Int):=fg O O;have hs:ny.step (.L0 (a:Int) (b:Int) (i:Int))=some (bif decide (a%2=1)&&decide (b%2=1)then .inr false else .inl (.L0 ((a/2:Nat):Int) ((b/2:Nat):Int) ((i+1:Nat):Int))):=by show(nx _ _ _).den=_;dsimp only[nx,LT.den];rw[bh O,UP,UP,UO a ha,UO b hb,hw];cases decide (a%2=1)<;>cases decide (b%2=1)<;>rfl
  unfold Z25;by_cases h:a%2=1/\b%2=1
  .rw [ar h];rw[bh h.1,bh h.2]at hs;exact fc hs
  rw[aw h];have:(decide (a%2=1)&&decide (b%2=1))=false:=by rw[<- nU];exact bn h
  rw[this]at hs;rw[jN hs];exact Yb d (i+1) (a/2) (b/2) O O O
def Yc(a b m:Int)(hm:m<64):Z5q a b m=some (btw a m&&(btw b m&&Z8r a b)):=by
 have key:∀{r:Bool},(0<=a->a<=m->0<=b->b<=m->r=Z8r a b)->(!decide (a<0)&&(!decide (a>m)&&(!decide (b<0)&&(!decide (b>m)&&r))))=(btw a m&&(btw b m&&Z8r a b)):=by
  intro r hr;unfold btw;by_cases h1:0<=a
  .by_cases h2:a<=m
   .by_cases h3:0<=b
    .by_cases h4:b<=m
     .rw [hr h1 h2 h3 h4];simp[h1,h2,h3,h4,oL.2]
     simp[h4,s9.1 h4]
    simp[h3,s9.1 h3]
   simp[h2,s9.1 h2]
  simp[h1,s9.1 h1]
 (unfold Z5q LF.run;dsimp only[Z7z,LT.den])
 by_cases hin:0<=a/\a<=m/\0<=b/\b<=m
 .obtain⟨h1,h2,h3,h4⟩:=hin;refine(cF (r := !decide (a>m)&&(!decide (b<0)&&(!decide (b>m)&&Z8r a b))) λ_=>cF λ_=>cF λ_=>cF λ_=>?_).trans (fE some (key λ_ _ _ _=>rfl));obtain⟨x,rfl⟩:=Vg h1;obtain⟨y,rfl⟩:=Vg h3;show bZ ny.step (.L0 (x:Int) (y:Int) ((0:Nat):Int))=_;rw[Yb 6 0 x y rfl O O,ZyC O];unfold Z8r;rw[ZyB O O,mR];congr 1;rw[sg];omega
 refine(cF (r := !decide (a>m)&&(!decide (b<0)&&(!decide (b>m)&&Z8r a b))) λe1=>cF λe2=>cF λe3=>cF λe4=>?_).trans (fE some (key λ_ _ _ _=>rfl));simp only[oG]at e1 e2 e3 e4;exact absurd ⟨by omega,by omega,by omega,by omega⟩ hin
def Yd(f:al):(lI f).den.bind (dh yQ.step)=some (gh f.Power&&(gh f.Tough&&gh f.Value)):=by dsimp only[lI,LT.den];simp only[ZA9,bf];exact iu λ_=>iu λ_=>rfl
def QC(f:al):pL f=some (Z00 f):=by
 (unfold pL LF.run;dsimp only[yP,LT.den])
 simp only[Yc _ _ _ (by decide:(63:Int)<64),Yc _ _ _ (by decide:(31:Int)<64),bf,TL];refine(cF λ_=>cF λ_=>cF λ_=>cF λ_=>cF λ_=>cF λ_=>cF λ_=>cF λ_=>dQ λ_=>dQ λ_=>(show _=some ((f.Sub==[]||ga f.Sub)&&(!decide (f.Keys<0)&&(!decide (f.Keys>131071)&&(gh f.Power&&(gh f.Tough&&gh f.Value)))))from ?_)).trans ?_
 .cases f.Sub==[]with
  |true=>simp only[ir,aE,wU,fD];exact cF λ_=>cF λ_=>Yd f
  |false=>simp only[fO,aD,mD];exact dQ λ_=>cF λ_=>cF λ_=>Yd f
 congr 1
 (unfold Z00;unfold btw)
 rw[ka];simp only[aO,dA,oG,gW,mA,sB,oL];constructor
 .rintro ⟨z1,z2,w1,w2,s1,s2,t1,t2,⟨⟨a1,a2⟩,⟨b1,b2⟩,d1⟩,⟨⟨c1,c2⟩,⟨e1,e2⟩,d2⟩,su,k1,k2,p,q,v⟩;exact⟨⟨z1,z2⟩,⟨w1,w2⟩,⟨s1,s2⟩,⟨t1,t2⟩,⟨k1,k2⟩,⟨a1,a2⟩,⟨b1,b2⟩,d1,⟨c1,c2⟩,⟨e1,e2⟩,d2,su,p,q,v⟩
 rintro⟨⟨z1,z2⟩,⟨w1,w2⟩,⟨s1,s2⟩,⟨t1,t2⟩,⟨k1,k2⟩,⟨a1,a2⟩,⟨b1,b2⟩,d1,⟨c1,c2⟩,⟨e1,e2⟩,d2,su,p,q,v⟩;exact⟨z1,z2,w1,w2,s1,s2,t1,t2,⟨⟨a1,a2⟩,⟨b1,b2⟩,d1⟩,⟨⟨c1,c2⟩,⟨e1,e2⟩,d2⟩,su,k1,k2,p,q,v⟩
end Go.PW
set_option maxRecDepth 100000
namespace Go.PW
def sA{n:Int}(h1 : -1000000<=n)(h2:n<=1000000):Z6e n=some n/\Z6y n=some n:=by
 constructor
 ·(unfold Z6e LF.run;dsimp only[Z79,LT.den])
  simp only[bf,gy]
  (unfold minI;unfold maxI)
  congr 1;repeat' split;all_goals omega
 ·(unfold Z6y LF.run;dsimp only[Z8d,LT.den])
  rw[bn O,bn O];rfl
def Cd{a b:Int}(h1:0<=a)(h2:a<=100000)(h3:0<=b)(h4:b<=100000):wN a b=some (a+b)/\vl a b=some (a+b):=by
 obtain⟨a1,a2⟩:=sA (n:=a) O O;obtain⟨b1,b2⟩:=sA (n:=b) O O;obtain⟨c1,c2⟩:=sA (n:=a+b) O O;have hw:IntKind.wrap .i64 (a+b)=a+b:=fg O O;constructor
 ·(unfold wN LF.run;dsimp only[Ce,LT.den])
  simp only[a1,b1,c1,hw,bf];rfl
 ·(unfold vl LF.run;dsimp only[Ag,LT.den])
  simp only[a2,b2,c2,hw,bf];rfl
def mul_zero{a:Int}(h1:0<=a)(h2:a<=100000):Cf a 0=some 0/\BX a 0=some 0:=by
 obtain⟨a1,a2⟩:=sA (n:=a) O O;obtain⟨b1,b2⟩:=sA (n:=0) O O;have hw:IntKind.wrap .i64 (a*0)=0:=by rw[Int.mul_zero];rfl
 constructor
 ·(unfold Cf LF.run;dsimp only[Qp,LT.den])
  simp only[a1,b1,hw,bf];rfl
 ·(unfold BX LF.run;dsimp only[PU,LT.den])
  simp only[a2,b2,hw,bf];rfl
def Z62(c:aJ):Bool:=btw c.Generic 99&&(btw c.X 2&&c.Color.list.all λn=>btw n 9)
def ZpP(c:aJ):uJ c=some (Z62 c):=by
 (unfold uJ LF.run;dsimp only[zv,LT.den])
 simp only[bf,kf];have:=Z24 (st:=λi=>lS.L0 c c.Color (i:Int)) (step:=nN.step) (bad:=false) c.Color.list (λn=>btw n 9) (λi x hx=>by
  have hi:=(aL.1 hx).1;have hi:i<5:=hi;show(nM _ _ _).den=_;dsimp only[nM,LT.den];rw[bh O,gz hx,fg O O];simp only[aD,bf];unfold btw;by_cases h1:x<0
  .rw [bh h1,bn (show ¬x>=0 by omega)];rfl
  rw[bn h1,bh (show x>=0 by omega)];by_cases h2:x>9
  .rw [bh h2,bn (show ¬x<=9 by omega)];rfl
  rw[bn h2,bh (show x<=9 by omega)];rfl)
 rw[show(lS.L0 c c.Color 0) = .L0 c c.Color ((0:Nat):Int)from rfl,this];have he:bZ nN.step (.L0 c c.Color ((c.Color.list.length:Nat):Int))=some (btw c.Generic 99&&btw c.X 2):=by
  have e:nN.step (.L0 c c.Color ((c.Color.list.length:Nat):Int))=some (.inr (btw c.Generic 99&&btw c.X 2)):=by
   show(nM c c.Color 5).den=_
   (dsimp only[nM,LT.den];unfold btw)
   rw[bn O];cases decide (c.Generic>=0)<;>cases decide (c.Generic<=99)<;>cases decide (c.X>=0)<;>rfl
  exact fc e
 rw[he];unfold Z62;cases c.Color.list.all λn=>btw n 9<;>cases btw c.Generic 99<;>cases btw c.X 2<;>rfl
def ZpQ(c:aJ):Z9l c=some (Z62 c):=by
 (unfold Z9l LF.run;dsimp only[yJ,LT.den])
 have hl:bZ jA.step (.L0 c 0)=some (c.Color.list.all λn=>btw n 9):=by
  have:=Z24 (st:=λi=>jX.L0 c (i:Int)) (step:=jA.step) (bad:=false) c.Color.list (λn=>btw n 9) (λi x hx=>by
   have hi:=(aL.1 hx).1;have hi:i<5:=hi;show(nw _ _).den=_;dsimp only[nw,LT.den];rw[bh O,gz hx,fg O O];simp only[aD,bf];unfold btw;by_cases h1:x<0
   .rw [bh h1,bn (show ¬x>=0 by omega)];rfl
   rw[bn h1,bh (show x>=0 by omega)];by_cases h2:x>9
   .rw [bh h2,bn (show ¬x<=9 by omega)];rfl
   rw[bn h2,bh (show x<=9 by omega)];rfl)
  rw[show(jX.L0 c 0) = .L0 c ((0:Nat):Int)from rfl,this];have he:bZ jA.step (.L0 c ((c.Color.list.length:Nat):Int))=some true:=Qq
  rw[he];cases c.Color.list.all λn=>btw n 9<;>rfl
 refine(cF λ_=>cF λ_=>cF λ_=>cF λ_=>(show Option.bind (some (Sum.inl (jX.L0 c 0))) (dh jA.step)=some (c.Color.list.all λn=>btw n 9)from hl)).trans ?_;congr 1
 (unfold Z62;unfold btw)
 rw[ka];simp only[aO,dA,oG,gW,mA,sB,oL];constructor
 .rintro ⟨h1,h2,h3,h4,h5⟩;exact⟨⟨h1,h2⟩,⟨h3,h4⟩,h5⟩
 rintro⟨⟨h1,h2⟩,⟨h3,h4⟩,h5⟩;exact⟨h1,h2,h3,h4,h5⟩
def valV(c:aJ):Int:=bif Z62 c then c.Generic+c.Color.a0+c.Color.a1+c.Color.a2+c.Color.a3+c.Color.a4 else 0
def ZpR{c:aJ}(h:Z62 c=true):(0<=c.Generic/\c.Generic<=99)/\(0<=c.X/\c.X<=2)/\(0<=c.Color.a0/\c.Color.a0<=9)/\(0<=c.Color.a1/\c.Color.a1<=9)/\(0<=c.Color.a2/\c.Color.a2<=9)/\(0<=c.Color.a3/\c.Color.a3<=9)/\(0<=c.Color.a4/\c.Color.a4<=9):=by simpa[Z62,btw,A5.list]using h
def Qr(c:aJ):Cg c 0=some (valV c)/\BY c 0=some (valV c):=by
 (unfold Cg LF.run;dsimp only[Qs,LT.den];unfold BY LF.run;dsimp only[PZ,LT.den];unfold valV)
 rw[ZpP,ZpQ];simp only[bf];cases hc:Z62 c with
 |false=>exact⟨rfl,rfl⟩
 |true=>
  obtain⟨g,x,h0,h1,h2,h3,h4⟩:=ZpR hc;obtain⟨gen,xx,⟨a0,a1,a2,a3,a4⟩⟩:=c;simp only at g x h0 h1 h2 h3 h4⊢;simp only[ir,aE,bf,kf,aD];constructor
  .have hw:∀{n:Int},0<=n->n<=1000->IntKind.wrap .i64 n=n:=λh1 h2=>fg O O;have r:∀(v i y:Int),i<5->idx? [a0,a1,a2,a3,a4] i=some y->0<=v+y->v+y<=1000->0<=i->bZ wP.step (.L0 0 ⟨gen,xx,⟨a0,a1,a2,a3,a4⟩⟩ v ⟨a0,a1,a2,a3,a4⟩ i)=bZ wP.step (.L0 0 ⟨gen,xx,⟨a0,a1,a2,a3,a4⟩⟩ (v+y) ⟨a0,a1,a2,a3,a4⟩ (i+1)):=λv i y hi hy h1 h2 h0=>by
    refine jN ?_;show(sC _ _ _ _ _).den=_;dsimp only[sC,LT.den];rw[bh hi,show idx? (A5.list (⟨a0,a1,a2,a3,a4⟩:A5 Int)) i=some y from hy,bf,hw h1 h2,fg O O];rfl
   rw[r gen 0 a0 O rfl O O O,r _ _ a1 O rfl O O O,r _ _ a2 O rfl O O O,r _ _ a3 O rfl O O O,r _ _ a4 O rfl O O O];refine fc ?_;show(sC _ _ _ _ 5).den=_;dsimp only[sC,LT.den];have e1:=(mul_zero (a:=xx) O O).1;have e2:=(Cd (a:=gen+a0+a1+a2+a3+a4) (b:=0) O O O O).1;rw[bn O];simp only[aE,show maxI 0 0=0 from rfl,e1,e2,bf,Int.add_zero]
  have r:∀(v i y:Int),i<5->idx? [a0,a1,a2,a3,a4] i=some y->0<=v->v<=1000->0<=y->y<=9->0<=i->bZ wD.step (.L0 0 ⟨gen,xx,⟨a0,a1,a2,a3,a4⟩⟩ v i)=bZ wD.step (.L0 0 ⟨gen,xx,⟨a0,a1,a2,a3,a4⟩⟩ (v+y) (i+1)):=λv i y hi hy h1 h2 h3 h4 h0=>by refine jN ?_;show(sn _ _ _ _).den=_;dsimp only[sn,LT.den];rw[bh hi,show idx? (A5.list (⟨a0,a1,a2,a3,a4⟩:A5 Int)) i=some y from hy,bf,(Cd h1 O h3 O).2,bf,fg O O];rfl
  rw[r gen 0 a0 O rfl O O O O O,r _ _ a1 O rfl O O O O O,r _ _ a2 O rfl O O O O O,r _ _ a3 O rfl O O O O O,r _ _ a4 O rfl O O O O O];refine fc ?_;show(sn _ _ _ 5).den=_;dsimp only[sn,LT.den];have e1:=(mul_zero (a:=xx) O O).2;have e2:=(Cd (a:=gen+a0+a1+a2+a3+a4) (b:=0) O O O O).2;rw[bn O,bn O];simp only[aE,e1,e2,bf,Int.add_zero]
def metV(b:ah)(n:Int):Bool:=bif b.Kind==0 then true else bif b.Kind==1 then decide (n>=b.N)else bif b.Kind==2 then decide (n<=b.N)else bif b.Kind==3 then n==b.N else false
def wQ(b:ah)(n:Int):Ch b n=some (metV b n)/\BW b n=some (metV b n):=by
 (unfold Ch LF.run;dsimp only[Qt,LT.den];unfold BW LF.run;dsimp only[PS,LT.den];unfold metV)
 cases b.Kind==0<;>cases b.Kind==1<;>cases b.Kind==2<;>cases b.Kind==3<;>exact⟨rfl,rfl⟩
def gV(h s n:Int):Bool:=(s==0||aR .and .i64 h s != 0)&&aR .and .i64 h n==0
def Z8s(a b w:Int):Bool:=bif w==1 then a==b else bif w != 2 then true else a != b
def tapV(t:Bool)(w:Int):Bool:=bif w==1 then t else bif w != 2 then true else !t
def ff(t:ab):Bool:=aR .and .i64 t.Line.Types 1 != 0
def bouV(cr:Bool)(b:ah)(n:Int):Bool:=b.Kind==0||(cr&&metV b n)
def eW(t:ab)(f:al):Bool:=bouV (ff t) f.Power t.Power&&(bouV (ff t) f.Tough t.Tough&&metV f.Value (valV t.Cost))
def Z4d(t:ab)(f:al):Bool:=aR .and .i64 t.Keys f.Keys==f.Keys
def fM(t:ab)(f:al):Bool:=f.Sub==[]||dm t.Line.Subs f.Sub
def gN(o:aj)(t:ab)(you source:Int)(f:al):Bool:=
 Z00 f&&(o.Zone==f.Zone&&(Z8s t.Control you f.Who&&(Z8s o.Id source f.Self&&(gV t.Line.Types f.Types f.NotTypes&&(gV t.Colors f.Colors f.NotColors &&
  (fM t f&&(Z4d t f&&(tapV o.Tapped f.Tap&&eW t f))))))))
def ZpS(h s n:Int):Ci h s n=some (gV h s n):=by
 (unfold Ci LF.run;dsimp only[Z3y,LT.den];unfold gV)
 cases s==0<;>cases aR .and .i64 h s != 0<;>rfl
def ZpT(b:ah)(n:Int)(cr:Bool):Cj b n cr=some (bouV cr b n):=by
 (unfold Cj LF.run;dsimp only[Qu,LT.den];unfold bouV)
 rw[(wQ b n).1];cases b.Kind==0<;>cases cr<;>cases metV b n<;>rfl
def m4(t:ab)(f:al):(mB t f (ff t)).den.bind (dh mC.step)=some (eW t f):=by
 (dsimp only[mB,LT.den];unfold eW)
 simp only[ZpT,(Qr _).1,(wQ _ _).1,bf];exact iu λ_=>iu λ_=>rfl
def m3(o:aj)(t:ab)(f:al)(v:Bool):(oM o t f (ff t) v).den.bind (dh mC.step)=some (!v&&(tapV o.Tapped f.Tap&&eW t f)):=by
 dsimp only[oM,LT.den];refine cF λ_=>?_;have hm:=m4 t f;unfold tapV;by_cases h1:f.Tap=1
 .rw [show(f.Tap==1)=true from by rw[h1];rfl,show(f.Tap==2)=false from by rw[h1];rfl];cases o.Tapped
  .rfl
  simpa using hm
 rw[show(f.Tap==1)=false from sD.2 h1];cases h2:f.Tap==2 with
 |false=>simpa[bne,h2]using hm
 |true=>
  cases o.Tapped
  .simpa [bne,h2]using hm
  simp[bne,h2,gy]
def m2(o:aj)(t:ab)(f:al)(v:Bool)(ht:t.Line.Subs.length<=4611686018427387904) :
 (sE o t f (ff t) v).den.bind (dh mC.step)=some (!v&&(fM t f&&(Z4d t f&&(tapV o.Tapped f.Tap&&eW t f)))):=by
 dsimp only[sE,LT.den];refine cF λ_=>?_;have hk:Qv t.Keys f.Keys=some (Z4d t f):=rfl;simp only[Qw _ _ ht,hk,bf];unfold fM;cases f.Sub==[]with
 |true=>simp only[ir,aE,wU,fD];rw[m3,Ck]
 |false=>
  simp only[fO,aD,mD];cases dm t.Line.Subs f.Sub with
  |false=>simp only[fO,aD];rw[m3];rfl
  |true=>simp only[ir,aE];rw[m3,Ck];rfl
def m1(o:aj)(t:ab)(f:al)(v:Bool)(ht:t.Line.Subs.length<=4611686018427387904) :
 (la o t f (ff t) v).den.bind (dh mC.step)=some (!v&&(gV t.Line.Types f.Types f.NotTypes&&(gV t.Colors f.Colors f.NotColors&&(fM t f&&(Z4d t f&&(tapV o.Tapped f.Tap&&eW t f)))))):=by
 dsimp only[la,LT.den];refine cF λ_=>?_;simp only[ZpS,bf];cases gV t.Line.Types f.Types f.NotTypes with
 |false=>simp only[fO,aD];rw[m2 o t f _ ht];rfl
 |true=>simp only[ir,aE];rw[m2 o t f _ ht,Ck];rfl
def m0(o:aj)(t:ab)(source:Int)(f:al)(v:Bool)(ht:t.Line.Subs.length<=4611686018427387904) :
 (iv source o t f (ff t) v).den.bind (dh mC.step)=some (!v&&(Z8s o.Id source f.Self&&(gV t.Line.Types f.Types f.NotTypes&&(gV t.Colors f.Colors f.NotColors&&(fM t f&&(Z4d t f&&(tapV o.Tapped f.Tap&&eW t f))))))):=by
 dsimp only[iv,LT.den];refine cF λ_=>?_;have hm:=λv=>m1 o t f v ht;unfold Z8s;by_cases h1:f.Self=1
 .rw [show(f.Self==1)=true from by rw[h1];rfl,show(f.Self==2)=false from by rw[h1];rfl];cases h:o.Id==source
  .simp only[aD,bne,h,fO];rw[hm];rfl
  simp only[aD,bne,h,ir,aE];rw[hm];rfl
 rw[show(f.Self==1)=false from sD.2 h1];cases h2:f.Self==2 with
 |false=>simp only[aE,bne,h2,fO,aD];rw[hm];rfl
 |true=>simp only[aE,bne,h2,ir,aD];rw[hm]
def Qx(o:aj)(t:ab)(you source:Int)(f:al)(ht:t.Line.Subs.length<=4611686018427387904):wV o t you source f=some (gN o t you source f):=by
 (unfold wV LF.run;dsimp only[Qy,LT.den];unfold gN)
 rw[Qz,bf];refine dQ λ_=>?_;have hz:(o.Zone != f.Zone) = !(o.Zone==f.Zone):=rfl;rw[hz];refine dQ λ_=>?_;have hm:=λv=>m0 o t source f v ht;show Option.bind (bif (f.Who==1)then bif (t.Control != you)then(iv source o t f (ff t) _).den else bif (f.Who==2)then(iv source o t f (ff t) _).den else(iv source o t f (ff t) _).den else bif (f.Who==2)then(iv source o t f (ff t) _).den else(iv source o t f (ff t) _).den) _=_;unfold Z8s;by_cases h1:f.Who=1
 .rw [show(f.Who==1)=true from by rw[h1];rfl,show(f.Who==2)=false from by rw[h1];rfl];cases h:t.Control==you
  .simp only[aD,bne,h,fO];rw[hm];rfl
  simp only[aD,bne,h,ir,aE];rw[hm];rfl
 rw[show(f.Who==1)=false from sD.2 h1];cases h2:f.Who==2 with
 |false=>simp only[aE,bne,h2,fO,aD];rw[hm];rfl
 |true=>simp only[aE,bne,h2,ir,aD];rw[hm];rfl
def b0(t:ab)(f:al):(oJ t f (ff t)).den.bind (dh Z37.step)=some (bouV (ff t) f.Tough t.Tough&&metV f.Value (valV t.Cost)):=by
 (dsimp only[oJ,LT.den];unfold bouV)
 simp only[(Qr _).2,(wQ _ _).2,bf,bne];cases f.Tough.Kind==0<;>cases ff t<;>cases metV f.Tough t.Tough<;>rfl
def ZpU(t:ab)(f:al):BZ t f=some (eW t f):=by
 (unfold BZ LF.run;dsimp only[P0,LT.den];unfold eW)
 have hs:Z8g t.Line.Types 1=some (ff t):=rfl;rw[hs,bf];simp only[(wQ _ _).2,bf,bne];have hb:=b0 t f;unfold bouV at hb⊢;cases f.Power.Kind==0 with
 |true=>simpa using hb
 |false=>
  cases hc:ff t with
  |false=>rfl
  |true=>
   rw[hc]at hb;cases metV f.Power t.Power
   .rfl
   simpa using hb
def QA(a b:Int):Z8g a b=some (aR .and .i64 a b != 0):=rfl
def r1(t:ab)(f:al)(ht:t.Line.Subs.length<=4611686018427387904):(sq t f).den.bind (dh wF.step)=some (fM t f&&(Z4d t f&&eW t f)):=by
 (dsimp only[sq,LT.den];unfold fM)
 have hk:PP t.Keys f.Keys=some (Z4d t f):=rfl;simp only[Mg _ _ ht,hk,ZpU,bf];cases f.Sub==[]with
 |true=>simp only[ir,aE,wU,fD];exact dQ λ_=>rfl
 |false=>simp only[fO,aD,mD];exact dQ λ_=>dQ λ_=>rfl
def QB{S:Type}{step:S->Option (S⊕Bool)}{r:Bool}{k:Option (S⊕Bool)}(h s n:Int)(hk:k.bind (dh step)=some r) :
 (bif (s != 0)then bif (!(aR .and .i64 h s != 0))then some (.inr false)else bif (aR .and .i64 h n != 0)then some (.inr false)else k else bif (aR .and .i64 h n != 0)then some (.inr false)else k).bind (dh step)=some (gV h s n&&r):=by
 unfold gV;simp only[bne];cases s==0<;>cases aR .and .i64 h s==0<;>cases aR .and .i64 h n==0<;>first|rfl|simpa using hk
def r0(t:ab)(f:al)(ht:t.Line.Subs.length<=4611686018427387904):(ss t f).den.bind (dh wF.step)=some (gV t.Colors f.Colors f.NotColors&&(fM t f&&(Z4d t f&&eW t f))):=by dsimp only[ss,LT.den];simp only[QA,bf];exact QB _ _ _ (r1 t f ht)
def Mj(o:aj)(t:ab)(you source:Int)(f:al)(ht:t.Line.Subs.length<=4611686018427387904):Z2k o t you source f=some (gN o t you source f):=by
 (unfold Z2k LF.run;dsimp only[P2,LT.den])
 have h1:∀a b w,BT a b w=some (Z8s a b w):=λa b w=>by(unfold BT LF.run;dsimp only[PE,LT.den];unfold Z8s);cases w==1<;>cases w != 2<;>rfl
 have h2:∀a b w,BU a b w=some (Z8s a b w):=λa b w=>by(unfold BU LF.run;dsimp only[PG,LT.den];unfold Z8s);cases w==1<;>cases w != 2<;>rfl
 have h3:∀a w,BV a w=some (tapV a w):=λa w=>by(unfold BV LF.run;dsimp only[PI,LT.den];unfold tapV);cases w==1<;>cases w != 2<;>rfl
 simp only[QC,h1,h2,h3,QA,bf];have hz:(o.Zone != f.Zone) = !(o.Zone==f.Zone):=rfl;rw[hz];refine(dQ λ_=>dQ λ_=>dQ λ_=>dQ λ_=>dQ λ_=>QB _ _ _ (r0 t f ht)).trans ?_;congr 1;unfold gN;cases tapV o.Tapped f.Tap<;>simp
end Go.PW
set_option maxRecDepth 100000
namespace Go.PW
abbrev Bnd(n:Nat):Prop:=n<=4611686018427387904
def pn:ab:=⟨[],⟨0,0,⟨0,0,0,0,0⟩⟩,0,⟨0,0,[]⟩,0,0,0,[],0⟩
def atV(all:List ab)(i:Nat):ab:=(all[i]?).getD pn
def ZpV(all:List ab)(i:Nat):B1 all (i:Int)=some (atV all i):=by
 (unfold B1 LF.run;dsimp only[P3,LT.den];unfold atV)
 rw[bn (show ¬(i:Int)<0 by omega)];by_cases h:i<all.length
 .rw [bn (show ¬(i:Int)>=(all.length:Int) by omega),QD all h,bj h];rfl
 rw[bh (show(i:Int)>=(all.length:Int) by omega),kh (show all.length<=i by omega)];rfl
def QE{all:List ab}(ht:∀t∈all,Bnd t.Line.Subs.length)(i:Nat):Bnd (atV all i).Line.Subs.length:=by
 unfold atV;by_cases h:i<all.length
 .rw [bj h];exact ht _ (kN h)
 rw[kh (show all.length<=i by omega)];exact gv _
def mat(all:List ab)(you src:Int)(f:al)(i:Nat)(o:aj):Bool:=gN o (atV all i) you src f
def Z2m(s:av)(all:List ab)(you src:Int)(f:al):List Int:=Z0a (mat all you src f) (λo=>o.Id) 0 s.Objects
def ZpW(s:av)(all:List ab)(you src:Int)(f:al)(hs:s.Objects.length*128<=reachBytes)(ht:∀t∈all,Bnd t.Line.Subs.length):Z2f s all you src f=some (Z2m s all you src f):=by
 have hs':s.Objects.length*128<=140737488351232:=hs
 (unfold Z2f LF.run;dsimp only[QF,LT.den])
 have h:=QG (step:=Z31.step) (st:=λi acc =>.L0 all you src f acc s.Objects (s.Objects.length:Int) (i:Int)) s.Objects (mat all you src f) (λo=>o.Id) (λi x acc hx ha=>by
  have hi:=(aL.1 hx).1;have l1:∀t,t=atV all i->(sF all you src f acc x t s.Objects (s.Objects.length:Int) (i:Int)).den=some (.inl (.L0 all you src f (bif mat all you src f i x then acc++[x.Id]else acc) s.Objects (s.Objects.length:Int) ((i+1:Nat):Int))):=by
   rintro t rfl;dsimp only[sF,LT.den];rw[Qx _ _ _ _ _ (QE ht i),bf,sG hi O];show(bif mat all you src f i x then _ else _)=_;cases mat all you src f i x with
   |true=>rw[aD,Cm cn bF];rfl
   |false=>rfl
  show(sH _ _ _ _ _ _ _ _).den=_;dsimp only[sH,LT.den];rw[bh (show(i:Int)<(s.Objects.length:Int) by omega),aD,gz hx,bf];by_cases hl:i<all.length
  .rw [bh (show(i:Int)<(all.length:Int) by omega),aD,QD all hl,bf];exact l1 _ (by simp[atV,bj hl])
  rw[bn (show ¬(i:Int)<(all.length:Int) by omega),aE];exact l1 _ (by simp[atV,kh (show all.length<=i by omega),pn]))
 refine bC h (fc ?_);show(sH _ _ _ _ _ _ _ _).den=_;dsimp only[sH,LT.den];rw[bn O];rfl
def ZgZ(s:av)(all:List ab)(you src:Int)(f:al)(hs:s.Objects.length*128<=reachBytes)(ht:∀t∈all,Bnd t.Line.Subs.length):Z38 s all you src f=some (Z2m s all you src f):=by
 have hs':s.Objects.length*128<=140737488351232:=hs
 (unfold Z38 LF.run;dsimp only[P5,LT.den])
 have h:=QG (step:=B3.step) (st:=λi acc =>.L0 all you src s f acc (i:Int)) s.Objects (mat all you src f) (λo=>o.Id) (λi x acc hx ha=>by
  have hi:=(aL.1 hx).1;show(sw _ _ _ _ _ _ _).den=_;dsimp only[sw,LT.den];rw[bh (show(i:Int)<(s.Objects.length:Int) by omega),aD,gz hx,bf,ZpV,bf,Mj _ _ _ _ _ (QE ht i),bf,sG hi O];show(bif mat all you src f i x then _ else _)=_;cases mat all you src f i x with
  |true=>rw[aD,Cm cn bF];rfl
  |false=>rfl)
 refine bC h (fc ?_);show(sw _ _ _ _ _ _ _).den=_;dsimp only[sw,LT.den];rw[bn O];rfl
end Go.PW
set_option maxRecDepth 100000
namespace Go.PW
def ixO(l:List aj)(id:Int):Int:=match l.findIdx? λo=>o.Id==id with
 |some k=>k
 |none => -1
abbrev NoId(l:List aj)(id v:Int):Prop:=∀(k:Nat) x,(k:Int)<v->l[k]?=some x->x.Id≠id
def ZaI{l:List aj}{id:Int}:NoId l id 0:=λk x hk=>a8
def ZaJ{l:List aj}{id v w:Int}{x:aj}(hx:l[v.toNat]?=some x)(h:NoId l id v)(h0:0<=v)(hn:x.Id≠id)(hw:w=v+1):NoId l id w:=λk y hk hy=>by
 rcases Z2d h0 hw hk hy hx with hk|rfl
 .exact h k y hk hy
 exact hn
def Ff{l:List aj}{id v:Int}{x:aj}(hx:l[v.toNat]?=some x)(h:NoId l id v)(h0:0<=v)(hn:x.Id=id):v=ixO l id:=by unfold ixO;obtain⟨hi,he⟩:=aL.1 hx;rw[yo.2 ⟨hi,by rw[he];exact lz.2 hn,λj hj=>by have:=h j l[j] O (bj O);simpa using this⟩];show v=((v.toNat:Nat):Int);omega
def yp{l:List aj}{id v:Int}(h:NoId l id v)(hv:(l.length:Int)<=v) : -1=ixO l id:=by unfold ixO;rw[Fg.2 λx hx=>by obtain⟨k,hk,he⟩:=lC.1 hx;have:=h k x O uj;simpa using this]
def ZaK(l:List aj)(id:Int):(ixO l id = -1/\∀x,x∈l->x.Id≠id)\/∃x,0<=ixO l id/\ixO l id<l.length/\l[(ixO l id).toNat]?=some x/\x.Id=id:=by
 unfold ixO;cases h:l.findIdx? λo=>o.Id==id with
 |none=>
  left;refine⟨rfl,λx hx=>?_⟩;have:=Fg.1 h x hx;simpa using this
 |some k=>
  right;obtain⟨hi,he,_⟩:=yo.1 h;refine⟨l[k],by show 0<=(k:Int);omega,by show(k:Int)<_;omega,?_,by simpa using he⟩;show l[(k:Int).toNat]?=_;rw[lD,bj hi]
abbrev yq:aj:=⟨0,0,0,0,0,false,false,false,false,0,⟨0,0,0⟩,0,0,0,false,0,0⟩
def fdV(l:List aj)(id:Int):aj×Bool:=match l.find? λo=>o.Id==id with
 |some o=>(o,true)
 |none=>(yq,false)
def ZaL{l:List aj}{id:Int}(h:ixO l id<0):(yq,false)=fdV l id:=by
 unfold fdV;rcases ZaK l id with⟨_,hn⟩|⟨x,h1,_⟩
 .rw [List.find?_eq_none.2 λx hx=>by simpa using hn x hx]
 omega
def ZaM{l:List aj}{id:Int}{x:aj}(hx:l[(ixO l id).toNat]?=some x)(h:¬ixO l id<0):(x,true)=fdV l id:=by
 unfold fdV;have hf:l.find? (λo=>o.Id==id)=some x:=by
  unfold ixO at hx h;cases he:l.findIdx? λo=>o.Id==id with
  |none=>rw[he]at h;exact absurd bF h
  |some k=>
   rw[he]at hx;obtain⟨hi,h1,h2⟩:=yo.1 he;have hx:l[k]?=some x:=hx;rw[bj hi]at hx;have e:=cA hx;exact List.find?_eq_some_iff_getElem.2 ⟨by rw[<- e];exact h1,k,hi,e,λj hj=>by simpa using h2 j hj⟩
 rw[hf]
def trV(all:List ab)(i:Int):ab:=(if i<0 then none else all[i.toNat]?).getD pn
def uk{all:List ab}{i:Int}{x:ab}(hx:all[i.toNat]?=some x)(h:¬i<0):x=trV all i:=by unfold trV;rw[aw h,hx];rfl
abbrev fQ:al:=⟨0,0,0,0,0,0,0,[],0,0,⟨0,0⟩,⟨0,0⟩,⟨0,0⟩⟩
def clV(n:Int):Int:=minI (maxI n (-1000000)) 1000000
def amV(a:dU):Bool:=
 if a.Kind=0 then decide (0<=a.N/\a.N<=1000000/\a.Counter=0/\a.Filter=fQ)
 else if a.Kind=2 then decide (1<=a.N/\a.N<=99/\a.Counter=0)&&Z00 a.Filter
 else if a.Kind=4 then decide (0<=a.Counter/\a.Counter<=2/\a.N=0/\a.Filter=fQ)
 else decide (0<=a.Kind/\a.Kind<=7/\a.N=0/\a.Counter=0/\a.Filter=fQ)
def usV(a:dU):dU:=if a.Kind=2 then⟨0,0,a.Counter,fQ⟩ else if a.Kind=0 then⟨0,0,a.Counter,a.Filter⟩ else if a.Kind=4 then⟨0,a.N,0,a.Filter⟩ else⟨0,a.N,a.Counter,a.Filter⟩
theorem ZaN(x y:dU):Z9 (de x) (de y)=decide (x=y):=yr ZaO x y
def ZaP{l:List aj}{id i:Int}(hi:i=ixO l id)(h:i<0):(yq,false)=fdV l id:=ZaL (hi▸h)
def ZaQ{l:List aj}{id i:Int}{x:aj}(hx:l[i.toNat]?=some x)(hi:i=ixO l id)(h:¬i<0):(x,true)=fdV l id:=by subst hi;exact ZaM hx h
end Go.PW
set_option maxRecDepth 100000
namespace Go.PW
section
variable {s:av} {all:List ab} {you src id i:Int} {w:Bool} {x:aj}
end
abbrev Cons(l:List aj)(v:Int):Prop:=(∀(k:Nat) x,(k:Int)<v->l[k]?=some x->1<=x.Id)/\∀(k:Nat) x y,(k:Int)+1<v->l[k]?=some x->l[k+1]?=some y->x.Id<y.Id
def ZaR{l:List aj}:Cons l 0:=⟨λk x h=>by omega,λk x y h=>by omega⟩
def Fh{l:List aj}{v w:Int}{x:aj}(hx:l[v.toNat]?=some x)(h:Cons l v)(h0:0<=v)(h1:1<=x.Id)(h2:∀y,0<v->l[(v-1).toNat]?=some y->y.Id<x.Id)(hw:w=v+1):Cons l w:=by
 refine⟨λk y hk hy=>?_,λk y z hk hy hz=>?_⟩
 .rcases Z2d h0 hw hk hy hx with h'|rfl
  .exact h.1 k y h' hy
  exact h1
 by_cases hk':(k:Int)+1<v
 .exact h.2 k y z hk' hy hz
 have e:k+1=v.toNat:=a8
 rw[e,hx]at hz;cases hz;exact h2 y O (by rw[show(v-1).toNat=k by omega];exact hy)
abbrev Ids(l:List aj):Prop:=(∀o,o∈l->1<=o.Id)/\∀(i j:Nat) x y,l[i]?=some x->l[j]?=some y->x.Id=y.Id->i=j
def yt{l:List aj}(h:Cons l l.length):∀(d i:Nat) x y,l[i]?=some x->l[i+d+1]?=some y->x.Id<y.Id:=by
 intro d;induction d with
 |zero=>intro i x y hx hy;exact h.2 i x y (by have:=(aL.1 hy).1;omega) hx hy
 |succ d ih=>
  intro i x y hx hy;have hl:=(aL.1 hy).1;have hz:=bj (l:=l) (i:=i+d+1) O;have h1:=ih i x _ hx hz;have h2:=h.2 (i+d+1) _ y O hz hy;omega
def ZaS{l:List aj}{v:Int}(h:Cons l v)(hv:(l.length:Int)<=v):Ids l:=by
 have h':Cons l l.length:=⟨λk x hk=>h.1 k x O,λk x y hk=>h.2 k x y O⟩;refine⟨λo ho=>?_,λi j x y hx hy e=>?_⟩
 .obtain⟨k,hk⟩:=List.mem_iff_getElem?.1 ho;exact h'.1 k o (by have:=(aL.1 hk).1;omega) hk
 rcases nj i j with hij|hij|hij
 .have:=yt h' (j-i-1) i x y hx Fi;omega
 .exact hij
 have:=yt h' (i-j-1) j y x hy (by rw[show j+(i-j-1)+1=i by omega];exact hx);omega
section
variable {s:av} {all:List ab} {sp:cj}
end
section
variable {s:av} {all:List ab} {t:po} {l acc z:List po} {a b b':Bool} {v w:Int}
end
def ZaT{l:List aj}{v w:Int}{x z:aj}(hz:l[w.toNat]?=some z)(e:w=v-1)(h:¬z.Id>=x.Id):∀y,0<v->l[(v-1).toNat]?=some y->y.Id<x.Id:=λy _ hy=>by rw[<- e,hz]at hy;cases hy;omega
end Go.PW
set_option maxRecDepth 100000
namespace Go.PW
def Z01(c:aJ):Bool:=decide (0<=c.Generic/\c.Generic<=99/\0<=c.X/\c.X<=2/\∀n,n∈A5.list c.Color->0<=n/\n<=9)
def bt(n:Int)(k:Nat):Int:=if n>0 then(2:Int) ^ k else 0
def coP(x:A5 Int)(v:Int):Int:=(if 0<v then bt x.a0 0 else 0)+((if 1<v then bt x.a1 1 else 0)+((if 2<v then bt x.a2 2 else 0)+((if 3<v then bt x.a3 3 else 0)+(if 4<v then bt x.a4 4 else 0))))
def coV(c:aJ):Int:=if Z01 c then coP c.Color 5 else 0
def SP(x:A5 Int):0=coP x 0:=by simp[coP]
def ES{x:A5 Int}{v w n:Int}(hx:(A5.list x)[v.toNat]?=some n)(h0:0<=v)(h5:v<5)(hw:w=v+1):coP x w=coP x v+bt n v.toNat/\0<=coP x v/\coP x v<2 ^ v.toNat:=by
 subst hw;have b:∀n k,0<=bt n k/\bt n k<=(2:Int) ^ k:=λn k=>Vc
 have b0:=b x.a0 0;have b1:=b x.a1 1;have b2:=b x.a2 2;have b3:=b x.a3 3;have hv:v=0\/v=1\/v=2\/v=3\/v=4:=a8
 rcases hv with rfl|rfl|rfl|rfl|rfl<;>(simp[A5.list]at hx;subst hx;simp[coP]at *;try omega)
def ZBR:∀i:Fin 5,∀v:Fin 16,v.val<2 ^ i.val->aR .or .i64 (v.val:Int) (Z23 .i64 1 (i.val:Int))=((v.val+2 ^ i.val:Nat):Int):=by decide+kernel
def pw_b{v:Int}(h5:v<=5):(2:Int) ^ v.toNat<=32/\1<=(2:Int) ^ v.toNat:=by
 have:v.toNat=0\/v.toNat=1\/v.toNat=2\/v.toNat=3\/v.toNat=4\/v.toNat=5:=a8
 rcases this with h|h|h|h|h|h<;>rw[h]<;>decide
def ZrR{x:A5 Int}{v w n a:Int}(hx:(A5.list x)[v.toNat]?=some n)(h:a=coP x v)(h0:0<=v)(h5:v<5)(hp:n>0)(hw:w=v+1):aR .or .i64 a (Z23 .i64 1 v)=coP x w:=by
 obtain⟨h1,h2,h3⟩:=ES hx h0 h5 hw;rw[h1,<- h];rw[<- h]at h2 h3;have hv:v.toNat<=4:=a8
 have hb:(2:Int) ^ v.toNat<=16:=by
  have:v.toNat=0\/v.toNat=1\/v.toNat=2\/v.toNat=3\/v.toNat=4:=a8
  rcases this with h|h|h|h|h<;>rw[h]<;>decide
 have:=ZBR ⟨v.toNat,by omega⟩ ⟨a.toNat,by omega⟩ (by
  have:(a.toNat:Int)<((2 ^ v.toNat:Nat):Int):=by rw[Int.natCast_pow];show(a.toNat:Int)<(2:Int) ^ v.toNat;omega
  exact_mod_cast this)
 simp only at this;rw[show((a.toNat:Nat):Int)=a by omega,show((v.toNat:Nat):Int)=v by omega]at this;rw[this];unfold bt;rw[ar hp]
 push_cast
 omega
def SQ{x:A5 Int}{v w n a:Int}(hx:(A5.list x)[v.toNat]?=some n)(h:a=coP x v)(h0:0<=v)(h5:v<5)(hp:¬n>0)(hw:w=v+1):a=coP x w:=by rw[(ES hx h0 h5 hw).1,<- h];unfold bt;rw[aw hp];omega
def ZrT{x:A5 Int}{v w n a b c:Int}(hx:(A5.list x)[v.toNat]?=some n)(h:a=coP x v)(h0:0<=v)(h5:v<5)(hp:n>0)(hb:b=2 ^ v.toNat)(hw:w=v+1)(hc:c=a+b):c=coP x w:=by rw[(ES hx h0 h5 hw).1,<- h];unfold bt;rw[ar hp,hc,hb]
def ZrU{v w b c:Int}(h0:0<=v)(hb:b=2 ^ v.toNat)(hw:w=v+1)(hc:c=2*b):c=2 ^ w.toNat:=by
 have:w.toNat=v.toNat+1:=a8
 rw[this,Int.pow_succ,hc,hb];omega
def co_b{x:A5 Int}{v:Int}:0<=coP x v/\coP x v<=31:=by
 have b:∀n k,0<=bt n k/\bt n k<=(2:Int) ^ k:=λn k=>Vc
 have b0:=b x.a0 0;have b1:=b x.a1 1;have b2:=b x.a2 2;have b3:=b x.a3 3;have b4:=b x.a4 4;unfold coP;constructor<;>(repeat' split)<;>simp at * <;> omega
def ZBS{x:A5 Int}(h:x=⟨0,0,0,0,0⟩)(v:Int):0=coP x v:=by subst h;unfold coP bt;simp
def a5eq{x y:A5 Int}:Z9 (cA5 (cI .i64) x) (cA5 (cI .i64) y)=decide (x=y):=yr (ZBT (qX .i64)) x y
def ZrI{c:aJ}{n v:Int}(hx:(A5.list c.Color)[v.toNat]?=some n)(h:n<0\/n>9):false=Z01 c:=by
 symm;unfold Z01
 exact bn λhc=>by have:=hc.2.2.2.2 n (bH hx);omega
def ZrJ{c:aJ}{v:Int}(h:∀(k:Nat) x,(k:Int)<v->(A5.list c.Color)[k]?=some x->0<=x/\x<=9)(hv:5<=v):Z01 c=decide (0<=c.Generic/\c.Generic<=99/\0<=c.X/\c.X<=2):=by
 have hall:∀n,n∈A5.list c.Color->0<=n/\n<=9:=λn hn=>by obtain⟨k,hk⟩:=List.mem_iff_getElem?.1 hn;have:k<5:=(aL.1 hk).1;exact h k n O hk
 unfold Z01;rw[sg];exact⟨λh=>⟨h.1,h.2.1,h.2.2.1,h.2.2.2.1⟩,λh=>⟨h.1,h.2.1,h.2.2.1,h.2.2.2,hall⟩⟩
def So{c:aJ}(h:Z01 c=false):0=coV c:=by unfold coV;rw[h];rfl
def ZrN{c:aJ}(h:Z9 (cA5 (cI .i64) c.Color) (cA5 (cI .i64) ⟨0,0,0,0,0⟩)=true):0=coV c:=by
 rw[a5eq]at h;unfold coV;split
 .exact ZBS (j7 h) 5
 rfl
def Sn{c:aJ}{x:A5 Int}{a v:Int}(h:Z01 c=true)(e:x=c.Color)(hx:a=coP x v)(h1:5<=v)(h2:v<=5):a=coV c:=by
 obtain rfl:v=5:=a8
 subst e;unfold coV;rw[hx,h];rfl
def prV(c:aq):ab:=⟨c.Name,c.Cost,aR .or .i64 (coV c.Cost) c.Color,c.Line,c.Power,c.Tough,c.Keys,c.Abilities,0⟩
def fY(cards:List aq)(i:Int):ab:=match(if i<0 then none else cards[i.toNat]?)with|some c=>prV c|none=>pn
def CZ{cards:List aq}{i:Int}{c:aq}(hx:cards[i.toNat]?=some c)(h:0<=i):fY cards i=prV c:=by unfold fY;rw[aw O,hx]
def sP{cards:List aq}{i:Int}(h:i<0\/i>=(cards.length:Int)):fY cards i=pn:=by
 unfold fY;by_cases h0:i<0
 .rw [ar h0]
 rw[aw h0,kh O]
def baV(cards:List aq)(o:aj):ab:={ fY cards (if o.Copy<0 then o.Card else o.Copy)with Control:=if o.Zone=0\/o.Zone=5 then o.Control else o.Owner }
def Ad{cards:List aq}(h:∀c,c∈cards->c.Abilities.length<=8)(o:aj):(baV cards o).Abilities.length<=8:=by
 show(fY cards _).Abilities.length<=8;generalize (if o.Copy<0 then o.Card else o.Copy)=i;by_cases h0:i<0
 .rw [sP (.inl h0)];exact gv _
 cases hx:cards[i.toNat]? with
 |none=>rw[sP (.inr (by have:=sf.1 hx;omega))];exact gv _
 |some c=>rw[CZ hx O];exact h c (bH hx)
def ya{α:Type}{l:List α}{i:Nat}{x:α}(h:l[i]?=some x):l.set i x=l:=by
 obtain⟨hi,he⟩:=aL.1 h;refine gx λj=>?_;rw[vZ];split
 .rename_i e;subst e;exact h.symm
 rfl
def ZsN{a b:an}{v:Int}{x:aX}{m:List af}{z:List aX}(e:b=a)(hx:b.Effects[v.toNat]?=some x)(hm:m=x.Mods)(hz:z=b.Effects.set v.toNat ⟨x.Op,x.Ref,x.Amount,x.Counter,x.Zone,x.Card,x.Filter,x.Pool,m⟩):(⟨b.Kind,b.Filter,b.Mods,b.Price,b.Slow,b.Trigger,b.May,b.Specs,z,b.Replace⟩:an)=a:=by subst hm;have:z=b.Effects:=hz.trans (ya hx);rw[this];exact e
def pr_0{c:aq}{m:Int}{s:List (List UInt8)}(hm:m=coV c.Cost)(hs:s=c.Line.Subs):(⟨c.Name,c.Cost,aR .or .i64 m c.Color,⟨c.Line.Super,c.Line.Types,s⟩,c.Power,c.Tough,c.Keys,[],0⟩:ab)={ prV c with Abilities:=c.Abilities.take (0:Int).toNat }:=DJ
def pr_0'{c:aq}{m:Int}{s:List (List UInt8)}(hm:m=coV c.Cost)(hs:s=[]++c.Line.Subs):(⟨c.Name,c.Cost,aR .or .i64 m c.Color,⟨c.Line.Super,c.Line.Types,s⟩,c.Power,c.Tough,c.Keys,[],0⟩:ab)={ prV c with Abilities:=c.Abilities.take (0:Int).toNat }:=DJ
def Td{c:aq}{t:ab}{v w:Int}{x y:an}{z:List an}(h:t={ prV c with Abilities:=c.Abilities.take v.toNat })(hx:c.Abilities[v.toNat]?=some x)(h0:0<=v)(hw:w=v+1)(hy:y=x)(hz:z=t.Abilities++[y]) :
 (⟨t.Name,t.Cost,t.Colors,t.Line,t.Power,t.Tough,t.Keys,z,t.Control⟩:ab)={ prV c with Abilities:=c.Abilities.take w.toNat }:=by
 subst hy;subst hz;subst h;rw[dJ hx h0 hw]
def ZsU{c:aq}{t:ab}{v:Int}(h:t={ prV c with Abilities:=c.Abilities.take v.toNat })(hv:(c.Abilities.length:Int)<=v):t=prV c:=by rw[h,da O];rfl
def ba_c{cards:List aq}{o:aj}{t:ab}{i:Int}(h:t=fY cards i)(hi:i=if o.Copy<0 then o.Card else o.Copy)(hz:o.Zone=0\/o.Zone=5):(⟨t.Name,t.Cost,t.Colors,t.Line,t.Power,t.Tough,t.Keys,t.Abilities,o.Control⟩:ab)=baV cards o:=by unfold baV;rw[ar hz,<- hi,<- h]
def ba_o{cards:List aq}{o:aj}{t:ab}{i:Int}(h:t=fY cards i)(hi:i=if o.Copy<0 then o.Card else o.Copy)(hz:¬(o.Zone=0\/o.Zone=5)):(⟨t.Name,t.Cost,t.Colors,t.Line,t.Power,t.Tough,t.Keys,t.Abilities,o.Owner⟩:ab)=baV cards o:=by unfold baV;rw[aw hz,<- hi,<- h]
def ZsH{a:an}{m:List af}{s:List cj}(hm:m=[]++a.Mods)(hs:s=[]++a.Specs):(⟨a.Kind,a.Filter,m,a.Price,a.Slow,a.Trigger,a.May,s,[],a.Replace⟩:an)={ a with Effects:=a.Effects.take (0:Int).toNat }:=DJ
def ZsI{a b:an}{v w:Int}{x:aX}{m:List af}{z:List aX}(h:b={ a with Effects:=a.Effects.take v.toNat })(hx:a.Effects[v.toNat]?=some x)(h0:0<=v)(hw:w=v+1)(hm:m=[]++x.Mods)(hz:z=b.Effects++[⟨x.Op,x.Ref,x.Amount,x.Counter,x.Zone,x.Card,x.Filter,x.Pool,m⟩]) :
 (⟨b.Kind,b.Filter,b.Mods,b.Price,b.Slow,b.Trigger,b.May,b.Specs,z,b.Replace⟩:an)={ a with Effects:=a.Effects.take w.toNat }:=by
 subst hm;subst hz;subst h;rw[dJ hx h0 hw];rfl
def ZgC{a b:an}{v:Int}(h:b={ a with Effects:=a.Effects.take v.toNat })(hv:(a.Effects.length:Int)<=v):b=a:=by rw[h,da O]
def ZrO{α:Type}{P:α->Prop}{l:List α}{v:Int}(h:∀(k:Nat) x,(k:Int)<v->l[k]?=some x->P x)(hv:(l.length:Int)<=v):∀x,x∈l->P x:=λx hx=>by obtain⟨k,hk⟩:=List.mem_iff_getElem?.1 hx;have:=(aL.1 hk).1;exact h k x O hk
end Go.PW
set_option maxRecDepth 100000
namespace Go.PW
def abF{α:Type}(f:Int->an->α)(l:List an)(v:Int):List α:=((l.take v.toNat).zipIdx.filter λp=>p.1.Kind==1).map λp=>f p.2 p.1
def QH{α:Type}{f:Int->an->α}{l:List an}{v w:Int}{x:an}(hx:l[v.toNat]?=some x)(h0:0<=v)(hw:w=v+1) :
 abF f l w=abF f l v++if x.Kind==1 then[f v x]else[]:=by
 subst hw;have hv:(v+1).toNat=v.toNat+1:=a8
 have hlt:=(aL.1 hx).1;unfold abF;rw[hv,j5,hx,nT,Cn,iM,fk];congr 1;rw[eU,oC O,aN];simp only[wb,List.zipIdx_nil,gP,r3];split
 .simp only[ck,fW];rw[j9 h0]
 rfl
def QI{α:Type}{f:Int->an->α}{l:List an}{c z a:List α}{v w:Int}{x:an}{y:α}(hz:z=a++[y])(ha:a=c++abF f l v)(hx:l[v.toNat]?=some x)(h0:0<=v)(hw:w=v+1)(hk:x.Kind=1)(hy:y=f v x):z=c++abF f l w:=by rw[QH hx h0 hw,ar lG,hz,ha,hy,hH]
def ZpX{α:Type}{f:Int->an->α}{l:List an}{c a:List α}{v w:Int}{x:an}(ha:a=c++abF f l v)(hx:l[v.toNat]?=some x)(h0:0<=v)(hw:w=v+1)(hk:¬x.Kind=1):a=c++abF f l w:=by rw[QH hx h0 hw,aw lG,ha,cW]
def ZpY{α:Type}{f:Int->an->α}{l:List an}{c a:List α}(h:a=c):a=c++abF f l 0:=by rw[h];simp[abF]
def obF1{α:Type}(f:aj->Int->an->α)(cards:List aq)(o:aj):List α:=if o.Zone=0 then abF (f o) (baV cards o).Abilities (baV cards o).Abilities.length else[]
def obF{α:Type}(f:aj->Int->an->α)(cards:List aq)(l:List aj)(v:Int):List α:=(l.take v.toNat).flatMap (obF1 f cards)
def ZpZ{α:Type}{f:aj->Int->an->α}{cards:List aq}{l:List aj}:([]:List α)=obF f cards l 0:=by simp[obF]
def QJ{α:Type}{f:aj->Int->an->α}{cards:List aq}{l:List aj}{v w:Int}{x:aj}(hx:l[v.toNat]?=some x)(h0:0<=v)(hw:w=v+1):obF f cards l w=obF f cards l v++obF1 f cards x:=by
 subst hw;have hv:(v+1).toNat=v.toNat+1:=a8
 unfold obF;rw[hv,j5,hx,nT,List.flatMap_append];simp
def ZqA{α:Type}{f:aj->Int->an->α}{cards:List aq}{l:List aj}{a:List α}{v w:Int}{x:aj}(ha:a=obF f cards l v)(hx:l[v.toNat]?=some x)(h0:0<=v)(hw:w=v+1)(hz:x.Zone≠0):a=obF f cards l w:=by rw[QJ hx h0 hw,obF1,aw hz,cW,ha]
def ZqB{α:Type}{f:aj->Int->an->α}{cards:List aq}{l:List aj}{a:List α}{v w u:Int}{x:aj}{t:List an}(ha:a=obF f cards l v++abF (f x) t u)(ht:t=(baV cards x).Abilities)(hx:l[v.toNat]?=some x)(h0:0<=v)(hw:w=v+1)(hz:x.Zone=0)(hu:u=t.length):a=obF f cards l w:=by rw[QJ hx h0 hw,obF1,ar hz,ha,hu,ht]
def Ac{α:Type}{f:Int->an->α}{l:List an}{v:Int}:(abF f l v).length<=l.length:=by unfold abF;rw[cN];refine c7 (QK _ _) ?_;rw[List.length_zipIdx,eU];omega
def mb{α:Type}{f:aj->Int->an->α}{cards:List aq}{l:List aj}{v:Int}(h:∀c,c∈cards->c.Abilities.length<=8):(obF f cards l v).length<=8*l.length:=by
 unfold obF;have key:∀m:List aj,(m.flatMap (obF1 f cards)).length<=8*m.length:=by
  intro m;induction m with
  |nil=>simp
  |cons o r ih=>
   rw[List.flatMap_cons,bm,bw];have:(obF1 f cards o).length<=8:=by
    unfold obF1;split
    .exact c7 Ac (Ad h o)
    simp
   omega
 refine c7 (key _) ?_;rw[eU];omega
def coF{α:Type}(g:du->α)(l:List du)(v:Int):List α:=(l.take v.toNat).map g
def QL{α:Type}{g:du->α}{l:List du}{c a z:List α}{v w:Int}{x:du}{y:α}(hz:z=a++[y])(ha:a=c++coF g l v)(hx:l[v.toNat]?=some x)(h0:0<=v)(hw:w=v+1)(hy:y=g x):z=c++coF g l w:=by
 subst hw;have hv:(v+1).toNat=v.toNat+1:=a8
 unfold coF;rw[hv,j5,hx,nT,fk,hz,ha,hy,hH];rfl
def ZqC{α:Type}{g:du->α}{l:List du}{c a:List α}(h:a=c):a=c++coF g l 0:=by rw[h];simp[coF]
def FS{α:Type}(f:aj->Int->an->α)(g:du->α)(cards:List aq)(s:av):List α:=obF f cards s.Objects s.Objects.length++coF g s.Conts s.Conts.length
def ZqD{α:Type}{f:aj->Int->an->α}{g:du->α}{cards:List aq}{s:av}{a:List α}{v:Int}{l:List du}(h:a=obF f cards s.Objects s.Objects.length++coF g l v)(hl:l=s.Conts)(hv:v=l.length):a=FS f g cards s:=by rw[h,hv,hl];rfl
def Lq{α:Type}{f:aj->Int->an->α}{g:du->α}{cards:List aq}{s:av}(h:∀c,c∈cards->c.Abilities.length<=8):(FS f g cards s).length<=8*s.Objects.length+s.Conts.length:=by unfold FS coF;have:=mb (f:=f) (l:=s.Objects) (v:=s.Objects.length) h;rw[bm,cN,eU];omega
abbrev wW:al:=⟨0,0,0,0,0,0,0,[],0,0,⟨0,0⟩,⟨0,0⟩,⟨0,0⟩⟩
def fL(o:aj)(k:Int)(a:an):Z2:=⟨o.Id,k,o.Control,o.Stamp,false,[],a.Filter,a.Mods⟩
def gL(c:du):Z2:=⟨c.Source,-1,c.Control,c.Stamp,true,c.Objects,wW,c.Mods⟩
def fR(o:aj)(k:Int)(a:an):bd:=⟨o.Id,k,o.Control,o.Stamp,false,[],a.Filter,a.Mods⟩
def gR(c:du):bd:=⟨c.Source,-1,c.Control,c.Stamp,true,c.Objects,wW,c.Mods⟩
def toL(x:bd):Z2:=⟨x.Source,x.Ability,x.Control,x.Stamp,x.Fixed,x.Objects,x.Filter,x.Mods⟩
def ZmR(cards:List aq)(s:av):FS fL gL cards s=(FS fR gR cards s).map toL:=by
 unfold FS coF obF;rw[fk,oz,List.map_flatMap];congr 1;apply fE (λf=>List.flatMap f _);funext o;unfold obF1;split
 .unfold abF;rw[oz];rfl
 rfl
end Go.PW
namespace Go.PW
def ZqE{i j n:Int}(h0:0<=i)(h1:i<=j)(h2:j<=n)(h3:n<=140737488351232):IntKind.wrap .i64 (shrI .u64 (IntKind.wrap .u64 (IntKind.wrap .i64 (i+j))) 1)=(i+j)/2:=by
 have a:IntKind.wrap .i64 (i+j)=i+j:=fg O O;have b:IntKind.wrap .u64 (i+j)=i+j:=by
  have:IntKind.u64.wrap (i+j)=(i+j)%18446744073709551616:=by simp[IntKind.wrap,IntKind.bits,IntKind.signed]
  rw[this];omega
 have c:shrI .u64 (i+j) 1=(i+j)/2:=by unfold shrI;rw[Int.fdiv_eq_ediv_of_nonneg _ bF];rfl
 rw[a,b,c];exact fg O O
def HI(n:Nat)(hs:List (List Int)):Prop:=∀h,h∈hs->h.length<=n/\∀k,k∈h->0<=k/\k<(n:Int)
def QM{n:Nat}:HI n []:=λ_ h=>dw
def QN{n:Nat}{hs:List (List Int)}(h:∀e,e∈hs->e=[]):HI n hs:=λe he=>by rw[h e he];exact⟨gv _,λ_ h=>by cases h⟩
def ZqF{n:Nat}{hs hs':List (List Int)}{v:List Int}(h:HI n hs)(hl:v.length<=n)(hv:∀k,k∈v->0<=k/\k<(n:Int))(hm:∀e,e∈hs'->e=v\/e∈hs):HI n hs':=λe he=>by
 rcases hm e he with rfl|h1
 .exact⟨hl,hv⟩
 exact h e h1
def ML(fs:List Z2)(a:Int)(l:List Int):Prop:=∀f,fs[a.toNat]?=some f->l.length=f.Mods.length
def ml_i{fs:List Z2}{a:Int}{l:List Int}{f:Z2}(h:fs[a.toNat]?=some f)(hl:l.length=f.Mods.length):ML fs a l:=λg hg=>by have:=cA (hg.symm.trans h);subst this;exact hl
def INR(n:Nat)(l:List Int):Prop:=∀k,k∈l->0<=k/\k<(n:Int)
def se{n:Nat}:INR n []:=λ_ h=>dw
def QO{n:Nat}{a b:List Int}{k:Int}(hb:b=a++[k])(h:INR n a)(h0:0<=k)(h1:k<(n:Int)):INR n b:=λx hx=>by
 subst hb;rcases cb.1 hx with h2|h2
 .exact h x h2
 rw[dW]at h2;subst h2;exact⟨h0,h1⟩
def oq{n:Nat}{a:List Int}{i:Nat}{k:Int}(h:INR n a)(m:a[i]?=some k):0<=k/\k<(n:Int):=h k (bH m)
def ZqG{n:Nat}{a b:List Int}(h:INR n a)(hs:∀x,x∈b->x∈a):INR n b:=λk hk=>h k (hs k hk)
def SUB(b a:List Int):Prop:=∀x,x∈b->x∈a
def QP{a:List Int}:SUB [] a:=λ_ h=>dw
def ZqH{a b c:List Int}{x:Int}{i:Nat}(hc:c=b++[x])(h:SUB b a)(m:a[i]?=some x):SUB c a:=λy hy=>by
 subst hc;rcases cb.1 hy with h2|h2
 .exact h y h2
 rw[dW]at h2;subst h2;exact bH m
def sub_app'{a b c d:List Int}{x:Int}{i:Nat}(hc:c=b++[x])(h:SUB b a)(hd:SUB d a)(m:d[i]?=some x):SUB c a:=λy hy=>by
 subst hc;rcases cb.1 hy with h2|h2
 .exact h y h2
 rw[dW]at h2;subst h2;exact hd _ (bH m)
def ZqI{a d:List Int}{x:Int}{i:Nat}(hd:SUB d a)(m:d[i]?=some x):x<0\/x∈a :=.inr (hd _ (bH m))
def RWS(n:Nat)(m:List (List Bool)):Prop:=∀r,r∈m->r.length=n
def ZqJ{n:Nat}{m m':List (List Bool)}{i j:Int}{y:List Bool}{v:Bool}(h:RWS n m)(hy:m[i.toNat]?=some y)(e:m'=m.set i.toNat (y.set j.toNat v)):RWS n m':=λr hr=>by
 subst e;rcases kO hr with h1|h1
 .exact h r h1
 rw[h1,ez];exact h y (bH hy)
def Z4e{n:Nat}{m:List (List Bool)}{i:Nat}{y:List Bool}(h:RWS n m)(hy:m[i]?=some y):y.length=n:=h y (bH hy)
def RWV(n:Nat)(m:List (List Bool))(v:Int):Prop:=∀(k:Nat) r,(k:Int)<v->m[k]?=some r->r.length=n
def QQ{n:Nat}{m:List (List Bool)}:RWV n m 0:=λk r hk=>a8
def ZqK{n:Nat}{m m':List (List Bool)}{v w:Int}{y:List Bool}(h:RWV n m v)(h0:0<=v)(hw:w=v+1)(hy:y.length=n)(e:m'=m.set v.toNat y):RWV n m' w:=λk r hk hr=>by
 subst e;subst hw;by_cases hkv:k=v.toNat
 .subst hkv;rw[Co]at hr;cases h1:m[v.toNat]? with
  |none=>rw[h1]at hr;simp at hr
  |some z=>rw[h1]at hr;simp at hr;subst hr;exact hy
 rw[gK (λe=>hkv e.symm)]at hr;exact h k r O hr
def ZqL{n:Nat}{m:List (List Bool)}{v:Int}(h:RWV n m v)(hv:(m.length:Int)<=v):RWS n m:=λr hr=>by obtain⟨k,hk⟩:=List.mem_iff_getElem?.1 hr;have:=(aL.1 hk).1;exact h k r O hk
def neI(i x:Int):Bool := !(x==i)
def ZqM{l:List Int}{i:Int}(h:i∈l):(l.filter (neI i)).length<l.length:=by
 induction l with
 |nil=>cases h
 |cons a l ih=>
  rw[gP];by_cases ha:a=i
  .subst ha;have:neI a a=false:=by simp[neI]
   rw[this];have:=QK (neI a) l;simp only[eT,ft,bw];omega
  rcases cm.1 h with h1|h1
  .exact absurd h1.symm ha
  have:=ih h1;split<;>simp only[bw]<;>omega
def ZqN{l:List Int}{p:Int->Bool}:SUB (l.filter p) l:=λx hx=>(iO.1 hx).1
def ZqO{n:Nat}{m m':List (List Bool)}{w i j:Int}{y:List Bool}{v:Bool}(h:RWV n m w)(hy:m[i.toNat]?=some y)(hw:i<w)(h0:0<=i)(e:m'=m.set i.toNat (y.set j.toNat v)):RWV n m' w:=λk r hk hr=>by
 subst e;by_cases hkv:k=i.toNat
 .subst hkv;rw[Co,hy]at hr;simp at hr;rw[<- hr,ez];exact h i.toNat y O hy
 rw[gK (λe=>hkv e.symm)]at hr;exact h k r hk hr
def sI{n:Nat}{m:List (List Bool)}{w:Int}{i:Nat}{y:List Bool}(h:RWV n m w)(hi:(i:Int)<w)(hy:m[i]?=some y):y.length=n:=h i y hi hy
def POS(l:List Int):Prop:=∀k,k∈l->0<=k
def ZqP{a d:List Int}{i:Nat}{k:Int}(h:POS a)(hs:SUB d a)(m:d[i]?=some k):0<=k:=h k (hs k (bH m))
def AF{n:Nat}{a:List Int}(h:INR n a):POS a:=λk hk=>(h k hk).1
def QR{n:Nat}{m m':List (List Bool)}{v w:Int}{y:List Bool}(e:m'.length=m.length/\(∀e:List Bool,e∈m'->e=y\/e∈m)/\m'=m.set v.toNat y)(h:RWV n m v)(h0:0<=v)(hw:w=v+1)(hy:y.length=n):RWV n m' w:=ZqK h h0 hw hy e.2.2
def ZqQ{n k:Nat}{m:List (List Bool)}(h:RWS n m)(e:k=n):RWS k m:=by rw[e];exact h
def ZqR{n k:Nat}{m:List Int}(h:INR n m)(e:k=n):INR k m:=by rw[e];exact h
def asz{p:Prop}(h:p:=by with_reducible assumption):=h
def ZfR{n:Nat}{a:List Int}{k:Int}(h:INR n a)(hk:k<0\/k∈a):k<0\/(0<=k/\k<(n:Int)):=hk.imp id (h k)
def flt_lt'{r l:List Int}{i:Int}(e:r=l.filter (neI i))(h:i<0\/i∈l)(h0:¬i<0):r.length<l.length:=by rw[e];exact ZqM (h.resolve_left h0)
def flt_sub'{r l:List Int}{p:Int->Bool}(e:r=l.filter p):SUB r l:=by rw[e];exact ZqN
def QS{n i:Nat}{hs:List (List Int)}{x:List Int}(h:HI n hs)(m:hs[i]?=some x):x.length<=n/\INR n x:=h x (bH m)
def Tot.lk{α:Type}{x:α}:Tot (Option.some x) λr=>r=x:=⟨x,rfl,rfl⟩
abbrev SZV(v:bP):Prop:=(SzL 8 (λ_=>True)) v.hits/\(SzL 8 (λ_=>True)) v.numbers
def MSZ(m:List (Int×bP)):Prop:=∀p,p∈m->SZV p.2
def ZqS:MSZ []:=λ_ h=>dw
def ZqT{m z:List (Int×bP)}{n:Int}{x:bP}(e:z=dC m n x)(h:MSZ m)(hx:SZV x):MSZ z:=λp hp=>by
 subst e;rcases QT hp with h1|h1
 .exact h p h1
 rw[h1];exact hx
def ZqU{m:List (Int×bP)}{n:Int}{z:bP}{x:bP×Bool}(e:x=mlk m n z)(h:MSZ m)(hz:SZV z):SZV x.1:=by
 subst e;unfold mlk;split
 .rename_i y hy;have key:∀{m:List (Int×bP)},ep m n=some y->∃p,p∈m/\p.2=y:=by
   intro m;induction m with
   |nil=>intro h;cases h
   |cons q m ih=>
    intro h;obtain⟨k,w⟩:=q;unfold ep at h;cases hk:k==n with
    |true=>rw[hk,aD]at h;exact⟨(k,w),by simp,cA h⟩
    |false=>
     rw[hk,aE]at h;obtain⟨p,h1,h2⟩:=ih h;exact⟨p,bY _ h1,h2⟩
  obtain⟨p,h1,h2⟩:=key hy;rw[<- h2];exact h p h1
 exact hz
def szx{p:Prop}(h:p:=by first|with_reducible assumption|(dsimp only;with_reducible assumption)|exact⟨by omega,λ_ _=>trivial⟩|exact⟨by omega,λr hr=>⟨by rw[(by assumption:RWS _ _) r hr];omega,λ_ _=>trivial⟩⟩|exact ZqU V V ⟨SzL.nil,SzL.nil⟩|exact(by with_reducible assumption:bl _).2.1|exact(by with_reducible assumption:bl _).2.2):=h
def sfA{l m:List aa}(h:Z9 l l=true)(k:Z9 m m=true):Z9 (l++m) (l++m)=true:=by rw[wX _ _ _ _ rfl,h,k];rfl
def sfI(k:IntKind)(n:Int):Z9 (cI k n) (cI k n)=true:=by simp[cI,Z9,iR]
def sfB(b:Bool):Z9 (cB b) (cB b)=true:=by simp[cB,Z9,iR]
def sfS(b:List UInt8):Z9 (cS b) (cS b)=true:=by simp[cS,Z9,iR]
def sf3(x:A3 Int):Z9 ((cA3 (cI .i64)) x) ((cA3 (cI .i64)) x)=true:=by simp[cA3,cI,Z9,iR,A3.list]
def sf5(x:A5 Int):Z9 ((cA5 (cI .i64)) x) ((cA5 (cI .i64)) x)=true:=by simp[cA5,cI,Z9,iR,A5.list]
theorem sf6(x:A6 Int):Z9 ((cA6 (cI .i64)) x) ((cA6 (cI .i64)) x)=true:=by simp[cA6,cI,Z9,iR,A6.list]
def ZqV(x:ah):Z9 (fm x) (fm x)=true:=by unfold fm;repeat' first|exact sfI _ _|exact sfB _|exact sfS _|exact sf3 _|exact sf5 _|exact sf6 _|refine sfA ?_ ?_
theorem QU(x:fU):Z9 (fp x) (fp x)=true:=by unfold fp;repeat' first|exact sfI _ _|exact sfB _|exact sfS _|exact sf3 _|exact sf5 _|exact sf6 _|refine sfA ?_ ?_
theorem oN(x:al):Z9 (aU x) (aU x)=true:=by unfold aU;repeat' first|exact sfI _ _|exact sfB _|exact sfS _|exact sf3 _|exact sf5 _|exact sf6 _|exact ZqV _|refine sfA ?_ ?_
theorem ZqW(x:dU):Z9 (de x) (de x)=true:=by unfold de;repeat' first|exact sfI _ _|exact sfB _|exact sfS _|exact sf3 _|exact sf5 _|exact sf6 _|exact oN _|exact QU _|refine sfA ?_ ?_
theorem QV(x:aJ):Z9 (cc x) (cc x)=true:=by unfold cc;repeat' first|exact sfI _ _|exact sfB _|exact sfS _|exact sf3 _|exact sf5 _|exact sf6 _|refine sfA ?_ ?_
theorem ZqX(x:iE):Z9 (gG x) (gG x)=true:=by unfold gG;repeat' first|exact sfI _ _|exact sfB _|exact sfS _|exact sf3 _|exact sf5 _|exact sf6 _|exact QV _|refine sfA ?_ ?_
theorem ZqY(x:af):Z9 (ax x) (ax x)=true:=by unfold ax;repeat' first|exact sfI _ _|exact sfB _|exact sfS _|exact sf3 _|exact sf5 _|exact sf6 _|exact oN _|refine sfA ?_ ?_
theorem ZqZ(x:cj):Z9 (bK x) (bK x)=true:=by unfold bK;repeat' first|exact sfI _ _|exact sfB _|exact sfS _|exact sf3 _|exact sf5 _|exact sf6 _|exact oN _|refine sfA ?_ ?_
theorem ZrA(x:fH):Z9 (gj x) (gj x)=true:=by unfold gj;repeat' first|exact sfI _ _|exact sfB _|exact sfS _|exact sf3 _|exact sf5 _|exact sf6 _|exact oN _|refine sfA ?_ ?_
theorem ZrB(x:dq):Z9 (fa x) (fa x)=true:=by unfold fa;repeat' first|exact sfI _ _|exact sfB _|exact sfS _|exact sf3 _|exact sf5 _|exact sf6 _|exact oN _|refine sfA ?_ ?_
def sm{p:Prop}(h:p:=by intro h;subst h;first|rfl|(exfalso;omega)|grind[QU,oN,ZqW,QV,ZqX,ZqY,ZqZ,ZrA,ZrB,sf6]):=h
def bU(l:List aj):Prop:=∀(i j:Nat) x y,i<j->l[i]?=some x->l[j]?=some y->x.Id<y.Id
def ZrC{l:List aj}{v:Int}(h:Cons l v)(hv:(l.length:Int)<=v):bU l:=by have h':Cons l l.length:=⟨λk x hk=>h.1 k x O,λk x y hk=>h.2 k x y O⟩;intro i j x y hij hx hy;exact yt h' (j-i-1) i x y hx Fi
def BSI(l:List aj)(id i j:Int):Prop:=bU l->(∀(k:Nat) x,(k:Int)<i->l[k]?=some x->x.Id<id)/\∀(k:Nat) x,j<=(k:Int)->l[k]?=some x->id<=x.Id
def ZrD{l:List aj}{id n:Int}(hn:n=l.length):BSI l id 0 n:=λ_=>⟨λk x hk=>by omega,λk x hk hx=>by have:=(aL.1 hx).1;omega⟩
def ZrE{l:List aj}{id i j k i':Int}{x:aj}(h:BSI l id i j)(m:l[k.toNat]?=some x)(hx:x.Id<id)(h0:0<=k)(e:i'=k+1):BSI l id i' j:=λhs=>⟨λq y hq hy=>by
 by_cases hqk:q=k.toNat
 .subst hqk;have:=cA (hy.symm.trans m);subst this;exact hx
 have:=hs q k.toNat y x O hy m;omega,(h hs).2⟩
def ZrF{l:List aj}{id i j k j':Int}{x:aj}(h:BSI l id i j)(m:l[k.toNat]?=some x)(hx:id<=x.Id)(h0:0<=k)(e:j'=k):BSI l id i j':=λhs=>⟨(h hs).1,λq y hq hy=>by
 by_cases hqk:q=k.toNat
 .subst hqk;have:=cA (hy.symm.trans m);subst this;exact hx
 have:=hs k.toNat q x y O m hy;omega⟩
def BSP(l:List aj)(id:Int)(r:Int×Bool):Prop:=bU l->(r.2=true->r.1=ixO l id)/\(r.2=false -> -1=ixO l id)
def ZrG{l:List aj}{id i j c:Int}{x:aj}(h:BSI l id i j)(hij:j<=i)(m:l[i.toNat]?=some x)(h0:0<=i)(hc:(c = -1/\x.Id<id)\/(c=1/\id<x.Id)\/(c=0/\x.Id=id)):BSP l id (i,c==0):=λhs=>by
 obtain⟨h1,h2⟩:=h hs;refine⟨λhr=>?_,λhr=>?_⟩
 .have hr:c=0:=by simpa using hr
  exact Ff m (λk y hk hy=>by have:=h1 k y hk hy;omega) h0 O
 have hr:c≠0:=by simpa using hr
 refine yp (v:=l.length) (λk y hk hy=>?_) (sh _);by_cases hki:(k:Int)<i
 .have:=h1 k y hki hy;omega
 by_cases hke:k=i.toNat
 .subst hke;have:=cA (hy.symm.trans m);subst this;have:=h2 i.toNat y O hy;omega
 have:=hs i.toNat k x y O m hy;have:=h2 i.toNat x O m;omega
def ZrH{l:List aj}{id i j:Int}(h:BSI l id i j)(hn:(l.length:Int)<=i):BSP l id (i,false):=λhs=>by obtain⟨h1,_⟩:=h hs;exact⟨λhr=>absurd hr vV,λ_=>yp (v:=l.length) (λk y hk hy=>by have:=h1 k y O hy;omega) (sh _)⟩
def li_n{l:List aj}{id:Int}{r:Int×Bool}(h:BSP l id r)(hb:r.2=false):bU l -> -1=ixO l id:=λhs=>(h hs).2 hb
def li_y{l:List aj}{id:Int}{r:Int×Bool}(h:BSP l id r)(hb:r.2=true):bU l->r.1=ixO l id:=λhs=>(h hs).1 hb
noncomputable def allV(c:List aq)(s:av):List ab:=(rk c s).getD []
def Cp{α β:Type}{f:α->β}{l:List α}{t z:List β}{v w:Int}{x:β}{o:α}(e:z=t++[x])(h:t=(l.take v.toNat).map f)(m:l[v.toNat]?=some o)(hx:x=f o)(h0:0<=v)(hw:w=v+1):z=(l.take w.toNat).map f:=by subst hw;rw[show(v+1).toNat=v.toNat+1 by omega,j5,m,e,h,hx];simp
def vX{α β:Type}{f:α->β}{l l':List α}{t:List β}{v:Int}(h:t=(l.take v.toNat).map f)(hv:(l.length:Int)<=v)(e:l=l'):t=l'.map f:=by subst e;rw[h,da O]
end Go.PW
set_option maxRecDepth 100000
namespace Go.PW
def Lds(l:List Int)(N:Int->Int->Prop)(x y:Int):Prop:=∀S:Int->Prop,(∀z,z∈l->N x z->S z)->(∀w z,S w->z∈l->N w z->S z)->S y
def Rch.lds{l:List Int}{N:Int->Int->Prop}{i:Int}{r:List Int}(h:Rch l N i r)(y:Int):y∈r↔Lds l N i y:=⟨λhy S a b=>h.mn S a b y hy,λhl=>hl (λz=>z∈r) h.st (λw z hw hz hn=>h.cl w hw z hz hn)⟩
def Lds.one{l:List Int}{N:Int->Int->Prop}{x y:Int}(hy:y∈l)(h:N x y):Lds l N x y:=λS a _=>a y hy h
def Lds.trans{l:List Int}{N:Int->Int->Prop}{x y z:Int}(h:Lds l N x y)(g:Lds l N y z):Lds l N x z:=λS a b=>g S (λw hw hn=>b y w (h S a b) hw hn) b
def mE(m:List (List Bool))(a b:Nat):Bool:=(m[a]?.bind λy=>y[b]?).getD false
def kB(e:Nat->Nat->Bool):Nat->Nat->Nat->Bool
 |0,a,b=>e a b
 |m+1,a,b=>kB e m a b||(kB e m a m&&kB e m m b)
def XK(e:Nat->Nat->Bool)(m a:Nat):kB e (m+1) a m=kB e m a m:=by show(kB e m a m||(kB e m a m&&kB e m m m))=_;cases kB e m a m<;>rfl
def XL(e:Nat->Nat->Bool)(m b:Nat):kB e (m+1) m b=kB e m m b:=by show(kB e m m b||(kB e m m m&&kB e m m b))=_;cases kB e m m b<;>cases kB e m m m<;>rfl
def ZAO(e:Nat->Nat->Bool){m n a b:Nat}(h:m<=n)(hk:kB e m a b=true):kB e n a b=true:=by
 induction h with
 |refl=>exact hk
 |step _ ih=>show(kB e _ a b||_)=true;rw[ih];rfl
def XM(e:Nat->Nat->Bool):∀m c,c<m->∀a b,kB e m a c=true->kB e m c b=true->kB e m a b=true
 |m+1,c,hc,a,b,h1,h2=>by
  by_cases hcm:c=m
  .subst hcm;rw[XK]at h1;rw[XL]at h2;show(kB e c a b||(kB e c a c&&kB e c c b))=true;rw[h1,h2];simp
  have hc':c<m:=a8
  have ih:=XM e m c hc';have h1':kB e m a c=true\/(kB e m a m=true/\kB e m m c=true):=by have:(kB e m a c||(kB e m a m&&kB e m m c))=true:=h1;simpa using this
  have h2':kB e m c b=true\/(kB e m c m=true/\kB e m m b=true):=by have:(kB e m c b||(kB e m c m&&kB e m m b))=true:=h2;simpa using this
  show(kB e m a b||(kB e m a m&&kB e m m b))=true;rcases h1' with h1|⟨h1,h1'⟩<;>rcases h2' with h2|⟨h2,h2'⟩
  .rw [ih a b h1 h2];rfl
  .rw [ih a m h1 h2,h2'];simp
  .rw [h1,ih m b h1' h2];simp
  rw[h1,h2'];simp
def eB(l:List Int)(nd:List (List Bool))(a b:Nat):Bool:=nB nd (l[a]?.getD 0) (l[b]?.getD 0)
def xZ{l:List Int}{nd:List (List Bool)}:∀(m:Nat) (a b:Nat) (x y:Int),m<=l.length->l[a]?=some x->l[b]?=some y->kB (eB l nd) m a b=true->Lds l (λp q=>nB nd p q=true) x y
 |0,a,b,x,y,_,ha,hb,h=>by have h:nB nd (l[a]?.getD 0) (l[b]?.getD 0)=true:=h;rw[ha,hb]at h;exact .one (bH hb) h
 |m+1,a,b,x,y,hm,ha,hb,h=>by
  have h:(kB (eB l nd) m a b||(kB (eB l nd) m a m&&kB (eB l nd) m m b))=true:=h;have hz:=bj (show m<l.length by omega);simp only[ic,aO]at h;rcases h with h|⟨h,g⟩
  .exact xZ m a b x y O ha hb h
  exact(xZ m a m x _ O ha hz h).trans (xZ m m b _ y O hz hb g)
def ZAP{l:List Int}{nd:List (List Bool)}(hl:l.Nodup){a b:Nat}{x y:Int}(ha:l[a]?=some x)(hb:l[b]?=some y):kB (eB l nd) l.length a b=true↔Lds l (λp q=>nB nd p q=true) x y:=by
 refine⟨xZ _ a b x y (bk _) ha hb,λh=>?_⟩;have e0:∀{p q:Nat} {u v:Int},l[p]?=some u->l[q]?=some v->nB nd u v=true->kB (eB l nd) l.length p q=true:=λ{p q u v} hp hq hn=>ZAO _ (gv _) (by show nB nd (l[p]?.getD 0) (l[q]?.getD 0)=true;rw[hp,hq];exact hn);obtain⟨c,hc,hk⟩:=h (λy=>∃b:Nat,l[b]?=some y/\kB (eB l nd) l.length a b=true)
  (λz hz hn=>by obtain⟨c,hc⟩:=List.mem_iff_getElem?.1 hz;exact⟨c,hc,e0 ha hc hn⟩)
  (λw z ⟨c,hc,hk⟩ hz hn=>by obtain⟨d,hd⟩:=List.mem_iff_getElem?.1 hz;exact⟨d,hd,XM _ _ c (aL.1 hc).1 a d hk (e0 hc hd hn)⟩)
 rw[AS hl hb hc];exact hk
def MK(n:Nat)(m:List (List Bool))(f:Nat->Nat->Bool):Prop:=∀a b,a<n->b<n->mE m a b=f a b
def tV{m:List (List Bool)}{a b:Nat}{y:List Bool}{v:Bool}(h:m[a]?=some y)(g:y[b]?=some v):v=mE m a b:=by unfold mE;rw[h,bf,g];rfl
def XN{m:List (List Bool)}{i j a b:Nat}{y:List Bool}{v:Bool}(h:m[i]?=some y)(hj:j<y.length):mE (m.set i (y.set j v)) a b=if a=i/\b=j then v else mE m a b:=by
 unfold mE;by_cases ha:a=i
 .subst ha;rw[jd (aL.1 h).1,h,bf,bf];by_cases hb:b=j
  .subst hb;rw[jd hj,ar ⟨rfl,rfl⟩];rfl
  rw[gK (λe=>hb e.symm),aw (λe=>hb e.2)]
 rw[gK (λe=>ha e.symm),aw (λe=>ha e.1)]
def sel(f g:Nat->Nat->Bool)(i j:Nat)(a b:Nat):Bool:=if a<i\/(a=i/\b<j)then f a b else g a b
def S9{n:Nat}{m z:List (List Bool)}{f g:Nat->Nat->Bool}{i i' j j':Int}{y:List Bool}{v q:Bool}(h:MK n m (sel f g i.toNat j.toNat))(e:z=m.set i'.toNat (y.set j.toNat v))(hy:m[i'.toNat]?=some y)(hq:y[j.toNat]?=some q)(ei:i'=i)(hv:v=f i'.toNat j.toNat)(h0:0<=j)(hj':j'=j+1):MK n z (sel f g i.toNat j'.toNat):=λa b ha hb=>by
 subst e;subst ei;have hj:=(aL.1 hq).1;have e':j'.toNat=j.toNat+1:=a8
 rw[XN hy hj,e'];have:=h a b ha hb;unfold sel at *;by_cases hc:a=i'.toNat/\b=j.toNat
 .rw [ar hc,ar (.inr ⟨hc.1,by omega⟩),hv,hc.1,hc.2]
 rw[aw hc,this];by_cases h1:a<i'.toNat\/(a=i'.toNat/\b<j.toNat)
 .rw [ar h1,ar O]
 rw[aw h1,aw O]
def Ta{n:Nat}{m:List (List Bool)}{f g:Nat->Nat->Bool}{i j j':Int}(h:MK n m (sel f g i.toNat j.toNat))(hv:f i.toNat j.toNat=g i.toNat j.toNat)(h0:0<=j)(hj':j'=j+1):MK n m (sel f g i.toNat j'.toNat):=λa b ha hb=>by
 have e':j'.toNat=j.toNat+1:=a8
 rw[h a b ha hb,e'];unfold sel;by_cases hc:a=i.toNat/\b=j.toNat
 .rw [aw O,ar O,hc.1,hc.2,hv]
 by_cases h1:a<i.toNat\/(a=i.toNat/\b<j.toNat)
 .rw [ar h1,ar O]
 rw[aw h1,aw O]
def SN{n:Nat}{m:List (List Bool)}{f g:Nat->Nat->Bool}{i i' j:Int}(h:MK n m (sel f g i.toNat j.toNat))(h0:0<=i)(hj:(n:Int)<=j)(hi:i'=i+1):MK n m (sel f g i'.toNat (0:Int).toNat):=λa b ha hb=>by
 have e':i'.toNat=i.toNat+1:=a8
 rw[h a b ha hb,e'];unfold sel;by_cases h1:a<i.toNat\/(a=i.toNat/\b<j.toNat)
 .rw [ar h1,ar O]
 rw[aw h1,aw (by show ¬(a<i.toNat+1\/(a=i.toNat+1/\b<0));omega)]
def SL{n:Nat}{m:List (List Bool)}{f g:Nat->Nat->Bool}{i:Int}(h:MK n m (sel f g i.toNat (0:Int).toNat))(hi:(n:Int)<=i):MK n m f:=λa b ha hb=>by rw[h a b ha hb];unfold sel;rw[ar (.inl O)]
def MK_0{n:Nat}{m:List (List Bool)}{f g:Nat->Nat->Bool}(h:MK n m g):MK n m (sel f g (0:Int).toNat (0:Int).toNat):=λa b ha hb=>by rw[h a b ha hb];unfold sel;rw[aw (by show ¬(a<0\/(a=0/\b<0));omega)]
def ZsA{n:Nat}{m z:List (List Bool)}{f:Nat->Nat->Bool}{i:Int}{y:List Bool}{q p1 p2:Prop}(h:MK n m (sel f (λ_ _=>false) i.toNat (0:Int).toNat))(e:p1/\p2/\z=m.set i.toNat y)(hy:q/\∀e,e∈y->e=false):MK n z (sel f (λ_ _=>false) i.toNat (0:Int).toNat):=λa b ha hb=>by
 have:=h a b ha hb;obtain⟨_,_,e⟩:=e;subst e;by_cases hc:a=i.toNat
 .subst hc;unfold sel;rw[aw (by show ¬(i.toNat<i.toNat\/(i.toNat=i.toNat/\b<0));omega)];unfold mE;rw[Co];cases hm:m[i.toNat]? with
  |none=>rfl
  |some q=>
   show(y[b]?).getD false=false;cases hq:y[b]? with
   |none=>rfl
   |some c=>exact hy.2 c (bH hq)
 unfold mE at *;rw[gK (λe=>hc e.symm)];exact this
def ZsB{n:Nat}{m:List (List Bool)}{f:Nat->Nat->Bool}{q:Prop}(h:q/\∀e,e∈m->e=[]):MK n m (sel f (λ_ _=>false) (0:Int).toNat (0:Int).toNat):=MK_0 λa b _ _=>by
 unfold mE;cases hm:m[a]? with
 |none=>rfl
 |some q=>rw[h.2 q (bH hm)];rfl
def Z2s{α β:Type}{f:β->α->β}{a z:β}{l:List α}{v w:Int}{x:α}(hx:l[v.toNat]?=some x)(h0:0<=v)(hw:w=v+1)(h:z=(l.take v.toNat).foldl f a):f z x=(l.take w.toNat).foldl f a:=by rw[dJ hx h0 hw,xG,<- h];rfl
def Ax{α β:Type}{f:β->α->β}{a z:β}{l:List α}{v:Int}(h:z=(l.take v.toNat).foldl f a)(hv:(l.length:Int)<=v):z=l.foldl f a:=by rw[h,da O]
def elF(out:List Int)(i:Int):List Int:=if 0<=i/\i∉out then out++[i]else out
def elV(l:List Int):List Int:=l.foldl elF []
def XO(l:List Int):∀out:List Int,out.Nodup->(l.foldl elF out).Nodup/\∀x,x∈l.foldl elF out↔x∈out\/(x∈l/\0<=x):=by
 induction l with
 |nil=>intro out h;exact⟨h,λx=>by simp⟩
 |cons a l ih=>
  intro out h;rw[jO];by_cases hc:0<=a/\a∉out
  .have e:elF out a=out++[a]:=ar hc;rw[e];obtain⟨h1,h2⟩:=ih (out++[a]) (AT h hc.2);refine⟨h1,λx=>?_⟩;rw[h2 x,cb,dW,cm];constructor
   .rintro ((h|rfl)|h)
    .exact .inl h
    .exact .inr ⟨.inl rfl,hc.1⟩
    exact .inr ⟨.inr h.1,h.2⟩
   rintro(h|⟨rfl|h,g⟩)
   .exact .inl (.inl h)
   .exact .inl (.inr rfl)
   exact .inr ⟨h,g⟩
  have e:elF out a=out:=aw hc;rw[e];obtain⟨h1,h2⟩:=ih out h;refine⟨h1,λx=>?_⟩;rw[h2 x,cm];constructor
  .rintro (h|h)
   .exact .inl h
   exact .inr ⟨.inr h.1,h.2⟩
  rintro(h|⟨rfl|h,g⟩)
  .exact .inl h
  .exact .inl (jg λhn=>hc ⟨g,hn⟩)
  exact .inr ⟨h,g⟩
def Bq(l:List Int):(elV l).Nodup:=(XO l [] mm).1
def m9{l:List Int}{x:Int}:x∈elV l↔x∈l/\0<=x:=by have:=(XO l [] mm).2 x;unfold elV;simpa using this
def el_y{l out z:List Int}{v w x:Int}(hx:l[v.toNat]?=some x)(h:out=(l.take v.toNat).foldl elF [])(h0:0<=v)(hw:w=v+1)(hp:0<=x)(hn:x∉out)(hz:z=out++[x]):z=(l.take w.toNat).foldl elF []:=by rw[<- Z2s hx h0 hw h,hz];exact(ar ⟨hp,hn⟩).symm
def el_n{l out:List Int}{v w x:Int}(hx:l[v.toNat]?=some x)(h:out=(l.take v.toNat).foldl elF [])(h0:0<=v)(hw:w=v+1)(hp:x<0\/x∈out):out=(l.take w.toNat).foldl elF []:=by rw[<- Z2s hx h0 hw h];exact(aw λk=>hp.elim (λe=>by omega) k.2).symm
def RDL(l:List Int)(nd:Int->Int->Bool)(x:Int):Prop:=∀j,j∈l->j≠x->nd x j=true->Lds l (λp q=>nd p q=true) j x
noncomputable def rdB(l:List Int)(nd:Int->Int->Bool)(x:Int):Bool := @decide (RDL l nd x) (Classical.propDecidable _)
def sd{l:List Int}{nd:Int->Int->Bool}{x:Int}(h:RDL l nd x):rdB l nd x=true:=by unfold rdB;exact @bh _ (Classical.propDecidable _) h
def vW{l:List Int}{nd:Int->Int->Bool}{x:Int}(h:¬RDL l nd x):rdB l nd x=false:=by unfold rdB;exact @bn _ (Classical.propDecidable _) h
noncomputable def rdV(l:List Int)(nd:Int->Int->Bool):List Int:=l.filter (rdB l nd)
def stp(st:List Int)(i:Int):Int:=st[i.toNat]?.getD 0
def nxF(st:List Int)(b i:Int):Int:=if b<0\/stp st i<stp st b\/(stp st i=stp st b/\i<b)then i else b
noncomputable def nxV(left st:List Int)(nd:Int->Int->Bool):Int:=(rdV (elV left) nd).foldl (nxF st) (-1)
def Lds.cong{l:List Int}{N M:Int->Int->Prop}(h:∀x y,x∈l->y∈l->(N x y↔M x y)){x y:Int}(hx:x∈l)(g:Lds l N x y):Lds l M x y:=by refine(g (λz=>z∈l/\Lds l M x z) (λz hz hn=>⟨hz,.one hz ((h x z hx hz).1 hn)⟩) (λw z ⟨hw,k⟩ hz hn=>⟨hz,k.trans (.one hz ((h w z hw hz).1 hn))⟩)).2
def ZAQ{l:List Int}{nd md:Int->Int->Bool}(h:∀x y,x∈l->y∈l->nd x y=md x y):rdV l nd=rdV l md:=by
 unfold rdV;refine DS λx hx=>?_;have:RDL l nd x↔RDL l md x:=⟨λk j hj hne hb=>(k j hj hne (by rw[h x j hx hj];exact hb)).cong (λa b ha hb=>by rw[h a b ha hb]) hj,λk j hj hne hb=>(k j hj hne (by rw[<- h x j hx hj];exact hb)).cong (λa b ha hb=>by rw[h a b ha hb]) hj⟩;by_cases hc:RDL l nd x
 .rw [sd hc,sd (this.1 hc)]
 rw[vW hc,vW λk=>hc (this.2 k)]
def ZAR{l:List Int}{nd:Int->Int->Bool}(hn:l.Nodup)(hl:l≠[]):∃i,i∈rdV l nd:=by
 classical
 obtain⟨i,hi,h⟩:=ZjB (N:=λp q=>nd p q=true) (R:=λi=>l.filter λy=>decide (Lds l (λp q=>nd p q=true) i y)) hl (λi hi=>by
  have e:∀y,y∈(l.filter λy=>decide (Lds l (λp q=>nd p q=true) i y))↔y∈l/\Lds l (λp q=>nd p q=true) i y:=λy=>by rw[iO];simp
  exact⟨hn.filter _,λx hx=>((e x).1 hx).1,λx hx hb=>(e x).2 ⟨hx,.one hx hb⟩,λy hy x hx hb=>(e x).2 ⟨hx,((e y).1 hy).2.trans (.one hx hb)⟩,λS a b x hx=>((e x).1 hx).2 S a b⟩)
 refine⟨i,iO.2 ⟨hi,sd λj hj hne hb=>?_⟩⟩;have:=h j hj hne hb;rw[iO]at this;simpa using this.2
def XP{st:List Int}:∀(l:List Int) (b:Int),(∀x,x∈l->0<=x)->(b<0/\l=[]/\l.foldl (nxF st) b=b)\/((l≠[]\/0<=b)/\0<=l.foldl (nxF st) b/\(l.foldl (nxF st) b∈l\/l.foldl (nxF st) b=b))
 |[],b,_=>by
  by_cases h:b<0
  .exact .inl ⟨h,rfl,rfl⟩
  exact .inr ⟨.inr O,by show 0<=b;omega,.inr rfl⟩
 |a::l,b,h=>by
  right;rw[jO];have ha:=h a ay;have hc:nxF st b a=a\/(nxF st b a=b/\0<=b):=by
   unfold nxF;split
   .exact .inl rfl
   exact .inr ⟨rfl,by omega⟩
  have h0:0<=nxF st b a:=by rcases hc with e|⟨e,g⟩<;>omega
  rcases XP (st:=st) l (nxF st b a) (λx hx=>h x (bY _ hx))with⟨k,_⟩|⟨_,k1,k2⟩
  .omega
  refine⟨.inl ay,k1,?_⟩;rcases k2 with k|k
  .exact .inl (bY _ k)
  rw[k];rcases hc with e|⟨e,_⟩
  .rw [e];exact .inl ay
  exact .inr e
def O6{left st:List Int}{nd:Int->Int->Bool}(h:∃x,x∈left/\0<=x):nxV left st nd∈left/\0<=nxV left st nd:=by
 obtain⟨x,hx,h0⟩:=h;have hne:elV left≠[]:=λe=>by have:=m9.2 ⟨hx,h0⟩;rw[e]at this;cases this
 obtain⟨i,hi⟩:=ZAR (nd:=nd) (Bq left) hne;have hsub:∀y,y∈rdV (elV left) nd->y∈left/\0<=y:=λy hy=>m9.1 (iO.1 hy).1;unfold nxV;rcases XP (st:=st) (rdV (elV left) nd) (-1) (λy hy=>(hsub y hy).2)with⟨_,k,_⟩|⟨_,k1,k2⟩
 .rw [k]at hi;cases hi
 rcases k2 with k|k
 .exact⟨(hsub _ k).1,k1⟩
 omega
def Bo{left st:List Int}{nd md:Int->Int->Bool}(h:∀x y,x∈left->y∈left->0<=x->0<=y->nd x y=md x y):nxV left st nd=nxV left st md:=by unfold nxV;rw[ZAQ λx y hx hy=>h x y (m9.1 hx).1 (m9.1 hy).1 (m9.1 hx).2 (m9.1 hy).2]
def nx_y{l st:List Int}{b x v w:Int}(hx:l[v.toNat]?=some x)(h:b=(l.take v.toNat).foldl (nxF st) (-1))(h0:0<=v)(hw:w=v+1)(hc:b<0\/stp st x<stp st b\/(stp st x=stp st b/\x<b)):x=(l.take w.toNat).foldl (nxF st) (-1):=by rw[<- Z2s hx h0 hw h];exact(ar hc).symm
def nx_n{l st:List Int}{b x v w:Int}(hx:l[v.toNat]?=some x)(h:b=(l.take v.toNat).foldl (nxF st) (-1))(h0:0<=v)(hw:w=v+1)(hc:¬(b<0\/stp st x<stp st b\/(stp st x=stp st b/\x<b))):b=(l.take w.toNat).foldl (nxF st) (-1):=by rw[<- Z2s hx h0 hw h];exact(aw hc).symm
def ZrZ{l:List Int}{nd:List (List Bool)}{a b x y:Int}{r:Bool}(ha:l[a.toNat]?=some x)(hb:l[b.toNat]?=some y)(h:0<=x->0<=y->r=nB nd x y)(hp:POS l):r=eB l nd a.toNat b.toNat:=by unfold eB;rw[ha,hb];exact h (hp x (bH ha)) (hp y (bH hb))
def ZrP{n:Nat}{m:List (List Bool)}{e:Nat->Nat->Bool}(h:MK n m e):MK n m (kB e (0:Int).toNat):=h
def ZrQ{n:Nat}{m:List (List Bool)}{e:Nat->Nat->Bool}{g:Nat->Nat->Bool}{v w i:Int}(h:MK n m (sel (kB e (v.toNat+1)) g i.toNat (0:Int).toNat))(hi:(n:Int)<=i)(h0:0<=v)(hw:w=v+1):MK n m (kB e w.toNat):=by
 have:w.toNat=v.toNat+1:=a8
 rw[this];exact SL h hi
def XQ{e:Nat->Nat->Bool}{m i j a:Nat}:sel (kB e (m+1)) (kB e m) i j a m=kB e m a m:=by
 unfold sel;split
 .exact XK e m a
 rfl
def XR{e:Nat->Nat->Bool}{m i j b:Nat}:sel (kB e (m+1)) (kB e m) i j m b=kB e m m b:=by
 unfold sel;split
 .exact XL e m b
 rfl
def wm_y{n:Nat}{M:List (List Bool)}{e:Nat->Nat->Bool}{m i j m' i':Int}{ra rm:List Bool}{x y:Bool}(h:MK n M (sel (kB e (m.toNat+1)) (kB e m.toNat) i.toNat j.toNat))(hx:ra[m'.toNat]?=some x)(ha:M[i'.toNat]?=some ra)(hm:M[m'.toNat]?=some rm)(hy:rm[j.toNat]?=some y)(em:m'=m)(ei:i'=i)(h0:0<=i)(g0:0<=j)(m0:0<=m)(h1:i<n)(g1:j<n)(m1:m<n)(ex:x=true)(ey:y=true):true=kB e (m.toNat+1) i'.toNat j.toNat:=by subst em;subst ei;have a:=(tV ha hx).trans (h i'.toNat m'.toNat O O);have b:=(tV hm hy).trans (h m'.toNat j.toNat O O);rw[XQ]at a;rw[XR]at b;show true=(kB e m'.toNat i'.toNat j.toNat||(kB e m'.toNat i'.toNat m'.toNat&&kB e m'.toNat m'.toNat j.toNat));rw[<- a,<- b,ex,ey];simp
def wm_a{n:Nat}{M:List (List Bool)}{e:Nat->Nat->Bool}{m i j m' i':Int}{ra:List Bool}{x:Bool}(h:MK n M (sel (kB e (m.toNat+1)) (kB e m.toNat) i.toNat j.toNat))(hx:ra[m'.toNat]?=some x)(ha:M[i'.toNat]?=some ra)(em:m'=m)(ei:i'=i)(h0:0<=i)(m0:0<=m)(h1:i<n)(m1:m<n)(ex:x=false):kB e (m.toNat+1) i.toNat j.toNat=kB e m.toNat i.toNat j.toNat:=by subst em;subst ei;have a:=(tV ha hx).trans (h i'.toNat m'.toNat O O);rw[XQ]at a;show(kB e m'.toNat i'.toNat j.toNat||(kB e m'.toNat i'.toNat m'.toNat&&kB e m'.toNat m'.toNat j.toNat))=_;rw[<- a,ex];simp
def wm_b{n:Nat}{M:List (List Bool)}{e:Nat->Nat->Bool}{m i j m':Int}{rm:List Bool}{y:Bool}(h:MK n M (sel (kB e (m.toNat+1)) (kB e m.toNat) i.toNat j.toNat))(hm:M[m'.toNat]?=some rm)(hy:rm[j.toNat]?=some y)(em:m'=m)(g0:0<=j)(m0:0<=m)(g1:j<n)(m1:m<n)(ey:y=false):kB e (m.toNat+1) i.toNat j.toNat=kB e m.toNat i.toNat j.toNat:=by subst em;have b:=(tV hm hy).trans (h m'.toNat j.toNat O O);rw[XR]at b;show(kB e m'.toNat i.toNat j.toNat||(kB e m'.toNat i.toNat m'.toNat&&kB e m'.toNat m'.toNat j.toNat))=_;rw[<- b,ey];simp
def OY(l:List Int):POS (elV l):=λ_ h=>(m9.1 h).2
def ixI(l:List Int)(x:Int):Int:=if x∈l then(l.idxOf x:Int)else-1
def Tf{l:List Int}{x v:Int}(h:∀(k:Nat) y,(k:Int)<v->l[k]?=some y->y≠x)(hx:l[v.toNat]?=some x)(h0:0<=v):v=ixI l x:=by
 have hm:=bH hx;have hl:=(aL.1 hx).1;have g1:=Vj.2 hm;have g2:l[l.idxOf x]?=some x:=by rw[bj g1,Vh g1]
 unfold ixI;rw[ar hm];rcases nj (l.idxOf x) v.toNat with k|k|k
 .exact absurd rfl (h _ x O g2)
 .omega
 have:=List.not_of_lt_findIdx (p:=(· == x)) (xs:=l) (i:=v.toNat) (by exact k);rw[(aL.1 hx).2]at this;simp at this
def ZsJ{l:List Int}{x v:Int}(h:∀(k:Nat) y,(k:Int)<v->l[k]?=some y->y≠x)(hv:(l.length:Int)<=v) : -1=ixI l x:=by unfold ixI;rw[aw λhm=>by obtain⟨k,hk⟩:=List.mem_iff_getElem?.1 hm;have:=(aL.1 hk).1;exact h k x O hk rfl]
def ldV(l:List Int)(m:List (List Bool))(i j:Int):Bool:=decide (0<=ixI l i)&&(decide (0<=ixI l j)&&mE m (ixI l i).toNat (ixI l j).toNat)
def ld_y{l:List Int}{m:List (List Bool)}{i j a b:Int}{y:List Bool}{v:Bool}(ha:a=ixI l i)(hb:b=ixI l j)(h0:a>=0)(g0:b>=0)(hm:m[a.toNat]?=some y)(hy:y[b.toNat]?=some v):v=ldV l m i j:=by subst ha;subst hb;unfold ldV;rw[bh (show 0<=ixI l i from h0),bh (show 0<=ixI l j from g0),<- tV hm hy];rfl
def ld_a{l:List Int}{m:List (List Bool)}{i j a:Int}(ha:a=ixI l i)(h0:¬a>=0):false=ldV l m i j:=by subst ha;unfold ldV;rw[bn (show ¬0<=ixI l i from h0)];rfl
def ld_b{l:List Int}{m:List (List Bool)}{i j b:Int}(hb:b=ixI l j)(h0:¬b>=0):false=ldV l m i j:=by subst hb;unfold ldV;rw[bn (show ¬0<=ixI l j from h0)];simp
def wtP(nd:List (List Bool))(c:List Int×List (List Bool))(i j:Int):Bool:=(j != i)&&(nB nd i j && !ldV c.1 c.2 j i)
def XS{l:List Int}{x:Int}(hx:x∈l):l[(ixI l x).toNat]?=some x/\0<=ixI l x:=by have g1:=Vj.2 hx;unfold ixI;rw[ar hx,lD,bj g1,Vh g1];exact⟨rfl,by omega⟩
def XT{l:List Int}{m:List (List Bool)}{nd:List (List Bool)}(hl:l.Nodup)(h:MK l.length m (kB (eB l nd) l.length)){i j:Int}(hi:i∈l)(hj:j∈l):ldV l m i j=true↔Lds l (λp q=>nB nd p q=true) i j:=by obtain⟨h1,h2⟩:=XS hi;obtain⟨g1,g2⟩:=XS hj;unfold ldV;rw[bh h2,bh g2,h _ _ (aL.1 h1).1 (aL.1 g1).1];simp only[fD];exact ZAP hl h1 g1
def ZAS{l:List Int}{m:List (List Bool)}{nd:List (List Bool)}{i:Int}{c:Bool}(hl:l.Nodup)(h:MK l.length m (kB (eB l nd) l.length))(hi:i∈l)(hc:c=true↔∃j,j∈l/\wtP nd (l,m) i j=true):rdB l (nB nd) i = !c:=by
 have key:(∃j,j∈l/\wtP nd (l,m) i j=true)↔¬RDL l (nB nd) i:=by
  constructor
  .rintro ⟨j,hj,hw⟩ hr;unfold wtP at hw;simp only[aO,bne_iff_ne,ne_eq,dA]at hw;have:=(XT hl h hj hi).2 (hr j hj hw.1 hw.2.1);rw[hw.2.2]at this;cases this
  intro hr;refine jg λhn=>hr λj hj hne hb=>?_;refine jg λhd=>hn ⟨j,hj,?_⟩;unfold wtP;have:ldV l m j i=false:=by
   cases hb:ldV l m j i with
   |false=>rfl
   |true=>exact absurd ((XT hl h hj hi).1 hb) hd
  rw[this,hb];simp[hne]
 cases hcc:c with
 |true=>exact vW (key.1 (hc.1 hcc))
 |false=>exact sd (jg λhn=>by rw[hc.2 (key.2 hn)]at hcc;cases hcc)
def el_y'{l out z:List Int}{v w x:Int}{c:Bool}(hx:l[v.toNat]?=some x)(h:out=(l.take v.toNat).foldl elF [])(h0:0<=v)(hw:w=v+1)(hp:0<=x)(hc:c=true↔x∈out)(hb:c=false)(hz:z=out++[x]):z=(l.take w.toNat).foldl elF []:=el_y hx h h0 hw hp (λhm=>by rw[hc.2 hm]at hb;cases hb) hz
def el_n'{l out:List Int}{v w x:Int}{c:Bool}(hx:l[v.toNat]?=some x)(h:out=(l.take v.toNat).foldl elF [])(h0:0<=v)(hw:w=v+1)(hc:c=true↔x∈out)(hb:c=true):out=(l.take w.toNat).foldl elF []:=el_n hx h h0 hw (.inr (hc.1 hb))
def ixc{l:List Int}{a x:Int}(h:x=ixI l a):decide (x>=0)=true↔a∈l:=by
 subst h;unfold ixI;split
 .rename_i h;simp[h]
 rename_i h;simp[h]
def ZAo{m:List (List Bool)}{e:Nat->Nat->Bool}{v w:Int}{k:Nat}(h:MK v.toNat m (kB e w.toNat))(e1:v=k)(h1:w<=v)(h2:v<=w):MK k m (kB e k):=by
 have a:v.toNat=k:=a8
 have b:w.toNat=k:=a8
 rw[a,b]at h;exact h
def TE{a b:List Int}(h:b=elV a):POS b:=by rw[h];exact OY a
def FX(l:List Int)(p:Int->Bool)(r:Int):Prop:=decide (r>=0)=true↔∃x,x∈l/\p x=true
def fx_y{l:List Int}{p:Int->Bool}{v x:Int}(hx:l[v.toNat]?=some x)(h0:0<=v)(hp:p x=true):FX l p v:=⟨λ_=>⟨x,bH hx,hp⟩,λ_=>bh h0⟩
def fx_n{l:List Int}{p:Int->Bool}{v:Int}(h:∀(k:Nat) y,(k:Int)<v->l[k]?=some y->p y=false)(hv:(l.length:Int)<=v):FX l p (-1):=⟨λk=>absurd k bF,λ⟨x,hx,hp⟩=>by obtain⟨k,hk⟩:=List.mem_iff_getElem?.1 hx;have:=(aL.1 hk).1;rw[h k x O hk]at hp;cases hp⟩
def rd_c{a l v5:List Int}{b1:List Int×List (List Bool)}{nd0 nd:List (List Bool)}{x v:Int}{y:Bool×Int×List (List Bool)×(List Int×List (List Bool))}(hc:y.1=true↔∃j,j∈v5/\wtP nd0 b1 x j=true)(ey:y.2=(x,nd0,b1))(hx:l[v.toNat]?=some x)(e1:b1.1=l)(e2:nd0=nd)(e3:v5=l)(hl:l=elV a)(h:MK l.length b1.2 (kB (eB l nd) l.length)):rdB l (nB nd) y.2.1 = !y.1:=by subst e1;subst e2;subst e3;rw[ey];exact ZAS (by rw[hl];exact Bq a) h (bH hx) hc
def nx_e{left st l:List Int}{N:Int->Int->Bool}{v w:Int}(h:v=(l.take w.toNat).foldl (nxF st) (-1))(e:l=rdV (elV left) N)(hw:(l.length:Int)<=w):v=nxV left st N:=by rw[Ax h hw,e];rfl
end Go.PW
set_option maxRecDepth 100000
namespace Go.PW
def zfm{α β:Type}(p:Int->α->Bool)(f:Int->α->β)(l:List α)(v:Int):List β:=((l.take v.toNat).zipIdx.filter λq=>p q.2 q.1).map λq=>f q.2 q.1
def EB{α β:Type}{p:Int->α->Bool}{f:Int->α->β}{l:List α}{v w:Int}{x:α}(hx:l[v.toNat]?=some x)(h0:0<=v)(hw:w=v+1):zfm p f l w=zfm p f l v++if p v x then[f v x]else[]:=by
 subst hw;have hv:(v+1).toNat=v.toNat+1:=a8
 have hlt:=(aL.1 hx).1;have e:((v.toNat:Nat):Int)=v:=j9 h0;unfold zfm;rw[hv,j5,hx,nT,Cn,iM,fk];congr 1;rw[eU,oC O,aN];simp only[wb,List.zipIdx_nil,gP,r3,e];split
 .simp only[ck,fW,e]
 rfl
def xb{α β:Type}{p:Int->α->Bool}{f:Int->α->β}{l:List α}:[]=zfm p f l 0:=by simp[zfm]
def CW{α β:Type}{p:Int->α->Bool}{f:Int->α->β}{l:List α}{a z:List β}{v w:Int}{x:α}{y:β}(hx:l[v.toNat]?=some x)(ha:a=zfm p f l v)(h0:0<=v)(hw:w=v+1)(hz:z=a++[y])(hp:p v x=true)(hy:y=f v x):z=zfm p f l w:=by rw[EB hx h0 hw,ar hp,hz,ha,hy]
def CX{α β:Type}{p:Int->α->Bool}{f:Int->α->β}{l:List α}{a:List β}{v w:Int}{x:α}(hx:l[v.toNat]?=some x)(ha:a=zfm p f l v)(h0:0<=v)(hw:w=v+1)(hp:p v x=false):a=zfm p f l w:=by rw[EB hx h0 hw,hp,ha];simp
def mw{α β:Type}{p:Int->α->Bool}{f:Int->α->β}{l:List α}{a:List β}{v:Int}(ha:a=zfm p f l v)(hv:(l.length:Int)<=v):a=zfm p f l l.length:=by rw[ha];unfold zfm;rw[da (show l.length<=v.toNat by omega),da (show l.length<=((l.length:Int)).toNat by omega)]
def O8{α β:Type}{p:Int->α->Bool}{f:Int->α->β}{l:List α}{y:β}:y∈zfm p f l l.length↔∃(k:Nat) (x:α),l[k]?=some x/\p k x=true/\y=f k x:=by
 unfold zfm;rw[da (show l.length<=((l.length:Int)).toNat by omega)];simp only[iL,iO,Prod.exists];constructor
 .rintro ⟨x,k,⟨h1,h2⟩,rfl⟩;exact⟨k,x,Bt.1 h1,h2,rfl⟩
 rintro⟨k,x,h1,h2,rfl⟩;exact⟨x,k,⟨Bt.2 h1,h2⟩,rfl⟩
def Bu{α:Type}{p:Int->α->Bool}{l:List α}{v:Int}:(zfm p (λk _=>k) l v).Nodup:=by
 have key:∀n:Nat,n<=l.length->(zfm p (λk _=>k) l n).Nodup/\∀y,y∈zfm p (λk _=>k) l n->y<n:=by
  intro n;induction n with
  |zero=>intro _;rw[show((0:Nat):Int)=0 from rfl,<- xb];exact⟨mm,λy h=>by cases h⟩
  |succ n ih=>
   intro hn;obtain⟨h1,h2⟩:=ih O;have hx:=bj (show(n:Int).toNat<l.length by omega);rw[EB (w:=((n+1:Nat):Int)) hx O O];split
   .refine⟨AT h1 λhm=>by have:=h2 _ hm;omega,λy hy=>?_⟩;rcases cb.1 hy with h|h
    .have:=h2 y h;omega
    rw[dW]at h;omega
   rw[cW];exact⟨h1,λy hy=>by have:=h2 y hy;omega⟩
 by_cases hv:v.toNat<=l.length
 .have:=(key v.toNat hv).1;by_cases h0:0<=v
  .rwa [j9 h0]at this
  have e:v.toNat=0:=a8
  unfold zfm;rw[e];exact mm
 have:=(key l.length (bk _)).1;unfold zfm at *;rwa[da (show l.length<=((l.length:Int)).toNat by omega),<- da (show l.length<=v.toNat by omega)]at this
def ZAT{α β:Type}{f g:Nat->α->β}{l:List α}{z z':List β}{k:Nat}{y:β}(h:z=l.mapIdx f)(e:z'=z.set k y)(hf:∀j x,l[j]?=some x->g j x=if j=k then y else f j x):z'=l.mapIdx g:=by
 subst h;subst e;refine gx λj=>?_;rw[vZ,dL,O4,dL];cases hx:l[j]? with
 |none=>
  have:=sf.1 hx;split
  .rw [aw O];rfl
  rfl
 |some x=>
  have hl:=(aL.1 hx).1;rw[Option.map_some,Option.map_some,hf j x hx];by_cases hk:k=j
  .subst hk;rw[ar rfl,ar hl,ar rfl]
  rw[aw hk,aw λe=>hk e.symm]
def EC{α β:Type}{f g:Nat->α->β}{l:List α}{z:List β}(h:z=l.mapIdx f)(hf:∀j x,l[j]?=some x->g j x=f j x):z=l.mapIdx g:=by
 subst h;refine gx λj=>?_;rw[dL,dL];cases hx:l[j]? with
 |none=>rfl
 |some x=>rw[Option.map_some,Option.map_some,hf j x hx]
def b9{α β:Type}(g:Nat->α->β)(d:Nat->α->β)(v:Int)(j:Nat)(x:α):β:=if(j:Int)<v then g j x else d j x
def vR{α β:Type}{g d:Nat->α->β}{l:List α}{z z':List β}{v w:Int}{x:α}{y:β}(hx:l[v.toNat]?=some x)(h:z=l.mapIdx (b9 g d v))(h0:0<=v)(hw:w=v+1)(e:z'=z.set v.toNat y)(hy:y=g v.toNat x):z'=l.mapIdx (b9 g d w):=ZAT h e λj q hq=>by
 unfold b9;by_cases hj:j=v.toNat
 .subst hj;rw[ar rfl,ar O,hy,cA (hq.symm.trans hx)]
 rw[aw hj];by_cases hk:(j:Int)<v
 .rw [ar hk,ar O]
 rw[aw hk,aw O]
def r9{α β:Type}{g d:Nat->α->β}{l:List α}{z:List β}{v w:Int}{x:α}(hx:l[v.toNat]?=some x)(h:z=l.mapIdx (b9 g d v))(h0:0<=v)(hw:w=v+1)(hy:d v.toNat x=g v.toNat x):z=l.mapIdx (b9 g d w):=EC h λj q hq=>by
 unfold b9;by_cases hj:j=v.toNat
 .subst hj;rw[ar O,aw O,cA (hq.symm.trans hx),hy]
 by_cases hk:(j:Int)<v
 .rw [ar hk,ar O]
 rw[aw hk,aw O]
def vS{α β:Type}{g d:Nat->α->β}{l:List α}{z:List β}{v:Int}(h:z=l.mapIdx (b9 g d v))(hv:(l.length:Int)<=v):z=l.mapIdx g:=EC h λj q hq=>by have:=(aL.1 hq).1;unfold b9;rw[ar O]
def up_0{α β:Type}{g d:Nat->α->β}{l:List α}{z:List β}(h:z=l.mapIdx d):z=l.mapIdx (b9 g d 0):=EC h λj q _=>by unfold b9;rw[aw O]
def dp{α:Type}(g:α->α)(l:List α)(k:Int):List α:=match l[k.toNat]? with|some t=>l.set k.toNat (g t)|none=>l
def XU{α:Type}{g:α->α}{l:List α}{k:Int}(h:∀t,g t=t):l=dp g l k:=by
 unfold dp;cases hx:l[k.toNat]? with
 |none=>rfl
 |some t=>show l=l.set k.toNat (g t);rw[h t,ya hx]
def XV{α:Type}{g g':α->α}{l z z':List α}{k:Int}{x y:α}(h:z=dp g l k)(hx:z[k.toNat]?=some x)(e:z'=z.set k.toNat y)(hg:∀t,x=g t->y=g' t):z'=dp g' l k:=by
 subst h;subst e;unfold dp at *;cases ht:l[k.toNat]? with
 |none=>rw[ht]at hx;simp only at hx;rw[ht]at hx;cases hx
 |some t=>
  rw[ht]at hx;simp only at hx⊢;rw[jd (aL.1 ht).1]at hx;rw[List.set_set,hg t (cA hx).symm]
def ZAU{α:Type}{g:α->α}{l:List α}{k:Int}{j:Nat}:(dp g l k)[j]?=if j=k.toNat then l[j]?.map g else l[j]?:=by
 unfold dp;by_cases hj:j=k.toNat
 .subst hj;rw[ar rfl];cases ht:l[k.toNat]? with
  |none=>show l[k.toNat]?=_;rw[ht];rfl
  |some t=>show(l.set k.toNat (g t))[k.toNat]?=_;rw[jd (aL.1 ht).1];rfl
 rw[aw hj];cases ht:l[k.toNat]? with
 |none=>rfl
 |some t=>show(l.set k.toNat (g t))[j]?=_;rw[gK λe=>hj e.symm]
def Bw{α:Type}{g:α->α}:∀(ks:List Int) (l:List α),(∀k,k∈ks->0<=k)->ks.Nodup->ks.foldl (dp g) l=l.mapIdx λj x=>if(j:Int)∈ks then g x else x
 |[],l,_,_=>by
  refine gx λj=>?_;rw[dL];show l[j]?=_;cases l[j]? with
  |none=>rfl
  |some x=>simp
 |k::ks,l,h0,hn=>by
  have hk:=h0 k ay;obtain⟨h1,h2⟩:=vI.1 hn;rw[jO,Bw ks _ (λj hj=>h0 j (bY _ hj)) h2];refine gx λj=>?_;rw[dL,dL,ZAU];by_cases hj:j=k.toNat
  .have e:(j:Int)=k:=by omega
   rw[ar hj,e];cases l[j]? with
   |none=>rfl
   |some x=>simp[h1]
  rw[aw hj];have e:(j:Int)≠k:=a8
  cases l[j]? with
  |none=>rfl
  |some x=>simp[e]
end Go.PW
