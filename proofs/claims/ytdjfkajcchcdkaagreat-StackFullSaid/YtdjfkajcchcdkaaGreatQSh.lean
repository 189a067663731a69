import Derived.Test.YtdjfkajcchcdkaaGreatQE
import Derived.Test.YtdjfkajcchcdkaaGreatQDd
import Derived.Test.YtdjfkajcchcdkaaGreatPwY
import Derived.Test.YtdjfkajcchcdkaaGreatPwYi
import Derived.Test.YtdjfkajcchcdkaaGreatQDt
set_option linter.all false
set_option maxRecDepth 100000
namespace Go.PW
def okc(n:Int):Bool:=(decide (97<=n)&&decide (n<=122))||(decide (48<=n)&&decide (n<=57))||n==45
def c8(c:UInt8):Int:=(c.toNat:Int)
def lowc(c:UInt8):Bool:=decide (97<=c8 c)&&decide (c8 c<=122)
def uZ(s:List UInt8):Bool:=
 decide (1<=s.length)&&decide (s.length<=32)&&(s.head?.map lowc).getD false&&(s.getLast?.map λc=>c8 c != 45).getD false && !Lib.contains s [45,45]&&s.all λc=>okc (c8 c)
def MS{s:List UInt8}(h:1<=s.length):s[0]?=some (s[0]'(by omega))/\s.head?=some (s[0]'(by omega)):=by
 cases s with
 |nil=>simp at h
 |cons a s=>exact⟨rfl,rfl⟩
def MT{s:List UInt8}(h:1<=s.length):idx? s (IntKind.wrap .i64 ((s.length:Int)-1))=if s.length<=4611686018427387904 then s.getLast? else idx? s (IntKind.wrap .i64 ((s.length:Int)-1)):=by
 split
 .rw [eS O O,show((s.length:Int)-1)=((s.length-1:Nat):Int) by omega];rw[List.getLast?_eq_getElem?];unfold idx?;rw[bB O];simp
 rfl
def occ2(s:List UInt8)(j:Nat):Lib.occAt s [45,45] j=true↔s[j]?=some (45:UInt8)/\s[j+1]?=some (45:UInt8):=by
 unfold Lib.occAt;rw[List.isPrefixOf_iff_prefix];constructor
 .rintro ⟨t,ht⟩;have h0:(s.drop j)[0]?=some 45:=by rw[<- ht];rfl
  have h1:(s.drop j)[1]?=some 45:=by rw[<- ht];rfl
  rw[jK]at h0 h1;exact⟨by simpa using h0,h1⟩
 rintro⟨h0,h1⟩;refine⟨s.drop (j+2),?_⟩;have hj:j+1<s.length:=(bj.1 h1).1;rw[re (show j<s.length by omega),re hj];have e0:s[j]=45:=by have:=bC (show j<s.length by omega);rw[this]at h0;exact dA h0
 have e1:s[j+1]=45:=by rw[bC hj]at h1;exact dA h1
 rw[e0,e1];rfl
def MU(s:List UInt8):Lib.contains s [45,45]=true↔∃j:Nat,s[j]?=some (45:UInt8)/\s[j+1]?=some (45:UInt8):=by
 unfold Lib.contains;rw[fF];rcases Lib.index_spec s [45,45]with⟨h1,h2⟩|⟨i,h1,h2,h3,_⟩
 .constructor
  .intro h;omega
  rintro⟨j,hj⟩;have hlt:j<s.length:=(bj.1 hj.1).1;have:=h2 j O;rw[(occ2 s j).2 hj]at this;cases this
 constructor
 .intro _;exact⟨i,(occ2 s i).1 h3⟩
 intro _;omega
def MV{s:List UInt8}(h1:1<=s.length)(h2:s.length<=32):∃c d,idx? s 0=some c/\s.head?=some c/\idx? s (IntKind.wrap .i64 ((s.length:Int)-1))=some d/\s.getLast?=some d:=by
 obtain⟨e1,e2⟩:=MS h1;have hl:=MT h1;rw[bB O]at hl;have:s.getLast?=some (s[s.length-1]'(by omega)):=by rw[List.getLast?_eq_getElem?];exact bC O
 exact⟨_,_,jb (j:=0) e1,e2,by rw[hl];exact this,this⟩
def Cj(n:Int):Z6x n=some (decide (97<=n)&&decide (n<=122)):=by
 (unfold Z6x LF.run;dsimp only[u0,LT.den])
 by_cases h:n>=97
 .rw [bW h];simp[jc]
 rw[bY h];simp[jc]
def okAt(s:List UInt8)(i:Nat):Bool:=(s[i]?.map λc=>okc (c8 c)).getD false && !(decide (0<i)&&(s[i]?.map λc=>c8 c==45).getD false&&(s[i-1]?.map λc=>c8 c==45).getD false)
def MW(s:List UInt8)(h:s.length<=32)(i:Nat)(hi:i<s.length):Z0d.step (.L0 s (i:Int))=some (bif okAt s i then .inl (.L0 s ((i+1:Nat):Int))else .inr false):=by
 have hx:=bC hi;have hw:IntKind.wrap .i64 ((i:Int)+1)=((i+1:Nat):Int):=eS O O;have l1:(jd s (i:Int)).den=some (bif !(decide (0<i)&&(c8 s[i]==45)&&(s[i-1]?.map λc=>c8 c==45).getD false)then .inl (.L0 s ((i+1:Nat):Int))else .inr false):=by
  dsimp only[jd,LT.den];by_cases h0:0<i
  .rw [show decide ((i:Int)>0)=true from bW O,bW h0,jb hx,hw];have hy:=bC (show i-1<s.length by omega);have hw2:IntKind.wrap .i64 ((i:Int)-1)=((i-1:Nat):Int):=by rw[eS O O];omega
   rw[hw2,jb hy,hy];simp only[aD,bO,dK,gi,gk];show(bif c8 s[i]==45 then bif c8 s[i-1]==45 then _ else _ else _)=_;cases c8 s[i]==45<;>cases c8 s[i-1]==45<;>rfl
  rw[show decide ((i:Int)>0)=false from bY O,bY h0,hw];rfl
 show(kJ _ _).den=_
 (dsimp only[kJ,LT.den];unfold okAt)
 rw[bW (show(i:Int)<(s.length:Int) by omega),jb hx,hx];simp only[aD,bO,dK,gi,Cj,l1];show(bif !(decide (97<=c8 s[i])&&decide (c8 s[i]<=122))then(bif decide (c8 s[i]<48)then(bif c8 s[i] != 45 then _ else _)else(bif decide (c8 s[i]>57)then(bif c8 s[i] != 45 then _ else _)else _))else _)=_;unfold okc;cases decide (97<=c8 s[i])&&decide (c8 s[i]<=122)with
 |true=>simp
 |false=>
  simp only[gT,aD,mh];by_cases h3:48<=c8 s[i]
  .rw [show decide (c8 s[i]<48)=false from bY O,bW h3];by_cases h4:c8 s[i]<=57
   .rw [show decide (c8 s[i]>57)=false from bY O,bW h4];simp
   rw[show decide (c8 s[i]>57)=true from bW O,bY h4];cases h5:c8 s[i]==45<;>simp[bne,h5]
  rw[show decide (c8 s[i]<48)=true from bW O,bY h3];cases h5:c8 s[i]==45<;>simp[bne,h5]
def MX(c:UInt8):(c8 c==45)=decide (c=45):=by
 rw[rf,decide_eq_decide];unfold c8;constructor
 .intro h;have:c.toNat=45:=by omega
  exact UInt8.toNat_inj.1 (by rw[this];rfl)
 rintro rfl;rfl
def MY(s:List UInt8):((List.range s.length).all λi=>okAt s i)=(!Lib.contains s [45,45]&&s.all λc=>okc (c8 c)):=by
 rw[kK,aM,bH,bH,cY];have hc:Lib.contains s [45,45]=false↔¬∃j:Nat,s[j]?=some (45:UInt8)/\s[j+1]?=some (45:UInt8):=by rw[<- MU];simp
 rw[hc];constructor
 .intro h;refine⟨?_,λc hcm=>?_⟩
  .rintro ⟨j,h1,h2⟩;have hj:j+1<s.length:=(bj.1 h2).1;have:=h (j+1) (mi.2 hj);simp[okAt,h1,h2,c8]at this
  obtain⟨i,hi⟩:=rh.1 hcm;have:=h i (mi.2 (bj.1 hi).1);simp only[okAt,hi,dK,gi,aM]at this;exact this.1
 rintro⟨h1,h2⟩ i hi;have hi:=mi.1 hi;have hx:=bC hi;unfold okAt;rw[hx];simp only[dK,gi,h2 _ (mj hi),gk,cY];apply Bool.eq_false_iff.2;intro hb;simp only[aM,fF,MX]at hb;obtain⟨⟨b1,b2⟩,b3⟩:=hb;refine h1 ⟨i-1,?_,?_⟩
 .cases hy:s[i-1]? with
  |none=>simp[hy]at b3
  |some y=>simp only[hy,dK,gi,fF]at b3;rw[b3]
 rw[show i-1+1=i by omega,hx,b2]
def MZ(s:List UInt8):nv s=some (uZ s):=by
 (unfold nv LF.run;dsimp only[u1,LT.den];unfold uZ)
 by_cases h1:1<=s.length
 .rw [show decide ((s.length:Int)<1)=false from bY O];by_cases h2:s.length<=32
  .obtain⟨c,d,e1,e2,e3,e4⟩:=MV h1 h2;rw[show decide ((s.length:Int)>32)=false from bY O,e1,e2,e3,e4];simp only[aB,bO,dK,gi,bW h1,bW h2,gk,Cj];show Option.bind (bif !lowc c then _ else bif (c8 d==45)then _ else _) _=_;cases lowc c with
   |false=>simp[jc]
   |true=>
    cases h5:(c8 d==45)with
    |true=>simp[jc,h5,bne]
    |false=>
     simp only[aB,bne,h5,gT,iA,gk,bO,ml];have:=scan (st:=λi=>je.L0 s (i:Int)) (step:=Z0d.step) (bad:=false) s.length (okAt s) (λi hi=>MW s h2 i hi);rw[show(je.L0 s 0)=je.L0 s ((0:Nat):Int)from rfl,this,MY];have he:cb Z0d.step (.L0 s (s.length:Int))=some true:=by refine fG ?_;show(kJ _ _).den=_;dsimp only[kJ,LT.den];rw[bY O];rfl
     rw[he];cases !Lib.contains s [45,45]&&s.all λc=>okc (c8 c)<;>rfl
  rw[show decide ((s.length:Int)>32)=true from bW O,bY h2];simp[jc]
 rw[show decide ((s.length:Int)<1)=true from bW O,bY h1];simp[jc]
end Go.PW
set_option maxRecDepth 100000
namespace Go.PW
def supW:List (List UInt8):=[[98,97,115,105,99],[117,110,105,113,117,101]]
def typW:List (List UInt8):=[[99,114,101,97,116,117,114,101],[105,110,115,116,97,110,116],[114,105,116,117,97,108],[114,101,108,105,99],[99,104,97,114,109],[108,97,110,100]]
def fS(l:List (List UInt8))(s:List UInt8):Bool:=l.any λw=>w==s
def subV(s:List UInt8):Bool:=uZ s&&(!fS supW s && !fS typW s)
def u2(l:List (List UInt8))(s:List UInt8)(hl:l.length<=4611686018427387904):∃x,nw l s=some x/\decide (x<0) = !fS l s/\decide (x>=0)=fS l s:=by
 (unfold nw LF.run;dsimp only[Z4u,LT.den])
 simp only[bO,ml];have hfind:=u3 (step:=Z4v.step) l (λi =>.L0 l s (i:Int)) (λi=>(i:Int)) (λw=>w==s) (λi x hx=>by have hi:=(bj.1 hx).1;show(kL _ _ _).den=_;dsimp only[kL,LT.den];rw[bW O,jb hx,Ck hi hl];simp only[aD,bO];cases x==s<;>rfl);rcases hfind with⟨h1,i,h2,h3⟩|⟨h1,h2⟩
 .refine⟨_,h3,?_,?_⟩<;>unfold fS<;>rw[h1]
  .exact bY O
  exact bW O
 refine⟨-1,h2.trans (fG ?_),?_,?_⟩
 .show (kL _ _ _).den=_;dsimp only[kL,LT.den];rw[bY O];rfl
 .unfold fS;rw[h1];rfl
 unfold fS;rw[h1];rfl
def M0(s:List UInt8):nx s=some (subV s):=by
 (unfold nx LF.run;dsimp only[Z4w,LT.den];unfold subV)
 obtain⟨x,hx,ex,_⟩:=u2 supW s aH;obtain⟨y,hy,ey,_⟩:=u2 typW s aH;have h1:ny=some supW:=rfl;have h2:nz=some typW:=rfl;simp only[MZ,h1,h2,hx,hy,bO,ex,ey];exact Z6u λ_=>Z6u λ_=>rfl
def M1(l:bV)(s:List UInt8)(hl:l.Subs.length<=4611686018427387904):Z9p l s=some (fS l.Subs s):=by
 (unfold Z9p LF.run;dsimp only[Cm,LT.den])
 obtain⟨x,hx,_,ex⟩:=u2 l.Subs s hl;simp only[hx,bO,ex];rfl
def M3(l:bV)(s:List UInt8)(hl:l.Subs.length<=4611686018427387904):Z5p l s=some (fS l.Subs s):=by
 (unfold Z5p LF.run;dsimp only[Cn,LT.den];unfold Co LF.run;dsimp only[Cp,LT.den];unfold Cq LF.run;dsimp only[Cr,LT.den])
 simp only[bO,ml];have hfind:=u3 (step:=ri.step) l.Subs (λi =>.L0 l.Subs s (l.Subs.length:Int) (i:Int)) (λi=>(i:Int)) (λw=>w==s) (λi x hx=>by have hi:=(bj.1 hx).1;show(nA _ _ _ _).den=_;dsimp only[nA,LT.den];rw[bW O,jb hx,Ck hi hl];simp only[aD,bO];rw[show(s==x)=(x==s)from by rw[Ct,Ct];simp[eq_comm]];cases x==s<;>rfl
)
 rcases hfind with⟨h1,i,h2,h3⟩|⟨h1,h2⟩
 .rw [show(nC.L0 l.Subs s (l.Subs.length:Int) 0) = .L0 l.Subs s (l.Subs.length:Int) ((0:Nat):Int)from rfl,h3]
  unfold fS;rw[h1]
  simp only[bO,jc]
  rw[bW O]
 .have he:cb ri.step (.L0 l.Subs s (l.Subs.length:Int) (l.Subs.length:Int))=some (-1):=by
   refine fG ?_
   show(nA _ _ _ _).den=_
   dsimp only[nA,LT.den]
   rw[bY O];rfl
  rw[show(nC.L0 l.Subs s (l.Subs.length:Int) 0) = .L0 l.Subs s (l.Subs.length:Int) ((0:Nat):Int)from rfl,h2,he]
  unfold fS;rw[h1];rfl
def btw(n m:Int):Bool:=decide (n>=0)&&decide (n<=m)
def Z2j(b:ab):Bool:=btw b.Kind 3&&(btw b.N 1000000&&(b.Kind != 0||b.N==0))
def disV(a b:Int):Bool:=bI .and .i64 a b==0
def filV(f:ai):Bool:=
 btw f.Zone 5&&(btw f.Who 2&&(btw f.Self 2&&(btw f.Tap 2&&(btw f.Keys 131071&&(btw f.Types 63&&(btw f.NotTypes 63&&(disV f.Types f.NotTypes &&
 (btw f.Colors 31&&(btw f.NotColors 31&&(disV f.Colors f.NotColors&&((f.Sub==[]||subV f.Sub)&&(Z2j f.Power&&(Z2j f.Tough&&Z2j f.Value)))))))))))))
def M4(b:ab):nD b=some (Z2j b):=by
 (unfold nD LF.run;dsimp only[Z4y,LT.den])
 refine(cw λ_=>cw λ_=>cw λ_=>cw λ_=>(show _=some (b.Kind != 0||b.N==0)from by cases b.Kind != 0<;>rfl)).trans ?_;congr 1
 (unfold Z2j;unfold btw)
 rw[kK];simp only[aM,cY,nE,fF,kM,nF,nG];constructor
 .rintro ⟨h1,h2,h3,h4,h5⟩;exact⟨⟨h1,h2⟩,⟨h3,h4⟩,h5⟩
 rintro⟨⟨h1,h2⟩,⟨h3,h4⟩,h5⟩;exact⟨h1,h2,h3,h4,h5⟩
def Cu:∀(d i a b:Nat),i+d=6->a<2 ^ 62->b<2 ^ 62->cb nH.step (.L0 (a:Int) (b:Int) (i:Int))=some (Z0c d a b)
 |0,i,a,b,hi,_,_=>by refine fG ?_;show(kN _ _ _).den=_;dsimp only[kN,LT.den];rw[bY O];rfl
 |d+1,i,a,b,hi,ha,hb=>by
  have hw:IntKind.wrap .i64 ((i:Int)+1)=((i+1:Nat):Int):=eS O O;have hs:nH.step (.L0 (a:Int) (b:Int) (i:Int))=some (bif decide (a%2=1)&&decide (b%2=1)then .inr false else .inl (.L0 ((a/2:Nat):Int) ((b/2:Nat):Int) ((i+1:Nat):Int))):=by show(kN _ _ _).den=_;dsimp only[kN,LT.den];rw[bW O,Cv,Cv,Cw a ha,Cw b hb,hw];cases decide (a%2=1)<;>cases decide (b%2=1)<;>rfl
  unfold Z0c;by_cases h:a%2=1/\b%2=1
  .rw [bB h];rw[bW h.1,bW h.2]at hs;exact fG hs
  rw[bl h];have:(decide (a%2=1)&&decide (b%2=1))=false:=by rw[<- mq];exact bY h
  rw[this]at hs;rw[jf hs];exact Cu d (i+1) (a/2) (b/2) O O O
def Cx(a b m:Int)(hm:m<64):nI a b m=some (btw a m&&(btw b m&&disV a b)):=by
 have key:∀{r:Bool},(0<=a->a<=m->0<=b->b<=m->r=disV a b)->(!decide (a<0)&&(!decide (a>m)&&(!decide (b<0)&&(!decide (b>m)&&r))))=(btw a m&&(btw b m&&disV a b)):=by
  intro r hr;unfold btw;by_cases h1:0<=a
  .by_cases h2:a<=m
   .by_cases h3:0<=b
    .by_cases h4:b<=m
     .rw [hr h1 h2 h3 h4];simp[h1,h2,h3,h4,nG.2]
     simp[h4,Int.not_le.1 h4]
    simp[h3,Int.not_le.1 h3]
   simp[h2,Int.not_le.1 h2]
  simp[h1,Int.not_le.1 h1]
 (unfold nI LF.run;dsimp only[Z4x,LT.den])
 by_cases hin:0<=a/\a<=m/\0<=b/\b<=m
 .obtain⟨h1,h2,h3,h4⟩:=hin;refine(cw (r := !decide (a>m)&&(!decide (b<0)&&(!decide (b>m)&&disV a b))) λ_=>cw λ_=>cw λ_=>cw λ_=>?_).trans (da some (key λ_ _ _ _=>rfl));obtain⟨x,rfl⟩:=Int.eq_ofNat_of_zero_le h1;obtain⟨y,rfl⟩:=Int.eq_ofNat_of_zero_le h3;show cb nH.step (.L0 (x:Int) (y:Int) ((0:Nat):Int))=_;rw[Cu 6 0 x y rfl O O,M5 O];unfold disV;rw[M7 O O,rf];congr 1;rw[decide_eq_decide];omega
 refine(cw (r := !decide (a>m)&&(!decide (b<0)&&(!decide (b>m)&&disV a b))) λe1=>cw λe2=>cw λe3=>cw λe4=>?_).trans (da some (key λ_ _ _ _=>rfl));simp only[nE]at e1 e2 e3 e4;exact absurd ⟨by omega,by omega,by omega,by omega⟩ hin
def Cy(f:ai):(kO f).den.bind (dV u4.step)=some (Z2j f.Power&&(Z2j f.Tough&&Z2j f.Value)):=by dsimp only[kO,LT.den];simp only[M4,bO];exact Z6u λ_=>Z6u λ_=>rfl
def M8(f:ai):Z61 f=some (filV f):=by
 (unfold Z61 LF.run;dsimp only[u5,LT.den])
 simp only[Cx _ _ _ (by decide:(63:Int)<64),Cx _ _ _ (by decide:(31:Int)<64),bO,M0];refine(cw λ_=>cw λ_=>cw λ_=>cw λ_=>cw λ_=>cw λ_=>cw λ_=>cw λ_=>Z6t λ_=>Z6t λ_=>(show _=some ((f.Sub==[]||subV f.Sub)&&(!decide (f.Keys<0)&&(!decide (f.Keys>131071)&&(Z2j f.Power&&(Z2j f.Tough&&Z2j f.Value)))))from ?_)).trans ?_
 .cases f.Sub==[]with
  |true=>simp only[iA,aB,Bool.true_or,gk];exact cw λ_=>cw λ_=>Cy f
  |false=>simp only[gT,aD,mh];exact Z6t λ_=>cw λ_=>cw λ_=>Cy f
 congr 1
 (unfold filV;unfold btw)
 rw[kK];simp only[aM,cY,nE,fF,kM,nF,nG];constructor
 .rintro ⟨z1,z2,w1,w2,s1,s2,t1,t2,⟨⟨a1,a2⟩,⟨b1,b2⟩,d1⟩,⟨⟨c1,c2⟩,⟨e1,e2⟩,d2⟩,su,k1,k2,p,q,v⟩;exact⟨⟨z1,z2⟩,⟨w1,w2⟩,⟨s1,s2⟩,⟨t1,t2⟩,⟨k1,k2⟩,⟨a1,a2⟩,⟨b1,b2⟩,d1,⟨c1,c2⟩,⟨e1,e2⟩,d2,su,p,q,v⟩
 rintro⟨⟨z1,z2⟩,⟨w1,w2⟩,⟨s1,s2⟩,⟨t1,t2⟩,⟨k1,k2⟩,⟨a1,a2⟩,⟨b1,b2⟩,d1,⟨c1,c2⟩,⟨e1,e2⟩,d2,su,p,q,v⟩;exact⟨z1,z2,w1,w2,s1,s2,t1,t2,⟨⟨a1,a2⟩,⟨b1,b2⟩,d1⟩,⟨⟨c1,c2⟩,⟨e1,e2⟩,d2⟩,su,k1,k2,p,q,v⟩
end Go.PW
set_option maxRecDepth 100000
namespace Go.PW
def qo{n:Int}(h1 : -1000000<=n)(h2:n<=1000000):xf n=some n/\Ad n=some n:=by
 constructor
 ·(unfold xf LF.run;dsimp only[EW,LT.den])
  simp only[bO,jc]
  (unfold minI;unfold maxI)
  congr 1;repeat' split;all_goals omega
 ·(unfold Ad LF.run;dsimp only[JQ,LT.den])
  rw[bY O,bY O];rfl
def Ae{a b:Int}(h1:0<=a)(h2:a<=100000)(h3:0<=b)(h4:b<=100000):xg a b=some (a+b)/\Af a b=some (a+b):=by
 obtain⟨a1,a2⟩:=qo (n:=a) O O;obtain⟨b1,b2⟩:=qo (n:=b) O O;obtain⟨c1,c2⟩:=qo (n:=a+b) O O;have hw:IntKind.wrap .i64 (a+b)=a+b:=eS O O;constructor
 ·(unfold xg LF.run;dsimp only[EZ,LT.den])
  simp only[a1,b1,c1,hw,bO];rfl
 ·(unfold Af LF.run;dsimp only[JR,LT.den])
  simp only[a2,b2,c2,hw,bO];rfl
def mul_zero{a:Int}(h1:0<=a)(h2:a<=100000):xy a 0=some 0/\xZ a 0=some 0:=by
 obtain⟨a1,a2⟩:=qo (n:=a) O O;obtain⟨b1,b2⟩:=qo (n:=0) O O;have hw:IntKind.wrap .i64 (a*0)=0:=by rw[Int.mul_zero];rfl
 constructor
 ·(unfold xy LF.run;dsimp only[Fv,LT.den])
  simp only[a1,b1,hw,bO];rfl
 ·(unfold xZ LF.run;dsimp only[Gi,LT.den])
  simp only[a2,b2,hw,bO];rfl
def Z4e(c:Z5):Bool:=btw c.Generic 99&&(btw c.X 2&&c.Color.list.all λn=>btw n 9)
def WX(c:Z5):w5 c=some (Z4e c):=by
 (unfold w5 LF.run;dsimp only[EK,LT.den])
 simp only[bO,ml];have:=Z8x (st:=λi=>oM.L0 c c.Color (i:Int)) (step:=oO.step) (bad:=false) c.Color.list (λn=>btw n 9) (λi x hx=>by
  have hi:=(bj.1 hx).1;have hi:i<5:=hi;show(oN _ _ _).den=_;dsimp only[oN,LT.den];rw[bW O,jb hx,eS O O];simp only[aD,bO];unfold btw;by_cases h1:x<0
  .rw [bW h1,bY (show ¬x>=0 by omega)];rfl
  rw[bY h1,bW (show x>=0 by omega)];by_cases h2:x>9
  .rw [bW h2,bY (show ¬x<=9 by omega)];rfl
  rw[bY h2,bW (show x<=9 by omega)];rfl)
 rw[show(oM.L0 c c.Color 0) = .L0 c c.Color ((0:Nat):Int)from rfl,this];have he:cb oO.step (.L0 c c.Color ((c.Color.list.length:Nat):Int))=some (btw c.Generic 99&&btw c.X 2):=by
  have e:oO.step (.L0 c c.Color ((c.Color.list.length:Nat):Int))=some (.inr (btw c.Generic 99&&btw c.X 2)):=by
   show(oN c c.Color 5).den=_
   (dsimp only[oN,LT.den];unfold btw)
   rw[bY O];cases decide (c.Generic>=0)<;>cases decide (c.Generic<=99)<;>cases decide (c.X>=0)<;>rfl
  exact fG e
 rw[he];unfold Z4e;cases c.Color.list.all λn=>btw n 9<;>cases btw c.Generic 99<;>cases btw c.X 2<;>rfl
def WY(c:Z5):Z6y c=some (Z4e c):=by
 (unfold Z6y LF.run;dsimp only[yw,LT.den])
 have hl:cb iV.step (.L0 c 0)=some (c.Color.list.all λn=>btw n 9):=by
  have:=Z8x (st:=λi=>jA.L0 c (i:Int)) (step:=iV.step) (bad:=false) c.Color.list (λn=>btw n 9) (λi x hx=>by
   have hi:=(bj.1 hx).1;have hi:i<5:=hi;show(mR _ _).den=_;dsimp only[mR,LT.den];rw[bW O,jb hx,eS O O];simp only[aD,bO];unfold btw;by_cases h1:x<0
   .rw [bW h1,bY (show ¬x>=0 by omega)];rfl
   rw[bY h1,bW (show x>=0 by omega)];by_cases h2:x>9
   .rw [bW h2,bY (show ¬x<=9 by omega)];rfl
   rw[bY h2,bW (show x<=9 by omega)];rfl)
  rw[show(jA.L0 c 0) = .L0 c ((0:Nat):Int)from rfl,this];have he:cb iV.step (.L0 c ((c.Color.list.length:Nat):Int))=some true:=JS
  rw[he];cases c.Color.list.all λn=>btw n 9<;>rfl
 refine(cw λ_=>cw λ_=>cw λ_=>cw λ_=>(show Option.bind (some (Sum.inl (jA.L0 c 0))) (dV iV.step)=some (c.Color.list.all λn=>btw n 9)from hl)).trans ?_;congr 1
 (unfold Z4e;unfold btw)
 rw[kK];simp only[aM,cY,nE,fF,kM,nF,nG];constructor
 .rintro ⟨h1,h2,h3,h4,h5⟩;exact⟨⟨h1,h2⟩,⟨h3,h4⟩,h5⟩
 rintro⟨⟨h1,h2⟩,⟨h3,h4⟩,h5⟩;exact⟨h1,h2,h3,h4,h5⟩
def valV(c:Z5):Int:=bif Z4e c then c.Generic+c.Color.a0+c.Color.a1+c.Color.a2+c.Color.a3+c.Color.a4 else 0
def WZ{c:Z5}(h:Z4e c=true):(0<=c.Generic/\c.Generic<=99)/\(0<=c.X/\c.X<=2)/\(0<=c.Color.a0/\c.Color.a0<=9)/\(0<=c.Color.a1/\c.Color.a1<=9)/\(0<=c.Color.a2/\c.Color.a2<=9)/\(0<=c.Color.a3/\c.Color.a3<=9)/\(0<=c.Color.a4/\c.Color.a4<=9):=by simpa[Z4e,btw,A5.list]using h
def JT(c:Z5):Z9k c 0=some (valV c)/\ya c 0=some (valV c):=by
 (unfold Z9k LF.run;dsimp only[Fx,LT.den];unfold ya LF.run;dsimp only[Gl,LT.den];unfold valV)
 rw[WX,WY];simp only[bO];cases hc:Z4e c with
 |false=>exact⟨rfl,rfl⟩
 |true=>
  obtain⟨g,x,h0,h1,h2,h3,h4⟩:=WZ hc;obtain⟨gen,xx,⟨a0,a1,a2,a3,a4⟩⟩:=c;simp only at g x h0 h1 h2 h3 h4⊢;simp only[iA,aB,bO,ml,aD];constructor
  .have hw:∀{n:Int},0<=n->n<=1000->IntKind.wrap .i64 n=n:=λh1 h2=>eS O O;have r:∀(v i y:Int),i<5->idx? [a0,a1,a2,a3,a4] i=some y->0<=v+y->v+y<=1000->0<=i->cb sG.step (.L0 0 ⟨gen,xx,⟨a0,a1,a2,a3,a4⟩⟩ v ⟨a0,a1,a2,a3,a4⟩ i)=cb sG.step (.L0 0 ⟨gen,xx,⟨a0,a1,a2,a3,a4⟩⟩ (v+y) ⟨a0,a1,a2,a3,a4⟩ (i+1)):=λv i y hi hy h1 h2 h0=>by
    refine jf ?_;show(oT _ _ _ _ _).den=_;dsimp only[oT,LT.den];rw[bW hi,show idx? (A5.list (⟨a0,a1,a2,a3,a4⟩:A5 Int)) i=some y from hy,bO,hw h1 h2,eS O O];rfl
   rw[r gen 0 a0 O rfl O O O,r _ _ a1 O rfl O O O,r _ _ a2 O rfl O O O,r _ _ a3 O rfl O O O,r _ _ a4 O rfl O O O];refine fG ?_;show(oT _ _ _ _ 5).den=_;dsimp only[oT,LT.den];have e1:=(mul_zero (a:=xx) O O).1;have e2:=(Ae (a:=gen+a0+a1+a2+a3+a4) (b:=0) O O O O).1;rw[bY O];simp only[aB,show maxI 0 0=0 from rfl,e1,e2,bO,Int.add_zero]
  have r:∀(v i y:Int),i<5->idx? [a0,a1,a2,a3,a4] i=some y->0<=v->v<=1000->0<=y->y<=9->0<=i->cb sN.step (.L0 0 ⟨gen,xx,⟨a0,a1,a2,a3,a4⟩⟩ v i)=cb sN.step (.L0 0 ⟨gen,xx,⟨a0,a1,a2,a3,a4⟩⟩ (v+y) (i+1)):=λv i y hi hy h1 h2 h3 h4 h0=>by refine jf ?_;show(oW _ _ _ _).den=_;dsimp only[oW,LT.den];rw[bW hi,show idx? (A5.list (⟨a0,a1,a2,a3,a4⟩:A5 Int)) i=some y from hy,bO,(Ae h1 O h3 O).2,bO,eS O O];rfl
  rw[r gen 0 a0 O rfl O O O O O,r _ _ a1 O rfl O O O O O,r _ _ a2 O rfl O O O O O,r _ _ a3 O rfl O O O O O,r _ _ a4 O rfl O O O O O];refine fG ?_;show(oW _ _ _ 5).den=_;dsimp only[oW,LT.den];have e1:=(mul_zero (a:=xx) O O).2;have e2:=(Ae (a:=gen+a0+a1+a2+a3+a4) (b:=0) O O O O).2;rw[bY O,bY O];simp only[aB,e1,e2,bO,Int.add_zero]
def Z9s(b:ab)(n:Int):Bool:=bif b.Kind==0 then true else bif b.Kind==1 then decide (n>=b.N)else bif b.Kind==2 then decide (n<=b.N)else bif b.Kind==3 then n==b.N else false
def Z9t(b:ab)(n:Int):xv b n=some (Z9s b n)/\xY b n=some (Z9s b n):=by
 (unfold xv LF.run;dsimp only[Fl,LT.den];unfold xY LF.run;dsimp only[Gg,LT.den];unfold Z9s)
 cases b.Kind==0<;>cases b.Kind==1<;>cases b.Kind==2<;>cases b.Kind==3<;>exact⟨rfl,rfl⟩
def jE(h s n:Int):Bool:=(s==0||bI .and .i64 h s != 0)&&bI .and .i64 h n==0
def oneV(a b w:Int):Bool:=bif w==1 then a==b else bif w != 2 then true else a != b
def tapV(t:Bool)(w:Int):Bool:=bif w==1 then t else bif w != 2 then true else !t
def gH(t:al):Bool:=bI .and .i64 t.Line.Types 1 != 0
def bouV(cr:Bool)(b:ab)(n:Int):Bool:=b.Kind==0||(cr&&Z9s b n)
def Z6d(t:al)(f:ai):Bool:=bouV (gH t) f.Power t.Power&&(bouV (gH t) f.Tough t.Tough&&Z9s f.Value (valV t.Cost))
def keyV(t:al)(f:ai):Bool:=bI .and .i64 t.Keys f.Keys==f.Keys
def Z9u(t:al)(f:ai):Bool:=f.Sub==[]||fS t.Line.Subs f.Sub
def matV(o:ay)(t:al)(you source:Int)(f:ai):Bool:=
 filV f&&(o.Zone==f.Zone&&(oneV t.Control you f.Who&&(oneV o.Id source f.Self&&(jE t.Line.Types f.Types f.NotTypes&&(jE t.Colors f.Colors f.NotColors &&
  (Z9u t f&&(keyV t f&&(tapV o.Tapped f.Tap&&Z6d t f))))))))
def W0(h s n:Int):xu h s n=some (jE h s n):=by
 (unfold xu LF.run;dsimp only[Z1s,LT.den];unfold jE)
 cases s==0<;>cases bI .and .i64 h s != 0<;>rfl
def W2(b:ab)(n:Int)(cr:Bool):xz b n cr=some (bouV cr b n):=by
 (unfold xz LF.run;dsimp only[Fy,LT.den];unfold bouV)
 rw[(Z9t b n).1];cases b.Kind==0<;>cases cr<;>cases Z9s b n<;>rfl
def m4(t:al)(f:ai):(lj t f (gH t)).den.bind (dV ll.step)=some (Z6d t f):=by
 (dsimp only[lj,LT.den];unfold Z6d)
 simp only[W2,(JT _).1,(Z9t _ _).1,bO];exact Z6u λ_=>Z6u λ_=>rfl
def m3(o:ay)(t:al)(f:ai)(v:Bool):(mI o t f (gH t) v).den.bind (dV ll.step)=some (!v&&(tapV o.Tapped f.Tap&&Z6d t f)):=by
 dsimp only[mI,LT.den];refine cw λ_=>?_;have hm:=m4 t f;unfold tapV;by_cases h1:f.Tap=1
 .rw [show(f.Tap==1)=true from by rw[h1];rfl,show(f.Tap==2)=false from by rw[h1];rfl];cases o.Tapped
  .rfl
  simpa using hm
 rw[show(f.Tap==1)=false from sX.2 h1];cases h2:f.Tap==2 with
 |false=>simpa[bne,h2]using hm
 |true=>
  cases o.Tapped
  .simpa [bne,h2]using hm
  simp[bne,h2,jc]
def m2(o:ay)(t:al)(f:ai)(v:Bool)(ht:t.Line.Subs.length<=4611686018427387904) :
 (oU o t f (gH t) v).den.bind (dV ll.step)=some (!v&&(Z9u t f&&(keyV t f&&(tapV o.Tapped f.Tap&&Z6d t f)))):=by
 dsimp only[oU,LT.den];refine cw λ_=>?_;have hk:Fu t.Keys f.Keys=some (keyV t f):=rfl;simp only[M3 _ _ ht,hk,bO];unfold Z9u;cases f.Sub==[]with
 |true=>simp only[iA,aB,Bool.true_or,gk];rw[m3,Bool.not_not]
 |false=>
  simp only[gT,aD,mh];cases fS t.Line.Subs f.Sub with
  |false=>simp only[gT,aD];rw[m3];rfl
  |true=>simp only[iA,aB];rw[m3,Bool.not_not];rfl
def m1(o:ay)(t:al)(f:ai)(v:Bool)(ht:t.Line.Subs.length<=4611686018427387904) :
 (j4 o t f (gH t) v).den.bind (dV ll.step)=some (!v&&(jE t.Line.Types f.Types f.NotTypes&&(jE t.Colors f.Colors f.NotColors&&(Z9u t f&&(keyV t f&&(tapV o.Tapped f.Tap&&Z6d t f)))))):=by
 dsimp only[j4,LT.den];refine cw λ_=>?_;simp only[W0,bO];cases jE t.Line.Types f.Types f.NotTypes with
 |false=>simp only[gT,aD];rw[m2 o t f _ ht];rfl
 |true=>simp only[iA,aB];rw[m2 o t f _ ht,Bool.not_not];rfl
def m0(o:ay)(t:al)(source:Int)(f:ai)(v:Bool)(ht:t.Line.Subs.length<=4611686018427387904) :
 (j5 source o t f (gH t) v).den.bind (dV ll.step)=some (!v&&(oneV o.Id source f.Self&&(jE t.Line.Types f.Types f.NotTypes&&(jE t.Colors f.Colors f.NotColors&&(Z9u t f&&(keyV t f&&(tapV o.Tapped f.Tap&&Z6d t f))))))):=by
 dsimp only[j5,LT.den];refine cw λ_=>?_;have hm:=λv=>m1 o t f v ht;unfold oneV;by_cases h1:f.Self=1
 .rw [show(f.Self==1)=true from by rw[h1];rfl,show(f.Self==2)=false from by rw[h1];rfl];cases h:o.Id==source
  .simp only[aD,bne,h,gT];rw[hm];rfl
  simp only[aD,bne,h,iA,aB];rw[hm];rfl
 rw[show(f.Self==1)=false from sX.2 h1];cases h2:f.Self==2 with
 |false=>simp only[aB,bne,h2,gT,aD];rw[hm];rfl
 |true=>simp only[aB,bne,h2,iA,aD];rw[hm]
def b0(t:al)(f:ai):(mK t f (gH t)).den.bind (dV Z2g.step)=some (bouV (gH t) f.Tough t.Tough&&Z9s f.Value (valV t.Cost)):=by
 (dsimp only[mK,LT.den];unfold bouV)
 simp only[(JT _).2,(Z9t _ _).2,bO,bne];cases f.Tough.Kind==0<;>cases gH t<;>cases Z9s f.Tough t.Tough<;>rfl
def W3(t:al)(f:ai):Z9q t f=some (Z6d t f):=by
 (unfold Z9q LF.run;dsimp only[Gm,LT.den];unfold Z6d)
 have hs:JU t.Line.Types 1=some (gH t):=rfl;rw[hs,bO];simp only[(Z9t _ _).2,bO,bne];have hb:=b0 t f;unfold bouV at hb⊢;cases f.Power.Kind==0 with
 |true=>simpa using hb
 |false=>
  cases hc:gH t with
  |false=>rfl
  |true=>
   rw[hc]at hb;cases Z9s f.Power t.Power
   .rfl
   simpa using hb
def r1(t:al)(f:ai)(ht:t.Line.Subs.length<=4611686018427387904):(oX t f).den.bind (dV Uv.step)=some (Z9u t f&&(keyV t f&&Z6d t f)):=by
 (dsimp only[oX,LT.den];unfold Z9u)
 have hk:JV t.Keys f.Keys=some (keyV t f):=rfl;simp only[M1 _ _ ht,hk,W3,bO];cases f.Sub==[]with
 |true=>simp only[iA,aB,Bool.true_or,gk];exact Z6t λ_=>rfl
 |false=>simp only[gT,aD,mh];exact Z6t λ_=>Z6t λ_=>rfl
end Go.PW
set_option maxRecDepth 100000
namespace Go.PW
def W4:al:=⟨[],⟨0,0,⟨0,0,0,0,0⟩⟩,0,⟨0,0,[]⟩,0,0,0,[],0⟩
def atV(all:List al)(i:Nat):al:=(all[i]?).getD W4
def mat(all:List al)(you src:Int)(f:ai)(i:Nat)(o:ay):Bool:=matV o (atV all i) you src f
end Go.PW
set_option maxRecDepth 100000
namespace Go.PW
def ixO(l:List ay)(id:Int):Int:=match l.findIdx? λo=>o.Id==id with
 |some k=>k
 |none => -1
abbrev NoId(l:List ay)(id v:Int):Prop:=∀(k:Nat) x,(k:Int)<v->l[k]?=some x->x.Id≠id
def Xi{l:List ay}{id:Int}:NoId l id 0:=λk x hk=>bP
def Xj{l:List ay}{id v w:Int}{x:ay}(hx:l[v.toNat]?=some x)(h:NoId l id v)(h0:0<=v)(hn:x.Id≠id)(hw:w=v+1):NoId l id w:=λk y hk hy=>by
 rcases xX h0 hw hk hy hx with hk|rfl
 .exact h k y hk hy
 exact hn
def Xg{l:List ay}{id v:Int}{x:ay}(hx:l[v.toNat]?=some x)(h:NoId l id v)(h0:0<=v)(hn:x.Id=id):v=ixO l id:=by unfold ixO;obtain⟨hi,he⟩:=bj.1 hx;rw[List.findIdx?_eq_some_iff_getElem.2 ⟨hi,by rw[he];exact beq_iff_eq.2 hn,λj hj=>by have:=h j l[j] O (bC O);simpa using this⟩];show v=((v.toNat:Nat):Int);omega
def Xh{l:List ay}{id v:Int}(h:NoId l id v)(hv:(l.length:Int)<=v) : -1=ixO l id:=by unfold ixO;rw[List.findIdx?_eq_none_iff.2 λx hx=>by obtain⟨k,hk,he⟩:=List.mem_iff_getElem.1 hx;have:=h k x O (by rw[bC hk,he]);simpa using this]
def K3(l:List ay)(id:Int):(ixO l id = -1/\∀x,x∈l->x.Id≠id)\/∃x,0<=ixO l id/\ixO l id<l.length/\l[(ixO l id).toNat]?=some x/\x.Id=id:=by
 unfold ixO;cases h:l.findIdx? λo=>o.Id==id with
 |none=>
  left;refine⟨rfl,λx hx=>?_⟩;have:=List.findIdx?_eq_none_iff.1 h x hx;simpa using this
 |some k=>
  right;obtain⟨hi,he,_⟩:=List.findIdx?_eq_some_iff_getElem.1 h;refine⟨l[k],by show 0<=(k:Int);omega,by show(k:Int)<_;omega,?_,by simpa using he⟩;show l[(k:Int).toNat]?=_;rw[Int.toNat_natCast,bC hi]
def Xu(l:List ay)(id:Int) : -1<=ixO l id/\ixO l id<l.length:=by rcases K3 l id with⟨h,_⟩|⟨x,h1,h2,_⟩<;>omega
abbrev AU:ay:=⟨0,0,0,0,0,false,false,false,false,0,⟨0,0,0⟩,0,0,0,false,0,0⟩
def fdV(l:List ay)(id:Int):ay×Bool:=match l.find? λo=>o.Id==id with
 |some o=>(o,true)
 |none=>(AU,false)
def Xv{l:List ay}{id:Int}(h:ixO l id<0):(AU,false)=fdV l id:=by
 unfold fdV;rcases K3 l id with⟨_,hn⟩|⟨x,h1,_⟩
 .rw [List.find?_eq_none.2 λx hx=>by simpa using hn x hx]
 omega
def Xw{l:List ay}{id:Int}{x:ay}(hx:l[(ixO l id).toNat]?=some x)(h:¬ixO l id<0):(x,true)=fdV l id:=by
 unfold fdV;have hf:l.find? (λo=>o.Id==id)=some x:=by
  unfold ixO at hx h;cases he:l.findIdx? λo=>o.Id==id with
  |none=>rw[he]at h;exact absurd aH h
  |some k=>
   rw[he]at hx;obtain⟨hi,h1,h2⟩:=List.findIdx?_eq_some_iff_getElem.1 he;have hx:l[k]?=some x:=hx;rw[bC hi]at hx;have e:=dA hx;exact List.find?_eq_some_iff_getElem.2 ⟨by rw[<- e];exact h1,k,hi,e,λj hj=>by simpa using h2 j hj⟩
 rw[hf]
abbrev uo:ai:=⟨0,0,0,0,0,0,0,[],0,0,⟨0,0⟩,⟨0,0⟩,⟨0,0⟩⟩
def amV(a:de):Bool:=
 if a.Kind=0 then decide (0<=a.N/\a.N<=1000000/\a.Counter=0/\a.Filter=uo)
 else if a.Kind=2 then decide (1<=a.N/\a.N<=99/\a.Counter=0)&&filV a.Filter
 else if a.Kind=4 then decide (0<=a.Counter/\a.Counter<=2/\a.N=0/\a.Filter=uo)
 else decide (0<=a.Kind/\a.Kind<=7/\a.N=0/\a.Counter=0/\a.Filter=uo)
def usV(a:de):de:=if a.Kind=2 then⟨0,0,a.Counter,uo⟩ else if a.Kind=0 then⟨0,0,a.Counter,a.Filter⟩ else if a.Kind=4 then⟨0,a.N,0,a.Filter⟩ else⟨0,a.N,a.Counter,a.Filter⟩
theorem W5(x y:de):ax (c6 x) (c6 y)=decide (x=y):=wz PF x y
def Xe{l:List ay}{id i:Int}(hi:i=ixO l id)(h:i<0):(AU,false)=fdV l id:=Xv (hi▸h)
def Xf{l:List ay}{id i:Int}{x:ay}(hx:l[i.toNat]?=some x)(hi:i=ixO l id)(h:¬i<0):(x,true)=fdV l id:=by subst hi;exact Xw hx h
end Go.PW
set_option maxRecDepth 100000
namespace Go.PW
section
variable {s:ae} {all:List al} {you src id i:Int} {w:Bool} {x:ay}
end
end Go.PW
set_option maxRecDepth 100000
namespace Go.PW
end Go.PW
set_option maxRecDepth 100000
namespace Go.PW
abbrev Z9v(l:List ay)(v:Int):Prop:=(∀(k:Nat) x,(k:Int)<v->l[k]?=some x->1<=x.Id)/\∀(k:Nat) x y,(k:Int)+1<v->l[k]?=some x->l[k+1]?=some y->x.Id<y.Id
def W8{l:List ay}:Z9v l 0:=⟨λk x h=>by omega,λk x y h=>by omega⟩
def JW{l:List ay}{v w:Int}{x:ay}(hx:l[v.toNat]?=some x)(h:Z9v l v)(h0:0<=v)(h1:1<=x.Id)(h2:∀y,0<v->l[(v-1).toNat]?=some y->y.Id<x.Id)(hw:w=v+1):Z9v l w:=by
 refine⟨λk y hk hy=>?_,λk y z hk hy hz=>?_⟩
 .rcases xX h0 hw hk hy hx with h'|rfl
  .exact h.1 k y h' hy
  exact h1
 by_cases hk':(k:Int)+1<v
 .exact h.2 k y z hk' hy hz
 have e:k+1=v.toNat:=bP
 rw[e,hx]at hz;cases hz;exact h2 y O (by rw[show(v-1).toNat=k by omega];exact hy)
abbrev Ids(l:List ay):Prop:=(∀o,o∈l->1<=o.Id)/\∀(i j:Nat) x y,l[i]?=some x->l[j]?=some y->x.Id=y.Id->i=j
def BC{l:List ay}(h:Z9v l l.length):∀(d i:Nat) x y,l[i]?=some x->l[i+d+1]?=some y->x.Id<y.Id:=by
 intro d;induction d with
 |zero=>intro i x y hx hy;exact h.2 i x y (by have:=(bj.1 hy).1;omega) hx hy
 |succ d ih=>
  intro i x y hx hy;have hl:=(bj.1 hy).1;have hz:=bC (l:=l) (i:=i+d+1) O;have h1:=ih i x _ hx hz;have h2:=h.2 (i+d+1) _ y O hz hy;omega
def W7{l:List ay}{v:Int}(h:Z9v l v)(hv:(l.length:Int)<=v):Ids l:=by
 have h':Z9v l l.length:=⟨λk x hk=>h.1 k x O,λk x y hk=>h.2 k x y O⟩;refine⟨λo ho=>?_,λi j x y hx hy e=>?_⟩
 .obtain⟨k,hk⟩:=rh.1 ho;exact h'.1 k o (by have:=(bj.1 hk).1;omega) hk
 rcases Nat.lt_trichotomy i j with hij|hij|hij
 .have:=BC h' (j-i-1) i x y hx Kp;omega
 .exact hij
 have:=BC h' (i-j-1) j y x hy (by rw[show j+(i-j-1)+1=i by omega];exact hx);omega
section
variable {s:ae} {all:List al} {c:dE} {sp:bz}
end
def one{x y:cf}(h:ax (bk x) (bk y)=false):x≠y:=by rw[PJ]at h;exact of_decide_eq_false h
def teq{x y:bG}(h:ax (Z0 x) (Z0 y)=true):x=y:=by rw[PH]at h;exact gj h
section
variable {s:ae} {all:List al} {c:dE} {sp:bz} {t:bG} {sps:List bz} {l acc z:List bG} {a b b':Bool} {v w:Int}
end
def W9{l:List ay}{v w:Int}{x z:ay}(hz:l[w.toNat]?=some z)(e:w=v-1)(h:¬z.Id>=x.Id):∀y,0<v->l[(v-1).toNat]?=some y->y.Id<x.Id:=λy _ hy=>by rw[<- e,hz]at hy;cases hy;omega
end Go.PW
set_option maxRecDepth 100000
namespace Go.PW
def cosB(c:Z5):Bool:=decide (0<=c.Generic/\c.Generic<=99/\0<=c.X/\c.X<=2/\∀n,n∈A5.list c.Color->0<=n/\n<=9)
def Z2k{α:Type}{l:List α}{i:Nat}{x:α}(h:l[i]?=some x):l.set i x=l:=by
 obtain⟨hi,he⟩:=bj.1 h;refine List.ext_getElem? λj=>?_;rw[List.getElem?_set];split
 .rename_i e;subst e;exact h.symm
 rfl
def Xd{a b:ar}{v:Int}{x:aU}{m:List ah}{z:List aU}(e:b=a)(hx:b.Effects[v.toNat]?=some x)(hm:m=x.Mods)(hz:z=b.Effects.set v.toNat ⟨x.Op,x.Ref,x.Amount,x.Counter,x.Zone,x.Card,x.Filter,x.Pool,m⟩):(⟨b.Kind,b.Filter,b.Mods,b.Price,b.Slow,b.Trigger,b.May,b.Specs,z,b.Replace⟩:ar)=a:=by subst hm;have:z=b.Effects:=hz.trans (Z2k hx);rw[this];exact e
def Xa{a:ar}{m:List ah}{s:List bz}(hm:m=[]++a.Mods)(hs:s=[]++a.Specs):(⟨a.Kind,a.Filter,m,a.Price,a.Slow,a.Trigger,a.May,s,[],a.Replace⟩:ar)={ a with Effects:=a.Effects.take (0:Int).toNat }:=by subst hm;subst hs;rfl
def Xb{a b:ar}{v w:Int}{x:aU}{m:List ah}{z:List aU}(h:b={ a with Effects:=a.Effects.take v.toNat })(hx:a.Effects[v.toNat]?=some x)(h0:0<=v)(hw:w=v+1)(hm:m=[]++x.Mods)(hz:z=b.Effects++[⟨x.Op,x.Ref,x.Amount,x.Counter,x.Zone,x.Card,x.Filter,x.Pool,m⟩]) :
 (⟨b.Kind,b.Filter,b.Mods,b.Price,b.Slow,b.Trigger,b.May,b.Specs,z,b.Replace⟩:ar)={ a with Effects:=a.Effects.take w.toNat }:=by
 subst hm;subst hz;subst h;rw[sM hx h0 hw];rfl
def Oi{a b:ar}{v:Int}(h:b={ a with Effects:=a.Effects.take v.toNat })(hv:(a.Effects.length:Int)<=v):b=a:=by rw[h,fU O]
def st_0{s a:ae}{v:Int}{x y:bS}{z:List bS}(e:s=a)(hx:s.Players[v.toNat]?=some x)(hy:y=x)(hz:z=s.Players.set v.toNat y):(⟨z,s.Objects,s.Battlefield,s.Exile,s.Stack,s.Waiting,s.Conts,s.Turn,s.Active,s.Step,s.Begun,s.Priority,s.Passes,s.NextId,s.NextStamp,s.Seed,s.Extra,s.Over,s.Winner⟩:ae)=a:=by subst hy;rw[hz,Z2k hx];exact e
def Xc{s a:ae}{v:Int}{x x8:az}{y:ar}{m:List bG}{z w:List az}(e:s=a)(hx:s.Stack[v.toNat]?=some x)(hy:y=x.Ability)(hz:z=s.Stack.set v.toNat ⟨x.Id,x.Kind,x.Source,x.Control,x.X,x.Copy,y,x.Targets,x.Event⟩)(hx8:z[v.toNat]?=some x8)(hm:m=x8.Targets)(hw:w=z.set v.toNat ⟨x8.Id,x8.Kind,x8.Source,x8.Control,x8.X,x8.Copy,x8.Ability,m,x8.Event⟩):(⟨s.Players,s.Objects,s.Battlefield,s.Exile,w,s.Waiting,s.Conts,s.Turn,s.Active,s.Step,s.Begun,s.Priority,s.Passes,s.NextId,s.NextStamp,s.Seed,s.Extra,s.Over,s.Winner⟩:ae)=a:=by subst hy;subst hm;rw[hw,Z2k hx8,hz,Z2k hx];exact e
def st_2{s a:ae}{v:Int}{x:bZ}{y:ar}{z:List bZ}(e:s=a)(hx:s.Waiting[v.toNat]?=some x)(hy:y=x.Ability)(hz:z=s.Waiting.set v.toNat ⟨x.Source,x.Control,y,x.Event⟩):(⟨s.Players,s.Objects,s.Battlefield,s.Exile,s.Stack,z,s.Conts,s.Turn,s.Active,s.Step,s.Begun,s.Priority,s.Passes,s.NextId,s.NextStamp,s.Seed,s.Extra,s.Over,s.Winner⟩:ae)=a:=by subst hy;rw[hz,Z2k hx];exact e
def st_3{s a:ae}{v:Int}{x y:cd}{m:List Int}{q:List ah}{z w:List cd}(e:s=a)(hx:s.Conts[v.toNat]?=some x)(hm:m=x.Objects)(hz:z=s.Conts.set v.toNat ⟨x.Stamp,x.Control,x.Source,x.Until,m,x.Mods⟩)(hy:z[v.toNat]?=some y)(hq:q=y.Mods)(hw:w=z.set v.toNat ⟨y.Stamp,y.Control,y.Source,y.Until,y.Objects,q⟩):(⟨s.Players,s.Objects,s.Battlefield,s.Exile,s.Stack,s.Waiting,w,s.Turn,s.Active,s.Step,s.Begun,s.Priority,s.Passes,s.NextId,s.NextStamp,s.Seed,s.Extra,s.Over,s.Winner⟩:ae)=a:=by subst hm;subst hq;have:z=s.Conts:=hz.trans (Z2k hx);rw[hw,Z2k hy,this];exact e
def Aq{s t:ae}{v w:Int}{x:bS}{l1 l2 l3:List Int}{z:List bS}(e:t={ s with Players:=s.Players.take v.toNat })(hx:s.Players[v.toNat]?=some x)(h0:0<=v)(hw:w=v+1)(h1:l1=x.Library)(h2:l2=x.Hand)(h3:l3=x.Graveyard)(hz:z=t.Players++[⟨x.Life,x.Venom,x.Lands,x.Pool,x.Failed,x.Lost,l1,l2,l3⟩]):(⟨z,t.Objects,t.Battlefield,t.Exile,t.Stack,t.Waiting,t.Conts,t.Turn,t.Active,t.Step,t.Begun,t.Priority,t.Passes,t.NextId,t.NextStamp,t.Seed,t.Extra,t.Over,t.Winner⟩:ae)={ s with Players:=s.Players.take w.toNat }:=by subst h1;subst h2;subst h3;subst hz;subst e;rw[sM hx h0 hw]
def Ao{s t:ae}{v w:Int}{x:az}{y:ar}{m:List bG}{z:List az}(e:t={ s with Stack:=s.Stack.take v.toNat })(hx:s.Stack[v.toNat]?=some x)(h0:0<=v)(hw:w=v+1)(h1:y=x.Ability)(h2:m=[]++x.Targets)(hz:z=t.Stack++[⟨x.Id,x.Kind,x.Source,x.Control,x.X,x.Copy,y,m,x.Event⟩]):(⟨t.Players,t.Objects,t.Battlefield,t.Exile,z,t.Waiting,t.Conts,t.Turn,t.Active,t.Step,t.Begun,t.Priority,t.Passes,t.NextId,t.NextStamp,t.Seed,t.Extra,t.Over,t.Winner⟩:ae)={ s with Stack:=s.Stack.take w.toNat }:=Kj
def Am{s t:ae}{v w:Int}{x:bZ}{y:ar}{z:List bZ}(e:t={ s with Waiting:=s.Waiting.take v.toNat })(hx:s.Waiting[v.toNat]?=some x)(h0:0<=v)(hw:w=v+1)(h1:y=x.Ability)(hz:z=t.Waiting++[⟨x.Source,x.Control,y,x.Event⟩]):(⟨t.Players,t.Objects,t.Battlefield,t.Exile,t.Stack,z,t.Conts,t.Turn,t.Active,t.Step,t.Begun,t.Priority,t.Passes,t.NextId,t.NextStamp,t.Seed,t.Extra,t.Over,t.Winner⟩:ae)={ s with Waiting:=s.Waiting.take w.toNat }:=by subst h1;subst hz;subst e;rw[sM hx h0 hw]
def Ak{s t:ae}{v w:Int}{x:cd}{l:List Int}{m:List ah}{z:List cd}(e:t={ s with Conts:=s.Conts.take v.toNat })(hx:s.Conts[v.toNat]?=some x)(h0:0<=v)(hw:w=v+1)(h1:l=x.Objects)(h2:m=[]++x.Mods)(hz:z=t.Conts++[⟨x.Stamp,x.Control,x.Source,x.Until,l,m⟩]):(⟨t.Players,t.Objects,t.Battlefield,t.Exile,t.Stack,t.Waiting,z,t.Turn,t.Active,t.Step,t.Begun,t.Priority,t.Passes,t.NextId,t.NextStamp,t.Seed,t.Extra,t.Over,t.Winner⟩:ae)={ s with Conts:=s.Conts.take w.toNat }:=Kj
def Ar{s:ae}:(⟨[],s.Objects,s.Battlefield,s.Exile,s.Stack,s.Waiting,s.Conts,s.Turn,s.Active,s.Step,s.Begun,s.Priority,s.Passes,s.NextId,s.NextStamp,s.Seed,s.Extra,s.Over,s.Winner⟩:ae)={ s with Players:=s.Players.take (0:Int).toNat }:=rfl
def Ap{s t:ae}{v:Int}{o:List ay}{b e:List Int}(h:t={ s with Players:=s.Players.take v.toNat })(hv:(s.Players.length:Int)<=v)(h1:o=[]++s.Objects)(h2:b=s.Battlefield)(h3:e=s.Exile):(⟨t.Players,o,b,e,[],t.Waiting,t.Conts,t.Turn,t.Active,t.Step,t.Begun,t.Priority,t.Passes,t.NextId,t.NextStamp,t.Seed,t.Extra,t.Over,t.Winner⟩:ae)={ s with Stack:=s.Stack.take (0:Int).toNat }:=by rw[fU O]at h;subst h;subst h1;subst h2;subst h3;rfl
def An{s t:ae}{v:Int}(h:t={ s with Stack:=s.Stack.take v.toNat })(hv:(s.Stack.length:Int)<=v):(⟨t.Players,t.Objects,t.Battlefield,t.Exile,t.Stack,[],t.Conts,t.Turn,t.Active,t.Step,t.Begun,t.Priority,t.Passes,t.NextId,t.NextStamp,t.Seed,t.Extra,t.Over,t.Winner⟩:ae)={ s with Waiting:=s.Waiting.take (0:Int).toNat }:=by rw[fU O]at h;subst h;rfl
def Al{s t:ae}{v:Int}(h:t={ s with Waiting:=s.Waiting.take v.toNat })(hv:(s.Waiting.length:Int)<=v):(⟨t.Players,t.Objects,t.Battlefield,t.Exile,t.Stack,t.Waiting,[],t.Turn,t.Active,t.Step,t.Begun,t.Priority,t.Passes,t.NextId,t.NextStamp,t.Seed,t.Extra,t.Over,t.Winner⟩:ae)={ s with Conts:=s.Conts.take (0:Int).toNat }:=by rw[fU O]at h;subst h;rfl
def Om{s t:ae}{v:Int}{x:List Int}(h:t={ s with Conts:=s.Conts.take v.toNat })(hv:(s.Conts.length:Int)<=v)(hx:x=s.Extra):(⟨t.Players,t.Objects,t.Battlefield,t.Exile,t.Stack,t.Waiting,t.Conts,t.Turn,t.Active,t.Step,t.Begun,t.Priority,t.Passes,t.NextId,t.NextStamp,t.Seed,x,t.Over,t.Winner⟩:ae)=s:=by rw[fU O]at h;subst h;subst hx;rfl
def sfA{l m:List U}(h:ax l l=true)(k:ax m m=true):ax (l++m) (l++m)=true:=by rw[tz _ _ _ _ rfl,h,k];rfl
def sfI(k:IntKind)(n:Int):ax (cI k n) (cI k n)=true:=by simp[cI,ax,gE]
def sfB(b:Bool):ax (cB b) (cB b)=true:=by simp[cB,ax,gE]
def sfS(b:List UInt8):ax (cS b) (cS b)=true:=by simp[cS,ax,gE]
def sf3(x:A3 Int):ax ((cA3 (cI .i64)) x) ((cA3 (cI .i64)) x)=true:=by simp[cA3,cI,ax,gE,A3.list]
def sf5(x:A5 Int):ax ((cA5 (cI .i64)) x) ((cA5 (cI .i64)) x)=true:=by simp[cA5,cI,ax,gE,A5.list]
theorem sf6(x:A6 Int):ax ((cA6 (cI .i64)) x) ((cA6 (cI .i64)) x)=true:=by simp[cA6,cI,ax,gE,A6.list]
def Zg(x:ab):ax (eG x) (eG x)=true:=by unfold eG;repeat' first|exact sfI _ _|exact sfB _|exact sfS _|exact sf3 _|exact sf5 _|exact sf6 _|refine sfA ?_ ?_
theorem Lk(x:eu):ax (fi x) (fi x)=true:=by unfold fi;repeat' first|exact sfI _ _|exact sfB _|exact sfS _|exact sf3 _|exact sf5 _|exact sf6 _|refine sfA ?_ ?_
theorem ni(x:ai):ax (bg x) (bg x)=true:=by unfold bg;repeat' first|exact sfI _ _|exact sfB _|exact sfS _|exact sf3 _|exact sf5 _|exact sf6 _|exact Zg _|refine sfA ?_ ?_
theorem Zh(x:de):ax (c6 x) (c6 x)=true:=by unfold c6;repeat' first|exact sfI _ _|exact sfB _|exact sfS _|exact sf3 _|exact sf5 _|exact sf6 _|exact ni _|exact Lk _|refine sfA ?_ ?_
theorem Ll(x:Z5):ax (cn x) (cn x)=true:=by unfold cn;repeat' first|exact sfI _ _|exact sfB _|exact sfS _|exact sf3 _|exact sf5 _|exact sf6 _|refine sfA ?_ ?_
theorem Zi(x:eU):ax (gB x) (gB x)=true:=by unfold gB;repeat' first|exact sfI _ _|exact sfB _|exact sfS _|exact sf3 _|exact sf5 _|exact sf6 _|exact Ll _|refine sfA ?_ ?_
theorem Zj(x:ah):ax (av x) (av x)=true:=by unfold av;repeat' first|exact sfI _ _|exact sfB _|exact sfS _|exact sf3 _|exact sf5 _|exact sf6 _|exact ni _|refine sfA ?_ ?_
theorem Zk(x:bz):ax (Z4 x) (Z4 x)=true:=by unfold Z4;repeat' first|exact sfI _ _|exact sfB _|exact sfS _|exact sf3 _|exact sf5 _|exact sf6 _|exact ni _|refine sfA ?_ ?_
theorem Zl(x:dM):ax (fZ x) (fZ x)=true:=by unfold fZ;repeat' first|exact sfI _ _|exact sfB _|exact sfS _|exact sf3 _|exact sf5 _|exact sf6 _|exact ni _|refine sfA ?_ ?_
theorem Zm(x:cE):ax (eZ x) (eZ x)=true:=by unfold eZ;repeat' first|exact sfI _ _|exact sfB _|exact sfS _|exact sf3 _|exact sf5 _|exact sf6 _|exact ni _|refine sfA ?_ ?_
theorem Zn(x:bG):ax (Z0 x) (Z0 x)=true:=by unfold Z0;repeat' first|exact sfI _ _|exact sfB _|exact sfS _|exact sf3 _|exact sf5 _|exact sf6 _|refine sfA ?_ ?_
theorem Zo(x:gp):ax (ga x) (ga x)=true:=by unfold ga;repeat' first|exact sfI _ _|exact sfB _|exact sfS _|exact sf3 _|exact sf5 _|exact sf6 _|refine sfA ?_ ?_
theorem Zp(x:ay):ax (au x) (au x)=true:=by unfold au;repeat' first|exact sfI _ _|exact sfB _|exact sfS _|exact sf3 _|exact sf5 _|exact sf6 _|refine sfA ?_ ?_
def sm{p:Prop}(h:p:=by intro h;subst h;first|rfl|(exfalso;omega)|grind[Lk,ni,Zh,Ll,Zi,Zj,Zk,Zl,Zm,Zn,Zo,Zp,sf6]):=h
end Go.PW
set_option maxRecDepth 100000
namespace Go.PW
end Go.PW
namespace Go.PW
def SrtO(l:List ay):Prop:=∀(i j:Nat) x y,i<j->l[i]?=some x->l[j]?=some y->x.Id<y.Id
def W6{l:List ay}{v:Int}(h:Z9v l v)(hv:(l.length:Int)<=v):SrtO l:=by have h':Z9v l l.length:=⟨λk x hk=>h.1 k x O,λk x y hk=>h.2 k x y O⟩;intro i j x y hij hx hy;exact BC h' (j-i-1) i x y hx Kp
end Go.PW
set_option maxRecDepth 100000
namespace Go.PW
def puI(s:ae)(it:az):az:=if it.Kind=2 then { it with Id:=s.NextId } else it
def puS(s:ae)(it:az):ae:=if 64<=s.Stack.length then s else { s with Stack:=s.Stack++[puI s it],NextId:=if it.Kind=2 then IntKind.wrap .i64 (s.NextId+1)else s.NextId }
def OL{r s:ae}{it:az}(hr:r=puS s it)(h:64<=s.Stack.length):r=s:=by rw[hr];unfold puS;rw[bB h]
def D5{s t:ae}{it:az}(ht:t=s)(h:(t.Stack.length:Int)>=64):t=puS s it:=by subst ht;unfold puS;rw[bB O]
def pu_full'{s:ae}{it:az}(h:(s.Stack.length:Int)>=64):s=puS s it:=D5 rfl h
def pu_b{s t:ae}{it:az}{z:List az}(ht:t=s)(hk:it.Kind=2)(hz:z=t.Stack++[{ it with Id:=t.NextId }])(h:¬(s.Stack.length:Int)>=64):({ t with Stack:=z,NextId:=IntKind.wrap .i64 (t.NextId+1) }:ae)=puS s it:=by subst ht;subst hz;unfold puS puI;rw[bl O,bB hk,bB hk]
def pu_d{s t:ae}{it:az}{z:List az}(ht:t=s)(hk:¬it.Kind=2)(hz:z=t.Stack++[it])(h:¬(s.Stack.length:Int)>=64):({ t with Stack:=z }:ae)=puS s it:=by subst ht;subst hz;unfold puS puI;rw[bl O,bl hk,bl hk]
def pu_a{r s t:ae}{it:az}{z:List az}(ht:t=s)(hk:it.Kind=2)(hz:z=t.Stack++[{ it with Id:=t.NextId }])(h:¬(t.Stack.length:Int)>=64)(hr:r=({ t with Stack:=z,NextId:=IntKind.wrap .i64 (t.NextId+1) }:ae)):r=puS s it:=hr.trans (pu_b ht hk hz (by subst ht;exact h))
def pu_c{r s t:ae}{it:az}{z:List az}(ht:t=s)(hk:¬it.Kind=2)(hz:z=t.Stack++[it])(h:¬(t.Stack.length:Int)>=64)(hr:r=({ t with Stack:=z }:ae)):r=puS s it:=hr.trans (pu_d ht hk hz (by subst ht;exact h))
def OG{r s:ae}{it:az}(hr:r=puS s it)(h:s.Stack.length<=8):r.Stack.length=s.Stack.length+1:=by rw[hr];unfold puS;rw[bl O];simp
def DB{r s:ae}{it x:az}{i:Int}(hr:r=puS s it)(h:s.Stack.length<=8)(hi:i=(s.Stack.length:Int))(hx:r.Stack[i.toNat]?=some x):dN r.Stack x.Id=(puI s it,true):=by
 have hs:r.Stack=s.Stack++[puI s it]:=by rw[hr];unfold puS;rw[bl O]
 have hn:i.toNat=s.Stack.length:=bP
 rw[hs,hn,dD (bh _),Nat.sub_self]at hx;simp only[iy,ao]at hx;subst hx;rw[hs];refine Z81 (j:=s.Stack.length) aj rfl λk y hk hy=>?_;have:=(bj.1 hy).1;simp at this;omega
def DA{s:ae}{it:az}{x:az×Bool}(h:x=(puI s it,true)):x.2=true/\x.1.Source=it.Source/\x.1.Kind=it.Kind:=by subst h;unfold puI;split<;>exact⟨rfl,rfl,rfl⟩
def OH{a b s:ae}{it:az}{x y:az×Bool}{n:Int}(hx:x=dN a.Stack n)(hy:y=dN b.Stack n)(ha:a=puS s it)(hb:b=puS s it):x=y:=by rw[hx,hy,ha,hb]
def Pm{l:List az}{v w n:Int}{x:az}(i0:∀(k:Nat) y,v<(k:Int)->l[k]?=some y->y.Id≠n)(hx:l[v.toNat]?=some x)(hne:¬x.Id=n)(h0:0<=v)(hw:w=v-1):∀(k:Nat) y,w<(k:Int)->l[k]?=some y->y.Id≠n:=λk y hk hy=>by
 by_cases e:v<(k:Int)
 .exact i0 k y e hy
 have:v.toNat=k:=bP
 rw[this,hy]at hx;cases hx;exact hne
def ri_0{l:List az}{v n:Int}(h:v=(l.length:Int)-1):∀(k:Nat) y,v<(k:Int)->l[k]?=some y->y.Id≠n:=λk y hk hy=>by have:=(bj.1 hy).1;omega
def Pn{l:List az}{v n:Int}{x:az}(i0:∀(k:Nat) y,v<(k:Int)->l[k]?=some y->y.Id≠n)(hx:l[v.toNat]?=some x)(he:x.Id=n)(h0:0<=v):(x,true)=dN l n:=(Z81 hx he λk y hk hy=>i0 k y O hy).symm
def Po{l:List az}{v n:Int}(i0:∀(k:Nat) y,v<(k:Int)->l[k]?=some y->y.Id≠n)(h0:¬v>=0):(zIt,false)=dN l n:=(CM λk y hy=>i0 k y O hy).symm
end Go.PW
