import Derived.Test.YtchddhcajpagjaaGreatQE
import Derived.Test.YtchddhcajpagjaaGreatQDc
import Derived.Test.YtchddhcajpagjaaGreatPwY
import Derived.Test.YtchddhcajpagjaaGreatPwYi
set_option linter.all false
set_option maxRecDepth 100000
namespace Go.PW
def okc(n:Int):Bool:=(decide (97<=n)&&decide (n<=122))||(decide (48<=n)&&decide (n<=57))||n==45
def c8(c:UInt8):Int:=(c.toNat:Int)
def lowc(c:UInt8):Bool:=decide (97<=c8 c)&&decide (c8 c<=122)
def tG(s:List UInt8):Bool:=
 decide (1<=s.length)&&decide (s.length<=32)&&(s.head?.map lowc).getD false&&(s.getLast?.map λc=>c8 c != 45).getD false && !Lib.contains s [45,45]&&s.all λc=>okc (c8 c)
def Zjt{s:List UInt8}(h:1<=s.length):s[0]?=some (s[0]'(by omega))/\s.head?=some (s[0]'(by omega)):=by
 cases s with
 |nil=>simp at h
 |cons a s=>exact⟨rfl,rfl⟩
def Zju{s:List UInt8}(h:1<=s.length):idx? s (IntKind.wrap .i64 ((s.length:Int)-1))=if s.length<=4611686018427387904 then s.getLast? else idx? s (IntKind.wrap .i64 ((s.length:Int)-1)):=by
 split
 .rw [fe O O,show((s.length:Int)-1)=((s.length-1:Nat):Int) by omega];rw[List.getLast?_eq_getElem?];unfold idx?;rw[aq O];simp
 rfl
def occ2(s:List UInt8)(j:Nat):Lib.occAt s [45,45] j=true↔s[j]?=some (45:UInt8)/\s[j+1]?=some (45:UInt8):=by
 unfold Lib.occAt;rw[List.isPrefixOf_iff_prefix];constructor
 .rintro ⟨t,ht⟩;have h0:(s.drop j)[0]?=some 45:=by rw[<- ht];rfl
  have h1:(s.drop j)[1]?=some 45:=by rw[<- ht];rfl
  rw[kG]at h0 h1;exact⟨by simpa using h0,h1⟩
 rintro⟨h0,h1⟩;refine⟨s.drop (j+2),?_⟩;have hj:j+1<s.length:=(aJ.1 h1).1;rw[xo (show j<s.length by omega),xo hj];have e0:s[j]=45:=by have:=bg (show j<s.length by omega);rw[this]at h0;exact cF h0
 have e1:s[j+1]=45:=by rw[bg hj]at h1;exact cF h1
 rw[e0,e1];rfl
def Zjv(s:List UInt8):Lib.contains s [45,45]=true↔∃j:Nat,s[j]?=some (45:UInt8)/\s[j+1]?=some (45:UInt8):=by
 unfold Lib.contains;rw[gP];rcases Lib.index_spec s [45,45]with⟨h1,h2⟩|⟨i,h1,h2,h3,_⟩
 .constructor
  .intro h;omega
  rintro⟨j,hj⟩;have hlt:j<s.length:=(aJ.1 hj.1).1;have:=h2 j O;rw[(occ2 s j).2 hj]at this;cases this
 constructor
 .intro _;exact⟨i,(occ2 s i).1 h3⟩
 intro _;omega
def Zjw(z:List Int)(hz:z.length<=4611686018427387904):bX tH.step (.L0 z (z.length:Int) 0)=some (z.all okc):=by
 have:=Z2q (st:=λi=>Z6c.L0 z (z.length:Int) (i:Int)) (step:=tH.step) (bad:=false) z okc (λi x hx=>?_)
 .refine this.trans ?_;have he:bX tH.step (.L0 z (z.length:Int) (z.length:Int))=some true:=by
   refine fa ?_;show(tM _ _ _).den=_;dsimp only[tM,LT.den];rw[bl O];rfl
  rw[he];cases z.all okc<;>rfl
 have hi:=(aJ.1 hx).1;show(tM _ _ _).den=_;dsimp only[tM,LT.den];rw[bd O,aB,gu hx,bb,sk hi hz];unfold okc;rw[S8,mP];by_cases h1:97<=x<;>by_cases h2:x<=122<;>by_cases h3:48<=x<;>by_cases h4:x<=57<;>by_cases h5:x=45 <;>
  first
  |(exfalso;omega)
  |simp[h1,h2,h3,h4,h5,oG.2,sX.1]
def V7{s:List UInt8}(h1:1<=s.length)(h2:s.length<=32):∃c d,idx? s 0=some c/\s.head?=some c/\idx? s (IntKind.wrap .i64 ((s.length:Int)-1))=some d/\s.getLast?=some d:=by
 obtain⟨e1,e2⟩:=Zjt h1;have hl:=Zju h1;rw[aq O]at hl;have:s.getLast?=some (s[s.length-1]'(by omega)):=by rw[List.getLast?_eq_getElem?];exact bg O
 exact⟨_,_,gu (j:=0) e1,e2,by rw[hl];exact this,this⟩
def Zjx(s:List UInt8):DQ s=some (tG s):=by
 (unfold DQ LF.run;dsimp only[V8,LT.den];unfold tG)
 by_cases h1:1<=s.length
 .rw [show((s.length:Int)==0)=false from by rw[mP];exact bl O];by_cases h2:s.length<=32
  .obtain⟨c,d,e1,e2,e3,e4⟩:=V7 h1 h2;rw[show decide ((s.length:Int)>32)=false from bl O,e1,e2,e3,e4];simp only[aD,bb,Option.map_some,iw,bd h1,bd h2,fy,lowc];show Option.bind (bif decide (c8 c<97)then _ else bif decide (c8 c>122)then _ else bif (c8 d==45)then _ else _) _=_;by_cases h3:97<=c8 c
   .rw [show decide (c8 c<97)=false from bl O,bd h3];by_cases h4:c8 c<=122
    .rw [show decide (c8 c>122)=false from bl O,bd h4];cases h5:(c8 d==45)with
     |true=>simp[gr,h5,bne]
     |false=>
      simp only[aD,bne,h5,fI,fy];unfold strings_Contains;rw[aq O,bb];cases h6:Lib.contains s [45,45]with
      |true=>simp[gr]
      |false=>
       simp only[aD,fI,fy];unfold bytes?;rw[aq O,bb,bb,ka,Zjw _ (by rw[cK];omega),List.all_map];rfl
    rw[show decide (c8 c>122)=true from bd O,bl h4];simp[gr]
   rw[show decide (c8 c<97)=true from bd O,bl h3];simp[gr]
  rw[show decide ((s.length:Int)>32)=true from bd O,bl h2];simp[gr]
 rw[show((s.length:Int)==0)=true from by rw[mP];exact bd O,bl h1];simp[gr]
def V9(n:Int):uo n=some (decide (97<=n)&&decide (n<=122)):=by
 (unfold uo LF.run;dsimp only[yq,LT.den])
 by_cases h:n>=97
 .rw [bd h];simp[gr]
 rw[bl h];simp[gr]
def okAt(s:List UInt8)(i:Nat):Bool:=(s[i]?.map λc=>okc (c8 c)).getD false && !(decide (0<i)&&(s[i]?.map λc=>c8 c==45).getD false&&(s[i-1]?.map λc=>c8 c==45).getD false)
def Zjy(s:List UInt8)(h:s.length<=32)(i:Nat)(hi:i<s.length):nr.step (.L0 s (i:Int))=some (bif okAt s i then .inl (.L0 s ((i+1:Nat):Int))else .inr false):=by
 have hx:=bg hi;have hw:IntKind.wrap .i64 ((i:Int)+1)=((i+1:Nat):Int):=fe O O;have l1:(jT s (i:Int)).den=some (bif !(decide (0<i)&&(c8 s[i]==45)&&(s[i-1]?.map λc=>c8 c==45).getD false)then .inl (.L0 s ((i+1:Nat):Int))else .inr false):=by
  dsimp only[jT,LT.den];by_cases h0:0<i
  .rw [show decide ((i:Int)>0)=true from bd O,bd h0,gu hx,hw];have hy:=bg (show i-1<s.length by omega);have hw2:IntKind.wrap .i64 ((i:Int)-1)=((i-1:Nat):Int):=by rw[fe O O];omega
   rw[hw2,gu hy,hy];simp only[aB,bb,Option.map_some,iw,fy];show(bif c8 s[i]==45 then bif c8 s[i-1]==45 then _ else _ else _)=_;cases c8 s[i]==45<;>cases c8 s[i-1]==45<;>rfl
  rw[show decide ((i:Int)>0)=false from bl O,bl h0,hw];rfl
 show(nq _ _).den=_
 (dsimp only[nq,LT.den];unfold okAt)
 rw[bd (show(i:Int)<(s.length:Int) by omega),gu hx,hx];simp only[aB,bb,Option.map_some,iw,V9,l1];show(bif !(decide (97<=c8 s[i])&&decide (c8 s[i]<=122))then(bif decide (c8 s[i]<48)then(bif c8 s[i] != 45 then _ else _)else(bif decide (c8 s[i]>57)then(bif c8 s[i] != 45 then _ else _)else _))else _)=_;unfold okc;cases decide (97<=c8 s[i])&&decide (c8 s[i]<=122)with
 |true=>simp
 |false=>
  simp only[fI,aB,mB];by_cases h3:48<=c8 s[i]
  .rw [show decide (c8 s[i]<48)=false from bl O,bd h3];by_cases h4:c8 s[i]<=57
   .rw [show decide (c8 s[i]>57)=false from bl O,bd h4];simp
   rw[show decide (c8 s[i]>57)=true from bd O,bl h4];cases h5:c8 s[i]==45<;>simp[bne,h5]
  rw[show decide (c8 s[i]<48)=true from bd O,bl h3];cases h5:c8 s[i]==45<;>simp[bne,h5]
def Zjz(c:UInt8):(c8 c==45)=decide (c=45):=by
 rw[mP,rY];unfold c8;constructor
 .intro h;have:c.toNat=45:=by omega
  exact UInt8.toNat_inj.1 (by rw[this];rfl)
 rintro rfl;rfl
def ZjA(s:List UInt8):((List.range s.length).all λi=>okAt s i)=(!Lib.contains s [45,45]&&s.all λc=>okc (c8 c)):=by
 rw[j8,aN,bK,bK,dy];have hc:Lib.contains s [45,45]=false↔¬∃j:Nat,s[j]?=some (45:UInt8)/\s[j+1]?=some (45:UInt8):=by rw[<- Zjv];simp
 rw[hc];constructor
 .intro h;refine⟨?_,λc hcm=>?_⟩
  .rintro ⟨j,h1,h2⟩;have hj:j+1<s.length:=(aJ.1 h2).1;have:=h (j+1) (oX.2 hj);simp[okAt,h1,h2,c8]at this
  obtain⟨i,hi⟩:=List.mem_iff_getElem?.1 hcm;have:=h i (oX.2 (aJ.1 hi).1);simp only[okAt,hi,Option.map_some,iw,aN]at this;exact this.1
 rintro⟨h1,h2⟩ i hi;have hi:=oX.1 hi;have hx:=bg hi;unfold okAt;rw[hx];simp only[Option.map_some,iw,h2 _ (kL hi),fy,dy];apply Bool.eq_false_iff.2;intro hb;simp only[aN,gP,Zjz]at hb;obtain⟨⟨b1,b2⟩,b3⟩:=hb;refine h1 ⟨i-1,?_,?_⟩
 .cases hy:s[i-1]? with
  |none=>simp[hy]at b3
  |some y=>simp only[hy,Option.map_some,iw,gP]at b3;rw[b3]
 rw[show i-1+1=i by omega,hx,b2]
def ZjB(s:List UInt8):uq s=some (tG s):=by
 (unfold uq LF.run;dsimp only[yr,LT.den];unfold tG)
 by_cases h1:1<=s.length
 .rw [show decide ((s.length:Int)<1)=false from bl O];by_cases h2:s.length<=32
  .obtain⟨c,d,e1,e2,e3,e4⟩:=V7 h1 h2;rw[show decide ((s.length:Int)>32)=false from bl O,e1,e2,e3,e4];simp only[aD,bb,Option.map_some,iw,bd h1,bd h2,fy,V9];show Option.bind (bif !lowc c then _ else bif (c8 d==45)then _ else _) _=_;cases lowc c with
   |false=>simp[gr]
   |true=>
    cases h5:(c8 d==45)with
    |true=>simp[gr,h5,bne]
    |false=>
     simp only[aD,bne,h5,fI,ij,fy,bb,ka];have:=scan (st:=λi=>jS.L0 s (i:Int)) (step:=nr.step) (bad:=false) s.length (okAt s) (λi hi=>Zjy s h2 i hi);rw[show(jS.L0 s 0)=jS.L0 s ((0:Nat):Int)from rfl,this,ZjA];have he:bX nr.step (.L0 s (s.length:Int))=some true:=by refine fa ?_;show(nq _ _).den=_;dsimp only[nq,LT.den];rw[bl O];rfl
     rw[he];cases !Lib.contains s [45,45]&&s.all λc=>okc (c8 c)<;>rfl
  rw[show decide ((s.length:Int)>32)=true from bd O,bl h2];simp[gr]
 rw[show decide ((s.length:Int)<1)=true from bd O,bl h1];simp[gr]
end Go.PW
set_option maxRecDepth 100000
namespace Go.PW
def supW:List (List UInt8):=[[98,97,115,105,99],[117,110,105,113,117,101]]
def typW:List (List UInt8):=[[99,114,101,97,116,117,114,101],[105,110,115,116,97,110,116],[114,105,116,117,97,108],[114,101,108,105,99],[99,104,97,114,109],[108,97,110,100]]
def di(l:List (List UInt8))(s:List UInt8):Bool:=l.any λw=>w==s
def fU(s:List UInt8):Bool:=tG s&&(!di supW s && !di typW s)
def Wa:∀i:Nat,i<6->(Z2p .i64 1 (i:Int)==0)=false
 |0,_=>rfl
 |1,_=>rfl
 |2,_=>rfl
 |3,_=>rfl
 |4,_=>rfl
 |5,_=>rfl
 |n+6,h=>absurd h O
def ZjC(s:List UInt8):∃x,DR s 2=some x/\(x==0) = !di supW s:=by
 (unfold DR LF.run;dsimp only[Wb,LT.den])
 simp only[bb,ka];have hfind:=sR (step:=DS.step) supW (λi =>.L0 s 2 (i:Int)) (λi=>Z2p .i64 1 (i:Int)) (λw=>w==s) (λi x hx=>by
  have hi:=(aJ.1 hx).1;have hi:i<2:=hi;have hw:DT (i:Int)=some x:=by
   (unfold DT LF.run;dsimp only[Z3h,LT.den])
   show Option.bind (Option.bind (idx? supW (i:Int)) λx1=>some (.inr x1)) (de DU.step)=_;rw[gu hx];rfl
  show(xN s 2 (i:Int)).den=_;dsimp only[xN,LT.den];rw[bd (show(i:Int)<2 by omega),hw,fe O O];simp only[aB,bb,S7];rw[show decide (¬(i:Int)<0)=true from bd O];cases x==s<;>rfl)
 rcases hfind with⟨h1,i,h2,h3⟩|⟨h1,h2⟩
 .exact⟨_,h3,by rw[Wa i (eE h2 bE)];unfold di;rw[h1];rfl⟩
 refine⟨0,h2.trans (fa ?_),by unfold di;rw[h1];rfl⟩;show(xN s 2 2).den=_;rfl
def ZjD(s:List UInt8):∃x,DV s 6=some x/\(x==0) = !di typW s:=by
 (unfold DV LF.run;dsimp only[Wc,LT.den])
 simp only[bb,ka];have hfind:=sR (step:=DW.step) typW (λi =>.L0 s 6 (i:Int)) (λi=>Z2p .i64 1 (i:Int)) (λw=>w==s) (λi x hx=>by
  have hi:=(aJ.1 hx).1;have hi:i<6:=hi;have hw:DX (i:Int)=some x:=by
   (unfold DX LF.run;dsimp only[Z6d,LT.den])
   show Option.bind (Option.bind (idx? typW (i:Int)) λx1=>some (.inr x1)) (de DY.step)=_;rw[gu hx];rfl
  show(xO s 6 (i:Int)).den=_;dsimp only[xO,LT.den];rw[bd (show(i:Int)<6 by omega),hw,fe O O];simp only[aB,bb,S7];rw[show decide (¬(i:Int)<0)=true from bd O];cases x==s<;>rfl)
 rcases hfind with⟨h1,i,h2,h3⟩|⟨h1,h2⟩
 .exact⟨_,h3,by rw[Wa i (eE h2 bE)];unfold di;rw[h1];rfl⟩
 refine⟨0,h2.trans (fa ?_),by unfold di;rw[h1];rfl⟩;show(xO s 6 6).den=_;rfl
def Us(s:List UInt8):Z11 s=some (fU s):=by
 (unfold Z11 LF.run;dsimp only[Wd,LT.den];unfold fU)
 obtain⟨x,hx,ex⟩:=ZjC s;obtain⟨y,hy,ey⟩:=ZjD s;simp only[Zjx,hx,hy,bb,ex,ey];exact ik λ_=>ik λ_=>rfl
def DZ(l:List (List UInt8))(s:List UInt8)(hl:l.length<=4611686018427387904):∃x,yw l s=some x/\decide (x<0) = !di l s/\decide (x>=0)=di l s:=by
 (unfold yw LF.run;dsimp only[ER,LT.den])
 simp only[bb,ka];have hfind:=sR (step:=Z7o.step) l (λi =>.L0 l s (i:Int)) (λi=>(i:Int)) (λw=>w==s) (λi x hx=>by have hi:=(aJ.1 hx).1;show(pD _ _ _).den=_;dsimp only[pD,LT.den];rw[bd O,gu hx,sk hi hl];simp only[aB,bb];cases x==s<;>rfl);rcases hfind with⟨h1,i,h2,h3⟩|⟨h1,h2⟩
 .refine⟨_,h3,?_,?_⟩<;>unfold di<;>rw[h1]
  .exact bl O
  exact bd O
 refine⟨-1,h2.trans (fa ?_),?_,?_⟩
 .show (pD _ _ _).den=_;dsimp only[pD,LT.den];rw[bl O];rfl
 .unfold di;rw[h1];rfl
 unfold di;rw[h1];rfl
def Sa(s:List UInt8):Z5e s=some (fU s):=by
 (unfold Z5e LF.run;dsimp only[ES,LT.den];unfold fU)
 obtain⟨x,hx,ex,_⟩:=DZ supW s bE;obtain⟨y,hy,ey,_⟩:=DZ typW s bE;have h1:yv=some supW:=rfl;have h2:ur=some typW:=rfl;simp only[ZjB,h1,h2,hx,hy,bb,ex,ey];exact ik λ_=>ik λ_=>rfl
def Lf(l:aI)(s:List UInt8)(hl:l.Subs.length<=4611686018427387904):Z16 l s=some (di l.Subs s):=by
 (unfold Z16 LF.run;dsimp only[Og,LT.den])
 obtain⟨x,hx,_,ex⟩:=DZ l.Subs s hl;simp only[hx,bb,ex];rfl
def OY(l:aI)(s:List UInt8)(hl:l.Subs.length<=4611686018427387904):xC l s=some (di l.Subs s):=by
 (unfold xC LF.run;dsimp only[We,LT.den];unfold Wf LF.run;dsimp only[Wg,LT.den];unfold Wh LF.run;dsimp only[Wi,LT.den])
 simp only[bb,ka];have hfind:=sR (step:=xP.step) l.Subs (λi =>.L0 l.Subs s (l.Subs.length:Int) (i:Int)) (λi=>(i:Int)) (λw=>w==s) (λi x hx=>by have hi:=(aJ.1 hx).1;show(tP _ _ _ _).den=_;dsimp only[tP,LT.den];rw[bd O,gu hx,sk hi hl];simp only[aB,bb];rw[show(s==x)=(x==s)from by rw[S9,S9];simp[eq_comm]];cases x==s<;>rfl
)
 rcases hfind with⟨h1,i,h2,h3⟩|⟨h1,h2⟩
 .rw [show(tQ.L0 l.Subs s (l.Subs.length:Int) 0) = .L0 l.Subs s (l.Subs.length:Int) ((0:Nat):Int)from rfl,h3]
  unfold di;rw[h1]
  simp only[bb,gr]
  rw[bd O]
 .have he:bX xP.step (.L0 l.Subs s (l.Subs.length:Int) (l.Subs.length:Int))=some (-1):=by
   refine fa ?_
   show(tP _ _ _ _).den=_
   dsimp only[tP,LT.den]
   rw[bl O];rfl
  rw[show(tQ.L0 l.Subs s (l.Subs.length:Int) 0) = .L0 l.Subs s (l.Subs.length:Int) ((0:Nat):Int)from rfl,h2,he]
  unfold di;rw[h1];rfl
def btw(n m:Int):Bool:=decide (n>=0)&&decide (n<=m)
def ga(b:ah):Bool:=btw b.Kind 3&&(btw b.N 1000000&&(b.Kind != 0||b.N==0))
def Z8k(a b:Int):Bool:=aQ .and .i64 a b==0
def Z0o(f:al):Bool:=
 btw f.Zone 5&&(btw f.Who 2&&(btw f.Self 2&&(btw f.Tap 2&&(btw f.Keys 131071&&(btw f.Types 63&&(btw f.NotTypes 63&&(Z8k f.Types f.NotTypes &&
 (btw f.Colors 31&&(btw f.NotColors 31&&(Z8k f.Colors f.NotColors&&((f.Sub==[]||fU f.Sub)&&(ga f.Power&&(ga f.Tough&&ga f.Value)))))))))))))
def Wj(n m:Int):D0 n m=some (btw n m):=by
 (unfold D0 LF.run;dsimp only[Z3f,LT.den];unfold btw)
 exact ik λ_=>rfl
def ZjE(b:ah):D1 b=some (ga b):=by
 (unfold D1 LF.run;dsimp only[Z3i,LT.den];unfold ga)
 simp only[Wj,bb];refine ik λ_=>ik λ_=>?_;cases b.Kind != 0<;>rfl
def Wl(f:al):(tS f).den.bind (de tT.step)=some (ga f.Power&&(ga f.Tough&&ga f.Value)):=by dsimp only[tS,LT.den];simp only[ZjE,bb];exact ik λ_=>ik λ_=>rfl
def O3(f:al):Z6e f=some (Z0o f):=by
 (unfold Z6e LF.run;dsimp only[Wm,LT.den];unfold Z0o)
 simp only[Wj,bb,Us];refine dP λ_=>dP λ_=>dP λ_=>dP λ_=>dP λ_=>dP λ_=>dP λ_=>?_;have dis:∀{a b r:Bool} {c d:Int} {k:Option (xQ⊕Bool)},k.bind (de tT.step)=some r->(bif (aQ .and .i64 c d != 0)then some (.inr false)else k).bind (de tT.step)=some (Z8k c d&&r):=by intro a b r c d k h;unfold Z8k;simp only[bne];exact dP λ_=>h
 refine dis (a:=true) (b:=true) (dP λ_=>dP λ_=>dis (a:=true) (b:=true) ?_);cases f.Sub==[]with
 |true=>simp only[ij,aD,wq,fy];exact Wl f
 |false=>simp only[fI,aB,mB];exact dP λ_=>Wl f
def ZjF(b:ah):Z5g b=some (ga b):=by
 (unfold Z5g LF.run;dsimp only[Z7q,LT.den])
 refine(cC λ_=>cC λ_=>cC λ_=>cC λ_=>(show _=some (b.Kind != 0||b.N==0)from by cases b.Kind != 0<;>rfl)).trans ?_;congr 1
 (unfold ga;unfold btw)
 rw[j8];simp only[aN,dy,oy,gP,my,sf,oG];constructor
 .rintro ⟨h1,h2,h3,h4,h5⟩;exact⟨⟨h1,h2⟩,⟨h3,h4⟩,h5⟩
 rintro⟨⟨h1,h2⟩,⟨h3,h4⟩,h5⟩;exact⟨h1,h2,h3,h4,h5⟩
def Wn:∀(d i a b:Nat),i+d=6->a<2 ^ 62->b<2 ^ 62->bX nw.step (.L0 (a:Int) (b:Int) (i:Int))=some (Z2r d a b)
 |0,i,a,b,hi,_,_=>by refine fa ?_;show(nv _ _ _).den=_;dsimp only[nv,LT.den];rw[bl O];rfl
 |d+1,i,a,b,hi,ha,hb=>by
  have hw:IntKind.wrap .i64 ((i:Int)+1)=((i+1:Nat):Int):=fe O O;have hs:nw.step (.L0 (a:Int) (b:Int) (i:Int))=some (bif decide (a%2=1)&&decide (b%2=1)then .inr false else .inl (.L0 ((a/2:Nat):Int) ((b/2:Nat):Int) ((i+1:Nat):Int))):=by show(nv _ _ _).den=_;dsimp only[nv,LT.den];rw[bd O,Tc,Tc,Tb a ha,Tb b hb,hw];cases decide (a%2=1)<;>cases decide (b%2=1)<;>rfl
  unfold Z2r;by_cases h:a%2=1/\b%2=1
  .rw [aq h];rw[bd h.1,bd h.2]at hs;exact fa hs
  rw[aw h];have:(decide (a%2=1)&&decide (b%2=1))=false:=by rw[<- nS];exact bl h
  rw[this]at hs;rw[jK hs];exact Wn d (i+1) (a/2) (b/2) O O O
def Wo(a b m:Int)(hm:m<64):Z5f a b m=some (btw a m&&(btw b m&&Z8k a b)):=by
 have key:∀{r:Bool},(0<=a->a<=m->0<=b->b<=m->r=Z8k a b)->(!decide (a<0)&&(!decide (a>m)&&(!decide (b<0)&&(!decide (b>m)&&r))))=(btw a m&&(btw b m&&Z8k a b)):=by
  intro r hr;unfold btw;by_cases h1:0<=a
  .by_cases h2:a<=m
   .by_cases h3:0<=b
    .by_cases h4:b<=m
     .rw [hr h1 h2 h3 h4];simp[h1,h2,h3,h4,oG.2]
     simp[h4,sX.1 h4]
    simp[h3,sX.1 h3]
   simp[h2,sX.1 h2]
  simp[h1,sX.1 h1]
 (unfold Z5f LF.run;dsimp only[Z7p,LT.den])
 by_cases hin:0<=a/\a<=m/\0<=b/\b<=m
 .obtain⟨h1,h2,h3,h4⟩:=hin;refine(cC (r := !decide (a>m)&&(!decide (b<0)&&(!decide (b>m)&&Z8k a b))) λ_=>cC λ_=>cC λ_=>cC λ_=>?_).trans (fA some (key λ_ _ _ _=>rfl));obtain⟨x,rfl⟩:=Int.eq_ofNat_of_zero_le h1;obtain⟨y,rfl⟩:=Int.eq_ofNat_of_zero_le h3;show bX nw.step (.L0 (x:Int) (y:Int) ((0:Nat):Int))=_;rw[Wn 6 0 x y rfl O O,ZhR O];unfold Z8k;rw[ZhQ O O,mP];congr 1;rw[rY];omega
 refine(cC (r := !decide (a>m)&&(!decide (b<0)&&(!decide (b>m)&&Z8k a b))) λe1=>cC λe2=>cC λe3=>cC λe4=>?_).trans (fA some (key λ_ _ _ _=>rfl));simp only[oy]at e1 e2 e3 e4;exact absurd ⟨by omega,by omega,by omega,by omega⟩ hin
def Wp(f:al):(lH f).den.bind (de yB.step)=some (ga f.Power&&(ga f.Tough&&ga f.Value)):=by dsimp only[lH,LT.den];simp only[ZjF,bb];exact ik λ_=>ik λ_=>rfl
def O6(f:al):pG f=some (Z0o f):=by
 (unfold pG LF.run;dsimp only[yA,LT.den])
 simp only[Wo _ _ _ (by decide:(63:Int)<64),Wo _ _ _ (by decide:(31:Int)<64),bb,Sa];refine(cC λ_=>cC λ_=>cC λ_=>cC λ_=>cC λ_=>cC λ_=>cC λ_=>cC λ_=>dP λ_=>dP λ_=>(show _=some ((f.Sub==[]||fU f.Sub)&&(!decide (f.Keys<0)&&(!decide (f.Keys>131071)&&(ga f.Power&&(ga f.Tough&&ga f.Value)))))from ?_)).trans ?_
 .cases f.Sub==[]with
  |true=>simp only[ij,aD,wq,fy];exact cC λ_=>cC λ_=>Wp f
  |false=>simp only[fI,aB,mB];exact dP λ_=>cC λ_=>cC λ_=>Wp f
 congr 1
 (unfold Z0o;unfold btw)
 rw[j8];simp only[aN,dy,oy,gP,my,sf,oG];constructor
 .rintro ⟨z1,z2,w1,w2,s1,s2,t1,t2,⟨⟨a1,a2⟩,⟨b1,b2⟩,d1⟩,⟨⟨c1,c2⟩,⟨e1,e2⟩,d2⟩,su,k1,k2,p,q,v⟩;exact⟨⟨z1,z2⟩,⟨w1,w2⟩,⟨s1,s2⟩,⟨t1,t2⟩,⟨k1,k2⟩,⟨a1,a2⟩,⟨b1,b2⟩,d1,⟨c1,c2⟩,⟨e1,e2⟩,d2,su,p,q,v⟩
 rintro⟨⟨z1,z2⟩,⟨w1,w2⟩,⟨s1,s2⟩,⟨t1,t2⟩,⟨k1,k2⟩,⟨a1,a2⟩,⟨b1,b2⟩,d1,⟨c1,c2⟩,⟨e1,e2⟩,d2,su,p,q,v⟩;exact⟨z1,z2,w1,w2,s1,s2,t1,t2,⟨⟨a1,a2⟩,⟨b1,b2⟩,d1⟩,⟨⟨c1,c2⟩,⟨e1,e2⟩,d2⟩,su,k1,k2,p,q,v⟩
end Go.PW
set_option maxRecDepth 100000
namespace Go.PW
def se{n:Int}(h1 : -1000000<=n)(h2:n<=1000000):Z54 n=some n/\Z6o n=some n:=by
 constructor
 ·(unfold Z54 LF.run;dsimp only[Z7z,LT.den])
  simp only[bb,gr]
  (unfold minI;unfold maxI)
  congr 1;repeat' split;all_goals omega
 ·(unfold Z6o LF.run;dsimp only[Z74,LT.den])
  rw[bl O,bl O];rfl
def BF{a b:Int}(h1:0<=a)(h2:a<=100000)(h3:0<=b)(h4:b<=100000):wk a b=some (a+b)/\va a b=some (a+b):=by
 obtain⟨a1,a2⟩:=se (n:=a) O O;obtain⟨b1,b2⟩:=se (n:=b) O O;obtain⟨c1,c2⟩:=se (n:=a+b) O O;have hw:IntKind.wrap .i64 (a+b)=a+b:=fe O O;constructor
 ·(unfold wk LF.run;dsimp only[BG,LT.den])
  simp only[a1,b1,c1,hw,bb];rfl
 ·(unfold va LF.run;dsimp only[zT,LT.den])
  simp only[a2,b2,c2,hw,bb];rfl
def mul_zero{a:Int}(h1:0<=a)(h2:a<=100000):BH a 0=some 0/\Bn a 0=some 0:=by
 obtain⟨a1,a2⟩:=se (n:=a) O O;obtain⟨b1,b2⟩:=se (n:=0) O O;have hw:IntKind.wrap .i64 (a*0)=0:=by rw[Int.mul_zero];rfl
 constructor
 ·(unfold BH LF.run;dsimp only[OR,LT.den])
  simp only[a1,b1,hw,bb];rfl
 ·(unfold Bn LF.run;dsimp only[Ot,LT.den])
  simp only[a2,b2,hw,bb];rfl
def Z6r(c:aK):Bool:=btw c.Generic 99&&(btw c.X 2&&c.Color.list.all λn=>btw n 9)
def Zea(c:aK):uA c=some (Z6r c):=by
 (unfold uA LF.run;dsimp only[zk,LT.den])
 simp only[bb,ka];have:=Z2q (st:=λi=>lR.L0 c c.Color (i:Int)) (step:=nL.step) (bad:=false) c.Color.list (λn=>btw n 9) (λi x hx=>by
  have hi:=(aJ.1 hx).1;have hi:i<5:=hi;show(nK _ _ _).den=_;dsimp only[nK,LT.den];rw[bd O,gu hx,fe O O];simp only[aB,bb];unfold btw;by_cases h1:x<0
  .rw [bd h1,bl (show ¬x>=0 by omega)];rfl
  rw[bl h1,bd (show x>=0 by omega)];by_cases h2:x>9
  .rw [bd h2,bl (show ¬x<=9 by omega)];rfl
  rw[bl h2,bd (show x<=9 by omega)];rfl)
 rw[show(lR.L0 c c.Color 0) = .L0 c c.Color ((0:Nat):Int)from rfl,this];have he:bX nL.step (.L0 c c.Color ((c.Color.list.length:Nat):Int))=some (btw c.Generic 99&&btw c.X 2):=by
  have e:nL.step (.L0 c c.Color ((c.Color.list.length:Nat):Int))=some (.inr (btw c.Generic 99&&btw c.X 2)):=by
   show(nK c c.Color 5).den=_
   (dsimp only[nK,LT.den];unfold btw)
   rw[bl O];cases decide (c.Generic>=0)<;>cases decide (c.Generic<=99)<;>cases decide (c.X>=0)<;>rfl
  exact fa e
 rw[he];unfold Z6r;cases c.Color.list.all λn=>btw n 9<;>cases btw c.Generic 99<;>cases btw c.X 2<;>rfl
def Zeb(c:aK):Z9c c=some (Z6r c):=by
 (unfold Z9c LF.run;dsimp only[yu,LT.den])
 have hl:bX jx.step (.L0 c 0)=some (c.Color.list.all λn=>btw n 9):=by
  have:=Z2q (st:=λi=>jU.L0 c (i:Int)) (step:=jx.step) (bad:=false) c.Color.list (λn=>btw n 9) (λi x hx=>by
   have hi:=(aJ.1 hx).1;have hi:i<5:=hi;show(nu _ _).den=_;dsimp only[nu,LT.den];rw[bd O,gu hx,fe O O];simp only[aB,bb];unfold btw;by_cases h1:x<0
   .rw [bd h1,bl (show ¬x>=0 by omega)];rfl
   rw[bl h1,bd (show x>=0 by omega)];by_cases h2:x>9
   .rw [bd h2,bl (show ¬x<=9 by omega)];rfl
   rw[bl h2,bd (show x<=9 by omega)];rfl)
  rw[show(jU.L0 c 0) = .L0 c ((0:Nat):Int)from rfl,this];have he:bX jx.step (.L0 c ((c.Color.list.length:Nat):Int))=some true:=OS
  rw[he];cases c.Color.list.all λn=>btw n 9<;>rfl
 refine(cC λ_=>cC λ_=>cC λ_=>cC λ_=>(show Option.bind (some (Sum.inl (jU.L0 c 0))) (de jx.step)=some (c.Color.list.all λn=>btw n 9)from hl)).trans ?_;congr 1
 (unfold Z6r;unfold btw)
 rw[j8];simp only[aN,dy,oy,gP,my,sf,oG];constructor
 .rintro ⟨h1,h2,h3,h4,h5⟩;exact⟨⟨h1,h2⟩,⟨h3,h4⟩,h5⟩
 rintro⟨⟨h1,h2⟩,⟨h3,h4⟩,h5⟩;exact⟨h1,h2,h3,h4,h5⟩
def valV(c:aK):Int:=bif Z6r c then c.Generic+c.Color.a0+c.Color.a1+c.Color.a2+c.Color.a3+c.Color.a4 else 0
def Zec{c:aK}(h:Z6r c=true):(0<=c.Generic/\c.Generic<=99)/\(0<=c.X/\c.X<=2)/\(0<=c.Color.a0/\c.Color.a0<=9)/\(0<=c.Color.a1/\c.Color.a1<=9)/\(0<=c.Color.a2/\c.Color.a2<=9)/\(0<=c.Color.a3/\c.Color.a3<=9)/\(0<=c.Color.a4/\c.Color.a4<=9):=by simpa[Z6r,btw,A5.list]using h
def OT(c:aK):BI c 0=some (valV c)/\Bo c 0=some (valV c):=by
 (unfold BI LF.run;dsimp only[OU,LT.den];unfold Bo LF.run;dsimp only[Ow,LT.den];unfold valV)
 rw[Zea,Zeb];simp only[bb];cases hc:Z6r c with
 |false=>exact⟨rfl,rfl⟩
 |true=>
  obtain⟨g,x,h0,h1,h2,h3,h4⟩:=Zec hc;obtain⟨gen,xx,⟨a0,a1,a2,a3,a4⟩⟩:=c;simp only at g x h0 h1 h2 h3 h4⊢;simp only[ij,aD,bb,ka,aB];constructor
  .have hw:∀{n:Int},0<=n->n<=1000->IntKind.wrap .i64 n=n:=λh1 h2=>fe O O;have r:∀(v i y:Int),i<5->idx? [a0,a1,a2,a3,a4] i=some y->0<=v+y->v+y<=1000->0<=i->bX wm.step (.L0 0 ⟨gen,xx,⟨a0,a1,a2,a3,a4⟩⟩ v ⟨a0,a1,a2,a3,a4⟩ i)=bX wm.step (.L0 0 ⟨gen,xx,⟨a0,a1,a2,a3,a4⟩⟩ (v+y) ⟨a0,a1,a2,a3,a4⟩ (i+1)):=λv i y hi hy h1 h2 h0=>by
    refine jK ?_;show(sg _ _ _ _ _).den=_;dsimp only[sg,LT.den];rw[bd hi,show idx? (A5.list (⟨a0,a1,a2,a3,a4⟩:A5 Int)) i=some y from hy,bb,hw h1 h2,fe O O];rfl
   rw[r gen 0 a0 O rfl O O O,r _ _ a1 O rfl O O O,r _ _ a2 O rfl O O O,r _ _ a3 O rfl O O O,r _ _ a4 O rfl O O O];refine fa ?_;show(sg _ _ _ _ 5).den=_;dsimp only[sg,LT.den];have e1:=(mul_zero (a:=xx) O O).1;have e2:=(BF (a:=gen+a0+a1+a2+a3+a4) (b:=0) O O O O).1;rw[bl O];simp only[aD,show maxI 0 0=0 from rfl,e1,e2,bb,Int.add_zero]
  have r:∀(v i y:Int),i<5->idx? [a0,a1,a2,a3,a4] i=some y->0<=v->v<=1000->0<=y->y<=9->0<=i->bX wb.step (.L0 0 ⟨gen,xx,⟨a0,a1,a2,a3,a4⟩⟩ v i)=bX wb.step (.L0 0 ⟨gen,xx,⟨a0,a1,a2,a3,a4⟩⟩ (v+y) (i+1)):=λv i y hi hy h1 h2 h3 h4 h0=>by refine jK ?_;show(r6 _ _ _ _).den=_;dsimp only[r6,LT.den];rw[bd hi,show idx? (A5.list (⟨a0,a1,a2,a3,a4⟩:A5 Int)) i=some y from hy,bb,(BF h1 O h3 O).2,bb,fe O O];rfl
  rw[r gen 0 a0 O rfl O O O O O,r _ _ a1 O rfl O O O O O,r _ _ a2 O rfl O O O O O,r _ _ a3 O rfl O O O O O,r _ _ a4 O rfl O O O O O];refine fa ?_;show(r6 _ _ _ 5).den=_;dsimp only[r6,LT.den];have e1:=(mul_zero (a:=xx) O O).2;have e2:=(BF (a:=gen+a0+a1+a2+a3+a4) (b:=0) O O O O).2;rw[bl O,bl O];simp only[aD,e1,e2,bb,Int.add_zero]
def metV(b:ah)(n:Int):Bool:=bif b.Kind==0 then true else bif b.Kind==1 then decide (n>=b.N)else bif b.Kind==2 then decide (n<=b.N)else bif b.Kind==3 then n==b.N else false
def wo(b:ah)(n:Int):BJ b n=some (metV b n)/\Bm b n=some (metV b n):=by
 (unfold BJ LF.run;dsimp only[OV,LT.den];unfold Bm LF.run;dsimp only[Oo,LT.den];unfold metV)
 cases b.Kind==0<;>cases b.Kind==1<;>cases b.Kind==2<;>cases b.Kind==3<;>exact⟨rfl,rfl⟩
def gO(h s n:Int):Bool:=(s==0||aQ .and .i64 h s != 0)&&aQ .and .i64 h n==0
def Z8l(a b w:Int):Bool:=bif w==1 then a==b else bif w != 2 then true else a != b
def tapV(t:Bool)(w:Int):Bool:=bif w==1 then t else bif w != 2 then true else !t
def fc(t:ae):Bool:=aQ .and .i64 t.Line.Types 1 != 0
def bouV(cr:Bool)(b:ah)(n:Int):Bool:=b.Kind==0||(cr&&metV b n)
def eV(t:ae)(f:al):Bool:=bouV (fc t) f.Power t.Power&&(bouV (fc t) f.Tough t.Tough&&metV f.Value (valV t.Cost))
def Z31(t:ae)(f:al):Bool:=aQ .and .i64 t.Keys f.Keys==f.Keys
def fG(t:ae)(f:al):Bool:=f.Sub==[]||di t.Line.Subs f.Sub
def gI(o:aj)(t:ae)(you source:Int)(f:al):Bool:=
 Z0o f&&(o.Zone==f.Zone&&(Z8l t.Control you f.Who&&(Z8l o.Id source f.Self&&(gO t.Line.Types f.Types f.NotTypes&&(gO t.Colors f.Colors f.NotColors &&
  (fG t f&&(Z31 t f&&(tapV o.Tapped f.Tap&&eV t f))))))))
def Zed(h s n:Int):BK h s n=some (gO h s n):=by
 (unfold BK LF.run;dsimp only[Z3k,LT.den];unfold gO)
 cases s==0<;>cases aQ .and .i64 h s != 0<;>rfl
def Zee(b:ah)(n:Int)(cr:Bool):BL b n cr=some (bouV cr b n):=by
 (unfold BL LF.run;dsimp only[OW,LT.den];unfold bouV)
 rw[(wo b n).1];cases b.Kind==0<;>cases cr<;>cases metV b n<;>rfl
def m4(t:ae)(f:al):(mz t f (fc t)).den.bind (de mA.step)=some (eV t f):=by
 (dsimp only[mz,LT.den];unfold eV)
 simp only[Zee,(OT _).1,(wo _ _).1,bb];exact ik λ_=>ik λ_=>rfl
def m3(o:aj)(t:ae)(f:al)(v:Bool):(oH o t f (fc t) v).den.bind (de mA.step)=some (!v&&(tapV o.Tapped f.Tap&&eV t f)):=by
 dsimp only[oH,LT.den];refine cC λ_=>?_;have hm:=m4 t f;unfold tapV;by_cases h1:f.Tap=1
 .rw [show(f.Tap==1)=true from by rw[h1];rfl,show(f.Tap==2)=false from by rw[h1];rfl];cases o.Tapped
  .rfl
  simpa using hm
 rw[show(f.Tap==1)=false from sh.2 h1];cases h2:f.Tap==2 with
 |false=>simpa[bne,h2]using hm
 |true=>
  cases o.Tapped
  .simpa [bne,h2]using hm
  simp[bne,h2,gr]
def m2(o:aj)(t:ae)(f:al)(v:Bool)(ht:t.Line.Subs.length<=4611686018427387904) :
 (si o t f (fc t) v).den.bind (de mA.step)=some (!v&&(fG t f&&(Z31 t f&&(tapV o.Tapped f.Tap&&eV t f)))):=by
 dsimp only[si,LT.den];refine cC λ_=>?_;have hk:OX t.Keys f.Keys=some (Z31 t f):=rfl;simp only[OY _ _ ht,hk,bb];unfold fG;cases f.Sub==[]with
 |true=>simp only[ij,aD,wq,fy];rw[m3,Bool.not_not]
 |false=>
  simp only[fI,aB,mB];cases di t.Line.Subs f.Sub with
  |false=>simp only[fI,aB];rw[m3];rfl
  |true=>simp only[ij,aD];rw[m3,Bool.not_not];rfl
def m1(o:aj)(t:ae)(f:al)(v:Bool)(ht:t.Line.Subs.length<=4611686018427387904) :
 (k7 o t f (fc t) v).den.bind (de mA.step)=some (!v&&(gO t.Line.Types f.Types f.NotTypes&&(gO t.Colors f.Colors f.NotColors&&(fG t f&&(Z31 t f&&(tapV o.Tapped f.Tap&&eV t f)))))):=by
 dsimp only[k7,LT.den];refine cC λ_=>?_;simp only[Zed,bb];cases gO t.Line.Types f.Types f.NotTypes with
 |false=>simp only[fI,aB];rw[m2 o t f _ ht];rfl
 |true=>simp only[ij,aD];rw[m2 o t f _ ht,Bool.not_not];rfl
def m0(o:aj)(t:ae)(source:Int)(f:al)(v:Bool)(ht:t.Line.Subs.length<=4611686018427387904) :
 (im source o t f (fc t) v).den.bind (de mA.step)=some (!v&&(Z8l o.Id source f.Self&&(gO t.Line.Types f.Types f.NotTypes&&(gO t.Colors f.Colors f.NotColors&&(fG t f&&(Z31 t f&&(tapV o.Tapped f.Tap&&eV t f))))))):=by
 dsimp only[im,LT.den];refine cC λ_=>?_;have hm:=λv=>m1 o t f v ht;unfold Z8l;by_cases h1:f.Self=1
 .rw [show(f.Self==1)=true from by rw[h1];rfl,show(f.Self==2)=false from by rw[h1];rfl];cases h:o.Id==source
  .simp only[aB,bne,h,fI];rw[hm];rfl
  simp only[aB,bne,h,ij,aD];rw[hm];rfl
 rw[show(f.Self==1)=false from sh.2 h1];cases h2:f.Self==2 with
 |false=>simp only[aD,bne,h2,fI,aB];rw[hm];rfl
 |true=>simp only[aD,bne,h2,ij,aB];rw[hm]
def OZ(o:aj)(t:ae)(you source:Int)(f:al)(ht:t.Line.Subs.length<=4611686018427387904):wt o t you source f=some (gI o t you source f):=by
 (unfold wt LF.run;dsimp only[Z96,LT.den];unfold gI)
 rw[O3,bb];refine dP λ_=>?_;have hz:(o.Zone != f.Zone) = !(o.Zone==f.Zone):=rfl;rw[hz];refine dP λ_=>?_;have hm:=λv=>m0 o t source f v ht;show Option.bind (bif (f.Who==1)then bif (t.Control != you)then(im source o t f (fc t) _).den else bif (f.Who==2)then(im source o t f (fc t) _).den else(im source o t f (fc t) _).den else bif (f.Who==2)then(im source o t f (fc t) _).den else(im source o t f (fc t) _).den) _=_;unfold Z8l;by_cases h1:f.Who=1
 .rw [show(f.Who==1)=true from by rw[h1];rfl,show(f.Who==2)=false from by rw[h1];rfl];cases h:t.Control==you
  .simp only[aB,bne,h,fI];rw[hm];rfl
  simp only[aB,bne,h,ij,aD];rw[hm];rfl
 rw[show(f.Who==1)=false from sh.2 h1];cases h2:f.Who==2 with
 |false=>simp only[aD,bne,h2,fI,aB];rw[hm];rfl
 |true=>simp only[aD,bne,h2,ij,aB];rw[hm];rfl
def b0(t:ae)(f:al):(oD t f (fc t)).den.bind (de Z3t.step)=some (bouV (fc t) f.Tough t.Tough&&metV f.Value (valV t.Cost)):=by
 (dsimp only[oD,LT.den];unfold bouV)
 simp only[(OT _).2,(wo _ _).2,bb,bne];cases f.Tough.Kind==0<;>cases fc t<;>cases metV f.Tough t.Tough<;>rfl
def Zef(t:ae)(f:al):Bp t f=some (eV t f):=by
 (unfold Bp LF.run;dsimp only[Ox,LT.den];unfold eV)
 have hs:Z77 t.Line.Types 1=some (fc t):=rfl;rw[hs,bb];simp only[(wo _ _).2,bb,bne];have hb:=b0 t f;unfold bouV at hb⊢;cases f.Power.Kind==0 with
 |true=>simpa using hb
 |false=>
  cases hc:fc t with
  |false=>rfl
  |true=>
   rw[hc]at hb;cases metV f.Power t.Power
   .rfl
   simpa using hb
def O4(a b:Int):Z77 a b=some (aQ .and .i64 a b != 0):=rfl
def r1(t:ae)(f:al)(ht:t.Line.Subs.length<=4611686018427387904):(r7 t f).den.bind (de wg.step)=some (fG t f&&(Z31 t f&&eV t f)):=by
 (dsimp only[r7,LT.den];unfold fG)
 have hk:Ol t.Keys f.Keys=some (Z31 t f):=rfl;simp only[Lf _ _ ht,hk,Zef,bb];cases f.Sub==[]with
 |true=>simp only[ij,aD,wq,fy];exact dP λ_=>rfl
 |false=>simp only[fI,aB,mB];exact dP λ_=>dP λ_=>rfl
def O5{S:Type}{step:S->Option (S⊕Bool)}{r:Bool}{k:Option (S⊕Bool)}(h s n:Int)(hk:k.bind (de step)=some r) :
 (bif (s != 0)then bif (!(aQ .and .i64 h s != 0))then some (.inr false)else bif (aQ .and .i64 h n != 0)then some (.inr false)else k else bif (aQ .and .i64 h n != 0)then some (.inr false)else k).bind (de step)=some (gO h s n&&r):=by
 unfold gO;simp only[bne];cases s==0<;>cases aQ .and .i64 h s==0<;>cases aQ .and .i64 h n==0<;>first|rfl|simpa using hk
def r0(t:ae)(f:al)(ht:t.Line.Subs.length<=4611686018427387904):(r8 t f).den.bind (de wg.step)=some (gO t.Colors f.Colors f.NotColors&&(fG t f&&(Z31 t f&&eV t f))):=by dsimp only[r8,LT.den];simp only[O4,bb];exact O5 _ _ _ (r1 t f ht)
def Li(o:aj)(t:ae)(you source:Int)(f:al)(ht:t.Line.Subs.length<=4611686018427387904):Z17 o t you source f=some (gI o t you source f):=by
 (unfold Z17 LF.run;dsimp only[Oz,LT.den])
 have h1:∀a b w,Bj a b w=some (Z8l a b w):=λa b w=>by(unfold Bj LF.run;dsimp only[N9,LT.den];unfold Z8l);cases w==1<;>cases w != 2<;>rfl
 have h2:∀a b w,Bk a b w=some (Z8l a b w):=λa b w=>by(unfold Bk LF.run;dsimp only[Ob,LT.den];unfold Z8l);cases w==1<;>cases w != 2<;>rfl
 have h3:∀a w,Bl a w=some (tapV a w):=λa w=>by(unfold Bl LF.run;dsimp only[Od,LT.den];unfold tapV);cases w==1<;>cases w != 2<;>rfl
 simp only[O6,h1,h2,h3,O4,bb];have hz:(o.Zone != f.Zone) = !(o.Zone==f.Zone):=rfl;rw[hz];refine(dP λ_=>dP λ_=>dP λ_=>dP λ_=>dP λ_=>O5 _ _ _ (r0 t f ht)).trans ?_;congr 1;unfold gI;cases tapV o.Tapped f.Tap<;>simp
end Go.PW
set_option maxRecDepth 100000
namespace Go.PW
abbrev Bnd(n:Nat):Prop:=n<=4611686018427387904
def pf:ae:=⟨[],⟨0,0,⟨0,0,0,0,0⟩⟩,0,⟨0,0,[]⟩,0,0,0,[],0⟩
def atV(all:List ae)(i:Nat):ae:=(all[i]?).getD pf
def Zeg(all:List ae)(i:Nat):Br all (i:Int)=some (atV all i):=by
 (unfold Br LF.run;dsimp only[OA,LT.den];unfold atV)
 rw[bl (show ¬(i:Int)<0 by omega)];by_cases h:i<all.length
 .rw [bl (show ¬(i:Int)>=(all.length:Int) by omega),O7 all h,bg h];rfl
 rw[bd (show(i:Int)>=(all.length:Int) by omega),ke (show all.length<=i by omega)];rfl
def O8{all:List ae}(ht:∀t∈all,Bnd t.Line.Subs.length)(i:Nat):Bnd (atV all i).Line.Subs.length:=by
 unfold atV;by_cases h:i<all.length
 .rw [bg h];exact ht _ (kL h)
 rw[ke (show all.length<=i by omega)];exact gp _
def mat(all:List ae)(you src:Int)(f:al)(i:Nat)(o:aj):Bool:=gI o (atV all i) you src f
def Z18(s:ao)(all:List ae)(you src:Int)(f:al):List Int:=iK (mat all you src f) (λo=>o.Id) 0 s.Objects
def Zeh(s:ao)(all:List ae)(you src:Int)(f:al)(hs:s.Objects.length*128<=reachBytes)(ht:∀t∈all,Bnd t.Line.Subs.length):Z12 s all you src f=some (Z18 s all you src f):=by
 have hs':s.Objects.length*128<=140737488351232:=hs
 (unfold Z12 LF.run;dsimp only[O9,LT.den])
 have h:=Pa (step:=Z3n.step) (st:=λi acc =>.L0 all you src f acc s.Objects (s.Objects.length:Int) (i:Int)) s.Objects (mat all you src f) (λo=>o.Id) (λi x acc hx ha=>by
  have hi:=(aJ.1 hx).1;have l1:∀t,t=atV all i->(sj all you src f acc x t s.Objects (s.Objects.length:Int) (i:Int)).den=some (.inl (.L0 all you src f (bif mat all you src f i x then acc++[x.Id]else acc) s.Objects (s.Objects.length:Int) ((i+1:Nat):Int))):=by
   rintro t rfl;dsimp only[sj,LT.den];rw[OZ _ _ _ _ _ (O8 ht i),bb,sk hi O];show(bif mat all you src f i x then _ else _)=_;cases mat all you src f i x with
   |true=>rw[aB,BM cg bE];rfl
   |false=>rfl
  show(sn _ _ _ _ _ _ _ _).den=_;dsimp only[sn,LT.den];rw[bd (show(i:Int)<(s.Objects.length:Int) by omega),aB,gu hx,bb];by_cases hl:i<all.length
  .rw [bd (show(i:Int)<(all.length:Int) by omega),aB,O7 all hl,bb];exact l1 _ (by simp[atV,bg hl])
  rw[bl (show ¬(i:Int)<(all.length:Int) by omega),aD];exact l1 _ (by simp[atV,ke (show all.length<=i by omega),pf]))
 refine bB h (fa ?_);show(sn _ _ _ _ _ _ _ _).den=_;dsimp only[sn,LT.den];rw[bl O];rfl
def ZaW(s:ao)(all:List ae)(you src:Int)(f:al)(hs:s.Objects.length*128<=reachBytes)(ht:∀t∈all,Bnd t.Line.Subs.length):Z3u s all you src f=some (Z18 s all you src f):=by
 have hs':s.Objects.length*128<=140737488351232:=hs
 (unfold Z3u LF.run;dsimp only[OC,LT.den])
 have h:=Pa (step:=Bt.step) (st:=λi acc =>.L0 all you src s f acc (i:Int)) s.Objects (mat all you src f) (λo=>o.Id) (λi x acc hx ha=>by
  have hi:=(aJ.1 hx).1;show(r9 _ _ _ _ _ _ _).den=_;dsimp only[r9,LT.den];rw[bd (show(i:Int)<(s.Objects.length:Int) by omega),aB,gu hx,bb,Zeg,bb,Li _ _ _ _ _ (O8 ht i),bb,sk hi O];show(bif mat all you src f i x then _ else _)=_;cases mat all you src f i x with
  |true=>rw[aB,BM cg bE];rfl
  |false=>rfl)
 refine bB h (fa ?_);show(r9 _ _ _ _ _ _ _).den=_;dsimp only[r9,LT.den];rw[bl O];rfl
end Go.PW
set_option maxRecDepth 100000
namespace Go.PW
def ixO(l:List aj)(id:Int):Int:=match l.findIdx? λo=>o.Id==id with
 |some k=>k
 |none => -1
abbrev NoId(l:List aj)(id v:Int):Prop:=∀(k:Nat) x,(k:Int)<v->l[k]?=some x->x.Id≠id
def X2{l:List aj}{id:Int}:NoId l id 0:=λk x hk=>aW
def X3{l:List aj}{id v w:Int}{x:aj}(hx:l[v.toNat]?=some x)(h:NoId l id v)(h0:0<=v)(hn:x.Id≠id)(hw:w=v+1):NoId l id w:=λk y hk hy=>by
 rcases Z10 h0 hw hk hy hx with hk|rfl
 .exact h k y hk hy
 exact hn
def Et{l:List aj}{id v:Int}{x:aj}(hx:l[v.toNat]?=some x)(h:NoId l id v)(h0:0<=v)(hn:x.Id=id):v=ixO l id:=by unfold ixO;obtain⟨hi,he⟩:=aJ.1 hx;rw[List.findIdx?_eq_some_iff_getElem.2 ⟨hi,by rw[he];exact ly.2 hn,λj hj=>by have:=h j l[j] O (bg O);simpa using this⟩];show v=((v.toNat:Nat):Int);omega
def yc{l:List aj}{id v:Int}(h:NoId l id v)(hv:(l.length:Int)<=v) : -1=ixO l id:=by unfold ixO;rw[List.findIdx?_eq_none_iff.2 λx hx=>by obtain⟨k,hk,he⟩:=lz.1 hx;have:=h k x O ua;simpa using this]
def X4(l:List aj)(id:Int):(ixO l id = -1/\∀x,x∈l->x.Id≠id)\/∃x,0<=ixO l id/\ixO l id<l.length/\l[(ixO l id).toNat]?=some x/\x.Id=id:=by
 unfold ixO;cases h:l.findIdx? λo=>o.Id==id with
 |none=>
  left;refine⟨rfl,λx hx=>?_⟩;have:=List.findIdx?_eq_none_iff.1 h x hx;simpa using this
 |some k=>
  right;obtain⟨hi,he,_⟩:=List.findIdx?_eq_some_iff_getElem.1 h;refine⟨l[k],by show 0<=(k:Int);omega,by show(k:Int)<_;omega,?_,by simpa using he⟩;show l[(k:Int).toNat]?=_;rw[lC,bg hi]
abbrev yd:aj:=⟨0,0,0,0,0,false,false,false,false,0,⟨0,0,0⟩,0,0,0,false,0,0⟩
def fdV(l:List aj)(id:Int):aj×Bool:=match l.find? λo=>o.Id==id with
 |some o=>(o,true)
 |none=>(yd,false)
def X5{l:List aj}{id:Int}(h:ixO l id<0):(yd,false)=fdV l id:=by
 unfold fdV;rcases X4 l id with⟨_,hn⟩|⟨x,h1,_⟩
 .rw [List.find?_eq_none.2 λx hx=>by simpa using hn x hx]
 omega
def X6{l:List aj}{id:Int}{x:aj}(hx:l[(ixO l id).toNat]?=some x)(h:¬ixO l id<0):(x,true)=fdV l id:=by
 unfold fdV;have hf:l.find? (λo=>o.Id==id)=some x:=by
  unfold ixO at hx h;cases he:l.findIdx? λo=>o.Id==id with
  |none=>rw[he]at h;exact absurd bE h
  |some k=>
   rw[he]at hx;obtain⟨hi,h1,h2⟩:=List.findIdx?_eq_some_iff_getElem.1 he;have hx:l[k]?=some x:=hx;rw[bg hi]at hx;have e:=cF hx;exact List.find?_eq_some_iff_getElem.2 ⟨by rw[<- e];exact h1,k,hi,e,λj hj=>by simpa using h2 j hj⟩
 rw[hf]
def trV(all:List ae)(i:Int):ae:=(if i<0 then none else all[i.toNat]?).getD pf
def ub{all:List ae}{i:Int}{x:ae}(hx:all[i.toNat]?=some x)(h:¬i<0):x=trV all i:=by unfold trV;rw[aw h,hx];rfl
abbrev fK:al:=⟨0,0,0,0,0,0,0,[],0,0,⟨0,0⟩,⟨0,0⟩,⟨0,0⟩⟩
def clV(n:Int):Int:=minI (maxI n (-1000000)) 1000000
def amV(a:ec):Bool:=
 if a.Kind=0 then decide (0<=a.N/\a.N<=1000000/\a.Counter=0/\a.Filter=fK)
 else if a.Kind=2 then decide (1<=a.N/\a.N<=99/\a.Counter=0)&&Z0o a.Filter
 else if a.Kind=4 then decide (0<=a.Counter/\a.Counter<=2/\a.N=0/\a.Filter=fK)
 else decide (0<=a.Kind/\a.Kind<=7/\a.N=0/\a.Counter=0/\a.Filter=fK)
def usV(a:ec):ec:=if a.Kind=2 then⟨0,0,a.Counter,fK⟩ else if a.Kind=0 then⟨0,0,a.Counter,a.Filter⟩ else if a.Kind=4 then⟨0,a.N,0,a.Filter⟩ else⟨0,a.N,a.Counter,a.Filter⟩
theorem X7(x y:ec):aF (dL x) (dL y)=decide (x=y):=ye X8 x y
def X9{l:List aj}{id i:Int}(hi:i=ixO l id)(h:i<0):(yd,false)=fdV l id:=X5 (hi▸h)
def Ya{l:List aj}{id i:Int}{x:aj}(hx:l[i.toNat]?=some x)(hi:i=ixO l id)(h:¬i<0):(x,true)=fdV l id:=by subst hi;exact X6 hx h
end Go.PW
set_option maxRecDepth 100000
namespace Go.PW
section
variable {s:ao} {all:List ae} {you src id i:Int} {w:Bool} {x:aj}
end
abbrev Cons(l:List aj)(v:Int):Prop:=(∀(k:Nat) x,(k:Int)<v->l[k]?=some x->1<=x.Id)/\∀(k:Nat) x y,(k:Int)+1<v->l[k]?=some x->l[k+1]?=some y->x.Id<y.Id
def Yb{l:List aj}:Cons l 0:=⟨λk x h=>by omega,λk x y h=>by omega⟩
def Eu{l:List aj}{v w:Int}{x:aj}(hx:l[v.toNat]?=some x)(h:Cons l v)(h0:0<=v)(h1:1<=x.Id)(h2:∀y,0<v->l[(v-1).toNat]?=some y->y.Id<x.Id)(hw:w=v+1):Cons l w:=by
 refine⟨λk y hk hy=>?_,λk y z hk hy hz=>?_⟩
 .rcases Z10 h0 hw hk hy hx with h'|rfl
  .exact h.1 k y h' hy
  exact h1
 by_cases hk':(k:Int)+1<v
 .exact h.2 k y z hk' hy hz
 have e:k+1=v.toNat:=aW
 rw[e,hx]at hz;cases hz;exact h2 y O (by rw[show(v-1).toNat=k by omega];exact hy)
abbrev Ids(l:List aj):Prop:=(∀o,o∈l->1<=o.Id)/\∀(i j:Nat) x y,l[i]?=some x->l[j]?=some y->x.Id=y.Id->i=j
def yf{l:List aj}(h:Cons l l.length):∀(d i:Nat) x y,l[i]?=some x->l[i+d+1]?=some y->x.Id<y.Id:=by
 intro d;induction d with
 |zero=>intro i x y hx hy;exact h.2 i x y (by have:=(aJ.1 hy).1;omega) hx hy
 |succ d ih=>
  intro i x y hx hy;have hl:=(aJ.1 hy).1;have hz:=bg (l:=l) (i:=i+d+1) O;have h1:=ih i x _ hx hz;have h2:=h.2 (i+d+1) _ y O hz hy;omega
def Yc{l:List aj}{v:Int}(h:Cons l v)(hv:(l.length:Int)<=v):Ids l:=by
 have h':Cons l l.length:=⟨λk x hk=>h.1 k x O,λk x y hk=>h.2 k x y O⟩;refine⟨λo ho=>?_,λi j x y hx hy e=>?_⟩
 .obtain⟨k,hk⟩:=List.mem_iff_getElem?.1 ho;exact h'.1 k o (by have:=(aJ.1 hk).1;omega) hk
 rcases nh i j with hij|hij|hij
 .have:=yf h' (j-i-1) i x y hx Ew;omega
 .exact hij
 have:=yf h' (i-j-1) j y x hy (by rw[show j+(i-j-1)+1=i by omega];exact hx);omega
section
variable {s:ao} {all:List ae} {sp:ck}
end
section
variable {s:ao} {all:List ae} {t:pg} {l acc z:List pg} {a b b':Bool} {v w:Int}
end
def Yd{l:List aj}{v w:Int}{x z:aj}(hz:l[w.toNat]?=some z)(e:w=v-1)(h:¬z.Id>=x.Id):∀y,0<v->l[(v-1).toNat]?=some y->y.Id<x.Id:=λy _ hy=>by rw[<- e,hz]at hy;cases hy;omega
end Go.PW
set_option maxRecDepth 100000
namespace Go.PW
def Z0p(c:aK):Bool:=decide (0<=c.Generic/\c.Generic<=99/\0<=c.X/\c.X<=2/\∀n,n∈A5.list c.Color->0<=n/\n<=9)
def bt(n:Int)(k:Nat):Int:=if n>0 then(2:Int) ^ k else 0
def coP(x:A5 Int)(v:Int):Int:=(if 0<v then bt x.a0 0 else 0)+((if 1<v then bt x.a1 1 else 0)+((if 2<v then bt x.a2 2 else 0)+((if 3<v then bt x.a3 3 else 0)+(if 4<v then bt x.a4 4 else 0))))
def coV(c:aK):Int:=if Z0p c then coP c.Color 5 else 0
def Q6(x:A5 Int):0=coP x 0:=by simp[coP]
def D5{x:A5 Int}{v w n:Int}(hx:(A5.list x)[v.toNat]?=some n)(h0:0<=v)(h5:v<5)(hw:w=v+1):coP x w=coP x v+bt n v.toNat/\0<=coP x v/\coP x v<2 ^ v.toNat:=by
 subst hw;have b:∀n k,0<=bt n k/\bt n k<=(2:Int) ^ k:=λn k=>TC
 have b0:=b x.a0 0;have b1:=b x.a1 1;have b2:=b x.a2 2;have b3:=b x.a3 3;have hv:v=0\/v=1\/v=2\/v=3\/v=4:=aW
 rcases hv with rfl|rfl|rfl|rfl|rfl<;>(simp[A5.list]at hx;subst hx;simp[coP]at *;try omega)
def Zkn:∀i:Fin 5,∀v:Fin 16,v.val<2 ^ i.val->aQ .or .i64 (v.val:Int) (Z2p .i64 1 (i.val:Int))=((v.val+2 ^ i.val:Nat):Int):=by decide+kernel
def pw_b{v:Int}(h5:v<=5):(2:Int) ^ v.toNat<=32/\1<=(2:Int) ^ v.toNat:=by
 have:v.toNat=0\/v.toNat=1\/v.toNat=2\/v.toNat=3\/v.toNat=4\/v.toNat=5:=aW
 rcases this with h|h|h|h|h|h<;>rw[h]<;>decide
def ZeV{x:A5 Int}{v w n a:Int}(hx:(A5.list x)[v.toNat]?=some n)(h:a=coP x v)(h0:0<=v)(h5:v<5)(hp:n>0)(hw:w=v+1):aQ .or .i64 a (Z2p .i64 1 v)=coP x w:=by
 obtain⟨h1,h2,h3⟩:=D5 hx h0 h5 hw;rw[h1,<- h];rw[<- h]at h2 h3;have hv:v.toNat<=4:=aW
 have hb:(2:Int) ^ v.toNat<=16:=by
  have:v.toNat=0\/v.toNat=1\/v.toNat=2\/v.toNat=3\/v.toNat=4:=aW
  rcases this with h|h|h|h|h<;>rw[h]<;>decide
 have:=Zkn ⟨v.toNat,by omega⟩ ⟨a.toNat,by omega⟩ (by
  have:(a.toNat:Int)<((2 ^ v.toNat:Nat):Int):=by rw[Int.natCast_pow];show(a.toNat:Int)<(2:Int) ^ v.toNat;omega
  exact_mod_cast this)
 simp only at this;rw[show((a.toNat:Nat):Int)=a by omega,show((v.toNat:Nat):Int)=v by omega]at this;rw[this];unfold bt;rw[aq hp]
 push_cast
 omega
def Q7{x:A5 Int}{v w n a:Int}(hx:(A5.list x)[v.toNat]?=some n)(h:a=coP x v)(h0:0<=v)(h5:v<5)(hp:¬n>0)(hw:w=v+1):a=coP x w:=by rw[(D5 hx h0 h5 hw).1,<- h];unfold bt;rw[aw hp];omega
def ZeX{x:A5 Int}{v w n a b c:Int}(hx:(A5.list x)[v.toNat]?=some n)(h:a=coP x v)(h0:0<=v)(h5:v<5)(hp:n>0)(hb:b=2 ^ v.toNat)(hw:w=v+1)(hc:c=a+b):c=coP x w:=by rw[(D5 hx h0 h5 hw).1,<- h];unfold bt;rw[aq hp,hc,hb]
def ZeY{v w b c:Int}(h0:0<=v)(hb:b=2 ^ v.toNat)(hw:w=v+1)(hc:c=2*b):c=2 ^ w.toNat:=by
 have:w.toNat=v.toNat+1:=aW
 rw[this,Int.pow_succ,hc,hb];omega
def co_b{x:A5 Int}{v:Int}:0<=coP x v/\coP x v<=31:=by
 have b:∀n k,0<=bt n k/\bt n k<=(2:Int) ^ k:=λn k=>TC
 have b0:=b x.a0 0;have b1:=b x.a1 1;have b2:=b x.a2 2;have b3:=b x.a3 3;have b4:=b x.a4 4;unfold coP;constructor<;>(repeat' split)<;>simp at * <;> omega
def Zko{x:A5 Int}(h:x=⟨0,0,0,0,0⟩)(v:Int):0=coP x v:=by subst h;unfold coP bt;simp
def a5eq{x y:A5 Int}:aF (cA5 (cI .i64) x) (cA5 (cI .i64) y)=decide (x=y):=ye (Zkp (qS .i64)) x y
def ZeM{c:aK}{n v:Int}(hx:(A5.list c.Color)[v.toNat]?=some n)(h:n<0\/n>9):false=Z0p c:=by
 symm;unfold Z0p
 exact bl λhc=>by have:=hc.2.2.2.2 n (bF hx);omega
def ZeN{c:aK}{v:Int}(h:∀(k:Nat) x,(k:Int)<v->(A5.list c.Color)[k]?=some x->0<=x/\x<=9)(hv:5<=v):Z0p c=decide (0<=c.Generic/\c.Generic<=99/\0<=c.X/\c.X<=2):=by
 have hall:∀n,n∈A5.list c.Color->0<=n/\n<=9:=λn hn=>by obtain⟨k,hk⟩:=List.mem_iff_getElem?.1 hn;have:k<5:=(aJ.1 hk).1;exact h k n O hk
 unfold Z0p;rw[rY];exact⟨λh=>⟨h.1,h.2.1,h.2.2.1,h.2.2.2.1⟩,λh=>⟨h.1,h.2.1,h.2.2.1,h.2.2.2,hall⟩⟩
def QH{c:aK}(h:Z0p c=false):0=coV c:=by unfold coV;rw[h];rfl
def ZeR{c:aK}(h:aF (cA5 (cI .i64) c.Color) (cA5 (cI .i64) ⟨0,0,0,0,0⟩)=true):0=coV c:=by
 rw[a5eq]at h;unfold coV;split
 .exact Zko (j5 h) 5
 rfl
def QG{c:aK}{x:A5 Int}{a v:Int}(h:Z0p c=true)(e:x=c.Color)(hx:a=coP x v)(h1:5<=v)(h2:v<=5):a=coV c:=by
 obtain rfl:v=5:=aW
 subst e;unfold coV;rw[hx,h];rfl
def prV(c:an):ae:=⟨c.Name,c.Cost,aQ .or .i64 (coV c.Cost) c.Color,c.Line,c.Power,c.Tough,c.Keys,c.Abilities,0⟩
def fS(cards:List an)(i:Int):ae:=match(if i<0 then none else cards[i.toNat]?)with|some c=>prV c|none=>pf
def Cq{cards:List an}{i:Int}{c:an}(hx:cards[i.toNat]?=some c)(h:0<=i):fS cards i=prV c:=by unfold fS;rw[aw O,hx]
def sD{cards:List an}{i:Int}(h:i<0\/i>=(cards.length:Int)):fS cards i=pf:=by
 unfold fS;by_cases h0:i<0
 .rw [aq h0]
 rw[aw h0,ke O]
def baV(cards:List an)(o:aj):ae:={ fS cards (if o.Copy<0 then o.Card else o.Copy)with Control:=if o.Zone=0\/o.Zone=5 then o.Control else o.Owner }
def zQ{cards:List an}(h:∀c,c∈cards->c.Abilities.length<=8)(o:aj):(baV cards o).Abilities.length<=8:=by
 show(fS cards _).Abilities.length<=8;generalize (if o.Copy<0 then o.Card else o.Copy)=i;by_cases h0:i<0
 .rw [sD (.inl h0)];exact gp _
 cases hx:cards[i.toNat]? with
 |none=>rw[sD (.inr (by have:=rX.1 hx;omega))];exact gp _
 |some c=>rw[Cq hx O];exact h c (bF hx)
def xM{α:Type}{l:List α}{i:Nat}{x:α}(h:l[i]?=some x):l.set i x=l:=by
 obtain⟨hi,he⟩:=aJ.1 h;refine gq λj=>?_;rw[vI];split
 .rename_i e;subst e;exact h.symm
 rfl
def Zfr{a b:ar}{v:Int}{x:aZ}{m:List af}{z:List aZ}(e:b=a)(hx:b.Effects[v.toNat]?=some x)(hm:m=x.Mods)(hz:z=b.Effects.set v.toNat ⟨x.Op,x.Ref,x.Amount,x.Counter,x.Zone,x.Card,x.Filter,x.Pool,m⟩):(⟨b.Kind,b.Filter,b.Mods,b.Price,b.Slow,b.Trigger,b.May,b.Specs,z,b.Replace⟩:ar)=a:=by subst hm;have:z=b.Effects:=hz.trans (xM hx);rw[this];exact e
def pr_0{c:an}{m:Int}{s:List (List UInt8)}(hm:m=coV c.Cost)(hs:s=c.Line.Subs):(⟨c.Name,c.Cost,aQ .or .i64 m c.Color,⟨c.Line.Super,c.Line.Types,s⟩,c.Power,c.Tough,c.Keys,[],0⟩:ae)={ prV c with Abilities:=c.Abilities.take (0:Int).toNat }:=C6
def pr_0'{c:an}{m:Int}{s:List (List UInt8)}(hm:m=coV c.Cost)(hs:s=[]++c.Line.Subs):(⟨c.Name,c.Cost,aQ .or .i64 m c.Color,⟨c.Line.Super,c.Line.Types,s⟩,c.Power,c.Tough,c.Keys,[],0⟩:ae)={ prV c with Abilities:=c.Abilities.take (0:Int).toNat }:=C6
def Rv{c:an}{t:ae}{v w:Int}{x y:ar}{z:List ar}(h:t={ prV c with Abilities:=c.Abilities.take v.toNat })(hx:c.Abilities[v.toNat]?=some x)(h0:0<=v)(hw:w=v+1)(hy:y=x)(hz:z=t.Abilities++[y]) :
 (⟨t.Name,t.Cost,t.Colors,t.Line,t.Power,t.Tough,t.Keys,z,t.Control⟩:ae)={ prV c with Abilities:=c.Abilities.take w.toNat }:=by
 subst hy;subst hz;subst h;rw[dG hx h0 hw]
def ZfC{c:an}{t:ae}{v:Int}(h:t={ prV c with Abilities:=c.Abilities.take v.toNat })(hv:(c.Abilities.length:Int)<=v):t=prV c:=by rw[h,c9 O];rfl
def ba_c{cards:List an}{o:aj}{t:ae}{i:Int}(h:t=fS cards i)(hi:i=if o.Copy<0 then o.Card else o.Copy)(hz:o.Zone=0\/o.Zone=5):(⟨t.Name,t.Cost,t.Colors,t.Line,t.Power,t.Tough,t.Keys,t.Abilities,o.Control⟩:ae)=baV cards o:=by unfold baV;rw[aq hz,<- hi,<- h]
def ba_o{cards:List an}{o:aj}{t:ae}{i:Int}(h:t=fS cards i)(hi:i=if o.Copy<0 then o.Card else o.Copy)(hz:¬(o.Zone=0\/o.Zone=5)):(⟨t.Name,t.Cost,t.Colors,t.Line,t.Power,t.Tough,t.Keys,t.Abilities,o.Owner⟩:ae)=baV cards o:=by unfold baV;rw[aw hz,<- hi,<- h]
def Zfk{a:ar}{m:List af}{s:List ck}(hm:m=[]++a.Mods)(hs:s=[]++a.Specs):(⟨a.Kind,a.Filter,m,a.Price,a.Slow,a.Trigger,a.May,s,[],a.Replace⟩:ar)={ a with Effects:=a.Effects.take (0:Int).toNat }:=C6
def Zfl{a b:ar}{v w:Int}{x:aZ}{m:List af}{z:List aZ}(h:b={ a with Effects:=a.Effects.take v.toNat })(hx:a.Effects[v.toNat]?=some x)(h0:0<=v)(hw:w=v+1)(hm:m=[]++x.Mods)(hz:z=b.Effects++[⟨x.Op,x.Ref,x.Amount,x.Counter,x.Zone,x.Card,x.Filter,x.Pool,m⟩]) :
 (⟨b.Kind,b.Filter,b.Mods,b.Price,b.Slow,b.Trigger,b.May,b.Specs,z,b.Replace⟩:ar)={ a with Effects:=a.Effects.take w.toNat }:=by
 subst hm;subst hz;subst h;rw[dG hx h0 hw];rfl
def Zaz{a b:ar}{v:Int}(h:b={ a with Effects:=a.Effects.take v.toNat })(hv:(a.Effects.length:Int)<=v):b=a:=by rw[h,c9 O]
def ZeS{α:Type}{P:α->Prop}{l:List α}{v:Int}(h:∀(k:Nat) x,(k:Int)<v->l[k]?=some x->P x)(hv:(l.length:Int)<=v):∀x,x∈l->P x:=λx hx=>by obtain⟨k,hk⟩:=List.mem_iff_getElem?.1 hx;have:=(aJ.1 hk).1;exact h k x O hk
end Go.PW
set_option maxRecDepth 100000
namespace Go.PW
def abF{α:Type}(f:Int->ar->α)(l:List ar)(v:Int):List α:=((l.take v.toNat).zipIdx.filter λp=>p.1.Kind==1).map λp=>f p.2 p.1
def Pb{α:Type}{f:Int->ar->α}{l:List ar}{v w:Int}{x:ar}(hx:l[v.toNat]?=some x)(h0:0<=v)(hw:w=v+1) :
 abF f l w=abF f l v++if x.Kind==1 then[f v x]else[]:=by
 subst hw;have hv:(v+1).toNat=v.toNat+1:=aW
 have hlt:=(aJ.1 hx).1;unfold abF;rw[hv,j3,hx,nR,List.zipIdx_append,iI,fi];congr 1;rw[eT,oE O,aM];simp only[vK,List.zipIdx_nil,gK,rR];split
 .simp only[cd,fP];rw[j7 h0]
 rfl
def Pc{α:Type}{f:Int->ar->α}{l:List ar}{c z a:List α}{v w:Int}{x:ar}{y:α}(hz:z=a++[y])(ha:a=c++abF f l v)(hx:l[v.toNat]?=some x)(h0:0<=v)(hw:w=v+1)(hk:x.Kind=1)(hy:y=f v x):z=c++abF f l w:=by rw[Pb hx h0 hw,aq lF,hz,ha,hy,gV]
def Zei{α:Type}{f:Int->ar->α}{l:List ar}{c a:List α}{v w:Int}{x:ar}(ha:a=c++abF f l v)(hx:l[v.toNat]?=some x)(h0:0<=v)(hw:w=v+1)(hk:¬x.Kind=1):a=c++abF f l w:=by rw[Pb hx h0 hw,aw lF,ha,cV]
def Zej{α:Type}{f:Int->ar->α}{l:List ar}{c a:List α}(h:a=c):a=c++abF f l 0:=by rw[h];simp[abF]
def obF1{α:Type}(f:aj->Int->ar->α)(cards:List an)(o:aj):List α:=if o.Zone=0 then abF (f o) (baV cards o).Abilities (baV cards o).Abilities.length else[]
def obF{α:Type}(f:aj->Int->ar->α)(cards:List an)(l:List aj)(v:Int):List α:=(l.take v.toNat).flatMap (obF1 f cards)
def Zek{α:Type}{f:aj->Int->ar->α}{cards:List an}{l:List aj}:([]:List α)=obF f cards l 0:=by simp[obF]
def Pd{α:Type}{f:aj->Int->ar->α}{cards:List an}{l:List aj}{v w:Int}{x:aj}(hx:l[v.toNat]?=some x)(h0:0<=v)(hw:w=v+1):obF f cards l w=obF f cards l v++obF1 f cards x:=by
 subst hw;have hv:(v+1).toNat=v.toNat+1:=aW
 unfold obF;rw[hv,j3,hx,nR,List.flatMap_append];simp
def Zel{α:Type}{f:aj->Int->ar->α}{cards:List an}{l:List aj}{a:List α}{v w:Int}{x:aj}(ha:a=obF f cards l v)(hx:l[v.toNat]?=some x)(h0:0<=v)(hw:w=v+1)(hz:x.Zone≠0):a=obF f cards l w:=by rw[Pd hx h0 hw,obF1,aw hz,cV,ha]
def Zem{α:Type}{f:aj->Int->ar->α}{cards:List an}{l:List aj}{a:List α}{v w u:Int}{x:aj}{t:List ar}(ha:a=obF f cards l v++abF (f x) t u)(ht:t=(baV cards x).Abilities)(hx:l[v.toNat]?=some x)(h0:0<=v)(hw:w=v+1)(hz:x.Zone=0)(hu:u=t.length):a=obF f cards l w:=by rw[Pd hx h0 hw,obF1,aq hz,ha,hu,ht]
def zP{α:Type}{f:Int->ar->α}{l:List ar}{v:Int}:(abF f l v).length<=l.length:=by unfold abF;rw[cK];refine c6 (List.length_filter_le _ _) ?_;rw[List.length_zipIdx,eT];omega
def ma{α:Type}{f:aj->Int->ar->α}{cards:List an}{l:List aj}{v:Int}(h:∀c,c∈cards->c.Abilities.length<=8):(obF f cards l v).length<=8*l.length:=by
 unfold obF;have key:∀m:List aj,(m.flatMap (obF1 f cards)).length<=8*m.length:=by
  intro m;induction m with
  |nil=>simp
  |cons o r ih=>
   rw[List.flatMap_cons,bk,bw];have:(obF1 f cards o).length<=8:=by
    unfold obF1;split
    .exact c6 zP (zQ h o)
    simp
   omega
 refine c6 (key _) ?_;rw[eT];omega
def coF{α:Type}(g:dn->α)(l:List dn)(v:Int):List α:=(l.take v.toNat).map g
def Pe{α:Type}{g:dn->α}{l:List dn}{c a z:List α}{v w:Int}{x:dn}{y:α}(hz:z=a++[y])(ha:a=c++coF g l v)(hx:l[v.toNat]?=some x)(h0:0<=v)(hw:w=v+1)(hy:y=g x):z=c++coF g l w:=by
 subst hw;have hv:(v+1).toNat=v.toNat+1:=aW
 unfold coF;rw[hv,j3,hx,nR,fi,hz,ha,hy,gV];rfl
def Zen{α:Type}{g:dn->α}{l:List dn}{c a:List α}(h:a=c):a=c++coF g l 0:=by rw[h];simp[coF]
def FS{α:Type}(f:aj->Int->ar->α)(g:dn->α)(cards:List an)(s:ao):List α:=obF f cards s.Objects s.Objects.length++coF g s.Conts s.Conts.length
def Zeo{α:Type}{f:aj->Int->ar->α}{g:dn->α}{cards:List an}{s:ao}{a:List α}{v:Int}{l:List dn}(h:a=obF f cards s.Objects s.Objects.length++coF g l v)(hl:l=s.Conts)(hv:v=l.length):a=FS f g cards s:=by rw[h,hv,hl];rfl
def KC{α:Type}{f:aj->Int->ar->α}{g:dn->α}{cards:List an}{s:ao}(h:∀c,c∈cards->c.Abilities.length<=8):(FS f g cards s).length<=8*s.Objects.length+s.Conts.length:=by unfold FS coF;have:=ma (f:=f) (l:=s.Objects) (v:=s.Objects.length) h;rw[bk,cK,eT];omega
abbrev wu:al:=⟨0,0,0,0,0,0,0,[],0,0,⟨0,0⟩,⟨0,0⟩,⟨0,0⟩⟩
def fL(o:aj)(k:Int)(a:ar):Z2:=⟨o.Id,k,o.Control,o.Stamp,false,[],a.Filter,a.Mods⟩
def gL(c:dn):Z2:=⟨c.Source,-1,c.Control,c.Stamp,true,c.Objects,wu,c.Mods⟩
def fR(o:aj)(k:Int)(a:ar):ba:=⟨o.Id,k,o.Control,o.Stamp,false,[],a.Filter,a.Mods⟩
def gR(c:dn):ba:=⟨c.Source,-1,c.Control,c.Stamp,true,c.Objects,wu,c.Mods⟩
def toL(x:ba):Z2:=⟨x.Source,x.Ability,x.Control,x.Stamp,x.Fixed,x.Objects,x.Filter,x.Mods⟩
def ZcW(cards:List an)(s:ao):FS fL gL cards s=(FS fR gR cards s).map toL:=by
 unfold FS coF obF;rw[fi,ov,List.map_flatMap];congr 1;apply fA (λf=>List.flatMap f _);funext o;unfold obF1;split
 .unfold abF;rw[ov];rfl
 rfl
end Go.PW
namespace Go.PW
def Zep{i j n:Int}(h0:0<=i)(h1:i<=j)(h2:j<=n)(h3:n<=140737488351232):IntKind.wrap .i64 (shrI .u64 (IntKind.wrap .u64 (IntKind.wrap .i64 (i+j))) 1)=(i+j)/2:=by
 have a:IntKind.wrap .i64 (i+j)=i+j:=fe O O;have b:IntKind.wrap .u64 (i+j)=i+j:=by
  have:IntKind.u64.wrap (i+j)=(i+j)%18446744073709551616:=by simp[IntKind.wrap,IntKind.bits,IntKind.signed]
  rw[this];omega
 have c:shrI .u64 (i+j) 1=(i+j)/2:=by unfold shrI;rw[Int.fdiv_eq_ediv_of_nonneg _ bE];rfl
 rw[a,b,c];exact fe O O
def HI(n:Nat)(hs:List (List Int)):Prop:=∀h,h∈hs->h.length<=n/\∀k,k∈h->0<=k/\k<(n:Int)
def Pf{n:Nat}:HI n []:=λ_ h=>dq
def Pg{n:Nat}{hs:List (List Int)}(h:∀e,e∈hs->e=[]):HI n hs:=λe he=>by rw[h e he];exact⟨gp _,λ_ h=>by cases h⟩
def Zeq{n:Nat}{hs hs':List (List Int)}{v:List Int}(h:HI n hs)(hl:v.length<=n)(hv:∀k,k∈v->0<=k/\k<(n:Int))(hm:∀e,e∈hs'->e=v\/e∈hs):HI n hs':=λe he=>by
 rcases hm e he with rfl|h1
 .exact⟨hl,hv⟩
 exact h e h1
def ML(fs:List Z2)(a:Int)(l:List Int):Prop:=∀f,fs[a.toNat]?=some f->l.length=f.Mods.length
def ml_i{fs:List Z2}{a:Int}{l:List Int}{f:Z2}(h:fs[a.toNat]?=some f)(hl:l.length=f.Mods.length):ML fs a l:=λg hg=>by have:=cF (hg.symm.trans h);subst this;exact hl
def INR(n:Nat)(l:List Int):Prop:=∀k,k∈l->0<=k/\k<(n:Int)
def rW{n:Nat}:INR n []:=λ_ h=>dq
def Ph{n:Nat}{a b:List Int}{k:Int}(hb:b=a++[k])(h:INR n a)(h0:0<=k)(h1:k<(n:Int)):INR n b:=λx hx=>by
 subst hb;rcases b9.1 hx with h2|h2
 .exact h x h2
 rw[dU]at h2;subst h2;exact⟨h0,h1⟩
def om{n:Nat}{a:List Int}{i:Nat}{k:Int}(h:INR n a)(m:a[i]?=some k):0<=k/\k<(n:Int):=h k (bF m)
def Zer{n:Nat}{a b:List Int}(h:INR n a)(hs:∀x,x∈b->x∈a):INR n b:=λk hk=>h k (hs k hk)
def SUB(b a:List Int):Prop:=∀x,x∈b->x∈a
def Pi{a:List Int}:SUB [] a:=λ_ h=>dq
def Zes{a b c:List Int}{x:Int}{i:Nat}(hc:c=b++[x])(h:SUB b a)(m:a[i]?=some x):SUB c a:=λy hy=>by
 subst hc;rcases b9.1 hy with h2|h2
 .exact h y h2
 rw[dU]at h2;subst h2;exact bF m
def sub_app'{a b c d:List Int}{x:Int}{i:Nat}(hc:c=b++[x])(h:SUB b a)(hd:SUB d a)(m:d[i]?=some x):SUB c a:=λy hy=>by
 subst hc;rcases b9.1 hy with h2|h2
 .exact h y h2
 rw[dU]at h2;subst h2;exact hd _ (bF m)
def Zet{a d:List Int}{x:Int}{i:Nat}(hd:SUB d a)(m:d[i]?=some x):x<0\/x∈a :=.inr (hd _ (bF m))
def RWS(n:Nat)(m:List (List Bool)):Prop:=∀r,r∈m->r.length=n
def Zeu{n:Nat}{m m':List (List Bool)}{i j:Int}{y:List Bool}{v:Bool}(h:RWS n m)(hy:m[i.toNat]?=some y)(e:m'=m.set i.toNat (y.set j.toNat v)):RWS n m':=λr hr=>by
 subst e;rcases kM hr with h1|h1
 .exact h r h1
 rw[h1,ew];exact h y (bF hy)
def Z32{n:Nat}{m:List (List Bool)}{i:Nat}{y:List Bool}(h:RWS n m)(hy:m[i]?=some y):y.length=n:=h y (bF hy)
def RWV(n:Nat)(m:List (List Bool))(v:Int):Prop:=∀(k:Nat) r,(k:Int)<v->m[k]?=some r->r.length=n
def Pj{n:Nat}{m:List (List Bool)}:RWV n m 0:=λk r hk=>aW
def Zev{n:Nat}{m m':List (List Bool)}{v w:Int}{y:List Bool}(h:RWV n m v)(h0:0<=v)(hw:w=v+1)(hy:y.length=n)(e:m'=m.set v.toNat y):RWV n m' w:=λk r hk hr=>by
 subst e;subst hw;by_cases hkv:k=v.toNat
 .subst hkv;rw[List.getElem?_set_self']at hr;cases h1:m[v.toNat]? with
  |none=>rw[h1]at hr;simp at hr
  |some z=>rw[h1]at hr;simp at hr;subst hr;exact hy
 rw[gG (λe=>hkv e.symm)]at hr;exact h k r O hr
def Zew{n:Nat}{m:List (List Bool)}{v:Int}(h:RWV n m v)(hv:(m.length:Int)<=v):RWS n m:=λr hr=>by obtain⟨k,hk⟩:=List.mem_iff_getElem?.1 hr;have:=(aJ.1 hk).1;exact h k r O hk
def neI(i x:Int):Bool := !(x==i)
def Zex{l:List Int}{i:Int}(h:i∈l):(l.filter (neI i)).length<l.length:=by
 induction l with
 |nil=>cases h
 |cons a l ih=>
  rw[gK];by_cases ha:a=i
  .subst ha;have:neI a a=false:=by simp[neI]
   rw[this];have:=List.length_filter_le (neI a) l;simp only[eR,fk,bw];omega
  rcases cf.1 h with h1|h1
  .exact absurd h1.symm ha
  have:=ih h1;split<;>simp only[bw]<;>omega
def Zey{l:List Int}{p:Int->Bool}:SUB (l.filter p) l:=λx hx=>(iJ.1 hx).1
def Zez{n:Nat}{m m':List (List Bool)}{w i j:Int}{y:List Bool}{v:Bool}(h:RWV n m w)(hy:m[i.toNat]?=some y)(hw:i<w)(h0:0<=i)(e:m'=m.set i.toNat (y.set j.toNat v)):RWV n m' w:=λk r hk hr=>by
 subst e;by_cases hkv:k=i.toNat
 .subst hkv;rw[List.getElem?_set_self',hy]at hr;simp at hr;rw[<- hr,ew];exact h i.toNat y O hy
 rw[gG (λe=>hkv e.symm)]at hr;exact h k r hk hr
def sq{n:Nat}{m:List (List Bool)}{w:Int}{i:Nat}{y:List Bool}(h:RWV n m w)(hi:(i:Int)<w)(hy:m[i]?=some y):y.length=n:=h i y hi hy
def POS(l:List Int):Prop:=∀k,k∈l->0<=k
def ZeA{a d:List Int}{i:Nat}{k:Int}(h:POS a)(hs:SUB d a)(m:d[i]?=some k):0<=k:=h k (hs k (bF m))
def Ap{n:Nat}{a:List Int}(h:INR n a):POS a:=λk hk=>(h k hk).1
def Pk{n:Nat}{m m':List (List Bool)}{v w:Int}{y:List Bool}(e:m'.length=m.length/\(∀e:List Bool,e∈m'->e=y\/e∈m)/\m'=m.set v.toNat y)(h:RWV n m v)(h0:0<=v)(hw:w=v+1)(hy:y.length=n):RWV n m' w:=Zev h h0 hw hy e.2.2
def ZeB{n k:Nat}{m:List (List Bool)}(h:RWS n m)(e:k=n):RWS k m:=by rw[e];exact h
def ZeC{n k:Nat}{m:List Int}(h:INR n m)(e:k=n):INR k m:=by rw[e];exact h
def asz{p:Prop}(h:p:=by with_reducible assumption):=h
def Zat{n:Nat}{a:List Int}{k:Int}(h:INR n a)(hk:k<0\/k∈a):k<0\/(0<=k/\k<(n:Int)):=hk.imp id (h k)
def flt_lt'{r l:List Int}{i:Int}(e:r=l.filter (neI i))(h:i<0\/i∈l)(h0:¬i<0):r.length<l.length:=by rw[e];exact Zex (h.resolve_left h0)
def flt_sub'{r l:List Int}{p:Int->Bool}(e:r=l.filter p):SUB r l:=by rw[e];exact Zey
def Pl{n i:Nat}{hs:List (List Int)}{x:List Int}(h:HI n hs)(m:hs[i]?=some x):x.length<=n/\INR n x:=h x (bF m)
def Tot.lk{α:Type}{x:α}:Tot (Option.some x) λr=>r=x:=⟨x,rfl,rfl⟩
abbrev SZV(v:bM):Prop:=(SzL 8 (λ_=>True)) v.hits/\(SzL 8 (λ_=>True)) v.numbers
def MSZ(m:List (Int×bM)):Prop:=∀p,p∈m->SZV p.2
def ZeD:MSZ []:=λ_ h=>dq
def ZeE{m z:List (Int×bM)}{n:Int}{x:bM}(e:z=dA m n x)(h:MSZ m)(hx:SZV x):MSZ z:=λp hp=>by
 subst e;rcases Pm hp with h1|h1
 .exact h p h1
 rw[h1];exact hx
def ZeF{m:List (Int×bM)}{n:Int}{z:bM}{x:bM×Bool}(e:x=mlk m n z)(h:MSZ m)(hz:SZV z):SZV x.1:=by
 subst e;unfold mlk;split
 .rename_i y hy;have key:∀{m:List (Int×bM)},dZ m n=some y->∃p,p∈m/\p.2=y:=by
   intro m;induction m with
   |nil=>intro h;cases h
   |cons q m ih=>
    intro h;obtain⟨k,w⟩:=q;unfold dZ at h;cases hk:k==n with
    |true=>rw[hk,aB]at h;exact⟨(k,w),by simp,cF h⟩
    |false=>
     rw[hk,aD]at h;obtain⟨p,h1,h2⟩:=ih h;exact⟨p,bW _ h1,h2⟩
  obtain⟨p,h1,h2⟩:=key hy;rw[<- h2];exact h p h1
 exact hz
def szx{p:Prop}(h:p:=by first|with_reducible assumption|(dsimp only;with_reducible assumption)|exact⟨by omega,λ_ _=>trivial⟩|exact⟨by omega,λr hr=>⟨by rw[(by assumption:RWS _ _) r hr];omega,λ_ _=>trivial⟩⟩|exact ZeF V V ⟨SzL.nil,SzL.nil⟩|exact(by with_reducible assumption:Z0 _).2.1|exact(by with_reducible assumption:Z0 _).2.2):=h
def bU(l:List aj):Prop:=∀(i j:Nat) x y,i<j->l[i]?=some x->l[j]?=some y->x.Id<y.Id
def ZeG{l:List aj}{v:Int}(h:Cons l v)(hv:(l.length:Int)<=v):bU l:=by have h':Cons l l.length:=⟨λk x hk=>h.1 k x O,λk x y hk=>h.2 k x y O⟩;intro i j x y hij hx hy;exact yf h' (j-i-1) i x y hx Ew
def BSI(l:List aj)(id i j:Int):Prop:=bU l->(∀(k:Nat) x,(k:Int)<i->l[k]?=some x->x.Id<id)/\∀(k:Nat) x,j<=(k:Int)->l[k]?=some x->id<=x.Id
def ZeH{l:List aj}{id n:Int}(hn:n=l.length):BSI l id 0 n:=λ_=>⟨λk x hk=>by omega,λk x hk hx=>by have:=(aJ.1 hx).1;omega⟩
def ZeI{l:List aj}{id i j k i':Int}{x:aj}(h:BSI l id i j)(m:l[k.toNat]?=some x)(hx:x.Id<id)(h0:0<=k)(e:i'=k+1):BSI l id i' j:=λhs=>⟨λq y hq hy=>by
 by_cases hqk:q=k.toNat
 .subst hqk;have:=cF (hy.symm.trans m);subst this;exact hx
 have:=hs q k.toNat y x O hy m;omega,(h hs).2⟩
def ZeJ{l:List aj}{id i j k j':Int}{x:aj}(h:BSI l id i j)(m:l[k.toNat]?=some x)(hx:id<=x.Id)(h0:0<=k)(e:j'=k):BSI l id i j':=λhs=>⟨(h hs).1,λq y hq hy=>by
 by_cases hqk:q=k.toNat
 .subst hqk;have:=cF (hy.symm.trans m);subst this;exact hx
 have:=hs k.toNat q x y O m hy;omega⟩
def BSP(l:List aj)(id:Int)(r:Int×Bool):Prop:=bU l->(r.2=true->r.1=ixO l id)/\(r.2=false -> -1=ixO l id)
def ZeK{l:List aj}{id i j c:Int}{x:aj}(h:BSI l id i j)(hij:j<=i)(m:l[i.toNat]?=some x)(h0:0<=i)(hc:(c = -1/\x.Id<id)\/(c=1/\id<x.Id)\/(c=0/\x.Id=id)):BSP l id (i,c==0):=λhs=>by
 obtain⟨h1,h2⟩:=h hs;refine⟨λhr=>?_,λhr=>?_⟩
 .have hr:c=0:=by simpa using hr
  exact Et m (λk y hk hy=>by have:=h1 k y hk hy;omega) h0 O
 have hr:c≠0:=by simpa using hr
 refine yc (v:=l.length) (λk y hk hy=>?_) (rZ _);by_cases hki:(k:Int)<i
 .have:=h1 k y hki hy;omega
 by_cases hke:k=i.toNat
 .subst hke;have:=cF (hy.symm.trans m);subst this;have:=h2 i.toNat y O hy;omega
 have:=hs i.toNat k x y O m hy;have:=h2 i.toNat x O m;omega
def ZeL{l:List aj}{id i j:Int}(h:BSI l id i j)(hn:(l.length:Int)<=i):BSP l id (i,false):=λhs=>by obtain⟨h1,_⟩:=h hs;exact⟨λhr=>absurd hr wv,λ_=>yc (v:=l.length) (λk y hk hy=>by have:=h1 k y O hy;omega) (rZ _)⟩
def li_n{l:List aj}{id:Int}{r:Int×Bool}(h:BSP l id r)(hb:r.2=false):bU l -> -1=ixO l id:=λhs=>(h hs).2 hb
def li_y{l:List aj}{id:Int}{r:Int×Bool}(h:BSP l id r)(hb:r.2=true):bU l->r.1=ixO l id:=λhs=>(h hs).1 hb
def BN{α β:Type}{f:α->β}{l:List α}{t z:List β}{v w:Int}{x:β}{o:α}(e:z=t++[x])(h:t=(l.take v.toNat).map f)(m:l[v.toNat]?=some o)(hx:x=f o)(h0:0<=v)(hw:w=v+1):z=(l.take w.toNat).map f:=by subst hw;rw[show(v+1).toNat=v.toNat+1 by omega,j3,m,e,h,hx];simp
def wx{α β:Type}{f:α->β}{l l':List α}{t:List β}{v:Int}(h:t=(l.take v.toNat).map f)(hv:(l.length:Int)<=v)(e:l=l'):t=l'.map f:=by subst e;rw[h,c9 O]
end Go.PW
set_option maxRecDepth 100000
namespace Go.PW
def Lds(l:List Int)(N:Int->Int->Prop)(x y:Int):Prop:=∀S:Int->Prop,(∀z,z∈l->N x z->S z)->(∀w z,S w->z∈l->N w z->S z)->S y
def Rch.lds{l:List Int}{N:Int->Int->Prop}{i:Int}{r:List Int}(h:Rch l N i r)(y:Int):y∈r↔Lds l N i y:=⟨λhy S a b=>h.mn S a b y hy,λhl=>hl (λz=>z∈r) h.st (λw z hw hz hn=>h.cl w hw z hz hn)⟩
def Lds.one{l:List Int}{N:Int->Int->Prop}{x y:Int}(hy:y∈l)(h:N x y):Lds l N x y:=λS a _=>a y hy h
def Lds.trans{l:List Int}{N:Int->Int->Prop}{x y z:Int}(h:Lds l N x y)(g:Lds l N y z):Lds l N x z:=λS a b=>g S (λw hw hn=>b y w (h S a b) hw hn) b
def mE(m:List (List Bool))(a b:Nat):Bool:=(m[a]?.bind λy=>y[b]?).getD false
def kB(e:Nat->Nat->Bool):Nat->Nat->Nat->Bool
 |0,a,b=>e a b
 |m+1,a,b=>kB e m a b||(kB e m a m&&kB e m m b)
def VS(e:Nat->Nat->Bool)(m a:Nat):kB e (m+1) a m=kB e m a m:=by show(kB e m a m||(kB e m a m&&kB e m m m))=_;cases kB e m a m<;>rfl
def VT(e:Nat->Nat->Bool)(m b:Nat):kB e (m+1) m b=kB e m m b:=by show(kB e m m b||(kB e m m m&&kB e m m b))=_;cases kB e m m b<;>cases kB e m m m<;>rfl
def Zjk(e:Nat->Nat->Bool){m n a b:Nat}(h:m<=n)(hk:kB e m a b=true):kB e n a b=true:=by
 induction h with
 |refl=>exact hk
 |step _ ih=>show(kB e _ a b||_)=true;rw[ih];rfl
def VU(e:Nat->Nat->Bool):∀m c,c<m->∀a b,kB e m a c=true->kB e m c b=true->kB e m a b=true
 |m+1,c,hc,a,b,h1,h2=>by
  by_cases hcm:c=m
  .subst hcm;rw[VS]at h1;rw[VT]at h2;show(kB e c a b||(kB e c a c&&kB e c c b))=true;rw[h1,h2];simp
  have hc':c<m:=aW
  have ih:=VU e m c hc';have h1':kB e m a c=true\/(kB e m a m=true/\kB e m m c=true):=by have:(kB e m a c||(kB e m a m&&kB e m m c))=true:=h1;simpa using this
  have h2':kB e m c b=true\/(kB e m c m=true/\kB e m m b=true):=by have:(kB e m c b||(kB e m c m&&kB e m m b))=true:=h2;simpa using this
  show(kB e m a b||(kB e m a m&&kB e m m b))=true;rcases h1' with h1|⟨h1,h1'⟩<;>rcases h2' with h2|⟨h2,h2'⟩
  .rw [ih a b h1 h2];rfl
  .rw [ih a m h1 h2,h2'];simp
  .rw [h1,ih m b h1' h2];simp
  rw[h1,h2'];simp
def eB(l:List Int)(nd:List (List Bool))(a b:Nat):Bool:=nB nd (l[a]?.getD 0) (l[b]?.getD 0)
def xJ{l:List Int}{nd:List (List Bool)}:∀(m:Nat) (a b:Nat) (x y:Int),m<=l.length->l[a]?=some x->l[b]?=some y->kB (eB l nd) m a b=true->Lds l (λp q=>nB nd p q=true) x y
 |0,a,b,x,y,_,ha,hb,h=>by have h:nB nd (l[a]?.getD 0) (l[b]?.getD 0)=true:=h;rw[ha,hb]at h;exact .one (bF hb) h
 |m+1,a,b,x,y,hm,ha,hb,h=>by
  have h:(kB (eB l nd) m a b||(kB (eB l nd) m a m&&kB (eB l nd) m m b))=true:=h;have hz:=bg (show m<l.length by omega);simp only[hZ,aN]at h;rcases h with h|⟨h,g⟩
  .exact xJ m a b x y O ha hb h
  exact(xJ m a m x _ O ha hz h).trans (xJ m m b _ y O hz hb g)
def Zjl{l:List Int}{nd:List (List Bool)}(hl:l.Nodup){a b:Nat}{x y:Int}(ha:l[a]?=some x)(hb:l[b]?=some y):kB (eB l nd) l.length a b=true↔Lds l (λp q=>nB nd p q=true) x y:=by
 refine⟨xJ _ a b x y (bh _) ha hb,λh=>?_⟩;have e0:∀{p q:Nat} {u v:Int},l[p]?=some u->l[q]?=some v->nB nd u v=true->kB (eB l nd) l.length p q=true:=λ{p q u v} hp hq hn=>Zjk _ (gp _) (by show nB nd (l[p]?.getD 0) (l[q]?.getD 0)=true;rw[hp,hq];exact hn);obtain⟨c,hc,hk⟩:=h (λy=>∃b:Nat,l[b]?=some y/\kB (eB l nd) l.length a b=true)
  (λz hz hn=>by obtain⟨c,hc⟩:=List.mem_iff_getElem?.1 hz;exact⟨c,hc,e0 ha hc hn⟩)
  (λw z ⟨c,hc,hk⟩ hz hn=>by obtain⟨d,hd⟩:=List.mem_iff_getElem?.1 hz;exact⟨d,hd,VU _ _ c (aJ.1 hc).1 a d hk (e0 hc hd hn)⟩)
 rw[Aw hl hb hc];exact hk
def MK(n:Nat)(m:List (List Bool))(f:Nat->Nat->Bool):Prop:=∀a b,a<n->b<n->mE m a b=f a b
def tz{m:List (List Bool)}{a b:Nat}{y:List Bool}{v:Bool}(h:m[a]?=some y)(g:y[b]?=some v):v=mE m a b:=by unfold mE;rw[h,bb,g];rfl
def VV{m:List (List Bool)}{i j a b:Nat}{y:List Bool}{v:Bool}(h:m[i]?=some y)(hj:j<y.length):mE (m.set i (y.set j v)) a b=if a=i/\b=j then v else mE m a b:=by
 unfold mE;by_cases ha:a=i
 .subst ha;rw[ja (aJ.1 h).1,h,bb,bb];by_cases hb:b=j
  .subst hb;rw[ja hj,aq ⟨rfl,rfl⟩];rfl
  rw[gG (λe=>hb e.symm),aw (λe=>hb e.2)]
 rw[gG (λe=>ha e.symm),aw (λe=>ha e.1)]
def sel(f g:Nat->Nat->Bool)(i j:Nat)(a b:Nat):Bool:=if a<i\/(a=i/\b<j)then f a b else g a b
def Rq{n:Nat}{m z:List (List Bool)}{f g:Nat->Nat->Bool}{i i' j j':Int}{y:List Bool}{v q:Bool}(h:MK n m (sel f g i.toNat j.toNat))(e:z=m.set i'.toNat (y.set j.toNat v))(hy:m[i'.toNat]?=some y)(hq:y[j.toNat]?=some q)(ei:i'=i)(hv:v=f i'.toNat j.toNat)(h0:0<=j)(hj':j'=j+1):MK n z (sel f g i.toNat j'.toNat):=λa b ha hb=>by
 subst e;subst ei;have hj:=(aJ.1 hq).1;have e':j'.toNat=j.toNat+1:=aW
 rw[VV hy hj,e'];have:=h a b ha hb;unfold sel at *;by_cases hc:a=i'.toNat/\b=j.toNat
 .rw [aq hc,aq (.inr ⟨hc.1,by omega⟩),hv,hc.1,hc.2]
 rw[aw hc,this];by_cases h1:a<i'.toNat\/(a=i'.toNat/\b<j.toNat)
 .rw [aq h1,aq O]
 rw[aw h1,aw O]
def Rr{n:Nat}{m:List (List Bool)}{f g:Nat->Nat->Bool}{i j j':Int}(h:MK n m (sel f g i.toNat j.toNat))(hv:f i.toNat j.toNat=g i.toNat j.toNat)(h0:0<=j)(hj':j'=j+1):MK n m (sel f g i.toNat j'.toNat):=λa b ha hb=>by
 have e':j'.toNat=j.toNat+1:=aW
 rw[h a b ha hb,e'];unfold sel;by_cases hc:a=i.toNat/\b=j.toNat
 .rw [aw O,aq O,hc.1,hc.2,hv]
 by_cases h1:a<i.toNat\/(a=i.toNat/\b<j.toNat)
 .rw [aq h1,aq O]
 rw[aw h1,aw O]
def Q2{n:Nat}{m:List (List Bool)}{f g:Nat->Nat->Bool}{i i' j:Int}(h:MK n m (sel f g i.toNat j.toNat))(h0:0<=i)(hj:(n:Int)<=j)(hi:i'=i+1):MK n m (sel f g i'.toNat (0:Int).toNat):=λa b ha hb=>by
 have e':i'.toNat=i.toNat+1:=aW
 rw[h a b ha hb,e'];unfold sel;by_cases h1:a<i.toNat\/(a=i.toNat/\b<j.toNat)
 .rw [aq h1,aq O]
 rw[aw h1,aw (by show ¬(a<i.toNat+1\/(a=i.toNat+1/\b<0));omega)]
def Q4{n:Nat}{m:List (List Bool)}{f g:Nat->Nat->Bool}{i:Int}(h:MK n m (sel f g i.toNat (0:Int).toNat))(hi:(n:Int)<=i):MK n m f:=λa b ha hb=>by rw[h a b ha hb];unfold sel;rw[aq (.inl O)]
def MK_0{n:Nat}{m:List (List Bool)}{f g:Nat->Nat->Bool}(h:MK n m g):MK n m (sel f g (0:Int).toNat (0:Int).toNat):=λa b ha hb=>by rw[h a b ha hb];unfold sel;rw[aw (by show ¬(a<0\/(a=0/\b<0));omega)]
def Zfc{n:Nat}{m z:List (List Bool)}{f:Nat->Nat->Bool}{i:Int}{y:List Bool}{q p1 p2:Prop}(h:MK n m (sel f (λ_ _=>false) i.toNat (0:Int).toNat))(e:p1/\p2/\z=m.set i.toNat y)(hy:q/\∀e,e∈y->e=false):MK n z (sel f (λ_ _=>false) i.toNat (0:Int).toNat):=λa b ha hb=>by
 have:=h a b ha hb;obtain⟨_,_,e⟩:=e;subst e;by_cases hc:a=i.toNat
 .subst hc;unfold sel;rw[aw (by show ¬(i.toNat<i.toNat\/(i.toNat=i.toNat/\b<0));omega)];unfold mE;rw[List.getElem?_set_self'];cases hm:m[i.toNat]? with
  |none=>rfl
  |some q=>
   show(y[b]?).getD false=false;cases hq:y[b]? with
   |none=>rfl
   |some c=>exact hy.2 c (bF hq)
 unfold mE at *;rw[gG (λe=>hc e.symm)];exact this
def Zfd{n:Nat}{m:List (List Bool)}{f:Nat->Nat->Bool}{q:Prop}(h:q/\∀e,e∈m->e=[]):MK n m (sel f (λ_ _=>false) (0:Int).toNat (0:Int).toNat):=MK_0 λa b _ _=>by
 unfold mE;cases hm:m[a]? with
 |none=>rfl
 |some q=>rw[h.2 q (bF hm)];rfl
def Z2e{α β:Type}{f:β->α->β}{a z:β}{l:List α}{v w:Int}{x:α}(hx:l[v.toNat]?=some x)(h0:0<=v)(hw:w=v+1)(h:z=(l.take v.toNat).foldl f a):f z x=(l.take w.toNat).foldl f a:=by rw[dG hx h0 hw,xn,<- h];rfl
def Ah{α β:Type}{f:β->α->β}{a z:β}{l:List α}{v:Int}(h:z=(l.take v.toNat).foldl f a)(hv:(l.length:Int)<=v):z=l.foldl f a:=by rw[h,c9 O]
def elF(out:List Int)(i:Int):List Int:=if 0<=i/\i∉out then out++[i]else out
def elV(l:List Int):List Int:=l.foldl elF []
def VW(l:List Int):∀out:List Int,out.Nodup->(l.foldl elF out).Nodup/\∀x,x∈l.foldl elF out↔x∈out\/(x∈l/\0<=x):=by
 induction l with
 |nil=>intro out h;exact⟨h,λx=>by simp⟩
 |cons a l ih=>
  intro out h;rw[jL];by_cases hc:0<=a/\a∉out
  .have e:elF out a=out++[a]:=aq hc;rw[e];obtain⟨h1,h2⟩:=ih (out++[a]) (Ax h hc.2);refine⟨h1,λx=>?_⟩;rw[h2 x,b9,dU,cf];constructor
   .rintro ((h|rfl)|h)
    .exact .inl h
    .exact .inr ⟨.inl rfl,hc.1⟩
    exact .inr ⟨.inr h.1,h.2⟩
   rintro(h|⟨rfl|h,g⟩)
   .exact .inl (.inl h)
   .exact .inl (.inr rfl)
   exact .inr ⟨h,g⟩
  have e:elF out a=out:=aw hc;rw[e];obtain⟨h1,h2⟩:=ih out h;refine⟨h1,λx=>?_⟩;rw[h2 x,cf];constructor
  .rintro (h|h)
   .exact .inl h
   exact .inr ⟨.inr h.1,h.2⟩
  rintro(h|⟨rfl|h,g⟩)
  .exact .inl h
  .exact .inl (jd λhn=>hc ⟨g,hn⟩)
  exact .inr ⟨h,g⟩
def DN(l:List Int):(elV l).Nodup:=(VW l [] ml).1
def m7{l:List Int}{x:Int}:x∈elV l↔x∈l/\0<=x:=by have:=(VW l [] ml).2 x;unfold elV;simpa using this
def el_y{l out z:List Int}{v w x:Int}(hx:l[v.toNat]?=some x)(h:out=(l.take v.toNat).foldl elF [])(h0:0<=v)(hw:w=v+1)(hp:0<=x)(hn:x∉out)(hz:z=out++[x]):z=(l.take w.toNat).foldl elF []:=by rw[<- Z2e hx h0 hw h,hz];exact(aq ⟨hp,hn⟩).symm
def el_n{l out:List Int}{v w x:Int}(hx:l[v.toNat]?=some x)(h:out=(l.take v.toNat).foldl elF [])(h0:0<=v)(hw:w=v+1)(hp:x<0\/x∈out):out=(l.take w.toNat).foldl elF []:=by rw[<- Z2e hx h0 hw h];exact(aw λk=>hp.elim (λe=>by omega) k.2).symm
def RDL(l:List Int)(nd:Int->Int->Bool)(x:Int):Prop:=∀j,j∈l->j≠x->nd x j=true->Lds l (λp q=>nd p q=true) j x
noncomputable def rdB(l:List Int)(nd:Int->Int->Bool)(x:Int):Bool := @decide (RDL l nd x) (Classical.propDecidable _)
def tC{l:List Int}{nd:Int->Int->Bool}{x:Int}(h:RDL l nd x):rdB l nd x=true:=by unfold rdB;exact @bd _ (Classical.propDecidable _) h
def xK{l:List Int}{nd:Int->Int->Bool}{x:Int}(h:¬RDL l nd x):rdB l nd x=false:=by unfold rdB;exact @bl _ (Classical.propDecidable _) h
noncomputable def rdV(l:List Int)(nd:Int->Int->Bool):List Int:=l.filter (rdB l nd)
def stp(st:List Int)(i:Int):Int:=st[i.toNat]?.getD 0
def nxF(st:List Int)(b i:Int):Int:=if b<0\/stp st i<stp st b\/(stp st i=stp st b/\i<b)then i else b
noncomputable def nxV(left st:List Int)(nd:Int->Int->Bool):Int:=(rdV (elV left) nd).foldl (nxF st) (-1)
def Lds.cong{l:List Int}{N M:Int->Int->Prop}(h:∀x y,x∈l->y∈l->(N x y↔M x y)){x y:Int}(hx:x∈l)(g:Lds l N x y):Lds l M x y:=by refine(g (λz=>z∈l/\Lds l M x z) (λz hz hn=>⟨hz,.one hz ((h x z hx hz).1 hn)⟩) (λw z ⟨hw,k⟩ hz hn=>⟨hz,k.trans (.one hz ((h w z hw hz).1 hn))⟩)).2
def Zjm{l:List Int}{nd md:Int->Int->Bool}(h:∀x y,x∈l->y∈l->nd x y=md x y):rdV l nd=rdV l md:=by
 unfold rdV;refine List.filter_congr λx hx=>?_;have:RDL l nd x↔RDL l md x:=⟨λk j hj hne hb=>(k j hj hne (by rw[h x j hx hj];exact hb)).cong (λa b ha hb=>by rw[h a b ha hb]) hj,λk j hj hne hb=>(k j hj hne (by rw[<- h x j hx hj];exact hb)).cong (λa b ha hb=>by rw[h a b ha hb]) hj⟩;by_cases hc:RDL l nd x
 .rw [tC hc,tC (this.1 hc)]
 rw[xK hc,xK λk=>hc (this.2 k)]
def Zjn{l:List Int}{nd:Int->Int->Bool}(hn:l.Nodup)(hl:l≠[]):∃i,i∈rdV l nd:=by
 classical
 obtain⟨i,hi,h⟩:=ZbI (N:=λp q=>nd p q=true) (R:=λi=>l.filter λy=>decide (Lds l (λp q=>nd p q=true) i y)) hl (λi hi=>by
  have e:∀y,y∈(l.filter λy=>decide (Lds l (λp q=>nd p q=true) i y))↔y∈l/\Lds l (λp q=>nd p q=true) i y:=λy=>by rw[iJ];simp
  exact⟨hn.filter _,λx hx=>((e x).1 hx).1,λx hx hb=>(e x).2 ⟨hx,.one hx hb⟩,λy hy x hx hb=>(e x).2 ⟨hx,((e y).1 hy).2.trans (.one hx hb)⟩,λS a b x hx=>((e x).1 hx).2 S a b⟩)
 refine⟨i,iJ.2 ⟨hi,tC λj hj hne hb=>?_⟩⟩;have:=h j hj hne hb;rw[iJ]at this;simpa using this.2
def VX{st:List Int}:∀(l:List Int) (b:Int),(∀x,x∈l->0<=x)->(b<0/\l=[]/\l.foldl (nxF st) b=b)\/((l≠[]\/0<=b)/\0<=l.foldl (nxF st) b/\(l.foldl (nxF st) b∈l\/l.foldl (nxF st) b=b))
 |[],b,_=>by
  by_cases h:b<0
  .exact .inl ⟨h,rfl,rfl⟩
  exact .inr ⟨.inr O,by show 0<=b;omega,.inr rfl⟩
 |a::l,b,h=>by
  right;rw[jL];have ha:=h a ax;have hc:nxF st b a=a\/(nxF st b a=b/\0<=b):=by
   unfold nxF;split
   .exact .inl rfl
   exact .inr ⟨rfl,by omega⟩
  have h0:0<=nxF st b a:=by rcases hc with e|⟨e,g⟩<;>omega
  rcases VX (st:=st) l (nxF st b a) (λx hx=>h x (bW _ hx))with⟨k,_⟩|⟨_,k1,k2⟩
  .omega
  refine⟨.inl ax,k1,?_⟩;rcases k2 with k|k
  .exact .inl (bW _ k)
  rw[k];rcases hc with e|⟨e,_⟩
  .rw [e];exact .inl ax
  exact .inr e
def VY{left st:List Int}{nd:Int->Int->Bool}(h:∃x,x∈left/\0<=x):nxV left st nd∈left/\0<=nxV left st nd:=by
 obtain⟨x,hx,h0⟩:=h;have hne:elV left≠[]:=λe=>by have:=m7.2 ⟨hx,h0⟩;rw[e]at this;cases this
 obtain⟨i,hi⟩:=Zjn (nd:=nd) (DN left) hne;have hsub:∀y,y∈rdV (elV left) nd->y∈left/\0<=y:=λy hy=>m7.1 (iJ.1 hy).1;unfold nxV;rcases VX (st:=st) (rdV (elV left) nd) (-1) (λy hy=>(hsub y hy).2)with⟨_,k,_⟩|⟨_,k1,k2⟩
 .rw [k]at hi;cases hi
 rcases k2 with k|k
 .exact⟨(hsub _ k).1,k1⟩
 omega
def AU{left st:List Int}{nd md:Int->Int->Bool}(h:∀x y,x∈left->y∈left->0<=x->0<=y->nd x y=md x y):nxV left st nd=nxV left st md:=by unfold nxV;rw[Zjm λx y hx hy=>h x y (m7.1 hx).1 (m7.1 hy).1 (m7.1 hx).2 (m7.1 hy).2]
def nx_y{l st:List Int}{b x v w:Int}(hx:l[v.toNat]?=some x)(h:b=(l.take v.toNat).foldl (nxF st) (-1))(h0:0<=v)(hw:w=v+1)(hc:b<0\/stp st x<stp st b\/(stp st x=stp st b/\x<b)):x=(l.take w.toNat).foldl (nxF st) (-1):=by rw[<- Z2e hx h0 hw h];exact(aq hc).symm
def nx_n{l st:List Int}{b x v w:Int}(hx:l[v.toNat]?=some x)(h:b=(l.take v.toNat).foldl (nxF st) (-1))(h0:0<=v)(hw:w=v+1)(hc:¬(b<0\/stp st x<stp st b\/(stp st x=stp st b/\x<b))):b=(l.take w.toNat).foldl (nxF st) (-1):=by rw[<- Z2e hx h0 hw h];exact(aw hc).symm
def Zfb{l:List Int}{nd:List (List Bool)}{a b x y:Int}{r:Bool}(ha:l[a.toNat]?=some x)(hb:l[b.toNat]?=some y)(h:0<=x->0<=y->r=nB nd x y)(hp:POS l):r=eB l nd a.toNat b.toNat:=by unfold eB;rw[ha,hb];exact h (hp x (bF ha)) (hp y (bF hb))
def ZeT{n:Nat}{m:List (List Bool)}{e:Nat->Nat->Bool}(h:MK n m e):MK n m (kB e (0:Int).toNat):=h
def ZeU{n:Nat}{m:List (List Bool)}{e:Nat->Nat->Bool}{g:Nat->Nat->Bool}{v w i:Int}(h:MK n m (sel (kB e (v.toNat+1)) g i.toNat (0:Int).toNat))(hi:(n:Int)<=i)(h0:0<=v)(hw:w=v+1):MK n m (kB e w.toNat):=by
 have:w.toNat=v.toNat+1:=aW
 rw[this];exact Q4 h hi
def V0{e:Nat->Nat->Bool}{m i j a:Nat}:sel (kB e (m+1)) (kB e m) i j a m=kB e m a m:=by
 unfold sel;split
 .exact VS e m a
 rfl
def V1{e:Nat->Nat->Bool}{m i j b:Nat}:sel (kB e (m+1)) (kB e m) i j m b=kB e m m b:=by
 unfold sel;split
 .exact VT e m b
 rfl
def wm_y{n:Nat}{M:List (List Bool)}{e:Nat->Nat->Bool}{m i j m' i':Int}{ra rm:List Bool}{x y:Bool}(h:MK n M (sel (kB e (m.toNat+1)) (kB e m.toNat) i.toNat j.toNat))(hx:ra[m'.toNat]?=some x)(ha:M[i'.toNat]?=some ra)(hm:M[m'.toNat]?=some rm)(hy:rm[j.toNat]?=some y)(em:m'=m)(ei:i'=i)(h0:0<=i)(g0:0<=j)(m0:0<=m)(h1:i<n)(g1:j<n)(m1:m<n)(ex:x=true)(ey:y=true):true=kB e (m.toNat+1) i'.toNat j.toNat:=by subst em;subst ei;have a:=(tz ha hx).trans (h i'.toNat m'.toNat O O);have b:=(tz hm hy).trans (h m'.toNat j.toNat O O);rw[V0]at a;rw[V1]at b;show true=(kB e m'.toNat i'.toNat j.toNat||(kB e m'.toNat i'.toNat m'.toNat&&kB e m'.toNat m'.toNat j.toNat));rw[<- a,<- b,ex,ey];simp
def wm_a{n:Nat}{M:List (List Bool)}{e:Nat->Nat->Bool}{m i j m' i':Int}{ra:List Bool}{x:Bool}(h:MK n M (sel (kB e (m.toNat+1)) (kB e m.toNat) i.toNat j.toNat))(hx:ra[m'.toNat]?=some x)(ha:M[i'.toNat]?=some ra)(em:m'=m)(ei:i'=i)(h0:0<=i)(m0:0<=m)(h1:i<n)(m1:m<n)(ex:x=false):kB e (m.toNat+1) i.toNat j.toNat=kB e m.toNat i.toNat j.toNat:=by subst em;subst ei;have a:=(tz ha hx).trans (h i'.toNat m'.toNat O O);rw[V0]at a;show(kB e m'.toNat i'.toNat j.toNat||(kB e m'.toNat i'.toNat m'.toNat&&kB e m'.toNat m'.toNat j.toNat))=_;rw[<- a,ex];simp
def wm_b{n:Nat}{M:List (List Bool)}{e:Nat->Nat->Bool}{m i j m':Int}{rm:List Bool}{y:Bool}(h:MK n M (sel (kB e (m.toNat+1)) (kB e m.toNat) i.toNat j.toNat))(hm:M[m'.toNat]?=some rm)(hy:rm[j.toNat]?=some y)(em:m'=m)(g0:0<=j)(m0:0<=m)(g1:j<n)(m1:m<n)(ey:y=false):kB e (m.toNat+1) i.toNat j.toNat=kB e m.toNat i.toNat j.toNat:=by subst em;have b:=(tz hm hy).trans (h m'.toNat j.toNat O O);rw[V1]at b;show(kB e m'.toNat i.toNat j.toNat||(kB e m'.toNat i.toNat m'.toNat&&kB e m'.toNat m'.toNat j.toNat))=_;rw[<- b,ey];simp
def V2(l:List Int):POS (elV l):=λ_ h=>(m7.1 h).2
def ixI(l:List Int)(x:Int):Int:=if x∈l then(l.idxOf x:Int)else-1
def Rx{l:List Int}{x v:Int}(h:∀(k:Nat) y,(k:Int)<v->l[k]?=some y->y≠x)(hx:l[v.toNat]?=some x)(h0:0<=v):v=ixI l x:=by
 have hm:=bF hx;have hl:=(aJ.1 hx).1;have g1:=List.idxOf_lt_length_iff.2 hm;have g2:l[l.idxOf x]?=some x:=by rw[bg g1,List.getElem_idxOf g1]
 unfold ixI;rw[aq hm];rcases nh (l.idxOf x) v.toNat with k|k|k
 .exact absurd rfl (h _ x O g2)
 .omega
 have:=List.not_of_lt_findIdx (p:=(· == x)) (xs:=l) (i:=v.toNat) (by exact k);rw[(aJ.1 hx).2]at this;simp at this
def Zfm{l:List Int}{x v:Int}(h:∀(k:Nat) y,(k:Int)<v->l[k]?=some y->y≠x)(hv:(l.length:Int)<=v) : -1=ixI l x:=by unfold ixI;rw[aw λhm=>by obtain⟨k,hk⟩:=List.mem_iff_getElem?.1 hm;have:=(aJ.1 hk).1;exact h k x O hk rfl]
def ldV(l:List Int)(m:List (List Bool))(i j:Int):Bool:=decide (0<=ixI l i)&&(decide (0<=ixI l j)&&mE m (ixI l i).toNat (ixI l j).toNat)
def ld_y{l:List Int}{m:List (List Bool)}{i j a b:Int}{y:List Bool}{v:Bool}(ha:a=ixI l i)(hb:b=ixI l j)(h0:a>=0)(g0:b>=0)(hm:m[a.toNat]?=some y)(hy:y[b.toNat]?=some v):v=ldV l m i j:=by subst ha;subst hb;unfold ldV;rw[bd (show 0<=ixI l i from h0),bd (show 0<=ixI l j from g0),<- tz hm hy];rfl
def ld_a{l:List Int}{m:List (List Bool)}{i j a:Int}(ha:a=ixI l i)(h0:¬a>=0):false=ldV l m i j:=by subst ha;unfold ldV;rw[bl (show ¬0<=ixI l i from h0)];rfl
def ld_b{l:List Int}{m:List (List Bool)}{i j b:Int}(hb:b=ixI l j)(h0:¬b>=0):false=ldV l m i j:=by subst hb;unfold ldV;rw[bl (show ¬0<=ixI l j from h0)];simp
def wtP(nd:List (List Bool))(c:List Int×List (List Bool))(i j:Int):Bool:=(j != i)&&(nB nd i j && !ldV c.1 c.2 j i)
def V3{l:List Int}{x:Int}(hx:x∈l):l[(ixI l x).toNat]?=some x/\0<=ixI l x:=by have g1:=List.idxOf_lt_length_iff.2 hx;unfold ixI;rw[aq hx,lC,bg g1,List.getElem_idxOf g1];exact⟨rfl,by omega⟩
def V4{l:List Int}{m:List (List Bool)}{nd:List (List Bool)}(hl:l.Nodup)(h:MK l.length m (kB (eB l nd) l.length)){i j:Int}(hi:i∈l)(hj:j∈l):ldV l m i j=true↔Lds l (λp q=>nB nd p q=true) i j:=by obtain⟨h1,h2⟩:=V3 hi;obtain⟨g1,g2⟩:=V3 hj;unfold ldV;rw[bd h2,bd g2,h _ _ (aJ.1 h1).1 (aJ.1 g1).1];simp only[fy];exact Zjl hl h1 g1
def Zjo{l:List Int}{m:List (List Bool)}{nd:List (List Bool)}{i:Int}{c:Bool}(hl:l.Nodup)(h:MK l.length m (kB (eB l nd) l.length))(hi:i∈l)(hc:c=true↔∃j,j∈l/\wtP nd (l,m) i j=true):rdB l (nB nd) i = !c:=by
 have key:(∃j,j∈l/\wtP nd (l,m) i j=true)↔¬RDL l (nB nd) i:=by
  constructor
  .rintro ⟨j,hj,hw⟩ hr;unfold wtP at hw;simp only[aN,bne_iff_ne,ne_eq,dy]at hw;have:=(V4 hl h hj hi).2 (hr j hj hw.1 hw.2.1);rw[hw.2.2]at this;cases this
  intro hr;refine jd λhn=>hr λj hj hne hb=>?_;refine jd λhd=>hn ⟨j,hj,?_⟩;unfold wtP;have:ldV l m j i=false:=by
   cases hb:ldV l m j i with
   |false=>rfl
   |true=>exact absurd ((V4 hl h hj hi).1 hb) hd
  rw[this,hb];simp[hne]
 cases hcc:c with
 |true=>exact xK (key.1 (hc.1 hcc))
 |false=>exact tC (jd λhn=>by rw[hc.2 (key.2 hn)]at hcc;cases hcc)
def el_y'{l out z:List Int}{v w x:Int}{c:Bool}(hx:l[v.toNat]?=some x)(h:out=(l.take v.toNat).foldl elF [])(h0:0<=v)(hw:w=v+1)(hp:0<=x)(hc:c=true↔x∈out)(hb:c=false)(hz:z=out++[x]):z=(l.take w.toNat).foldl elF []:=el_y hx h h0 hw hp (λhm=>by rw[hc.2 hm]at hb;cases hb) hz
def el_n'{l out:List Int}{v w x:Int}{c:Bool}(hx:l[v.toNat]?=some x)(h:out=(l.take v.toNat).foldl elF [])(h0:0<=v)(hw:w=v+1)(hc:c=true↔x∈out)(hb:c=true):out=(l.take w.toNat).foldl elF []:=el_n hx h h0 hw (.inr (hc.1 hb))
def ixc{l:List Int}{a x:Int}(h:x=ixI l a):decide (x>=0)=true↔a∈l:=by
 subst h;unfold ixI;split
 .rename_i h;simp[h]
 rename_i h;simp[h]
def ZiU{m:List (List Bool)}{e:Nat->Nat->Bool}{v w:Int}{k:Nat}(h:MK v.toNat m (kB e w.toNat))(e1:v=k)(h1:w<=v)(h2:v<=w):MK k m (kB e k):=by
 have a:v.toNat=k:=aW
 have b:w.toNat=k:=aW
 rw[a,b]at h;exact h
def R4{a b:List Int}(h:b=elV a):POS b:=by rw[h];exact V2 a
def FX(l:List Int)(p:Int->Bool)(r:Int):Prop:=decide (r>=0)=true↔∃x,x∈l/\p x=true
def fx_y{l:List Int}{p:Int->Bool}{v x:Int}(hx:l[v.toNat]?=some x)(h0:0<=v)(hp:p x=true):FX l p v:=⟨λ_=>⟨x,bF hx,hp⟩,λ_=>bd h0⟩
def fx_n{l:List Int}{p:Int->Bool}{v:Int}(h:∀(k:Nat) y,(k:Int)<v->l[k]?=some y->p y=false)(hv:(l.length:Int)<=v):FX l p (-1):=⟨λk=>absurd k bE,λ⟨x,hx,hp⟩=>by obtain⟨k,hk⟩:=List.mem_iff_getElem?.1 hx;have:=(aJ.1 hk).1;rw[h k x O hk]at hp;cases hp⟩
def rd_c{a l v5:List Int}{b1:List Int×List (List Bool)}{nd0 nd:List (List Bool)}{x v:Int}{y:Bool×Int×List (List Bool)×(List Int×List (List Bool))}(hc:y.1=true↔∃j,j∈v5/\wtP nd0 b1 x j=true)(ey:y.2=(x,nd0,b1))(hx:l[v.toNat]?=some x)(e1:b1.1=l)(e2:nd0=nd)(e3:v5=l)(hl:l=elV a)(h:MK l.length b1.2 (kB (eB l nd) l.length)):rdB l (nB nd) y.2.1 = !y.1:=by subst e1;subst e2;subst e3;rw[ey];exact Zjo (by rw[hl];exact DN a) h (bF hx) hc
def nx_e{left st l:List Int}{N:Int->Int->Bool}{v w:Int}(h:v=(l.take w.toNat).foldl (nxF st) (-1))(e:l=rdV (elV left) N)(hw:(l.length:Int)<=w):v=nxV left st N:=by rw[Ah h hw,e];rfl
end Go.PW
set_option maxRecDepth 100000
namespace Go.PW
def zfm{α β:Type}(p:Int->α->Bool)(f:Int->α->β)(l:List α)(v:Int):List β:=((l.take v.toNat).zipIdx.filter λq=>p q.2 q.1).map λq=>f q.2 q.1
def DO{α β:Type}{p:Int->α->Bool}{f:Int->α->β}{l:List α}{v w:Int}{x:α}(hx:l[v.toNat]?=some x)(h0:0<=v)(hw:w=v+1):zfm p f l w=zfm p f l v++if p v x then[f v x]else[]:=by
 subst hw;have hv:(v+1).toNat=v.toNat+1:=aW
 have hlt:=(aJ.1 hx).1;have e:((v.toNat:Nat):Int)=v:=j7 h0;unfold zfm;rw[hv,j3,hx,nR,List.zipIdx_append,iI,fi];congr 1;rw[eT,oE O,aM];simp only[vK,List.zipIdx_nil,gK,rR,e];split
 .simp only[cd,fP,e]
 rfl
def wN{α β:Type}{p:Int->α->Bool}{f:Int->α->β}{l:List α}:[]=zfm p f l 0:=by simp[zfm]
def Ck{α β:Type}{p:Int->α->Bool}{f:Int->α->β}{l:List α}{a z:List β}{v w:Int}{x:α}{y:β}(hx:l[v.toNat]?=some x)(ha:a=zfm p f l v)(h0:0<=v)(hw:w=v+1)(hz:z=a++[y])(hp:p v x=true)(hy:y=f v x):z=zfm p f l w:=by rw[DO hx h0 hw,aq hp,hz,ha,hy]
def Cm{α β:Type}{p:Int->α->Bool}{f:Int->α->β}{l:List α}{a:List β}{v w:Int}{x:α}(hx:l[v.toNat]?=some x)(ha:a=zfm p f l v)(h0:0<=v)(hw:w=v+1)(hp:p v x=false):a=zfm p f l w:=by rw[DO hx h0 hw,hp,ha];simp
def m8{α β:Type}{p:Int->α->Bool}{f:Int->α->β}{l:List α}{a:List β}{v:Int}(ha:a=zfm p f l v)(hv:(l.length:Int)<=v):a=zfm p f l l.length:=by rw[ha];unfold zfm;rw[c9 (show l.length<=v.toNat by omega),c9 (show l.length<=((l.length:Int)).toNat by omega)]
def NH{α β:Type}{p:Int->α->Bool}{f:Int->α->β}{l:List α}{y:β}:y∈zfm p f l l.length↔∃(k:Nat) (x:α),l[k]?=some x/\p k x=true/\y=f k x:=by
 unfold zfm;rw[c9 (show l.length<=((l.length:Int)).toNat by omega)];simp only[iH,iJ,Prod.exists];constructor
 .rintro ⟨x,k,⟨h1,h2⟩,rfl⟩;exact⟨k,x,List.mem_zipIdx_iff_getElem?.1 h1,h2,rfl⟩
 rintro⟨k,x,h1,h2,rfl⟩;exact⟨x,k,⟨List.mem_zipIdx_iff_getElem?.2 h1,h2⟩,rfl⟩
def AQ{α:Type}{p:Int->α->Bool}{l:List α}{v:Int}:(zfm p (λk _=>k) l v).Nodup:=by
 have key:∀n:Nat,n<=l.length->(zfm p (λk _=>k) l n).Nodup/\∀y,y∈zfm p (λk _=>k) l n->y<n:=by
  intro n;induction n with
  |zero=>intro _;rw[show((0:Nat):Int)=0 from rfl,<- wN];exact⟨ml,λy h=>by cases h⟩
  |succ n ih=>
   intro hn;obtain⟨h1,h2⟩:=ih O;have hx:=bg (show(n:Int).toNat<l.length by omega);rw[DO (w:=((n+1:Nat):Int)) hx O O];split
   .refine⟨Ax h1 λhm=>by have:=h2 _ hm;omega,λy hy=>?_⟩;rcases b9.1 hy with h|h
    .have:=h2 y h;omega
    rw[dU]at h;omega
   rw[cV];exact⟨h1,λy hy=>by have:=h2 y hy;omega⟩
 by_cases hv:v.toNat<=l.length
 .have:=(key v.toNat hv).1;by_cases h0:0<=v
  .rwa [j7 h0]at this
  have e:v.toNat=0:=aW
  unfold zfm;rw[e];exact ml
 have:=(key l.length (bh _)).1;unfold zfm at *;rwa[c9 (show l.length<=((l.length:Int)).toNat by omega),<- c9 (show l.length<=v.toNat by omega)]at this
def Zjp{α β:Type}{f g:Nat->α->β}{l:List α}{z z':List β}{k:Nat}{y:β}(h:z=l.mapIdx f)(e:z'=z.set k y)(hf:∀j x,l[j]?=some x->g j x=if j=k then y else f j x):z'=l.mapIdx g:=by
 subst h;subst e;refine gq λj=>?_;rw[vI,dI,List.length_mapIdx,dI];cases hx:l[j]? with
 |none=>
  have:=rX.1 hx;split
  .rw [aw O];rfl
  rfl
 |some x=>
  have hl:=(aJ.1 hx).1;rw[Option.map_some,Option.map_some,hf j x hx];by_cases hk:k=j
  .subst hk;rw[aq rfl,aq hl,aq rfl]
  rw[aw hk,aw λe=>hk e.symm]
def DP{α β:Type}{f g:Nat->α->β}{l:List α}{z:List β}(h:z=l.mapIdx f)(hf:∀j x,l[j]?=some x->g j x=f j x):z=l.mapIdx g:=by
 subst h;refine gq λj=>?_;rw[dI,dI];cases hx:l[j]? with
 |none=>rfl
 |some x=>rw[Option.map_some,Option.map_some,hf j x hx]
def bZ{α β:Type}(g:Nat->α->β)(d:Nat->α->β)(v:Int)(j:Nat)(x:α):β:=if(j:Int)<v then g j x else d j x
def wP{α β:Type}{g d:Nat->α->β}{l:List α}{z z':List β}{v w:Int}{x:α}{y:β}(hx:l[v.toNat]?=some x)(h:z=l.mapIdx (bZ g d v))(h0:0<=v)(hw:w=v+1)(e:z'=z.set v.toNat y)(hy:y=g v.toNat x):z'=l.mapIdx (bZ g d w):=Zjp h e λj q hq=>by
 unfold bZ;by_cases hj:j=v.toNat
 .subst hj;rw[aq rfl,aq O,hy,cF (hq.symm.trans hx)]
 rw[aw hj];by_cases hk:(j:Int)<v
 .rw [aq hk,aq O]
 rw[aw hk,aw O]
def sC{α β:Type}{g d:Nat->α->β}{l:List α}{z:List β}{v w:Int}{x:α}(hx:l[v.toNat]?=some x)(h:z=l.mapIdx (bZ g d v))(h0:0<=v)(hw:w=v+1)(hy:d v.toNat x=g v.toNat x):z=l.mapIdx (bZ g d w):=DP h λj q hq=>by
 unfold bZ;by_cases hj:j=v.toNat
 .subst hj;rw[aq O,aw O,cF (hq.symm.trans hx),hy]
 by_cases hk:(j:Int)<v
 .rw [aq hk,aq O]
 rw[aw hk,aw O]
def xL{α β:Type}{g d:Nat->α->β}{l:List α}{z:List β}{v:Int}(h:z=l.mapIdx (bZ g d v))(hv:(l.length:Int)<=v):z=l.mapIdx g:=DP h λj q hq=>by have:=(aJ.1 hq).1;unfold bZ;rw[aq O]
def up_0{α β:Type}{g d:Nat->α->β}{l:List α}{z:List β}(h:z=l.mapIdx d):z=l.mapIdx (bZ g d 0):=DP h λj q _=>by unfold bZ;rw[aw O]
def dm{α:Type}(g:α->α)(l:List α)(k:Int):List α:=match l[k.toNat]? with|some t=>l.set k.toNat (g t)|none=>l
def V5{α:Type}{g:α->α}{l:List α}{k:Int}(h:∀t,g t=t):l=dm g l k:=by
 unfold dm;cases hx:l[k.toNat]? with
 |none=>rfl
 |some t=>show l=l.set k.toNat (g t);rw[h t,xM hx]
def V6{α:Type}{g g':α->α}{l z z':List α}{k:Int}{x y:α}(h:z=dm g l k)(hx:z[k.toNat]?=some x)(e:z'=z.set k.toNat y)(hg:∀t,x=g t->y=g' t):z'=dm g' l k:=by
 subst h;subst e;unfold dm at *;cases ht:l[k.toNat]? with
 |none=>rw[ht]at hx;simp only at hx;rw[ht]at hx;cases hx
 |some t=>
  rw[ht]at hx;simp only at hx⊢;rw[ja (aJ.1 ht).1]at hx;rw[List.set_set,hg t (cF hx).symm]
def Zjq{α:Type}{g:α->α}{l:List α}{k:Int}{j:Nat}:(dm g l k)[j]?=if j=k.toNat then l[j]?.map g else l[j]?:=by
 unfold dm;by_cases hj:j=k.toNat
 .subst hj;rw[aq rfl];cases ht:l[k.toNat]? with
  |none=>show l[k.toNat]?=_;rw[ht];rfl
  |some t=>show(l.set k.toNat (g t))[k.toNat]?=_;rw[ja (aJ.1 ht).1];rfl
 rw[aw hj];cases ht:l[k.toNat]? with
 |none=>rfl
 |some t=>show(l.set k.toNat (g t))[j]?=_;rw[gG λe=>hj e.symm]
def AS{α:Type}{g:α->α}:∀(ks:List Int) (l:List α),(∀k,k∈ks->0<=k)->ks.Nodup->ks.foldl (dm g) l=l.mapIdx λj x=>if(j:Int)∈ks then g x else x
 |[],l,_,_=>by
  refine gq λj=>?_;rw[dI];show l[j]?=_;cases l[j]? with
  |none=>rfl
  |some x=>simp
 |k::ks,l,h0,hn=>by
  have hk:=h0 k ax;obtain⟨h1,h2⟩:=vy.1 hn;rw[jL,AS ks _ (λj hj=>h0 j (bW _ hj)) h2];refine gq λj=>?_;rw[dI,dI,Zjq];by_cases hj:j=k.toNat
  .have e:(j:Int)=k:=by omega
   rw[aq hj,e];cases l[j]? with
   |none=>rfl
   |some x=>simp[h1]
  rw[aw hj];have e:(j:Int)≠k:=aW
  cases l[j]? with
  |none=>rfl
  |some x=>simp[e]
end Go.PW
