import Derived.Test.YtdjfkajcchcdkaaGreatQE
import Derived.Test.YtdjfkajcchcdkaaGreatPwYi
import Derived.Test.YtdjfkajcchcdkaaGreatQDd
import Derived.Test.YtdjfkajcchcdkaaGreatQSh
set_option linter.all false
set_option maxRecDepth 100000
namespace Go.PW
abbrev ur(x:bV):Prop:=(SzL 16 SzT) x.Subs
def XG{x:bV}(h:Z59 x):ur x:=(dS h.2.2 (λ_ h=>WV h))
abbrev ed(x:ai):Prop:=SzS x.Sub
def kv{x:ai}(h:iM x):ed x:=(tH h.2.2.2.2.2.2.2.1)
abbrev cc(x:ah):Prop:=SzS x.Sub/\ed x.Filter
def AZ{x:ah}(h:oy x):cc x:=⟨tH h.2.2.2.1,kv h.2.2.2.2⟩
abbrev uu(x:dM):Prop:=ed x.Filter
def XH{x:dM}(h:wC x):uu x:=(kv h.2.2)
abbrev iH(x:bz):Prop:=ed x.Filter
def XI{x:bz}(h:Z6a x):iH x:=(kv h.2.2)
abbrev qH(x:eu):Prop:=ed x.Filter
def XJ{x:eu}(h:Z9r x):qH x:=(kv h.2.2)
abbrev A0(x:de):Prop:=ed x.Filter
def XK{x:de}(h:wD x):A0 x:=(kv h.2.2.2)
abbrev cJ(x:aU):Prop:=qH x.Ref/\A0 x.Amount/\SzS x.Card/\ed x.Filter/\(SzL 176 cc) x.Mods
def XL{x:aU}(h:wE x):cJ x:=⟨XJ h.2.1,XK h.2.2.1,tH h.2.2.2.2.2.1,kv h.2.2.2.2.2.2.1,dS h.2.2.2.2.2.2.2.2 (λ_ h=>(AZ h))⟩
abbrev jG(x:cE):Prop:=ed x.Filter
def XM{x:cE}(h:wF x):jG x:=(kv h.2.2.1)
abbrev dn(x:ar):Prop:=ed x.Filter/\(SzL 176 cc) x.Mods/\uu x.Trigger/\(SzL 144 iH) x.Specs/\(SzL 560 cJ) x.Effects/\jG x.Replace
def A1{x:ar}(h:oz x):dn x:=⟨kv h.2.1,dS h.2.2.1 (λ_ h=>(AZ h)),XH h.2.2.2.2.2.1,dS h.2.2.2.2.2.2.2.1 (λ_ h=>(XI h)),dS h.2.2.2.2.2.2.2.2.1 (λ_ h=>(XL h)),XM h.2.2.2.2.2.2.2.2.2⟩
abbrev cR(x:Z1):Prop:=SzS x.Name/\ur x.Line/\(SzL 640 dn) x.Abilities
def Z75{x:Z1}(h:Eb x):cR x:=⟨tH h.1,XG h.2.2.2.2.1,dS h.2.2.2.2.2.2.2.2 (λ_ h=>(A1 h))⟩
abbrev eV(x:bS):Prop:=(SzL 8 (λ_=>True)) x.Library/\(SzL 8 (λ_=>True)) x.Hand/\(SzL 8 (λ_=>True)) x.Graveyard
def XN{x:bS}(h:wH x):eV x:=⟨dS h.2.2.2.2.2.2.1 (λ_ _=>trivial),dS h.2.2.2.2.2.2.2.1 (λ_ _=>trivial),dS h.2.2.2.2.2.2.2.2 (λ_ _=>trivial)⟩
abbrev cH(x:az):Prop:=dn x.Ability/\(SzL 16 (λ_=>True)) x.Targets
def wy{x:az}(h:Z6b x):cH x:=⟨A1 h.2.2.2.2.2.2.1,dS h.2.2.2.2.2.2.2.1 (λ_ _=>trivial)⟩
abbrev gW(x:bZ):Prop:=dn x.Ability
def XO{x:bZ}(h:wJ x):gW x:=(A1 h.2.2.1)
abbrev fI(x:cd):Prop:=(SzL 8 (λ_=>True)) x.Objects/\(SzL 176 cc) x.Mods
def XP{x:cd}(h:Z6c x):fI x:=⟨dS h.2.2.2.2.1 (λ_ _=>trivial),dS h.2.2.2.2.2 (λ_ h=>(AZ h))⟩
abbrev bc(x:ae):Prop:=(SzL 152 eV) x.Players/\(SzL 128 (λ_=>True)) x.Objects/\(SzL 8 (λ_=>True)) x.Battlefield/\(SzL 8 (λ_=>True)) x.Exile/\(SzL 824 cH) x.Stack/\(SzL 768 gW) x.Waiting/\(SzL 80 fI) x.Conts/\(SzL 8 (λ_=>True)) x.Extra
def Z4f{x:ae}(h:Ee x):bc x:=⟨dS h.1 (λ_ h=>(XN h)),dS h.2.1 (λ_ _=>trivial),dS h.2.2.1 (λ_ _=>trivial),dS h.2.2.2.1 (λ_ _=>trivial),dS h.2.2.2.2.1 (λ_ h=>(wy h)),dS h.2.2.2.2.2.1 (λ_ h=>(XO h)),dS h.2.2.2.2.2.2.1 (λ_ h=>(XP h)),dS h.2.2.2.2.2.2.2.2.2.2.2.2.2.2.2.2.1 (λ_ _=>trivial)⟩
def K5{a0:Int}:Tot (Z6x a0) (λr=>True):=by
 unfold Z6x;refine tZ ?_;dsimp only[u0,LT.den];refine tD (λh1=>?_) (λh1=>?_)
 .exact tR aa
 exact tR aa
def Z9w:je->Prop
 |.L0 v0 v3=>(SzT v0)/\(0<=v3)
 |.L1 v0 v3=>(SzT v0)/\(0<=v3)/\(v3<(v0.length:Int))/\(0<=v3)/\(v3<v0.length)
def tY:je->M6
 |.L0 v0 v3=>(1,((v0.length:Int)-v3).toNat,1000000,0,0,0)
 |.L1 v0 v3=>(1,((v0.length:Int)-v3).toNat,0,0,0,0)
def qI{v0:List UInt8}{v3:Int}(h:Z9w (.L1 v0 v3)):Tot (jd v0 v3).den (Nx Z9w tY (1,((v0.length:Int)-v3).toNat,0,0,0,0) (λr=>True)):=by
 obtain⟨ov0,cv3,bd2,i0,i1⟩:=h;have lb_v0:v0.length<=562949953421312:=ov0;dsimp only[jd,LT.den];refine tD (λh1=>?_) (λh1=>?_)
 .refine tB (tI O O) (λx2 h3=>?_);refine tE (λh4=>?_) (λh4=>?_)
  .refine qw (v3-1) λq5 q6=>?_;refine tB (tI O O) (λx7 h8=>?_);refine tE (λh9=>?_) (λh9=>?_)
   .exact tR aa
   refine qw (v3+1) λq10 q11=>?_;exact tL ⟨ov0,cl⟩ tW
  refine qw (v3+1) λq12 q13=>?_;exact tL ⟨ov0,cl⟩ tW
 refine qw (v3+1) λq14 q15=>?_;exact tL ⟨ov0,cl⟩ tW
def Z9x{a0:List UInt8}(oa0:SzT a0):Tot (nv a0) (λr=>True):=by
 unfold nv;refine tX (Inv:=Z9w) (μ:=tY) (m:=(1000000,0,0,0,0,0)) ?_ ?_
 .have lb_a0:a0.length<=562949953421312:=oa0;dsimp only[u1,LT.den];have q1:a0.length<=562949953421312:=oa0;refine tD (λh2=>?_) (λh2=>?_)
  .exact tR aa
  refine tD (λh3=>?_) (λh3=>?_)
  .exact tR aa
  refine tB (tI O O) (λx4 h5=>?_);refine tB (K5) (λx6 h7=>?_);refine tO (λh8=>?_) (λh8=>?_)
  .exact tR aa
  refine qw ((a0.length:Int)-1) λq9 q10=>?_;refine tB (tI O O) (λx11 h12=>?_);refine tE (λh13=>?_) (λh13=>?_)
  .exact tR aa
  exact tL ⟨oa0,cl⟩ tW
 intro s hs;cases s with
 |L0 v0 v3=>
  obtain⟨ov0,cv3⟩:=hs;have lb_v0:v0.length<=562949953421312:=ov0;show Tot (kJ v0 v3).den _;dsimp only[kJ,LT.den,tY];have q1:v0.length<=562949953421312:=ov0;refine tD (λh2=>?_) (λh2=>?_)
  .refine tB (tI O O) (λx3 h4=>?_);refine tB (K5) (λx5 h6=>?_);refine tO (λh7=>?_) (λh7=>?_)
   .refine tB (tI O O) (λx8 h9=>?_);refine tD (λh10=>?_) (λh10=>?_)
    .refine tB (tI O O) (λx11 h12=>?_);refine tN (λh13=>?_) (λh13=>?_)
     .exact tR aa
     exact tJ (qI ⟨ov0,cl,cl,cl,cl⟩)
    refine tB (tI O O) (λx14 h15=>?_);refine tD (λh16=>?_) (λh16=>?_)
    .refine tB (tI O O) (λx17 h18=>?_);refine tN (λh19=>?_) (λh19=>?_)
     .exact tR aa
     exact tJ (qI ⟨ov0,cl,cl,cl,cl⟩)
    exact tJ (qI ⟨ov0,cl,cl,cl,cl⟩)
   exact tJ (qI ⟨ov0,cl,cl,cl,cl⟩)
  exact tR aa
 |L1 _ _=>exact qI hs
def gN(n m:Int):Bool:=decide (n>=0)&&decide (n<=m)
def qJ(c:Z5):Bool:=gN c.Generic 99&&(gN c.X 2&&c.Color.list.all λn=>gN n 9)
def XQ(c:Z5):Z6y c=some (qJ c):=by
 unfold Z6y LF.run;dsimp only[yw,LT.den];have hl:cb iV.step (.L0 c 0)=some (c.Color.list.all λn=>gN n 9):=by
  have:=Z8x (st:=λi=>jA.L0 c (i:Int)) (step:=iV.step) (bad:=false) c.Color.list (λn=>gN n 9) (λi x hx=>by
   have hi:=(bj.1 hx).1;have hi:i<5:=hi;show(mR _ _).den=_;dsimp only[mR,LT.den];rw[bW O,jb hx,eS O O];simp only[aD,bO];unfold gN;by_cases h1:x<0
   .rw [bW h1,bY (show ¬x>=0 by omega)];rfl
   rw[bY h1,bW (show x>=0 by omega)];by_cases h2:x>9
   .rw [bW h2,bY (show ¬x<=9 by omega)];rfl
   rw[bY h2,bW (show x<=9 by omega)];rfl)
  rw[show(jA.L0 c 0) = .L0 c ((0:Nat):Int)from rfl,this];have he:cb iV.step (.L0 c ((c.Color.list.length:Nat):Int))=some true:=JS
  rw[he];cases c.Color.list.all λn=>gN n 9<;>rfl
 refine(cw λ_=>cw λ_=>cw λ_=>cw λ_=>(show Option.bind (some (Sum.inl (jA.L0 c 0))) (dV iV.step)=some (c.Color.list.all λn=>gN n 9)from hl)).trans ?_;congr 1;unfold qJ gN;rw[kK];simp only[aM,cY,nE,fF,kM,nF,nG];constructor
 .rintro ⟨h1,h2,h3,h4,h5⟩;exact⟨⟨h1,h2⟩,⟨h3,h4⟩,h5⟩
 rintro⟨⟨h1,h2⟩,⟨h3,h4⟩,h5⟩;exact⟨h1,h2,h3,h4,h5⟩
def Z9y(a0:Z5):Tot (Z6y a0) (λr=>(r=true->a0.X<=2)/\(r=true->∀n,n∈A5.list a0.Color->n<=9)/\(r=cosB a0)):=by
 refine⟨_,XQ a0,λh=>?_,λh n hn=>?_,?_⟩
 .simp only[qJ,gN,aM,fF]at h;exact h.2.1.2
 .simp only[qJ,gN,aM,fF,bH]at h;exact(h.2.2 n hn).2
 unfold qJ gN cosB;rw[kK];simp only[aM,fF,bH,kM];exact⟨λ⟨⟨h1,h2⟩,⟨h3,h4⟩,h5⟩=>⟨h1,h2,h3,h4,h5⟩,λ⟨h1,h2,h3,h4,h5⟩=>⟨⟨h1,h2⟩,⟨h3,h4⟩,h5⟩⟩
def XR:Tot (ny) (λr=>((SzL 16 SzN) r)/\(r.length=2)):=by unfold ny;refine tZ ?_;dsimp only[Z0e,LT.den];have q1:(SzL 16 SzN) ([([98,97,115,105,99]:List UInt8),([117,110,105,113,117,101]:List UInt8)]:List (List UInt8)):=⟨by simp only[bJ,bU];omega,mem_cons' aG (mem_cons' aG (λ_ h=>by cases h))⟩;have lq1:([([98,97,115,105,99]:List UInt8),([117,110,105,113,117,101]:List UInt8)]:List (List UInt8)).length=2:=rfl;exact tR ⟨q1,cl⟩
def XS:pn->Prop
 |.L0 v0 v1 v5=>((SzL 16 SzT) v0)/\(SzT v1)/\(0<=v5)
def Z2l:pn->M6
 |.L0 v0 v1 v5=>(1,((v0.length:Int)-v5).toNat,1000000,0,0,0)
def K6{a0:List (List UInt8)}{a1:List UInt8}(oa0:(SzL 16 SzT) a0)(oa1:SzT a1):Tot (nw a0 a1) (λr=>True):=by
 unfold nw;refine tX (Inv:=XS) (μ:=Z2l) (m:=(1000000,0,0,0,0,0)) ?_ ?_
 .have lb_a0:=oa0.1;have lb_a1:a1.length<=562949953421312:=oa1;dsimp only[Z4u,LT.den];exact tL ⟨oa0,oa1,cl⟩ KR
 intro s hs;cases s with
 |L0 v0 v1 v5=>
  obtain⟨ov0,ov1,cv5⟩:=hs;have lb_v0:=ov0.1;have lb_v1:v1.length<=562949953421312:=ov1;show Tot (kL v0 v1 v5).den _;dsimp only[kL,LT.den];have q1:=ov0.1;refine tD (λh2=>?_) (λh2=>?_)
  .refine tB (tI O O) (λx3 h4=>?_);have oh4:SzT x3:=ov0.2 x3 h4.1;refine tF (λh5=>?_) (λh5=>?_)
   .exact tR aa
   refine qw (v5+1) λq6 q7=>?_;exact tL ⟨ov0,ov1,cl⟩ KR
  exact tR aa
def K7:Tot (nz) (λr=>((SzL 16 SzN) r)/\(r.length=6)):=by unfold nz;refine tZ ?_;dsimp only[Z3i,LT.den];have q1:(SzL 16 SzN) ([([99,114,101,97,116,117,114,101]:List UInt8),([105,110,115,116,97,110,116]:List UInt8),([114,105,116,117,97,108]:List UInt8),([114,101,108,105,99]:List UInt8),([99,104,97,114,109]:List UInt8),([108,97,110,100]:List UInt8)]:List (List UInt8)):=⟨by simp only[bJ,bU];omega,mem_cons' aG (mem_cons' aG (mem_cons' aG (mem_cons' aG (mem_cons' aG (mem_cons' aG (λ_ h=>by cases h))))))⟩;have lq1:([([99,114,101,97,116,117,114,101]:List UInt8),([105,110,115,116,97,110,116]:List UInt8),([114,105,116,117,97,108]:List UInt8),([114,101,108,105,99]:List UInt8),([99,104,97,114,109]:List UInt8),([108,97,110,100]:List UInt8)]:List (List UInt8)).length=6:=rfl;exact tR ⟨q1,cl⟩
def A9{a0:List UInt8}(oa0:SzT a0):Tot (nx a0) (λr=>True):=by
 unfold nx;refine tZ ?_;have lb_a0:a0.length<=562949953421312:=oa0;dsimp only[Z4w,LT.den];refine tB (Z9x oa0) (λx1 h2=>?_);refine tF (λh3=>?_) (λh3=>?_)
 .refine tB (XR) (λx4 h5=>?_);have eh5_1:=h5.2;refine tB (K6 (SzL.nt h5.1) oa0) (λx6 h7=>?_);refine tD (λh8=>?_) (λh8=>?_)
  .refine tB (K7) (λx9 h10=>?_);have eh10_1:=h10.2;refine tB (K6 (SzL.nt h10.1) oa0) (λx11 h12=>?_);exact tR aa
  exact tR aa
 exact tR aa
def XT:po->Prop
 |.L0 v0 v1 v5=>(0<=v5)/\(v1<=100)
def Z9z:po->M6
 |.L0 v0 v1 v5=>(1,(v1-v5).toNat,1000000,0,0,0)
def Z6e{a0:Int}{a1:Int}(h0:a1<=100):Tot (yx a0 a1) (λr=>True):=by
 unfold yx;refine tX (Inv:=XT) (μ:=Z9z) (m:=(1000000,0,0,0,0,0)) ?_ ?_
 .dsimp only[G2,LT.den];exact tL ⟨cl,cl⟩ KH
 intro s hs;cases s with
 |L0 v0 v1 v5=>
  obtain⟨cv5,i0⟩:=hs;show Tot (Z83 v0 v1 v5).den _;dsimp only[Z83,LT.den];refine tD (λh1=>?_) (λh1=>?_)
  .refine qw (v5+1) λq2 q3=>?_;exact tL ⟨cl,cl⟩ KH
  exact tR aa
def XU:Z0j->Prop
 |.L0 E0 v3=>(ur E0)/\(0<=v3)
def Z4g:Z0j->M6
 |.L0 E0 v3=>(1,((E0.Subs.length:Int)-v3).toNat,1000000,0,0,0)
def XV{a0:bV}(oa0:ur a0):Tot (yz a0) (λr=>True):=by
 unfold yz;refine tX (Inv:=XU) (μ:=Z4g) (m:=(1000000,0,0,0,0,0)) ?_ ?_
 .dsimp only[G4,LT.den];refine tD (λh1=>?_) (λh1=>?_)
  .exact tR aa
  refine tD (λh2=>?_) (λh2=>?_)
  .exact tR aa
  refine tD (λh3=>?_) (λh3=>?_)
  .exact tR aa
  refine tD (λh4=>?_) (λh4=>?_)
  .exact tR aa
  have q5:=oa0.1;refine tD (λh6=>?_) (λh6=>?_)
  .exact tR aa
  exact tL ⟨oa0,cl⟩ AJ
 intro s hs;cases s with
 |L0 E0 v3=>
  obtain⟨O0,cv3⟩:=hs;show Tot (yy E0 v3).den _;dsimp only[yy,LT.den];have q1:=O0.1;refine tD (λh2=>?_) (λh2=>?_)
  .refine tB (tI O O) (λx3 h4=>?_);have oh4:SzT x3:=O0.2 x3 h4.1;refine tB (A9 oh4) (λx5 h6=>?_);refine tO (λh7=>?_) (λh7=>?_)
   .exact tR aa
   refine tD (λh8=>?_) (λh8=>?_)
   .refine qw (v3-1) λq9 q10=>?_;refine tB (tI O O) (λx11 h12=>?_);have oh12:SzT x11:=O0.2 x11 h12.1;refine tO (λh13=>?_) (λh13=>?_)
    .exact tR aa
    refine qw (v3+1) λq14 q15=>?_;exact tL ⟨O0,cl⟩ AJ
   refine qw (v3+1) λq16 q17=>?_;exact tL ⟨O0,cl⟩ AJ
  refine tE (λh18=>?_) (λh18=>?_)
  .exact tR aa
  refine tE (λh19=>?_) (λh19=>?_)
  .exact tR aa
  refine tB (Z6e cl) (λx20 h21=>?_);refine tO (λh22=>?_) (λh22=>?_)
  .refine tB (Z6e cl) (λx23 h24=>?_);exact tR aa
  exact tR aa
def K8{a0:Int}:Tot (yA a0) (λr=>True):=by
 unfold yA;refine tZ ?_;dsimp only[G6,LT.den];refine tD (λh1=>?_) (λh1=>?_)
 .exact tR aa
 exact tR aa
def XW{a0:Z1}(oa0:cR a0):Tot (Z0k a0) (λr=>True):=by unfold Z0k;refine tZ ?_;dsimp only[Z6z,LT.den];exact tR aa
def XX:pq->Prop
 |.L0 v0 v1 v7=>(0<=v7)/\True
def Ke:pq->M6
 |.L0 v0 v1 v7=>(1,(6-v7).toNat,1000000,0,0,0)
def K9{a0:Int}{a1:Int}{a2:Int}:Tot (nI a0 a1 a2) (λr=>True):=by
 unfold nI;refine tX (Inv:=XX) (μ:=Ke) (m:=(1000000,0,0,0,0,0)) ?_ ?_
 .dsimp only[Z4x,LT.den];refine tD (λh1=>?_) (λh1=>?_)
  .exact tR aa
  refine tD (λh2=>?_) (λh2=>?_)
  .exact tR aa
  refine tD (λh3=>?_) (λh3=>?_)
  .exact tR aa
  refine tD (λh4=>?_) (λh4=>?_)
  .exact tR aa
  exact tL ⟨cl,aa⟩ AF
 intro s hs;cases s with
 |L0 v0 v1 v7=>
  obtain⟨cv7,_⟩:=hs;show Tot (kN v0 v1 v7).den _;dsimp only[kN,LT.den];refine tD (λh1=>?_) (λh1=>?_)
  .refine tE (λh2=>?_) (λh2=>?_)
   .refine tE (λh3=>?_) (λh3=>?_)
    .exact tR aa
    refine qw (v7+1) λq4 q5=>?_;exact tL ⟨cl,aa⟩ AF
   refine qw (v7+1) λq6 q7=>?_;exact tL ⟨cl,aa⟩ AF
  exact tR aa
def Ba{a0:ab}:Tot (nD a0) (λr=>(r=true->0<=a0.Kind/\a0.Kind<=3)):=by
 unfold nD;refine tZ ?_;dsimp only[Z4y,LT.den];refine tD (λh1=>?_) (λh1=>?_)
 .exact tR bK
 refine tD (λh2=>?_) (λh2=>?_)
 .exact tR bK
 refine tD (λh3=>?_) (λh3=>?_)
 .exact tR bK
 refine tD (λh4=>?_) (λh4=>?_)
 .exact tR bK
 refine tN (λh5=>?_) (λh5=>?_)
 .exact tR tQ
 exact tR tQ
abbrev La(a0:ai)(r:Bool):Prop:=(r=true->0<=a0.Zone/\a0.Zone<=5/\0<=a0.Who/\a0.Who<=2/\0<=a0.Self/\a0.Self<=2/\0<=a0.Tap/\a0.Tap<=2/\0<=a0.Power.Kind/\a0.Power.Kind<=3/\0<=a0.Tough.Kind/\a0.Tough.Kind<=3/\0<=a0.Value.Kind/\a0.Value.Kind<=3)
def Z90(a0:ai):Z0m->Prop
 |.L0 E0=>(E0=a0)/\(ed E0)/\(0<=E0.Zone/\E0.Zone<=5/\0<=E0.Who/\E0.Who<=2/\0<=E0.Self/\E0.Self<=2/\0<=E0.Tap/\E0.Tap<=2)
def Lb:Z0m->M6
 |.L0 E0=>(0,0,0,0,0,0)
def Bb{a0:ai}{E0:ai}(h:(Z90 a0) (.L0 E0)):Tot (kO E0).den (Nx (Z90 a0) Lb (0,0,0,0,0,0) (La a0)):=by
 obtain⟨al0,O0,i0⟩:=h;subst al0;dsimp only[kO,LT.den];refine tB (Ba) (λx1 h2=>?_);have eh2_0:=h2;refine tF (λh3=>?_) (λh3=>?_)
 .have h3_0:=eh2_0 h3;refine tB (Ba) (λx4 h5=>?_);have eh5_0:=h5;refine tF (λh6=>?_) (λh6=>?_)
  .have h6_0:=eh5_0 h6;refine tB (Ba) (λx7 h8=>?_);have eh8_0:=h8;exact tR (by intro hr;have:=eh8_0 hr;first|omega|(cases hr;done))
  exact tR bK
 exact tR bK
def XY{a0:ai}(oa0:ed a0):Tot (Z61 a0) (La a0):=by
 unfold Z61;refine tX (Inv:=(Z90 a0)) (μ:=Lb) (m:=(1000000,0,0,0,0,0)) ?_ ?_
 .dsimp only[u5,LT.den];refine tD (λh1=>?_) (λh1=>?_)
  .exact tR bK
  refine tD (λh2=>?_) (λh2=>?_)
  .exact tR bK
  refine tD (λh3=>?_) (λh3=>?_)
  .exact tR bK
  refine tD (λh4=>?_) (λh4=>?_)
  .exact tR bK
  refine tD (λh5=>?_) (λh5=>?_)
  .exact tR bK
  refine tD (λh6=>?_) (λh6=>?_)
  .exact tR bK
  refine tD (λh7=>?_) (λh7=>?_)
  .exact tR bK
  refine tD (λh8=>?_) (λh8=>?_)
  .exact tR bK
  refine tB (K9) (λx9 h10=>?_);refine tO (λh11=>?_) (λh11=>?_)
  .exact tR bK
  refine tB (K9) (λx12 h13=>?_);refine tO (λh14=>?_) (λh14=>?_)
  .exact tR bK
  refine tO (λh15=>?_) (λh15=>?_)
  .refine tB (A9 (SzS.t oa0)) (λx16 h17=>?_);refine tO (λh18=>?_) (λh18=>?_)
   .exact tR bK
   refine tD (λh19=>?_) (λh19=>?_)
   .exact tR bK
   refine tD (λh20=>?_) (λh20=>?_)
   .exact tR bK
   exact tJ (Bb ⟨rfl,oa0,cl⟩)
  refine tD (λh21=>?_) (λh21=>?_)
  .exact tR bK
  refine tD (λh22=>?_) (λh22=>?_)
  .exact tR bK
  exact tJ (Bb ⟨rfl,oa0,cl⟩)
 intro s hs;cases s with
 |L0 _=>exact Bb hs
def im{a0:ai}(oa0:ed a0):Tot (Z61 a0) (λr=>(r=true->0<=a0.Zone/\a0.Zone<=5/\0<=a0.Who/\a0.Who<=2/\0<=a0.Self/\a0.Self<=2/\0<=a0.Tap/\a0.Tap<=2/\0<=a0.Power.Kind/\a0.Power.Kind<=3/\0<=a0.Tough.Kind/\a0.Tough.Kind<=3/\0<=a0.Value.Kind/\a0.Value.Kind<=3)/\(r=filV a0)):=(Tot.we (XY oa0)).mono λr h=>⟨h.1,dA (h.2.symm.trans (M8 a0))⟩
def qK:mS->Prop
 |.L0 E0 E1 v7 v8=>(cc E0)/\(cc E1)
 |.L1 E0 E1 v7 v16=>(cc E0)/\(cc E1)
def Z6f:mS->M6
 |.L0 E0 E1 v7 v8=>(0,0,0,0,0,0)
 |.L1 E0 E1 v7 v16=>(0,0,0,0,0,0)
def Bc{E0:ah}{E1:ah}{v7:Int}{v16:Bool}(h:qK (.L1 E0 E1 v7 v16)):Tot (pr E0 E1 v7 v16).den (Nx qK Z6f (0,0,0,0,0,0) (λr=>(cc r))):=by
 obtain⟨O0,O1⟩:=h;dsimp only[pr,LT.den];refine tF (λh1=>?_) (λh1=>?_)
 .exact tR ⟨SzS.nil,O0.2⟩
 refine tE (λh2=>?_) (λh2=>?_)
 .exact tR ⟨O0.1,SzS.nil⟩
 refine tE (λh3=>?_) (λh3=>?_)
 .exact tR ⟨O0.1,O0.2⟩
 refine tE (λh4=>?_) (λh4=>?_)
 .exact tR ⟨O0.1,O0.2⟩
 exact tR O0
def lZ{E0:ah}{E1:ah}{v7:Int}{v8:Bool}(h:qK (.L0 E0 E1 v7 v8)):Tot (jB E0 E1 v7 v8).den (Nx qK Z6f (0,0,0,0,0,0) (λr=>(cc r))):=by
 obtain⟨O0,O1⟩:=h;dsimp only[jB,LT.den];refine tF (λh1=>?_) (λh1=>?_)
 .exact tR ⟨O0.1,O0.2⟩
 refine tE (λh2=>?_) (λh2=>?_)
 .exact tJ (Bc ⟨O0,O1⟩)
 exact tJ (Bc ⟨O0,O1⟩)
def XZ{a0:ah}(oa0:cc a0):Tot (yB a0) (λr=>(cc r)):=by
 unfold yB;refine tX (Inv:=qK) (μ:=Z6f) (m:=(1000000,0,0,0,0,0)) ?_ ?_
 .dsimp only[Hb,LT.den];refine tE (λh1=>?_) (λh1=>?_)
  .exact tJ (lZ ⟨⟨oa0.1,oa0.2⟩,⟨SzS.nil,SzS.nil⟩⟩)
  refine tE (λh2=>?_) (λh2=>?_)
  .exact tJ (lZ ⟨⟨oa0.1,oa0.2⟩,⟨SzS.nil,SzS.nil⟩⟩)
  refine tE (λh3=>?_) (λh3=>?_)
  .exact tJ (lZ ⟨⟨oa0.1,oa0.2⟩,⟨SzS.nil,SzS.nil⟩⟩)
  refine tE (λh4=>?_) (λh4=>?_)
  .exact tJ (lZ ⟨⟨oa0.1,oa0.2⟩,⟨SzS.nil,SzS.nil⟩⟩)
  refine tE (λh5=>?_) (λh5=>?_)
  .exact tJ (lZ ⟨⟨oa0.1,oa0.2⟩,⟨SzS.nil,SzS.nil⟩⟩)
  exact tJ (lZ ⟨⟨oa0.1,oa0.2⟩,⟨SzS.nil,SzS.nil⟩⟩)
 intro s hs;cases s with
 |L0 _ _ _ _=>exact lZ hs
 |L1 _ _ _ _=>exact Bc hs
def X0{a0:Int}:Tot (yC a0) (λr=>True):=by
 unfold yC;refine tZ ?_;dsimp only[Hd,LT.den];refine tD (λh1=>?_) (λh1=>?_)
 .refine tD (λh2=>?_) (λh2=>?_)
  .exact tR aa
  exact tR aa
 exact tR aa
def uv:lD->Prop
 |.L0 E0 v18 v19=>(cc E0)/\True
 |.L1 E0 v18 v25=>(cc E0)/\True
 |.L2 E0 v18 v51=>(cc E0)/\True
def Z4h:lD->M6
 |.L0 E0 v18 v19=>(0,0,0,0,0,0)
 |.L1 E0 v18 v25=>(0,0,0,0,0,0)
 |.L2 E0 v18 v51=>(0,0,0,0,0,0)
def Bd{E0:ah}{v18:Int}{v51:Bool}(h:(cc E0)/\True):Tot (pt E0 v18 v51).den (Nx uv Z4h (0,0,0,0,0,0) (λr=>True)):=by
 obtain⟨O0,_⟩:=h;dsimp only[pt,LT.den];refine tF (λh1=>?_) (λh1=>?_)
 .refine tD (λh2=>?_) (λh2=>?_)
  .exact tR aa
  exact tR aa
 refine tE (λh3=>?_) (λh3=>?_)
 .refine tB (im O0.2) (λx4 h5=>?_);have eh5_0:=h5.1;have eh5_1:=h5.2;exact tR aa
 refine tE (λh6=>?_) (λh6=>?_)
 .refine tD (λh7=>?_) (λh7=>?_)
  .refine tD (λh8=>?_) (λh8=>?_)
   .refine tD (λh9=>?_) (λh9=>?_)
    .exact tR aa
    exact tR aa
   exact tR aa
  exact tR aa
 refine tE (λh10=>?_) (λh10=>?_)
 .refine tD (λh11=>?_) (λh11=>?_)
  .refine tD (λh12=>?_) (λh12=>?_)
   .refine tD (λh13=>?_) (λh13=>?_)
    .exact tR aa
    exact tR aa
   exact tR aa
  exact tR aa
 exact tR aa
def Be{E0:ah}{v18:Int}{v25:Bool}(h:(cc E0)/\True):Tot (pv E0 v18 v25).den (Nx uv Z4h (0,0,0,0,0,0) (λr=>True)):=by
 obtain⟨O0,_⟩:=h;dsimp only[pv,LT.den];refine tF (λh1=>?_) (λh1=>?_)
 .refine tB (A9 (SzS.t O0.1)) (λx2 h3=>?_);exact tR aa
 refine tE (λh4=>?_) (λh4=>?_)
 .refine tD (λh5=>?_) (λh5=>?_)
  .exact tR aa
  exact tR aa
 refine tE (λh6=>?_) (λh6=>?_)
 .refine tD (λh7=>?_) (λh7=>?_)
  .exact tR aa
  exact tR aa
 refine tE (λh8=>?_) (λh8=>?_)
 .exact tJ (Bd ⟨O0,aa⟩)
 exact tJ (Bd ⟨O0,aa⟩)
def Bf{E0:ah}{v18:Int}{v19:Bool}(h:(cc E0)/\True):Tot (pz E0 v18 v19).den (Nx uv Z4h (0,0,0,0,0,0) (λr=>True)):=by
 obtain⟨O0,_⟩:=h;dsimp only[pz,LT.den];refine tF (λh1=>?_) (λh1=>?_)
 .refine tB (X0) (λx2 h3=>?_);exact tR aa
 refine tE (λh4=>?_) (λh4=>?_)
 .exact tJ (Be ⟨O0,aa⟩)
 exact tJ (Be ⟨O0,aa⟩)
def Lc{a0:ah}(oa0:cc a0):Tot (yD a0) (λr=>True):=by
 unfold yD;refine tX (Inv:=uv) (μ:=Z4h) (m:=(1000000,0,0,0,0,0)) ?_ ?_
 .dsimp only[Hf,LT.den];refine tD (λh1=>?_) (λh1=>?_)
  .exact tR aa
  refine tD (λh2=>?_) (λh2=>?_)
  .exact tR aa
  refine tB (XZ oa0) (λx3 h4=>?_);refine tO (λh5=>?_) (λh5=>?_)
  .exact tR aa
  refine tE (λh6=>?_) (λh6=>?_)
  .exact tJ (Bf ⟨oa0,aa⟩)
  exact tJ (Bf ⟨oa0,aa⟩)
 intro s hs;cases s with
 |L0 _ _ _=>exact Bf hs
 |L1 _ _ _=>exact Be hs
 |L2 _ _ _=>exact Bd hs
def X1:pA->Prop
 |.L0 v0 v1 v2 v7 v8=>((SzL 16 SzN) v0)/\(SzN v2)/\(0<=v8)/\(v7.length<=200*v8.toNat)/\(v0.length<=100)/\(v8<=v0.length)
def J5:pA->M6
 |.L0 v0 v1 v2 v7 v8=>(1,((v0.length:Int)-v8).toNat,1000000,0,0,0)
def X2{a0:List (List UInt8)}{a1:Int}{a2:List UInt8}(oa0:(SzL 16 SzN) a0)(oa2:SzN a2)(h0:a0.length<=100):Tot (Z85 a0 a1 a2) (λr=>(SzT r)/\(r.length<=20000)):=by
 unfold Z85;refine tX (Inv:=X1) (μ:=J5) (m:=(1000000,0,0,0,0,0)) ?_ ?_
 .have lb_a0:=oa0.1;have lb_a2:a2.length<=100:=oa2;dsimp only[Hi,LT.den];exact tL ⟨oa0,oa2,cl,cl,cl,cl⟩ ub
 intro s hs;cases s with
 |L0 v0 v1 v2 v7 v8=>
  obtain⟨ov0,ov2,cv8,i0,i1,i2⟩:=hs;have lb_v0:=ov0.1;have lb_v2:v2.length<=100:=ov2;show Tot (yE v0 v1 v2 v7 v8).den _;dsimp only[yE,LT.den];have q1:=(SzL.nt ov0).1;refine tD (λh2=>?_) (λh2=>?_)
  .refine tB (Z6e cl) (λx3 h4=>?_);refine tF (λh5=>?_) (λh5=>?_)
   .refine tO (λh6=>?_) (λh6=>?_)
    .have q7:v2.length<=100:=ov2;refine tB (tK bX) (λx8 h9=>?_);refine tB (tI O O) (λx10 h11=>?_);have oh11:SzN x10:=ov0.2 x10 h11.1;have q12:x10.length<=100:=oh11;refine tB (tK bX) (λx13 h14=>?_);refine qw (v8+1) λq15 q16=>?_;exact tL ⟨ov0,ov2,cl,cl,cl,cl⟩ ub
    refine tB (tI O O) (λx17 h18=>?_);have oh18:SzN x17:=ov0.2 x17 h18.1;have q19:x17.length<=100:=oh18;refine tB (tK bX) (λx20 h21=>?_);refine qw (v8+1) λq22 q23=>?_;exact tL ⟨ov0,ov2,cl,cl,cl,cl⟩ ub
   refine qw (v8+1) λq24 q25=>?_;exact tL ⟨ov0,ov2,cl,cl,cl,cl⟩ ub
  exact tR ⟨fB,cl⟩
def Bg{a0:Int}:Tot (yF a0) (λr=>(SzT r)/\(r.length<=20000)):=by
 unfold yF;refine tZ ?_;dsimp only[Z3k,LT.den];refine tD (λh1=>?_) (λh1=>?_)
 .exact tR ⟨SzT.nil,cl⟩
 refine tD (λh2=>?_) (λh2=>?_)
 .exact tR ⟨SzT.nil,cl⟩
 refine tB (K7) (λx3 h4=>?_);have eh4_1:=h4.2;refine tB (X2 h4.1 aG cl) (λx5 h6=>?_);have eh6_1:=h6.2;exact tR ⟨h6.1,cl⟩
def X3{a0:Int}:Tot (yH a0) (λr=>True):=by
 unfold yH;refine tZ ?_;dsimp only[Hk,LT.den];refine tD (λh1=>?_) (λh1=>?_)
 .exact tR aa
 exact tR aa
def uw{a0:Int}:Tot (yI a0) (λr=>(SzN r)):=by
 unfold yI;refine tZ ?_;dsimp only[Hm,LT.den];refine tE (λh1=>?_) (λh1=>?_)
 .exact tR aG
 refine tE (λh2=>?_) (λh2=>?_)
 .exact tR aG
 refine tE (λh3=>?_) (λh3=>?_)
 .exact tR aG
 refine tE (λh4=>?_) (λh4=>?_)
 .exact tR aG
 refine tE (λh5=>?_) (λh5=>?_)
 .exact tR aG
 exact tR (SzN.nil)
def X4:pB->Prop
 |.L0 v0 v3 v4=>(0<=v4)/\(v3.length<=200*v4.toNat)/\(v4<=5)
def J3:pB->M6
 |.L0 v0 v3 v4=>(1,(5-v4).toNat,1000000,0,0,0)
def Ld{a0:Int}:Tot (yJ a0) (λr=>(SzT r)):=by
 unfold yJ;refine tX (Inv:=X4) (μ:=J3) (m:=(1000000,0,0,0,0,0)) ?_ ?_
 .dsimp only[Ho,LT.den];refine tB (X3) (λx1 h2=>?_);refine tO (λh3=>?_) (λh3=>?_)
  .exact tR (SzT.nil)
  refine tE (λh4=>?_) (λh4=>?_)
  .exact tR fB
  exact tL ⟨cl,cl,cl⟩ tV
 intro s hs;cases s with
 |L0 v0 v3 v4=>
  obtain⟨cv4,i0,i1⟩:=hs;show Tot (Z4z v0 v3 v4).den _;dsimp only[Z4z,LT.den];refine tD (λh1=>?_) (λh1=>?_)
  .refine tB (tK Ks) (λx2 h3=>?_);refine tB (tK Ks) (λx4 h5=>?_);refine tE (λh6=>?_) (λh6=>?_)
   .refine tO (λh7=>?_) (λh7=>?_)
    .refine tB (tK bX) (λx8 h9=>?_);refine tB (uw) (λx10 h11=>?_);have q12:x10.length<=100:=h11;refine tB (tK bX) (λx13 h14=>?_);refine qw (v4+1) λq15 q16=>?_;exact tL ⟨cl,cl,cl⟩ tV
    refine tB (uw) (λx17 h18=>?_);have q19:x17.length<=100:=h18;refine tB (tK bX) (λx20 h21=>?_);refine qw (v4+1) λq22 q23=>?_;exact tL ⟨cl,cl,cl⟩ tV
   refine qw (v4+1) λq24 q25=>?_;exact tL ⟨cl,cl,cl⟩ tV
  exact tR fB
def X5:Tot (Z3m) (λr=>((SzL 16 SzN) r)/\(r.length=17)):=by unfold Z3m;refine tZ ?_;dsimp only[Hr,LT.den];have q1:(SzL 16 SzN) ([([102,108,121,105,110,103]:List UInt8),([114,101,97,99,104]:List UInt8),([104,97,115,116,101]:List UInt8),([118,105,103,105,108,97,110,116]:List UInt8),([116,114,97,109,112,108,101]:List UInt8),([102,105,114,115,116,45,115,116,114,105,107,101]:List UInt8),([100,111,117,98,108,101,45,115,116,114,105,107,101]:List UInt8),([100,101,97,100,108,121]:List UInt8),([108,105,102,101,108,105,110,107]:List UInt8),([109,101,110,97,99,101]:List UInt8),([100,101,102,101,110,100,101,114]:List UInt8),([119,97,114,100,101,100]:List UInt8),([115,116,117,114,100,121]:List UInt8),([101,108,117,115,105,118,101]:List UInt8),([110,111,45,97,116,116,97,99,107]:List UInt8),([110,111,45,98,108,111,99,107]:List UInt8),([109,117,115,116,45,97,116,116,97,99,107]:List UInt8)]:List (List UInt8)):=⟨by simp only[bJ,bU];omega,mem_cons' aG (mem_cons' aG (mem_cons' aG (mem_cons' aG (mem_cons' aG (mem_cons' aG (mem_cons' aG (mem_cons' aG (mem_cons' aG (mem_cons' aG (mem_cons' aG (mem_cons' aG (mem_cons' aG (mem_cons' aG (mem_cons' aG (mem_cons' aG (mem_cons' aG (λ_ h=>by cases h)))))))))))))))))⟩;have lq1:([([102,108,121,105,110,103]:List UInt8),([114,101,97,99,104]:List UInt8),([104,97,115,116,101]:List UInt8),([118,105,103,105,108,97,110,116]:List UInt8),([116,114,97,109,112,108,101]:List UInt8),([102,105,114,115,116,45,115,116,114,105,107,101]:List UInt8),([100,111,117,98,108,101,45,115,116,114,105,107,101]:List UInt8),([100,101,97,100,108,121]:List UInt8),([108,105,102,101,108,105,110,107]:List UInt8),([109,101,110,97,99,101]:List UInt8),([100,101,102,101,110,100,101,114]:List UInt8),([119,97,114,100,101,100]:List UInt8),([115,116,117,114,100,121]:List UInt8),([101,108,117,115,105,118,101]:List UInt8),([110,111,45,97,116,116,97,99,107]:List UInt8),([110,111,45,98,108,111,99,107]:List UInt8),([109,117,115,116,45,97,116,116,97,99,107]:List UInt8)]:List (List UInt8)).length=17:=rfl;exact tR ⟨q1,cl⟩
def Z2m{a0:Int}:Tot (yK a0) (λr=>(SzN r)):=by
 unfold yK;refine tZ ?_;dsimp only[Ht,LT.den];refine tD (λh1=>?_) (λh1=>?_)
 .exact tR (SzN.nil)
 refine tD (λh2=>?_) (λh2=>?_)
 .exact tR (SzN.nil)
 refine tB (X5) (λx3 h4=>?_);have eh4_1:=h4.2;refine tB (tI O O) (λx5 h6=>?_);have oh6:SzN x5:=h4.1.2 x5 h6.1;exact tR oh6
def X6:pC->Prop
 |.L0 v0 v3 v4=>(0<=v4)/\(v3.length<=200*v4.toNat)/\(v4<=17)
def J2:pC->M6
 |.L0 v0 v3 v4=>(1,(17-v4).toNat,1000000,0,0,0)
def Le{a0:Int}:Tot (yL a0) (λr=>(SzT r)):=by
 unfold yL;refine tX (Inv:=X6) (μ:=J2) (m:=(1000000,0,0,0,0,0)) ?_ ?_
 .dsimp only[Hv,LT.den];refine tB (K8) (λx1 h2=>?_);refine tO (λh3=>?_) (λh3=>?_)
  .exact tR (SzT.nil)
  exact tL ⟨cl,cl,cl⟩ tU
 intro s hs;cases s with
 |L0 v0 v3 v4=>
  obtain⟨cv4,i0,i1⟩:=hs;show Tot (Z41 v0 v3 v4).den _;dsimp only[Z41,LT.den];refine tD (λh1=>?_) (λh1=>?_)
  .refine tE (λh2=>?_) (λh2=>?_)
   .refine tO (λh3=>?_) (λh3=>?_)
    .refine tB (tK bX) (λx4 h5=>?_);refine tB (Z2m) (λx6 h7=>?_);have q8:x6.length<=100:=h7;refine tB (tK bX) (λx9 h10=>?_);refine qw (v4+1) λq11 q12=>?_;exact tL ⟨cl,cl,cl⟩ tU
    refine tB (Z2m) (λx13 h14=>?_);have q15:x13.length<=100:=h14;refine tB (tK bX) (λx16 h17=>?_);refine qw (v4+1) λq18 q19=>?_;exact tL ⟨cl,cl,cl⟩ tU
   refine qw (v4+1) λq20 q21=>?_;exact tL ⟨cl,cl,cl⟩ tU
  refine tF (λh22=>?_) (λh22=>?_)
  .exact tR fB
  exact tR fB
def X7:Tot (ti) (λr=>((SzL 16 SzN) r)/\(r.length=6)):=by unfold ti;refine tZ ?_;dsimp only[Z3n,LT.den];have q1:(SzL 16 SzN) ([([]:List UInt8),([105,110,45,104,97,110,100]:List UInt8),([105,110,45,108,105,98,114,97,114,121]:List UInt8),([105,110,45,103,114,97,118,101,121,97,114,100]:List UInt8),([105,110,45,101,120,105,108,101]:List UInt8),([111,110,45,115,116,97,99,107]:List UInt8)]:List (List UInt8)):=⟨by simp only[bJ,bU];omega,mem_cons' (SzN.nil) (mem_cons' aG (mem_cons' aG (mem_cons' aG (mem_cons' aG (mem_cons' aG (λ_ h=>by cases h))))))⟩;have lq1:([([]:List UInt8),([105,110,45,104,97,110,100]:List UInt8),([105,110,45,108,105,98,114,97,114,121]:List UInt8),([105,110,45,103,114,97,118,101,121,97,114,100]:List UInt8),([105,110,45,101,120,105,108,101]:List UInt8),([111,110,45,115,116,97,99,107]:List UInt8)]:List (List UInt8)).length=6:=rfl;exact tR ⟨q1,cl⟩
def X8:Tot (tj) (λr=>((SzL 16 SzN) r)/\(r.length=3)):=by unfold tj;refine tZ ?_;dsimp only[Z62,LT.den];have q1:(SzL 16 SzN) ([([]:List UInt8),([121,111,117,114,115]:List UInt8),([116,104,101,105,114,115]:List UInt8)]:List (List UInt8)):=⟨by simp only[bJ,bU];omega,mem_cons' (SzN.nil) (mem_cons' aG (mem_cons' aG (λ_ h=>by cases h)))⟩;have lq1:([([]:List UInt8),([121,111,117,114,115]:List UInt8),([116,104,101,105,114,115]:List UInt8)]:List (List UInt8)).length=3:=rfl;exact tR ⟨q1,cl⟩
def X9:Tot (tk) (λr=>((SzL 16 SzN) r)/\(r.length=3)):=by unfold tk;refine tZ ?_;dsimp only[Z3p,LT.den];have q1:(SzL 16 SzN) ([([]:List UInt8),([115,101,108,102]:List UInt8),([111,116,104,101,114]:List UInt8)]:List (List UInt8)):=⟨by simp only[bJ,bU];omega,mem_cons' (SzN.nil) (mem_cons' aG (mem_cons' aG (λ_ h=>by cases h)))⟩;have lq1:([([]:List UInt8),([115,101,108,102]:List UInt8),([111,116,104,101,114]:List UInt8)]:List (List UInt8)).length=3:=rfl;exact tR ⟨q1,cl⟩
def Ya:Tot (tl) (λr=>((SzL 16 SzN) r)/\(r.length=3)):=by unfold tl;refine tZ ?_;dsimp only[Z64,LT.den];have q1:(SzL 16 SzN) ([([]:List UInt8),([116,97,112,112,101,100]:List UInt8),([117,110,116,97,112,112,101,100]:List UInt8)]:List (List UInt8)):=⟨by simp only[bJ,bU];omega,mem_cons' (SzN.nil) (mem_cons' aG (mem_cons' aG (λ_ h=>by cases h)))⟩;have lq1:([([]:List UInt8),([116,97,112,112,101,100]:List UInt8),([117,110,116,97,112,112,101,100]:List UInt8)]:List (List UInt8)).length=3:=rfl;exact tR ⟨q1,cl⟩
def Yb:pD->Prop
 |.L0 v0 v1 v5=>(0<=v5)/\(v1<=100)
def Z91:pD->M6
 |.L0 v0 v1 v5=>(1,(v1-v5).toNat,1000000,0,0,0)
def qL{a0:Int}{a1:Int}(h0:a1<=100):Tot (yM a0 a1) (λr=>True):=by
 unfold yM;refine tX (Inv:=Yb) (μ:=Z91) (m:=(1000000,0,0,0,0,0)) ?_ ?_
 .dsimp only[Hy,LT.den];exact tL ⟨cl,cl⟩ KI
 intro s hs;cases s with
 |L0 v0 v1 v5=>
  obtain⟨cv5,i0⟩:=hs;show Tot (Z86 v0 v1 v5).den _;dsimp only[Z86,LT.den];refine tD (λh1=>?_) (λh1=>?_)
  .refine qw (v5+1) λq2 q3=>?_;exact tL ⟨cl,cl⟩ KI
  exact tR aa
def Yc:pF->Prop
 |.L0 v0 v3 v4=>(0<=v4)/\(v0<=100)
def KG:pF->M6
 |.L0 v0 v3 v4=>(1,(v0-v4).toNat,1000000,0,0,0)
def Z2n{a0:Int}(h0:a0<=100):Tot (Z0n a0) (λr=>(SzT r)/\(r.length<=20000)):=by
 unfold Z0n;refine tX (Inv:=Yc) (μ:=KG) (m:=(1000000,0,0,0,0,0)) ?_ ?_
 .dsimp only[Z66,LT.den];exact tL ⟨cl,cl⟩ KF
 intro s hs;cases s with
 |L0 v0 v3 v4=>
  obtain⟨cv4,i0⟩:=hs;show Tot (yN v0 v3 v4).den _;dsimp only[yN,LT.den];refine tD (λh1=>?_) (λh1=>?_)
  .refine qw (v3*2) λq2 q3=>?_;refine qw (v4+1) λq4 q5=>?_;exact tL ⟨cl,cl⟩ KF
  refine tB (Bg) (λx6 h7=>?_);have eh7_1:=h7.2;exact tR ⟨h7.1,cl⟩
def Yd:Tot (Z3s) (λr=>((SzL 16 SzN) r)/\(r.length=4)):=by unfold Z3s;refine tZ ?_;dsimp only[HA,LT.den];have q1:(SzL 16 SzN) ([([]:List UInt8),([62,61]:List UInt8),([60,61]:List UInt8),([61]:List UInt8)]:List (List UInt8)):=⟨by simp only[bJ,bU];omega,mem_cons' (SzN.nil) (mem_cons' aG (mem_cons' aG (mem_cons' aG (λ_ h=>by cases h))))⟩;have lq1:([([]:List UInt8),([62,61]:List UInt8),([60,61]:List UInt8),([61]:List UInt8)]:List (List UInt8)).length=4:=rfl;exact tR ⟨q1,cl⟩
def Lf{n:Int}(h0:0<=n)(h1:n<18446744073709551616):ff .u64 n 10=n/10:=by
 unfold ff;rw[Int.tdiv_eq_ediv_of_nonneg h0];have h2:0<=n/10:=bP
 have h3:n/10<18446744073709551616:=bP
 simp only[IntKind.wrap,IntKind.bits,IntKind.signed,tG,fa,fk];exact Int.emod_eq_of_lt h2 h3
def Z4i:∀(k:Nat) (n:Int) (s:List UInt8),k<=20->0<=n->n<10 ^ k->n<18446744073709551616->s.length+k<=40->Tot (cb tn.step (.L0 n s)) λr=>SzN r/\r.length<=40
 |0,n,s,_,h0,h1,_,hs=>by
  have:n=0:=bP
  subst this;refine Tot.stop (r:=s) ?_ ⟨show s.length<=100 by omega,by omega⟩;show(lE _ _).den=_;dsimp only[lE,LT.den];rfl
 |k+1,n,s,hk,h0,h1,h2,hs=>by
  by_cases hn:n>0
  .obtain⟨d,hd,hl⟩:=Tot.str (xs:=[IntKind.wrap .u8 (IntKind.wrap .u64 (48+(Int.tmod n 10)))]) aj J9;simp only[bJ,bU]at hl;have e:tn.step (.L0 n s)=some (.inl (.L0 (n/10) (d++s))):=by
    show(lE _ _).den=_;dsimp only[lE,LT.den];rw[bW hn,aD,hd,bO,bW (show d.length+s.length<=9223372036854775807 by omega),Lf h0 h2];rfl
   obtain⟨r,hr,hp⟩:=Z4i k (n/10) (d++s) O O (by rw[Int.pow_succ]at h1;have:n/10<10 ^ k:=Int.ediv_lt_of_lt_mul aH h1;exact this) O (by rw[bn];omega);exact⟨r,by rw[jf e];exact hr,hp⟩
  refine Tot.stop (r:=s) ?_ ⟨show s.length<=100 by omega,by omega⟩;show(lE _ _).den=_;dsimp only[lE,LT.den];rw[bY hn];rfl
def Z76(a0:Int)(h0:0<=a0)(h1:a0<18446744073709551616):Tot (Z87 a0) (λr=>(SzN r)/\(r.length<=40)):=by unfold Z87 LF.run;dsimp only[HC,LT.den];obtain⟨d,hd,hl⟩:=Tot.str (xs:=[IntKind.wrap .u8 (IntKind.wrap .u64 (48+(Int.tmod a0 10)))]) aj J9;simp only[bJ,bU]at hl;rw[hd,bO,bO,ml,Lf h0 h1];exact Z4i 20 (a0/10) d O O O O O
def nf{a0:Int}:Tot (yO a0) (λr=>(SzN r)):=by
 unfold yO;refine tZ ?_;dsimp only[HD,LT.den];refine tD (λh1=>?_) (λh1=>?_)
 .have q2:0<=IntKind.wrap .u64 a0/\IntKind.wrap .u64 a0<18446744073709551616:=Ac _;have q3:0<=IntKind.wrap .u64 (0-(IntKind.wrap .u64 a0))/\IntKind.wrap .u64 (0-(IntKind.wrap .u64 a0))<18446744073709551616:=Ac _;refine tB (Z76 (IntKind.wrap .u64 (0-(IntKind.wrap .u64 a0))) cl cl) (λx4 h5=>?_);have eh5_1:=h5.2;have q6:x4.length<=100:=h5.1;refine tB (tK bX) (λx7 h8=>?_);exact tR aG
 have q9:0<=IntKind.wrap .u64 a0/\IntKind.wrap .u64 a0<18446744073709551616:=Ac _;refine tB (Z76 (IntKind.wrap .u64 a0) cl cl) (λx10 h11=>?_);have eh11_1:=h11.2;exact tR h11.1
def Bh{a0:List UInt8}{a1:ab}(oa0:SzN a0)(h0:0<=a1.Kind)(h1:a1.Kind<=3):Tot (yP a0 a1) (λr=>(SzT r)):=by
 unfold yP;refine tZ ?_;have lb_a0:a0.length<=100:=oa0;dsimp only[Z3t,LT.den];refine tE (λh1=>?_) (λh1=>?_)
 .exact tR (SzT.nil)
 refine tB (Yd) (λx2 h3=>?_);have eh3_1:=h3.2;refine tB (tI O O) (λx4 h5=>?_);have oh5:SzN x4:=h3.1.2 x4 h5.1;have q6:a0.length<=100:=oa0;have q7:x4.length<=100:=oh5;refine tB (tK bX) (λx8 h9=>?_);refine tB (nf) (λx10 h11=>?_);have q12:x10.length<=100:=h11;refine tB (tK bX) (λx13 h14=>?_);exact tR fB
def Ye:pG->Prop
 |.L0 v0 v1 v5 v6=>((SzL 16 SzT) v0)/\(SzN v1)/\(0<=v6)/\(v5.length<=1125899906842624*v6.toNat)/\(v0.length<=100)/\(v6<=v0.length)
def Kb:pG->M6
 |.L0 v0 v1 v5 v6=>(1,((v0.length:Int)-v6).toNat,1000000,0,0,0)
def Yf{a0:List (List UInt8)}{a1:List UInt8}(oa0:(SzL 16 SzT) a0)(oa1:SzN a1)(h0:a0.length<=100):Tot (yR a0 a1) (λr=>(r.length<=144115188075855872)):=by
 unfold yR;refine tX (Inv:=Ye) (μ:=Kb) (m:=(1000000,0,0,0,0,0)) ?_ ?_
 .have lb_a0:=oa0.1;have lb_a1:a1.length<=100:=oa1;dsimp only[HF,LT.den];exact tL ⟨oa0,oa1,cl,cl,cl,cl⟩ AC
 intro s hs;cases s with
 |L0 v0 v1 v5 v6=>
  obtain⟨ov0,ov1,cv6,i0,i1,i2⟩:=hs;have lb_v0:=ov0.1;have lb_v1:v1.length<=100:=ov1;show Tot (Z42 v0 v1 v5 v6).den _;dsimp only[Z42,LT.den];have q1:=ov0.1;refine tD (λh2=>?_) (λh2=>?_)
  .refine tD (λh3=>?_) (λh3=>?_)
   .have q4:v1.length<=100:=ov1;refine tB (tK bX) (λx5 h6=>?_);refine tB (tI O O) (λx7 h8=>?_);have oh8:SzT x7:=ov0.2 x7 h8.1;have q9:x7.length<=562949953421312:=oh8;refine tB (tK bX) (λx10 h11=>?_);refine qw (v6+1) λq12 q13=>?_;exact tL ⟨ov0,ov1,cl,cl,cl,cl⟩ AC
   refine tB (tI O O) (λx14 h15=>?_);have oh15:SzT x14:=ov0.2 x14 h15.1;have q16:x14.length<=562949953421312:=oh15;refine tB (tK bX) (λx17 h18=>?_);refine qw (v6+1) λq19 q20=>?_;exact tL ⟨ov0,ov1,cl,cl,cl,cl⟩ AC
  exact tR cl
def l9{b0:List (List UInt8)}{a1:List UInt8}(ob0:(SzL 16 SzT) b0)(oa1:SzT a1)(h0:b0.length<=1000):Tot (Z0p b0 a1) (λr=>((SzL 16 SzT) r)/\(r.length<=b0.length+1)):=by
 unfold Z0p;refine tZ ?_;have lb_b0:=ob0.1;have lb_a1:a1.length<=562949953421312:=oa1;dsimp only[Z68,LT.den];refine tF (λh1=>?_) (λh1=>?_)
 .exact tR ⟨ob0,cl⟩
 have q4:=ob0.1;refine tB (tA eW aH) (λx2 h3=>?_);have lh3:x2.length=b0.length+1:=by rw[h3,bn];rfl
 exact tR ⟨SzL.app (k:=16) h3 lo ob0.2 (me1 oa1),cl⟩
def Z2o:iW->Prop
 |.L0 E0 v6 v7 v8=>(ed E0)/\((SzL 16 SzN) v6)/\((SzL 16 SzT) v7)/\(0<=v8)/\(v7.length<=3+v8.toNat)/\(v8<=6)/\(v6.length=3)/\(0<=E0.Tap/\E0.Tap<=2/\0<=E0.Power.Kind/\E0.Power.Kind<=3/\0<=E0.Tough.Kind/\E0.Tough.Kind<=3/\0<=E0.Value.Kind/\E0.Value.Kind<=3)
 |.L1 E0 v6 v7 v9=>(ed E0)/\((SzL 16 SzN) v6)/\((SzL 16 SzT) v7)/\(0<=v9)/\(v7.length<=9+v9.toNat)/\(v9<=6)/\(v6.length=3)/\(0<=E0.Tap/\E0.Tap<=2/\0<=E0.Power.Kind/\E0.Power.Kind<=3/\0<=E0.Tough.Kind/\E0.Tough.Kind<=3/\0<=E0.Value.Kind/\E0.Value.Kind<=3)
 |.L2 E0 v6 v7 v10=>(ed E0)/\((SzL 16 SzN) v6)/\((SzL 16 SzT) v7)/\(0<=v10)/\(v7.length<=15+v10.toNat)/\(v10<=5)/\(v6.length=3)/\(0<=E0.Tap/\E0.Tap<=2/\0<=E0.Power.Kind/\E0.Power.Kind<=3/\0<=E0.Tough.Kind/\E0.Tough.Kind<=3/\0<=E0.Value.Kind/\E0.Value.Kind<=3)
 |.L3 E0 v6 v7 v11=>(ed E0)/\((SzL 16 SzN) v6)/\((SzL 16 SzT) v7)/\(0<=v11)/\(v7.length<=20+v11.toNat)/\(v11<=5)/\(v6.length=3)/\(0<=E0.Tap/\E0.Tap<=2/\0<=E0.Power.Kind/\E0.Power.Kind<=3/\0<=E0.Tough.Kind/\E0.Tough.Kind<=3/\0<=E0.Value.Kind/\E0.Value.Kind<=3)
 |.L4 E0 v6 v7=>(ed E0)/\((SzL 16 SzN) v6)/\((SzL 16 SzT) v7)/\(v7.length<=26)/\(v6.length=3)/\(0<=E0.Tap/\E0.Tap<=2/\0<=E0.Power.Kind/\E0.Power.Kind<=3/\0<=E0.Tough.Kind/\E0.Tough.Kind<=3/\0<=E0.Value.Kind/\E0.Value.Kind<=3)
 |.L5 E0 v6 v7 v12=>(ed E0)/\((SzL 16 SzN) v6)/\((SzL 16 SzT) v7)/\(0<=v12)/\(v7.length<=26+v12.toNat)/\(v12<=17)/\(v6.length=3)/\(0<=E0.Tap/\E0.Tap<=2/\0<=E0.Power.Kind/\E0.Power.Kind<=3/\0<=E0.Tough.Kind/\E0.Tough.Kind<=3/\0<=E0.Value.Kind/\E0.Value.Kind<=3)
def kp:iW->M6
 |.L0 E0 v6 v7 v8=>(9,(6-v8).toNat,1000000,0,0,0)
 |.L1 E0 v6 v7 v9=>(7,(6-v9).toNat,1000000,0,0,0)
 |.L2 E0 v6 v7 v10=>(5,(5-v10).toNat,1000000,0,0,0)
 |.L3 E0 v6 v7 v11=>(3,(5-v11).toNat,1000000,0,0,0)
 |.L4 E0 v6 v7=>(2,0,0,0,0,0)
 |.L5 E0 v6 v7 v12=>(1,(17-v12).toNat,1000000,0,0,0)
def Bi{E0:ai}{v6:List (List UInt8)}{v7:List (List UInt8)}(h:Z2o (.L4 E0 v6 v7)):Tot (pH E0 v6 v7).den (Nx Z2o kp (2,0,0,0,0,0) (λr=>(r.length<=144115188075855872))):=by obtain⟨O0,ov6,ov7,i0,i1,i2⟩:=h;have lb_v6:=ov6.1;have lb_v7:=ov7.1;dsimp only[pH,LT.den];exact tL ⟨O0,ov6,ov7,cl,cl,cl,cl,cl⟩ fC
def Yg{a0:ai}(oa0:ed a0):Tot (yS a0) (λr=>(r.length<=144115188075855872)):=by
 unfold yS;refine tX (Inv:=Z2o) (μ:=kp) (m:=(1000000,0,0,0,0,0)) ?_ ?_
 .dsimp only[HH,LT.den];refine tB (im oa0) (λx1 h2=>?_);have eh2_0:=h2.1;have eh2_1:=h2.2;refine tO (λh3=>?_) (λh3=>?_)
  .exact tR cl
  have h3_0:=eh2_0 h3;refine tB (X7) (λx4 h5=>?_);have eh5_1:=h5.2;refine tB (X8) (λx6 h7=>?_);have eh7_1:=h7.2;refine tB (X9) (λx8 h9=>?_);have eh9_1:=h9.2;refine tB (Ya) (λx10 h11=>?_);have eh11_1:=h11.2;refine tB (tI O O) (λx12 h13=>?_);have oh13:SzN x12:=h5.1.2 x12 h13.1;refine tB (l9 SzL.nil (SzN.t oh13) cl) (λx14 h15=>?_);have eh15_1:=h15.2;try simp only[bU,bJ,aK]at eh15_1
  refine tB (tI O O) (λx16 h17=>?_);have oh17:SzN x16:=h7.1.2 x16 h17.1;refine tB (l9 h15.1 (SzN.t oh17) cl) (λx18 h19=>?_);have eh19_1:=h19.2;refine tB (tI O O) (λx20 h21=>?_);have oh21:SzN x20:=h9.1.2 x20 h21.1;refine tB (l9 h19.1 (SzN.t oh21) cl) (λx22 h23=>?_);have eh23_1:=h23.2;exact tL ⟨oa0,h11.1,h23.1,cl,cl,cl,cl,cl⟩ fC
 intro s hs;cases s with
 |L0 E0 v6 v7 v8=>
  obtain⟨O0,ov6,ov7,cv8,i0,i1,i2,i3⟩:=hs;have lb_v6:=ov6.1;have lb_v7:=ov7.1;show Tot (Z43 E0 v6 v7 v8).den _;dsimp only[Z43,LT.den,kp];refine tD (λh1=>?_) (λh1=>?_)
  .refine tB (qL cl) (λx2 h3=>?_);refine tF (λh4=>?_) (λh4=>?_)
   .refine tB (Z2n cl) (λx5 h6=>?_);have eh6_1:=h6.2;have q9:=ov7.1;refine tB (tA eW aH) (λx7 h8=>?_);have lh8:x7.length=v7.length+1:=by rw[h8,bn];rfl
    refine qw (v8+1) λq10 q11=>?_;exact tL ⟨O0,ov6,SzL.app (k:=16) h8 lo ov7.2 (me1 h6.1),cl,cl,cl,cl,cl⟩ fC
   refine qw (v8+1) λq12 q13=>?_;exact tL ⟨O0,ov6,ov7,cl,cl,cl,cl,cl⟩ fC
  exact tL ⟨O0,ov6,ov7,cl,cl,cl,cl,cl⟩ fC
 |L1 E0 v6 v7 v9=>
  obtain⟨O0,ov6,ov7,cv9,i0,i1,i2,i3⟩:=hs;have lb_v6:=ov6.1;have lb_v7:=ov7.1;show Tot (Z44 E0 v6 v7 v9).den _;dsimp only[Z44,LT.den,kp];refine tD (λh1=>?_) (λh1=>?_)
  .refine tB (qL cl) (λx2 h3=>?_);refine tF (λh4=>?_) (λh4=>?_)
   .refine tB (Z2n cl) (λx5 h6=>?_);have eh6_1:=h6.2;have q7:x5.length<=562949953421312:=h6.1;refine tB (tK bX) (λx8 h9=>?_);have q12:=ov7.1;refine tB (tA eW aH) (λx10 h11=>?_);have lh11:x10.length=v7.length+1:=by rw[h11,bn];rfl
    refine qw (v9+1) λq13 q14=>?_;exact tL ⟨O0,ov6,SzL.app (k:=16) h11 lo ov7.2 (me1 fB),cl,cl,cl,cl,cl⟩ fC
   refine qw (v9+1) λq15 q16=>?_;exact tL ⟨O0,ov6,ov7,cl,cl,cl,cl,cl⟩ fC
  exact tL ⟨O0,ov6,ov7,cl,cl,cl,cl,cl⟩ fC
 |L2 E0 v6 v7 v10=>
  obtain⟨O0,ov6,ov7,cv10,i0,i1,i2,i3⟩:=hs;have lb_v6:=ov6.1;have lb_v7:=ov7.1;show Tot (Z45 E0 v6 v7 v10).den _;dsimp only[Z45,LT.den,kp];refine tD (λh1=>?_) (λh1=>?_)
  .refine tB (qL cl) (λx2 h3=>?_);refine tF (λh4=>?_) (λh4=>?_)
   .refine tB (uw) (λx5 h6=>?_);have q9:=ov7.1;refine tB (tA eW aH) (λx7 h8=>?_);have lh8:x7.length=v7.length+1:=by rw[h8,bn];rfl
    refine qw (v10+1) λq10 q11=>?_;exact tL ⟨O0,ov6,SzL.app (k:=16) h8 lo ov7.2 (me1 (SzN.t h6)),cl,cl,cl,cl,cl⟩ fC
   refine qw (v10+1) λq12 q13=>?_;exact tL ⟨O0,ov6,ov7,cl,cl,cl,cl,cl⟩ fC
  exact tL ⟨O0,ov6,ov7,cl,cl,cl,cl,cl⟩ fC
 |L3 E0 v6 v7 v11=>
  obtain⟨O0,ov6,ov7,cv11,i0,i1,i2,i3⟩:=hs;have lb_v6:=ov6.1;have lb_v7:=ov7.1;show Tot (Z46 E0 v6 v7 v11).den _;dsimp only[Z46,LT.den,kp];refine tD (λh1=>?_) (λh1=>?_)
  .refine tB (qL cl) (λx2 h3=>?_);refine tF (λh4=>?_) (λh4=>?_)
   .refine tB (uw) (λx5 h6=>?_);have q7:x5.length<=100:=h6;refine tB (tK bX) (λx8 h9=>?_);have q12:=ov7.1;refine tB (tA eW aH) (λx10 h11=>?_);have lh11:x10.length=v7.length+1:=by rw[h11,bn];rfl
    refine qw (v11+1) λq13 q14=>?_;exact tL ⟨O0,ov6,SzL.app (k:=16) h11 lo ov7.2 (me1 fB),cl,cl,cl,cl,cl⟩ fC
   refine qw (v11+1) λq15 q16=>?_;exact tL ⟨O0,ov6,ov7,cl,cl,cl,cl,cl⟩ fC
  refine tO (λh17=>?_) (λh17=>?_)
  .have q18:E0.Sub.length<=281474976710656:=O0;refine tB (tK bX) (λx19 h20=>?_);have q23:=ov7.1;refine tB (tA eW aH) (λx21 h22=>?_);have lh22:x21.length=v7.length+1:=by rw[h22,bn];rfl
   exact tJ (Bi ⟨O0,ov6,SzL.app (k:=16) h22 lo ov7.2 (me1 fB),cl,cl,cl⟩)
  exact tJ (Bi ⟨O0,ov6,ov7,cl,cl,cl⟩)
 |L4 _ _ _=>exact Bi hs
 |L5 E0 v6 v7 v12=>
  obtain⟨O0,ov6,ov7,cv12,i0,i1,i2,i3⟩:=hs;have lb_v6:=ov6.1;have lb_v7:=ov7.1;show Tot (Z47 E0 v6 v7 v12).den _;dsimp only[Z47,LT.den,kp];refine tD (λh1=>?_) (λh1=>?_)
  .refine tB (qL cl) (λx2 h3=>?_);refine tF (λh4=>?_) (λh4=>?_)
   .refine tB (Z2m) (λx5 h6=>?_);have q7:x5.length<=100:=h6;refine tB (tK bX) (λx8 h9=>?_);have q12:=ov7.1;refine tB (tA eW aH) (λx10 h11=>?_);have lh11:x10.length=v7.length+1:=by rw[h11,bn];rfl
    refine qw (v12+1) λq13 q14=>?_;exact tL ⟨O0,ov6,SzL.app (k:=16) h11 lo ov7.2 (me1 fB),cl,cl,cl,cl,cl⟩ fC
   refine qw (v12+1) λq15 q16=>?_;exact tL ⟨O0,ov6,ov7,cl,cl,cl,cl,cl⟩ fC
  refine tB (tI O O) (λx17 h18=>?_);have oh18:SzN x17:=ov6.2 x17 h18.1;refine tB (l9 ov7 (SzN.t oh18) cl) (λx19 h20=>?_);have eh20_1:=h20.2;refine tB (Bh aG cl cl) (λx21 h22=>?_);refine tB (l9 h20.1 h22 cl) (λx23 h24=>?_);have eh24_1:=h24.2;refine tB (Bh aG cl cl) (λx25 h26=>?_);refine tB (l9 h24.1 h26 cl) (λx27 h28=>?_);have eh28_1:=h28.2;refine tB (Bh aG cl cl) (λx29 h30=>?_);refine tB (l9 h28.1 h30 cl) (λx31 h32=>?_);have eh32_1:=h32.2;refine tE (λh33=>?_) (λh33=>?_)
  .exact tR cl
  refine tB (Yf h32.1 aG cl) (λx34 h35=>?_);have eh35_0:=h35;exact tR cl
def Lg{a0:ah}(oa0:cc a0):Tot (yU a0) (λr=>(r.length<=288230376151711744)):=by
 unfold yU;refine tZ ?_;dsimp only[HK,LT.den];refine tB (Lc oa0) (λx1 h2=>?_);refine tO (λh3=>?_) (λh3=>?_)
 .exact tR cl
 refine tE (λh4=>?_) (λh4=>?_)
 .exact tR cl
 refine tE (λh5=>?_) (λh5=>?_)
 .refine tB (Bg) (λx6 h7=>?_);have eh7_1:=h7.2;have q8:x6.length<=562949953421312:=h7.1;refine tB (tK bX) (λx9 h10=>?_);exact tR cl
 refine tE (λh11=>?_) (λh11=>?_)
 .refine tB (Bg) (λx12 h13=>?_);have eh13_1:=h13.2;have q14:x12.length<=562949953421312:=h13.1;refine tB (tK bX) (λx15 h16=>?_);exact tR cl
 refine tE (λh17=>?_) (λh17=>?_)
 .have q18:a0.Sub.length<=281474976710656:=oa0.1;refine tB (tK bX) (λx19 h20=>?_);exact tR cl
 refine tE (λh21=>?_) (λh21=>?_)
 .have q22:a0.Sub.length<=281474976710656:=oa0.1;refine tB (tK bX) (λx23 h24=>?_);exact tR cl
 refine tE (λh25=>?_) (λh25=>?_)
 .refine tB (Ld) (λx26 h27=>?_);have q28:x26.length<=562949953421312:=h27;refine tB (tK bX) (λx29 h30=>?_);exact tR cl
 refine tE (λh31=>?_) (λh31=>?_)
 .refine tB (Ld) (λx32 h33=>?_);have q34:x32.length<=562949953421312:=h33;refine tB (tK bX) (λx35 h36=>?_);exact tR cl
 refine tE (λh37=>?_) (λh37=>?_)
 .refine tB (Le) (λx38 h39=>?_);have q40:x38.length<=562949953421312:=h39;refine tB (tK bX) (λx41 h42=>?_);exact tR cl
 refine tE (λh43=>?_) (λh43=>?_)
 .refine tB (Le) (λx44 h45=>?_);have q46:x44.length<=562949953421312:=h45;refine tB (tK bX) (λx47 h48=>?_);exact tR cl
 refine tE (λh49=>?_) (λh49=>?_)
 .exact tR cl
 refine tE (λh50=>?_) (λh50=>?_)
 .refine tB (Yg oa0.2) (λx51 h52=>?_);have eh52_0:=h52;refine tB (tK bX) (λx53 h54=>?_);refine tB (tK bX) (λx55 h56=>?_);exact tR cl
 refine tE (λh57=>?_) (λh57=>?_)
 .refine tB (nf) (λx58 h59=>?_);have q60:x58.length<=100:=h59;refine tB (tK bX) (λx61 h62=>?_);refine tB (tK bX) (λx63 h64=>?_);refine tB (nf) (λx65 h66=>?_);have q67:x65.length<=100:=h66;refine tB (tK bX) (λx68 h69=>?_);exact tR cl
 refine tE (λh70=>?_) (λh70=>?_)
 .refine tB (nf) (λx71 h72=>?_);have q73:x71.length<=100:=h72;refine tB (tK bX) (λx74 h75=>?_);refine tB (tK bX) (λx76 h77=>?_);refine tB (nf) (λx78 h79=>?_);have q80:x78.length<=100:=h79;refine tB (tK bX) (λx81 h82=>?_);exact tR cl
 exact tR cl
def Yh:pI->Prop
 |.L0 v0 v3 v4=>((SzL 176 cc) v0)/\(0<=v4)/\(v3.length<=576460752303423488*v4.toNat)/\(v0.length<=6)/\(v4<=v0.length)
def Kh:pI->M6
 |.L0 v0 v3 v4=>(1,((v0.length:Int)-v4).toNat,1000000,0,0,0)
def Bj{a0:List ah}(oa0:(SzL 176 cc) a0):Tot (Z0q a0) (λr=>(r.length<=4611686018427387904)):=by
 unfold Z0q;refine tX (Inv:=Yh) (μ:=Kh) (m:=(1000000,0,0,0,0,0)) ?_ ?_
 .have lb_a0:=oa0.1;dsimp only[Z7a,LT.den];have q1:=oa0.1;refine tE (λh2=>?_) (λh2=>?_)
  .exact tR cl
  refine tD (λh3=>?_) (λh3=>?_)
  .exact tR cl
  exact tL ⟨oa0,cl,cl,cl,cl⟩ AI
 intro s hs;cases s with
 |L0 v0 v3 v4=>
  obtain⟨ov0,cv4,i0,i1,i2⟩:=hs;have lb_v0:=ov0.1;show Tot (yV v0 v3 v4).den _;dsimp only[yV,LT.den];have q1:=ov0.1;refine tD (λh2=>?_) (λh2=>?_)
  .refine tB (tI O O) (λx3 h4=>?_);have oh4:cc x3:=ov0.2 x3 h4.1;refine tB (Lc oh4) (λx5 h6=>?_);refine tO (λh7=>?_) (λh7=>?_)
   .exact tR cl
   refine tD (λh8=>?_) (λh8=>?_)
   .refine tB (tK bX) (λx9 h10=>?_);refine tB (Lg oh4) (λx11 h12=>?_);have eh12_0:=h12;refine tB (tK bX) (λx13 h14=>?_);refine qw (v4+1) λq15 q16=>?_;exact tL ⟨ov0,cl,cl,cl,cl⟩ AI
   refine tB (Lg oh4) (λx17 h18=>?_);have eh18_0:=h18;refine tB (tK bX) (λx19 h20=>?_);refine qw (v4+1) λq21 q22=>?_;exact tL ⟨ov0,cl,cl,cl,cl⟩ AI
  exact tR cl
def Yi{a0:eU}:Tot (yX a0) (λr=>True):=by
 unfold yX;refine tZ ?_;dsimp only[HN,LT.den];refine tB (Z9y a0.Mana) (λx1 h2=>?_);have eh2_0:=h2.1;have eh2_1:=h2.2.1;have eh2_2:=h2.2.2;refine tF (λh3=>?_) (λh3=>?_)
 .have h3_0:=eh2_0 h3;have h3_1:=eh2_1 h3;refine tE (λh4=>?_) (λh4=>?_)
  .refine tD (λh5=>?_) (λh5=>?_)
   .exact tR aa
   exact tR aa
  exact tR aa
 exact tR aa
def Lh{a0:Int}:Tot (yY a0) (λr=>(SzN r)):=by
 unfold yY;refine tZ ?_;dsimp only[HP,LT.den];refine tE (λh1=>?_) (λh1=>?_)
 .exact tR aG
 refine tE (λh2=>?_) (λh2=>?_)
 .exact tR aG
 refine tE (λh3=>?_) (λh3=>?_)
 .exact tR aG
 refine tE (λh4=>?_) (λh4=>?_)
 .exact tR aG
 refine tE (λh5=>?_) (λh5=>?_)
 .exact tR aG
 refine tE (λh6=>?_) (λh6=>?_)
 .exact tR aG
 refine tE (λh7=>?_) (λh7=>?_)
 .exact tR aG
 refine tE (λh8=>?_) (λh8=>?_)
 .exact tR aG
 refine tE (λh9=>?_) (λh9=>?_)
 .exact tR aG
 refine tE (λh10=>?_) (λh10=>?_)
 .exact tR aG
 refine tE (λh11=>?_) (λh11=>?_)
 .exact tR aG
 refine tE (λh12=>?_) (λh12=>?_)
 .exact tR aG
 refine tE (λh13=>?_) (λh13=>?_)
 .exact tR aG
 refine tE (λh14=>?_) (λh14=>?_)
 .exact tR aG
 exact tR (SzN.nil)
def Z77{a0:Int}:Tot (Z88 a0) (λr=>True):=by
 unfold Z88;refine tZ ?_;dsimp only[HS,LT.den];refine tE (λh1=>?_) (λh1=>?_)
 .exact tR aa
 refine tE (λh2=>?_) (λh2=>?_)
 .exact tR aa
 refine tE (λh3=>?_) (λh3=>?_)
 .exact tR aa
 refine tE (λh4=>?_) (λh4=>?_)
 .exact tR aa
 refine tE (λh5=>?_) (λh5=>?_)
 .exact tR aa
 exact tR aa
def Yj{a0:Int}:Tot (yZ a0) (λr=>True):=by
 unfold yZ;refine tZ ?_;dsimp only[Z3v,LT.den];refine tB (Lh) (λx1 h2=>?_);refine tO (λh3=>?_) (λh3=>?_)
 .refine tB (Z77) (λx4 h5=>?_);refine tO (λh6=>?_) (λh6=>?_)
  .exact tR aa
  exact tR aa
 exact tR aa
def Z92:Z0r->Prop
 |.L0 E0=>(uu E0)/\True
def Li:Z0r->M6
 |.L0 E0=>(0,0,0,0,0,0)
def Bk{E0:dM}(h:Z92 (.L0 E0)):Tot (pJ E0).den (Nx Z92 Li (0,0,0,0,0,0) (λr=>True)):=by
 obtain⟨O0,_⟩:=h;dsimp only[pJ,LT.den];refine tB (Yj) (λx1 h2=>?_);refine tO (λh3=>?_) (λh3=>?_)
 .exact tR aa
 refine tE (λh4=>?_) (λh4=>?_)
 .refine tB (im O0) (λx5 h6=>?_);have eh6_0:=h6.1;have eh6_1:=h6.2;refine tF (λh7=>?_) (λh7=>?_)
  .have h7_0:=eh6_0 h7;exact tR aa
  exact tR aa
 refine tB (im O0) (λx8 h9=>?_);have eh9_0:=h9.1;have eh9_1:=h9.2;refine tF (λh10=>?_) (λh10=>?_)
 .have h10_0:=eh9_0 h10;exact tR aa
 exact tR aa
def Yk{a0:dM}(oa0:uu a0):Tot (za a0) (λr=>True):=by
 unfold za;refine tX (Inv:=Z92) (μ:=Li) (m:=(1000000,0,0,0,0,0)) ?_ ?_
 .dsimp only[HV,LT.den];refine tB (Lh) (λx1 h2=>?_);refine tF (λh3=>?_) (λh3=>?_)
  .exact tR aa
  refine tD (λh4=>?_) (λh4=>?_)
  .exact tR aa
  refine tD (λh5=>?_) (λh5=>?_)
  .exact tR aa
  refine tB (Z77) (λx6 h7=>?_);refine tO (λh8=>?_) (λh8=>?_)
  .refine tN (λh9=>?_) (λh9=>?_)
   .exact tR aa
   exact tJ (Bk ⟨oa0,aa⟩)
  exact tJ (Bk ⟨oa0,aa⟩)
 intro s hs;cases s with
 |L0 _=>exact Bk hs
def Bl{a0:ai}(oa0:ed a0):Tot (zd a0) (λr=>True):=by
 unfold zd;refine tZ ?_;dsimp only[HX,LT.den];refine tB (im oa0) (λx1 h2=>?_);have eh2_0:=h2.1;have eh2_1:=h2.2;refine tF (λh3=>?_) (λh3=>?_)
 .have h3_0:=eh2_0 h3;exact tR aa
 exact tR aa
def Yl{a0:cE}(oa0:jG a0):Tot (ze a0) (λr=>True):=by
 unfold ze;refine tZ ?_;dsimp only[H0,LT.den];refine tN (λh1=>?_) (λh1=>?_)
 .exact tR aa
 refine tB (Bl oa0) (λx2 h3=>?_);refine tO (λh4=>?_) (λh4=>?_)
 .exact tR aa
 refine tE (λh5=>?_) (λh5=>?_)
 .refine tE (λh6=>?_) (λh6=>?_)
  .refine tE (λh7=>?_) (λh7=>?_)
   .refine tE (λh8=>?_) (λh8=>?_)
    .exact tR aa
    refine tE (λh9=>?_) (λh9=>?_)
    .exact tR aa
    exact tR aa
   exact tR aa
  exact tR aa
 refine tE (λh10=>?_) (λh10=>?_)
 .refine tE (λh11=>?_) (λh11=>?_)
  .refine tE (λh12=>?_) (λh12=>?_)
   .exact tR aa
   exact tR aa
  exact tR aa
 refine tE (λh13=>?_) (λh13=>?_)
 .refine tE (λh14=>?_) (λh14=>?_)
  .refine tD (λh15=>?_) (λh15=>?_)
   .refine tD (λh16=>?_) (λh16=>?_)
    .refine tD (λh17=>?_) (λh17=>?_)
     .exact tR aa
     exact tR aa
    exact tR aa
   exact tR aa
  exact tR aa
 exact tR aa
def Ym{a0:cE}(oa0:jG a0):Tot (zf a0) (λr=>True):=by
 unfold zf;refine tZ ?_;dsimp only[H2,LT.den];refine tN (λh1=>?_) (λh1=>?_)
 .exact tR aa
 refine tN (λh2=>?_) (λh2=>?_)
 .exact tR aa
 refine tE (λh3=>?_) (λh3=>?_)
 .refine tD (λh4=>?_) (λh4=>?_)
  .exact tR aa
  exact tR aa
 refine tE (λh5=>?_) (λh5=>?_)
 .refine tD (λh6=>?_) (λh6=>?_)
  .exact tR aa
  exact tR aa
 exact tR aa
def ng:lG->Prop
 |.L0 E0 v3 v4=>(jG E0)/\True
 |.L1 E0 v3=>(jG E0)/\True
 |.L2 E0 v3 v4 v109=>(jG E0)/\True
def Z4j:lG->M6
 |.L0 E0 v3 v4=>(0,0,0,0,0,0)
 |.L1 E0 v3=>(0,0,0,0,0,0)
 |.L2 E0 v3 v4 v109=>(0,0,0,0,0,0)
def ux{E0:cE}{v3:Bool}{v4:Bool}{v109:Bool}(h:(jG E0)/\True):Tot (mU E0 v3 v4 v109).den (Nx ng Z4j (0,0,0,0,0,0) (λr=>True)):=by
 obtain⟨O0,_⟩:=h;dsimp only[mU,LT.den];refine tF (λh1=>?_) (λh1=>?_)
 .refine tF (λh2=>?_) (λh2=>?_)
  .refine tD (λh3=>?_) (λh3=>?_)
   .refine tD (λh4=>?_) (λh4=>?_)
    .exact tR aa
    exact tR aa
   exact tR aa
  exact tR aa
 exact tR aa
def qM{E0:cE}{v3:Bool}(h:ng (.L1 E0 v3)):Tot (lH E0 v3).den (Nx ng Z4j (0,0,0,0,0,0) (λr=>True)):=by
 obtain⟨O0,_⟩:=h;dsimp only[lH,LT.den];refine tE (λh1=>?_) (λh1=>?_)
 .refine tB (Bl O0) (λx2 h3=>?_);refine tF (λh4=>?_) (λh4=>?_)
  .exact tR aa
  refine tE (λh5=>?_) (λh5=>?_)
  .exact tR aa
  refine tE (λh6=>?_) (λh6=>?_)
  .exact tR aa
  exact tR aa
 refine tE (λh7=>?_) (λh7=>?_)
 .exact tR aa
 refine tE (λh8=>?_) (λh8=>?_)
 .exact tR aa
 exact tR aa
def uy{E0:cE}{v3:Bool}{v4:Bool}(h:ng (.L0 E0 v3 v4)):Tot (mV E0 v3 v4).den (Nx ng Z4j (0,0,0,0,0,0) (λr=>True)):=by
 obtain⟨O0,_⟩:=h;dsimp only[mV,LT.den];refine tE (λh1=>?_) (λh1=>?_)
 .refine tN (λh2=>?_) (λh2=>?_)
  .refine tN (λh3=>?_) (λh3=>?_)
   .refine tN (λh4=>?_) (λh4=>?_)
    .refine tN (λh5=>?_) (λh5=>?_)
     .exact tR aa
     exact tJ (qM ⟨O0,aa⟩)
    exact tJ (qM ⟨O0,aa⟩)
   exact tJ (qM ⟨O0,aa⟩)
  exact tJ (qM ⟨O0,aa⟩)
 refine tE (λh6=>?_) (λh6=>?_)
 .refine tF (λh7=>?_) (λh7=>?_)
  .refine tE (λh8=>?_) (λh8=>?_)
   .refine tB (Bl O0) (λx9 h10=>?_);exact tR aa
   exact tR aa
  exact tR aa
 refine tE (λh11=>?_) (λh11=>?_)
 .refine tE (λh12=>?_) (λh12=>?_)
  .refine tD (λh13=>?_) (λh13=>?_)
   .refine tD (λh14=>?_) (λh14=>?_)
    .exact tR aa
    exact tR aa
   exact tR aa
  refine tE (λh15=>?_) (λh15=>?_)
  .refine tD (λh16=>?_) (λh16=>?_)
   .refine tD (λh17=>?_) (λh17=>?_)
    .exact tR aa
    exact tR aa
   exact tR aa
  exact tR aa
 refine tE (λh18=>?_) (λh18=>?_)
 .exact tJ (ux ⟨O0,aa⟩)
 refine tE (λh19=>?_) (λh19=>?_)
 .exact tJ (ux ⟨O0,aa⟩)
 exact tJ (ux ⟨O0,aa⟩)
def Yn{a0:cE}(oa0:jG a0):Tot (zg a0) (λr=>True):=by
 unfold zg;refine tX (Inv:=ng) (μ:=Z4j) (m:=(1000000,0,0,0,0,0)) ?_ ?_
 .dsimp only[H4,LT.den];refine tE (λh1=>?_) (λh1=>?_)
  .refine tB (Yl oa0) (λx2 h3=>?_);exact tR aa
  refine tB (Ym oa0) (λx4 h5=>?_);refine tO (λh6=>?_) (λh6=>?_)
  .exact tR aa
  refine tE (λh7=>?_) (λh7=>?_)
  .exact tJ (uy ⟨oa0,aa⟩)
  refine tE (λh8=>?_) (λh8=>?_)
  .exact tJ (uy ⟨oa0,aa⟩)
  exact tJ (uy ⟨oa0,aa⟩)
 intro s hs;cases s with
 |L0 _ _ _=>exact uy hs
 |L1 _ _=>exact qM hs
 |L2 _ _ _ _=>exact ux hs
def Yo{a0:bz}(oa0:iH a0):Tot (zh a0) (λr=>True):=by
 unfold zh;refine tZ ?_;dsimp only[H6,LT.den];refine tO (λh1=>?_) (λh1=>?_)
 .refine tF (λh2=>?_) (λh2=>?_)
  .exact tR aa
  exact tR aa
 refine tB (im oa0) (λx3 h4=>?_);have eh4_0:=h4.1;have eh4_1:=h4.2;refine tF (λh5=>?_) (λh5=>?_)
 .have h5_0:=eh4_0 h5;refine tE (λh6=>?_) (λh6=>?_)
  .exact tR aa
  refine tE (λh7=>?_) (λh7=>?_)
  .exact tR aa
  exact tR aa
 exact tR aa
def Yp:pK->Prop
 |.L0 v0 v3=>((SzL 144 iH) v0)/\(0<=v3)
def Z2p:pK->M6
 |.L0 v0 v3=>(1,((v0.length:Int)-v3).toNat,1000000,0,0,0)
def Yq{a0:List bz}(oa0:(SzL 144 iH) a0):Tot (zj a0) (λr=>True):=by
 unfold zj;refine tX (Inv:=Yp) (μ:=Z2p) (m:=(1000000,0,0,0,0,0)) ?_ ?_
 .have lb_a0:=oa0.1;dsimp only[H8,LT.den];exact tL ⟨oa0,cl⟩ KQ
 intro s hs;cases s with
 |L0 v0 v3=>
  obtain⟨ov0,cv3⟩:=hs;have lb_v0:=ov0.1;show Tot (Z0t v0 v3).den _;dsimp only[Z0t,LT.den];have q1:=ov0.1;refine tD (λh2=>?_) (λh2=>?_)
  .refine tB (tI O O) (λx3 h4=>?_);have oh4:iH x3:=ov0.2 x3 h4.1;refine tB (Yo oh4) (λx5 h6=>?_);refine tO (λh7=>?_) (λh7=>?_)
   .exact tR aa
   refine qw (v3+1) λq8 q9=>?_;exact tL ⟨ov0,cl⟩ KQ
  exact tR aa
def Yr{a0:Int}:Tot (zk a0) (λr=>(SzN r)):=by
 unfold zk;refine tZ ?_;dsimp only[Ia,LT.den];refine tD (λh1=>?_) (λh1=>?_)
 .exact tR (SzN.nil)
 refine tD (λh2=>?_) (λh2=>?_)
 .exact tR (SzN.nil)
 have q3:(SzL 16 SzN) ([([100,97,109,97,103,101]:List UInt8),([100,101,115,116,114,111,121]:List UInt8),([109,111,118,101]:List UInt8),([100,114,97,119]:List UInt8),([100,105,115,99,97,114,100]:List UInt8),([103,97,105,110]:List UInt8),([108,111,115,101]:List UInt8),([116,97,112]:List UInt8),([117,110,116,97,112]:List UInt8),([112,117,116]:List UInt8),([116,97,107,101]:List UInt8),([99,114,101,97,116,101]:List UInt8),([109,111,100]:List UInt8),([109,97,110,97]:List UInt8),([99,111,117,110,116,101,114]:List UInt8),([99,111,112,121]:List UInt8),([98,101,99,111,109,101]:List UInt8),([115,97,99,114,105,102,105,99,101]:List UInt8),([109,105,108,108]:List UInt8),([115,99,114,121]:List UInt8),([115,101,97,114,99,104]:List UInt8),([115,104,105,101,108,100]:List UInt8),([116,117,114,110]:List UInt8),([119,105,110]:List UInt8),([100,101,102,101,97,116]:List UInt8),([118,101,110,111,109]:List UInt8)]:List (List UInt8)):=⟨by simp only[bJ,bU];omega,mem_cons' aG (mem_cons' aG (mem_cons' aG (mem_cons' aG (mem_cons' aG (mem_cons' aG (mem_cons' aG (mem_cons' aG (mem_cons' aG (mem_cons' aG (mem_cons' aG (mem_cons' aG (mem_cons' aG (mem_cons' aG (mem_cons' aG (mem_cons' aG (mem_cons' aG (mem_cons' aG (mem_cons' aG (mem_cons' aG (mem_cons' aG (mem_cons' aG (mem_cons' aG (mem_cons' aG (mem_cons' aG (mem_cons' aG (λ_ h=>by cases h))))))))))))))))))))))))))⟩;have lq3:([([100,97,109,97,103,101]:List UInt8),([100,101,115,116,114,111,121]:List UInt8),([109,111,118,101]:List UInt8),([100,114,97,119]:List UInt8),([100,105,115,99,97,114,100]:List UInt8),([103,97,105,110]:List UInt8),([108,111,115,101]:List UInt8),([116,97,112]:List UInt8),([117,110,116,97,112]:List UInt8),([112,117,116]:List UInt8),([116,97,107,101]:List UInt8),([99,114,101,97,116,101]:List UInt8),([109,111,100]:List UInt8),([109,97,110,97]:List UInt8),([99,111,117,110,116,101,114]:List UInt8),([99,111,112,121]:List UInt8),([98,101,99,111,109,101]:List UInt8),([115,97,99,114,105,102,105,99,101]:List UInt8),([109,105,108,108]:List UInt8),([115,99,114,121]:List UInt8),([115,101,97,114,99,104]:List UInt8),([115,104,105,101,108,100]:List UInt8),([116,117,114,110]:List UInt8),([119,105,110]:List UInt8),([100,101,102,101,97,116]:List UInt8),([118,101,110,111,109]:List UInt8)]:List (List UInt8)).length=26:=rfl;refine qw (a0-1) λq4 q5=>?_;refine tB (tI O O) (λx6 h7=>?_);have oh7:SzN x6:=q3.2 x6 h7.1;exact tR oh7
def Z2q:mW->Prop
 |.L0 v3 v4=>True
 |.L1 v3 v14=>True
def Z6g:mW->M6
 |.L0 v3 v4=>(0,0,0,0,0,0)
 |.L1 v3 v14=>(0,0,0,0,0,0)
def Bm{v3:Int}{v14:Bool}(h:True):Tot (pL v3 v14).den (Nx Z2q Z6g (0,0,0,0,0,0) (λr=>(SzN r))):=by
 dsimp only[pL,LT.den];refine tF (λh1=>?_) (λh1=>?_)
 .exact tR aG
 refine tE (λh2=>?_) (λh2=>?_)
 .exact tR aG
 refine tE (λh3=>?_) (λh3=>?_)
 .exact tR aG
 refine tE (λh4=>?_) (λh4=>?_)
 .exact tR aG
 refine tE (λh5=>?_) (λh5=>?_)
 .exact tR aG
 refine tE (λh6=>?_) (λh6=>?_)
 .exact tR aG
 refine tE (λh7=>?_) (λh7=>?_)
 .exact tR aG
 refine tE (λh8=>?_) (λh8=>?_)
 .exact tR (SzN.nil)
 refine tE (λh9=>?_) (λh9=>?_)
 .exact tR (SzN.nil)
 exact tR aG
def kx{v3:Int}{v4:Bool}(h:True):Tot (iX v3 v4).den (Nx Z2q Z6g (0,0,0,0,0,0) (λr=>(SzN r))):=by
 dsimp only[iX,LT.den];refine tF (λh1=>?_) (λh1=>?_)
 .exact tR aG
 refine tE (λh2=>?_) (λh2=>?_)
 .exact tR aG
 refine tE (λh3=>?_) (λh3=>?_)
 .exact tJ (Bm trivial)
 exact tJ (Bm trivial)
def Ys{a0:Int}:Tot (zl a0) (λr=>(SzN r)):=by
 unfold zl;refine tX (Inv:=Z2q) (μ:=Z6g) (m:=(1000000,0,0,0,0,0)) ?_ ?_
 .dsimp only[Ic,LT.den];refine tE (λh1=>?_) (λh1=>?_)
  .exact tJ (kx trivial)
  refine tE (λh2=>?_) (λh2=>?_)
  .exact tJ (kx trivial)
  refine tE (λh3=>?_) (λh3=>?_)
  .exact tJ (kx trivial)
  refine tE (λh4=>?_) (λh4=>?_)
  .exact tJ (kx trivial)
  refine tE (λh5=>?_) (λh5=>?_)
  .exact tJ (kx trivial)
  refine tE (λh6=>?_) (λh6=>?_)
  .exact tJ (kx trivial)
  exact tJ (kx trivial)
 intro s hs;cases s with
 |L0 _ _=>exact kx hs
 |L1 _ _=>exact Bm hs
def Yt:pM->Prop
 |.L0 v1 v5 v6=>(SzT v5)/\(0<=v6)
def Z6h:pM->M6
 |.L0 v1 v5 v6=>(1,((v5.length:Int)-v6).toNat,1000000,0,0,0)
def ky{a0:Int}{a1:Int}:Tot (zm a0 a1) (λr=>True):=by
 unfold zm;refine tX (Inv:=Yt) (μ:=Z6h) (m:=(1000000,0,0,0,0,0)) ?_ ?_
 .dsimp only[If,LT.den];refine tB (Ys) (λx1 h2=>?_);exact tL ⟨SzN.t h2,cl⟩ KM
 intro s hs;cases s with
 |L0 v1 v5 v6=>
  obtain⟨ov5,cv6⟩:=hs;have lb_v5:v5.length<=562949953421312:=ov5;show Tot (Z48 v1 v5 v6).den _;dsimp only[Z48,LT.den];have q1:v5.length<=562949953421312:=ov5;refine tD (λh2=>?_) (λh2=>?_)
  .refine tB (tI O O) (λx3 h4=>?_);refine tE (λh5=>?_) (λh5=>?_)
   .exact tR aa
   refine qw (v6+1) λq6 q7=>?_;exact tL ⟨ov5,cl⟩ KM
  exact tR aa
def Yu{a0:Int}:Tot (Z0u a0) (λr=>True):=by
 unfold Z0u;refine tZ ?_;dsimp only[Z7c,LT.den];refine tE (λh1=>?_) (λh1=>?_)
 .exact tR aa
 exact tR aa
def qN:mX->Prop
 |.L0 v1 E0=>(qH E0)/\True
 |.L1 E0=>(qH E0)/\True
def Bn:mX->M6
 |.L0 v1 E0=>(0,0,0,0,0,0)
 |.L1 E0=>(0,0,0,0,0,0)
def Bo{E0:eu}(h:qN (.L1 E0)):Tot (pN E0).den (Nx qN Bn (0,0,0,0,0,0) (λr=>True)):=by
 obtain⟨O0,_⟩:=h;dsimp only[pN,LT.den];refine tE (λh1=>?_) (λh1=>?_)
 .refine tB (im O0) (λx2 h3=>?_);have eh3_0:=h3.1;have eh3_1:=h3.2;exact tR aa
 exact tR aa
def Bp{v1:Int}{E0:eu}(h:qN (.L0 v1 E0)):Tot (pO v1 E0).den (Nx qN Bn (0,0,0,0,0,0) (λr=>True)):=by
 obtain⟨O0,_⟩:=h;dsimp only[pO,LT.den];refine tD (λh1=>?_) (λh1=>?_)
 .exact tR aa
 refine tD (λh2=>?_) (λh2=>?_)
 .exact tR aa
 refine tB (Yu) (λx3 h4=>?_);refine tF (λh5=>?_) (λh5=>?_)
 .refine tD (λh6=>?_) (λh6=>?_)
  .exact tR aa
  refine tD (λh7=>?_) (λh7=>?_)
  .exact tR aa
  exact tJ (Bo ⟨O0,aa⟩)
 refine tN (λh8=>?_) (λh8=>?_)
 .exact tR aa
 exact tJ (Bo ⟨O0,aa⟩)
def Yv{a0:eu}{a1:Int}(oa0:qH a0):Tot (zn a0 a1) (λr=>True):=by
 unfold zn;refine tX (Inv:=qN) (μ:=Bn) (m:=(1000000,0,0,0,0,0)) ?_ ?_
 .dsimp only[Ih,LT.den];refine tD (λh1=>?_) (λh1=>?_)
  .exact tJ (Bp ⟨oa0,aa⟩)
  exact tJ (Bp ⟨oa0,aa⟩)
 intro s hs;cases s with
 |L0 _ _=>exact Bp hs
 |L1 _=>exact Bo hs
def Lj{a0:Int}:Tot (zo a0) (λr=>(SzT r)/\(r=[]↔¬(0<=a0/\a0<=2))):=by
 unfold zo;refine tZ ?_;dsimp only[Ij,LT.den];refine tE (λh1=>?_) (λh1=>?_)
 .exact tR ⟨fB,tM⟩
 refine tE (λh2=>?_) (λh2=>?_)
 .exact tR ⟨fB,tM⟩
 refine tE (λh3=>?_) (λh3=>?_)
 .exact tR ⟨fB,tM⟩
 exact tR ⟨SzT.nil,tM⟩
def Yw{a0:de}(oa0:A0 a0):Tot (zp a0) (λr=>(r=amV a0)):=by
 unfold zp;refine tZ ?_;dsimp only[Im,LT.den];refine tE (λh1=>?_) (λh1=>?_)
 .refine tD (λh2=>?_) (λh2=>?_)
  .exact tR eM
  refine tD (λh3=>?_) (λh3=>?_)
  .exact tR eM
  refine tD (λh4=>?_) (λh4=>?_)
  .refine tD (λh5=>?_) (λh5=>?_)
   .exact tR eM
   exact tR eM
  exact tR eM
 refine tE (λh6=>?_) (λh6=>?_)
 .refine tD (λh7=>?_) (λh7=>?_)
  .exact tR eM
  refine tD (λh8=>?_) (λh8=>?_)
  .exact tR eM
  refine tB (im oa0) (λx9 h10=>?_);have eh10_0:=h10.1;have eh10_1:=h10.2;refine tO (λh11=>?_) (λh11=>?_)
  .exact tR eM
  have h11_0:=eh10_0 h11;refine tD (λh12=>?_) (λh12=>?_)
  .refine tD (λh13=>?_) (λh13=>?_)
   .exact tR eM
   exact tR eM
  exact tR eM
 refine tE (λh14=>?_) (λh14=>?_)
 .refine tB (Lj) (λx15 h16=>?_);have eh16_1:=h16.2;refine tF (λh17=>?_) (λh17=>?_)
  .exact tR eM
  refine tD (λh18=>?_) (λh18=>?_)
  .refine tD (λh19=>?_) (λh19=>?_)
   .exact tR eM
   exact tR eM
  exact tR eM
 refine tD (λh20=>?_) (λh20=>?_)
 .refine tD (λh21=>?_) (λh21=>?_)
  .exact tR eM
  exact tR eM
 exact tR eM
def Yx{a0:List ah}(oa0:(SzL 176 cc) a0):Tot (zq a0) (λr=>True):=by unfold zq;refine tZ ?_;have lb_a0:=oa0.1;dsimp only[Ip,LT.den];refine tB (Bj oa0) (λx1 h2=>?_);have eh2_0:=h2;exact tR aa
def Yy:pP->Prop
 |.L0 E0 E1 E2 v4=>(0<=v4)/\True
def Z6i:pP->M6
 |.L0 E0 E1 E2 v4=>(1,(5-v4).toNat,1000000,0,0,0)
def Yz{a0:A6 Int}:Tot (zr a0) (λr=>True):=by
 unfold zr;refine tX (Inv:=Yy) (μ:=Z6i) (m:=(1000000,0,0,0,0,0)) ?_ ?_
 .dsimp only[Ir,LT.den];refine tB (tI O (by have e:(A6.list a0).length=6:=rfl;omega)) (λx1 h2=>?_);exact tL ⟨cl,aa⟩ KL
 intro s hs;cases s with
 |L0 E0 E1 E2 v4=>
  obtain⟨cv4,_⟩:=hs;show Tot (Z49 E0 E1 E2 v4).den _;dsimp only[Z49,LT.den];refine tD (λh1=>?_) (λh1=>?_)
  .refine qw (v4+1) λq2 q3=>?_;refine tB (tI O (by have e:(A6.list E0).length=6:=rfl;omega)) (λx4 h5=>?_);refine tB (tI O (by have e:(A5.list E2.Color).length=5:=rfl;omega)) (λx6 h7=>?_);refine tB (Tot.setA5 O O) (λx8 h9=>?_);exact tL ⟨cl,aa⟩ KL
  exact tR aa
def YA:lI->Prop
 |.L0 E0 v3 v4=>(0<=v4)/\(E0.X<=2)/\(∀n,n∈A5.list E0.Color->n<=9)/\(v3.length<=v4.toNat)/\(v4<=2)
 |.L1 E0 v3 v5=>(0<=v5)/\(v3.length<=200+200*v5.toNat)/\(∀n,n∈A5.list E0.Color->n<=9)/\(v5<=5)
 |.L2 E0 v3 v5 v6=>(0<=v5)/\(0<=v6)/\(v5<5)/\(v3.length<=200+200*v5.toNat+v6.toNat)/\(∀n,n∈A5.list E0.Color->n<=9)/\(v5<5)/\(v6<=9)
def JY:lI->M6
 |.L0 E0 v3 v4=>(3,(E0.X-v4).toNat,1000000,0,0,0)
 |.L1 E0 v3 v5=>(1,(5-v5).toNat,1000000,0,0,0)
 |.L2 E0 v3 v5 v6=>(1,(5-v5).toNat,1,(9-v6).toNat,1000000,0)
def YB{a0:Z5}:Tot (zt a0) (λr=>(SzT r)):=by
 unfold zt;refine tX (Inv:=YA) (μ:=JY) (m:=(1000000,0,0,0,0,0)) ?_ ?_
 .dsimp only[It,LT.den];refine tB (Z9y a0) (λx1 h2=>?_);have eh2_0:=h2.1;have eh2_1:=h2.2.1;have eh2_2:=h2.2.2;refine tO (λh3=>?_) (λh3=>?_)
  .exact tR (SzT.nil)
  have h3_0:=eh2_0 h3;have h3_1:=eh2_1 h3;exact tL ⟨cl,cl,cl,cl,cl⟩ lV
 intro s hs;cases s with
 |L0 E0 v3 v4=>
  obtain⟨cv4,i0,i1,i2,i3⟩:=hs;show Tot (Z5a E0 v3 v4).den _;dsimp only[Z5a,LT.den];refine tD (λh1=>?_) (λh1=>?_)
  .refine tB (tK bX) (λx2 h3=>?_);refine qw (v4+1) λq4 q5=>?_;exact tL ⟨cl,cl,cl,cl,cl⟩ lV
  refine tN (λh6=>?_) (λh6=>?_)
  .refine tB (nf) (λx7 h8=>?_);have q9:x7.length<=100:=h8;refine tB (tK bX) (λx10 h11=>?_);exact tL ⟨cl,cl,cl,cl⟩ lV
  exact tL ⟨cl,cl,cl,cl⟩ lV
 |L1 E0 v3 v5=>
  obtain⟨cv5,i0,i1,i2⟩:=hs;show Tot (Z5b E0 v3 v5).den _;dsimp only[Z5b,LT.den];refine tD (λh1=>?_) (λh1=>?_)
  .exact tL ⟨cl,cl,cl,cl,cl,cl,cl⟩ lV
  refine tF (λh2=>?_) (λh2=>?_)
  .exact tR fB
  exact tR fB
 |L2 E0 v3 v5 v6=>
  obtain⟨cv5,cv6,bd2,i0,i1,i2,i3⟩:=hs;show Tot (Z5c E0 v3 v5 v6).den _;dsimp only[Z5c,LT.den];refine tB (tI O (by have e:(A5.list E0.Color).length=5:=rfl;omega)) (λx1 h2=>?_);have ph2:=i1 x1 h2.1;refine tD (λh3=>?_) (λh3=>?_)
  .refine qw (v5+1) λq4 q5=>?_;refine tB (Tot.slice O O eD) (λx6 h7=>?_);have lh7:=h7.1;refine tB (tK bX) (λx8 h9=>?_);refine qw (v6+1) λq10 q11=>?_;exact tL ⟨cl,cl,cl,cl,cl,cl,cl⟩ lV
  refine qw (v5+1) λq12 q13=>?_;exact tL ⟨cl,cl,cl,cl⟩ lV
def YC{a0:A6 Int}:Tot (Z0v a0) (λr=>(SzT r)):=by unfold Z0v;refine tZ ?_;dsimp only[Z7e,LT.den];refine tB (Yz) (λx1 h2=>?_);refine tB (YB) (λx3 h4=>?_);exact tR h4
def YD{a0:Int}{a1:ai}(oa1:ed a1):Tot (Z89 a0 a1) (λr=>True):=by
 unfold Z89;refine tZ ?_;dsimp only[Iv,LT.den];refine tE (λh1=>?_) (λh1=>?_)
 .refine tB (im oa1) (λx2 h3=>?_);have eh3_0:=h3.1;have eh3_1:=h3.2;refine tF (λh4=>?_) (λh4=>?_)
  .have h4_0:=eh3_0 h4;exact tR aa
  exact tR aa
 refine tB (im oa1) (λx5 h6=>?_);have eh6_0:=h6.1;have eh6_1:=h6.2;refine tF (λh7=>?_) (λh7=>?_)
 .have h7_0:=eh6_0 h7;exact tR aa
 exact tR aa
def ir:gG->Prop
 |.L0 E0 v5=>(cJ E0)/\True
 |.L1 E0 v5 v6=>(cJ E0)/\True
 |.L2 E0 v5 v6 v7=>(cJ E0)/\True
 |.L3 E0 v5 v6 v7 v8=>(cJ E0)/\True
 |.L4 E0 v5 v6 v7 v8 v9=>(cJ E0)/\True
 |.L5 E0 v5 v6 v7 v8 v9 v10=>(cJ E0)/\True
 |.L6 E0 v5 v6 v7 v8 v9 v10 v11=>(cJ E0)/\True
 |.L7 v5 v6 v7 v8 v9 v10 v11 v12=>True
def jH:gG->M6
 |.L0 E0 v5=>(0,0,0,0,0,0)
 |.L1 E0 v5 v6=>(0,0,0,0,0,0)
 |.L2 E0 v5 v6 v7=>(0,0,0,0,0,0)
 |.L3 E0 v5 v6 v7 v8=>(0,0,0,0,0,0)
 |.L4 E0 v5 v6 v7 v8 v9=>(0,0,0,0,0,0)
 |.L5 E0 v5 v6 v7 v8 v9 v10=>(0,0,0,0,0,0)
 |.L6 E0 v5 v6 v7 v8 v9 v10 v11=>(0,0,0,0,0,0)
 |.L7 v5 v6 v7 v8 v9 v10 v11 v12=>(0,0,0,0,0,0)
def Bq{v5:Bool}{v6:Bool}{v7:Bool}{v8:Bool}{v9:Bool}{v10:Bool}{v11:Bool}{v12:Bool}(h:True):Tot (pQ v5 v6 v7 v8 v9 v10 v11 v12).den (Nx ir jH (0,0,0,0,0,0) (λr=>True)):=by
 dsimp only[pQ,LT.den];refine tF (λh1=>?_) (λh1=>?_)
 .refine tF (λh2=>?_) (λh2=>?_)
  .refine tF (λh3=>?_) (λh3=>?_)
   .refine tF (λh4=>?_) (λh4=>?_)
    .refine tF (λh5=>?_) (λh5=>?_)
     .refine tF (λh6=>?_) (λh6=>?_)
      .refine tF (λh7=>?_) (λh7=>?_)
       .exact tR aa
       exact tR aa
      exact tR aa
     exact tR aa
    exact tR aa
   exact tR aa
  exact tR aa
 exact tR aa
def uz{E0:aU}{v5:Bool}{v6:Bool}{v7:Bool}{v8:Bool}{v9:Bool}{v10:Bool}{v11:Bool}(h:(cJ E0)/\True):Tot (mY E0 v5 v6 v7 v8 v9 v10 v11).den (Nx ir jH (0,0,0,0,0,0) (λr=>True)):=by
 obtain⟨O0,_⟩:=h;dsimp only[mY,LT.den];refine tB (ky) (λx1 h2=>?_);refine tF (λh3=>?_) (λh3=>?_)
 .refine tB (YD O0.2.2.2.1) (λx4 h5=>?_);exact tJ (Bq trivial)
 exact tJ (Bq trivial)
def Br{E0:aU}{v5:Bool}{v6:Bool}{v7:Bool}{v8:Bool}{v9:Bool}{v10:Bool}(h:(cJ E0)/\True):Tot (pR E0 v5 v6 v7 v8 v9 v10).den (Nx ir jH (0,0,0,0,0,0) (λr=>True)):=by
 obtain⟨O0,_⟩:=h;dsimp only[pR,LT.den];refine tB (ky) (λx1 h2=>?_);refine tF (λh3=>?_) (λh3=>?_)
 .refine tO (λh4=>?_) (λh4=>?_)
  .refine tB (YC) (λx5 h6=>?_);exact tJ (uz ⟨O0,aa⟩)
  exact tJ (uz ⟨O0,aa⟩)
 exact tJ (uz ⟨O0,aa⟩)
def Bs{E0:aU}{v5:Bool}{v6:Bool}{v7:Bool}{v8:Bool}{v9:Bool}(h:(cJ E0)/\True):Tot (pS E0 v5 v6 v7 v8 v9).den (Nx ir jH (0,0,0,0,0,0) (λr=>True)):=by
 obtain⟨O0,_⟩:=h;dsimp only[pS,LT.den];have q1:=O0.2.2.2.2.1;refine tB (ky) (λx2 h3=>?_);refine tF (λh4=>?_) (λh4=>?_)
 .refine tB (Yx O0.2.2.2.2) (λx5 h6=>?_);exact tJ (Br ⟨O0,aa⟩)
 exact tJ (Br ⟨O0,aa⟩)
def Bt{E0:aU}{v5:Bool}{v6:Bool}{v7:Bool}{v8:Bool}(h:(cJ E0)/\True):Tot (pT E0 v5 v6 v7 v8).den (Nx ir jH (0,0,0,0,0,0) (λr=>True)):=by
 obtain⟨O0,_⟩:=h;dsimp only[pT,LT.den];refine tB (ky) (λx1 h2=>?_);refine tF (λh3=>?_) (λh3=>?_)
 .refine tB (Yw O0.2.1) (λx4 h5=>?_);have eh5_0:=h5;exact tJ (Bs ⟨O0,aa⟩)
 exact tJ (Bs ⟨O0,aa⟩)
def uA{E0:aU}{v5:Bool}{v6:Bool}{v7:Bool}(h:(cJ E0)/\True):Tot (mZ E0 v5 v6 v7).den (Nx ir jH (0,0,0,0,0,0) (λr=>True)):=by
 obtain⟨O0,_⟩:=h;dsimp only[mZ,LT.den];refine tB (ky) (λx1 h2=>?_);refine tF (λh3=>?_) (λh3=>?_)
 .refine tB (Z9x (SzS.t O0.2.2.1)) (λx4 h5=>?_);exact tJ (Bt ⟨O0,aa⟩)
 exact tJ (Bt ⟨O0,aa⟩)
def qO{E0:aU}{v5:Bool}{v6:Bool}(h:ir (.L1 E0 v5 v6)):Tot (lJ E0 v5 v6).den (Nx ir jH (0,0,0,0,0,0) (λr=>True)):=by
 obtain⟨O0,_⟩:=h;dsimp only[lJ,LT.den];refine tE (λh1=>?_) (λh1=>?_)
 .exact tJ (uA ⟨O0,aa⟩)
 refine tB (ky) (λx2 h3=>?_);refine tF (λh4=>?_) (λh4=>?_)
 .refine tB (Lj) (λx5 h6=>?_);have eh6_1:=h6.2;exact tJ (uA ⟨O0,aa⟩)
 exact tJ (uA ⟨O0,aa⟩)
def Bu{E0:aU}{v5:Bool}(h:ir (.L0 E0 v5)):Tot (pU E0 v5).den (Nx ir jH (0,0,0,0,0,0) (λr=>True)):=by
 obtain⟨O0,_⟩:=h;dsimp only[pU,LT.den];refine tE (λh1=>?_) (λh1=>?_)
 .exact tJ (qO ⟨O0,aa⟩)
 refine tB (ky) (λx2 h3=>?_);refine tF (λh4=>?_) (λh4=>?_)
 .refine tD (λh5=>?_) (λh5=>?_)
  .exact tJ (qO ⟨O0,aa⟩)
  exact tJ (qO ⟨O0,aa⟩)
 exact tJ (qO ⟨O0,aa⟩)
def YE{a0:aU}{a1:Int}(oa0:cJ a0):Tot (zu a0 a1) (λr=>True):=by
 unfold zu;refine tX (Inv:=ir) (μ:=jH) (m:=(1000000,0,0,0,0,0)) ?_ ?_
 .dsimp only[Ix,LT.den];refine tB (Yr) (λx1 h2=>?_);refine tF (λh3=>?_) (λh3=>?_)
  .exact tR aa
  refine tB (ky) (λx4 h5=>?_);refine tF (λh6=>?_) (λh6=>?_)
  .refine tB (Yv oa0.1) (λx7 h8=>?_);exact tJ (Bu ⟨oa0,aa⟩)
  exact tJ (Bu ⟨oa0,aa⟩)
 intro s hs;cases s with
 |L0 _ _=>exact Bu hs
 |L1 _ _ _=>exact qO hs
 |L2 _ _ _ _=>exact uA hs
 |L3 _ _ _ _ _=>exact Bt hs
 |L4 _ _ _ _ _ _=>exact Bs hs
 |L5 _ _ _ _ _ _ _=>exact Br hs
 |L6 _ _ _ _ _ _ _ _=>exact uz hs
 |L7 _ _ _ _ _ _ _ _=>exact Bq hs
def YF:pV->Prop
 |.L0 v0 v1 v5=>((SzL 560 cJ) v0)/\(0<=v5)
def KA:pV->M6
 |.L0 v0 v1 v5=>(1,((v0.length:Int)-v5).toNat,1000000,0,0,0)
def YG{a0:List aU}{a1:Int}(oa0:(SzL 560 cJ) a0):Tot (Z5d a0 a1) (λr=>True):=by
 unfold Z5d;refine tX (Inv:=YF) (μ:=KA) (m:=(1000000,0,0,0,0,0)) ?_ ?_
 .have lb_a0:=oa0.1;dsimp only[Iz,LT.den];exact tL ⟨oa0,cl⟩ Kz
 intro s hs;cases s with
 |L0 v0 v1 v5=>
  obtain⟨ov0,cv5⟩:=hs;have lb_v0:=ov0.1;show Tot (zv v0 v1 v5).den _;dsimp only[zv,LT.den];have q1:=ov0.1;refine tD (λh2=>?_) (λh2=>?_)
  .refine tB (tI O O) (λx3 h4=>?_);have oh4:cJ x3:=ov0.2 x3 h4.1;refine tB (YE oh4) (λx5 h6=>?_);refine tO (λh7=>?_) (λh7=>?_)
   .exact tR aa
   refine qw (v5+1) λq8 q9=>?_;exact tL ⟨ov0,cl⟩ Kz
  refine tD (λh10=>?_) (λh10=>?_)
  .exact tR aa
  exact tR aa
def iu:jC->Prop
 |.L0 E0 v3=>(dn E0)/\True
 |.L1 E0 v3=>(dn E0)/\True
 |.L2 E0 v3=>(dn E0)/\True
 |.L3 E0 v3=>(dn E0)/\True
 |.L4 E0 v3=>(dn E0)/\True
def nh:jC->M6
 |.L0 E0 v3=>(0,0,0,0,0,0)
 |.L1 E0 v3=>(0,0,0,0,0,0)
 |.L2 E0 v3=>(0,0,0,0,0,0)
 |.L3 E0 v3=>(0,0,0,0,0,0)
 |.L4 E0 v3=>(0,0,0,0,0,0)
def Bv{E0:ar}{v3:Bool}(h:iu (.L4 E0 v3)):Tot (pW E0 v3).den (Nx iu nh (0,0,0,0,0,0) (λr=>True)):=by
 obtain⟨O0,_⟩:=h;dsimp only[pW,LT.den];refine tF (λh1=>?_) (λh1=>?_)
 .refine tB (Yq O0.2.2.2.1) (λx2 h3=>?_);refine tF (λh4=>?_) (λh4=>?_)
  .have q5:=O0.2.2.2.1.1;refine tB (YG O0.2.2.2.2.1) (λx6 h7=>?_);exact tR aa
  exact tR aa
 have q8:=O0.2.2.2.1.1;refine tE (λh9=>?_) (λh9=>?_)
 .have q10:=O0.2.2.2.2.1.1;exact tR aa
 exact tR aa
def Bw{E0:ar}{v3:Bool}(h:iu (.L3 E0 v3)):Tot (pX E0 v3).den (Nx iu nh (0,0,0,0,0,0) (λr=>True)):=by
 obtain⟨O0,_⟩:=h;dsimp only[pX,LT.den];refine tE (λh1=>?_) (λh1=>?_)
 .refine tB (Yn O0.2.2.2.2.2) (λx2 h3=>?_);refine tO (λh4=>?_) (λh4=>?_)
  .exact tR aa
  exact tJ (Bv ⟨O0,aa⟩)
 refine tO (λh5=>?_) (λh5=>?_)
 .exact tR aa
 exact tJ (Bv ⟨O0,aa⟩)
def Bx{E0:ar}{v3:Bool}(h:iu (.L2 E0 v3)):Tot (pY E0 v3).den (Nx iu nh (0,0,0,0,0,0) (λr=>True)):=by
 obtain⟨O0,_⟩:=h;dsimp only[pY,LT.den];refine tE (λh1=>?_) (λh1=>?_)
 .refine tB (Yk O0.2.2.1) (λx2 h3=>?_);refine tO (λh4=>?_) (λh4=>?_)
  .exact tR aa
  exact tJ (Bw ⟨O0,aa⟩)
 refine tO (λh5=>?_) (λh5=>?_)
 .exact tR aa
 refine tF (λh6=>?_) (λh6=>?_)
 .exact tR aa
 exact tJ (Bw ⟨O0,aa⟩)
def Bz{E0:ar}{v3:Bool}(h:iu (.L1 E0 v3)):Tot (pZ E0 v3).den (Nx iu nh (0,0,0,0,0,0) (λr=>True)):=by
 obtain⟨O0,_⟩:=h;dsimp only[pZ,LT.den];refine tE (λh1=>?_) (λh1=>?_)
 .refine tB (Yi) (λx2 h3=>?_);refine tO (λh4=>?_) (λh4=>?_)
  .exact tR aa
  exact tJ (Bx ⟨O0,aa⟩)
 refine tO (λh5=>?_) (λh5=>?_)
 .exact tR aa
 refine tF (λh6=>?_) (λh6=>?_)
 .exact tR aa
 exact tJ (Bx ⟨O0,aa⟩)
def uB{E0:ar}{v3:Bool}(h:iu (.L0 E0 v3)):Tot (m6 E0 v3).den (Nx iu nh (0,0,0,0,0,0) (λr=>True)):=by
 obtain⟨O0,_⟩:=h;dsimp only[m6,LT.den];refine tE (λh1=>?_) (λh1=>?_)
 .refine tB (im O0.1) (λx2 h3=>?_);have eh3_0:=h3.1;have eh3_1:=h3.2;refine tO (λh4=>?_) (λh4=>?_)
  .exact tR aa
  have h4_0:=eh3_0 h4;refine tN (λh5=>?_) (λh5=>?_)
  .exact tR aa
  refine tB (Bj O0.2.1) (λx6 h7=>?_);have eh7_0:=h7;refine tF (λh8=>?_) (λh8=>?_)
  .exact tR aa
  exact tJ (Bz ⟨O0,aa⟩)
 refine tO (λh9=>?_) (λh9=>?_)
 .exact tR aa
 have q10:=O0.2.1.1;refine tD (λh11=>?_) (λh11=>?_)
 .exact tR aa
 exact tJ (Bz ⟨O0,aa⟩)
def uC{a0:ar}(oa0:dn a0):Tot (zw a0) (λr=>True):=by
 unfold zw;refine tX (Inv:=iu) (μ:=nh) (m:=(1000000,0,0,0,0,0)) ?_ ?_
 .dsimp only[IB,LT.den];refine tD (λh1=>?_) (λh1=>?_)
  .exact tR aa
  refine tD (λh2=>?_) (λh2=>?_)
  .exact tR aa
  refine tE (λh3=>?_) (λh3=>?_)
  .exact tJ (uB ⟨oa0,aa⟩)
  refine tE (λh4=>?_) (λh4=>?_)
  .exact tJ (uB ⟨oa0,aa⟩)
  exact tJ (uB ⟨oa0,aa⟩)
 intro s hs;cases s with
 |L0 _ _=>exact uB hs
 |L1 _ _=>exact Bz hs
 |L2 _ _=>exact Bx hs
 |L3 _ _=>exact Bw hs
 |L4 _ _=>exact Bv hs
def YH{a0:Z1}(oa0:cR a0):Tot (zx a0) (λr=>True):=by
 unfold zx;refine tZ ?_;dsimp only[ID,LT.den];refine tE (λh1=>?_) (λh1=>?_)
 .exact tR aa
 exact tR aa
def Z93(a0:Z1):m7->Prop
 |.L0 E0=>(E0=a0)/\(cR E0)/\(E0.Abilities.length<=8)
 |.L1 E0 v3 v4=>(E0=a0)/\(cR E0)/\(0<=v4)/\(E0.Abilities.length<=8)
def ud:m7->M6
 |.L0 E0=>(2,0,0,0,0,0)
 |.L1 E0 v3 v4=>(1,((E0.Abilities.length:Int)-v4).toNat,1000000,0,0,0)
def BA{a0:Z1}{E0:Z1}(h:(Z93 a0) (.L0 E0)):Tot (p9 E0).den (Nx (Z93 a0) ud (2,0,0,0,0,0) (λr=>(r=true->a0.Abilities.length<=8))):=by obtain⟨al0,O0,i0⟩:=h;subst al0;dsimp only[p9,LT.den];exact tL ⟨rfl,O0,cl,cl⟩ AG
def YI{a0:Z1}(oa0:cR a0):Tot (zz a0) (λr=>(r=true->a0.Abilities.length<=8)):=by
 unfold zz;refine tX (Inv:=(Z93 a0)) (μ:=ud) (m:=(1000000,0,0,0,0,0)) ?_ ?_
 .dsimp only[IF,LT.den];refine tB (Z9x (SzS.t oa0.1)) (λx1 h2=>?_);refine tO (λh3=>?_) (λh3=>?_)
  .exact tR ct
  refine tB (Z9y a0.Cost) (λx4 h5=>?_);have eh5_0:=h5.1;have eh5_1:=h5.2.1;have eh5_2:=h5.2.2;refine tO (λh6=>?_) (λh6=>?_)
  .exact tR ct
  have h6_0:=eh5_0 h6;have h6_1:=eh5_1 h6;refine tB (XV oa0.2.1) (λx7 h8=>?_);refine tO (λh9=>?_) (λh9=>?_)
  .exact tR ct
  refine tB (K8) (λx10 h11=>?_);refine tO (λh12=>?_) (λh12=>?_)
  .exact tR ct
  refine tD (λh13=>?_) (λh13=>?_)
  .exact tR ct
  refine tD (λh14=>?_) (λh14=>?_)
  .exact tR ct
  refine tD (λh15=>?_) (λh15=>?_)
  .exact tR ct
  refine tD (λh16=>?_) (λh16=>?_)
  .exact tR ct
  refine tD (λh17=>?_) (λh17=>?_)
  .exact tR ct
  refine tD (λh18=>?_) (λh18=>?_)
  .exact tR ct
  refine tB (XW oa0) (λx19 h20=>?_);refine tO (λh21=>?_) (λh21=>?_)
  .refine tN (λh22=>?_) (λh22=>?_)
   .exact tR ct
   refine tN (λh23=>?_) (λh23=>?_)
   .exact tR ct
   have q24:=oa0.2.2.1;refine tD (λh25=>?_) (λh25=>?_)
   .exact tR ct
   exact tJ (BA ⟨rfl,oa0,cl⟩)
  have q26:=oa0.2.2.1;refine tD (λh27=>?_) (λh27=>?_)
  .exact tR ct
  exact tJ (BA ⟨rfl,oa0,cl⟩)
 intro s hs;cases s with
 |L0 _=>exact BA hs
 |L1 E0 v3 v4=>
  obtain⟨al0,O0,cv4,i0⟩:=hs;subst al0;show Tot (zy E0 v3 v4).den _;dsimp only[zy,LT.den,ud];have q1:=O0.2.2.1;refine tD (λh2=>?_) (λh2=>?_)
  .refine tB (tI O O) (λx3 h4=>?_);have oh4:dn x3:=O0.2.2.2 x3 h4.1;refine tB (uC oh4) (λx5 h6=>?_);refine tO (λh7=>?_) (λh7=>?_)
   .exact tR ct
   refine tE (λh8=>?_) (λh8=>?_)
   .refine qw (v3+1) λq9 q10=>?_;refine qw (v4+1) λq11 q12=>?_;exact tL ⟨rfl,O0,cl,cl⟩ AG
   refine qw (v4+1) λq13 q14=>?_;exact tL ⟨rfl,O0,cl,cl⟩ AG
  refine tB (YH O0) (λx15 h16=>?_);refine tF (λh17=>?_) (λh17=>?_)
  .refine tO (λh18=>?_) (λh18=>?_)
   .refine tE (λh19=>?_) (λh19=>?_)
    .refine tE (λh20=>?_) (λh20=>?_)
     .exact tR ct
     exact tR ct
    exact tR ct
   exact tR ct
  refine tE (λh21=>?_) (λh21=>?_)
  .refine tO (λh22=>?_) (λh22=>?_)
   .refine tE (λh23=>?_) (λh23=>?_)
    .exact tR ct
    exact tR ct
   exact tR ct
  exact tR ct
def YJ:qa->Prop
 |.L0 v0 v1 v5=>((SzL 176 cR) v0)/\(SzT v1)/\(0<=v5)
def Z6j:qa->M6
 |.L0 v0 v1 v5=>(1,((v0.length:Int)-v5).toNat,1000000,0,0,0)
def YK{a0:List Z1}{a1:List UInt8}(oa0:(SzL 176 cR) a0)(oa1:SzT a1):Tot (zA a0 a1) (λr=>True):=by
 unfold zA;refine tX (Inv:=YJ) (μ:=Z6j) (m:=(1000000,0,0,0,0,0)) ?_ ?_
 .have lb_a0:=oa0.1;have lb_a1:a1.length<=562949953421312:=oa1;dsimp only[II,LT.den];exact tL ⟨oa0,oa1,cl⟩ KK
 intro s hs;cases s with
 |L0 v0 v1 v5=>
  obtain⟨ov0,ov1,cv5⟩:=hs;have lb_v0:=ov0.1;have lb_v1:v1.length<=562949953421312:=ov1;show Tot (Z5e v0 v1 v5).den _;dsimp only[Z5e,LT.den];have q1:=ov0.1;refine tD (λh2=>?_) (λh2=>?_)
  .refine tB (tI O O) (λx3 h4=>?_);have oh4:cR x3:=ov0.2 x3 h4.1;refine tF (λh5=>?_) (λh5=>?_)
   .exact tR aa
   refine qw (v5+1) λq6 q7=>?_;exact tL ⟨ov0,ov1,cl⟩ KK
  exact tR aa
def YL:qb->Prop
 |.L0 v0 v1 v5=>((SzL 176 cR) v0)/\(SzT v1)/\(0<=v5)
def Kd:qb->M6
 |.L0 v0 v1 v5=>(1,((v0.length:Int)-v5).toNat,1000000,0,0,0)
def YM{a0:List Z1}{a1:List UInt8}(oa0:(SzL 176 cR) a0)(oa1:SzT a1):Tot (zB a0 a1) (λr=>True):=by
 unfold zB;refine tX (Inv:=YL) (μ:=Kd) (m:=(1000000,0,0,0,0,0)) ?_ ?_
 .have lb_a0:=oa0.1;have lb_a1:a1.length<=562949953421312:=oa1;dsimp only[IK,LT.den];exact tL ⟨oa0,oa1,cl⟩ AE
 intro s hs;cases s with
 |L0 v0 v1 v5=>
  obtain⟨ov0,ov1,cv5⟩:=hs;have lb_v0:=ov0.1;have lb_v1:v1.length<=562949953421312:=ov1;show Tot (Z0w v0 v1 v5).den _;dsimp only[Z0w,LT.den];have q1:=ov0.1;refine tD (λh2=>?_) (λh2=>?_)
  .refine tB (tI O O) (λx3 h4=>?_);have oh4:cR x3:=ov0.2 x3 h4.1;refine tF (λh5=>?_) (λh5=>?_)
   .refine tF (λh6=>?_) (λh6=>?_)
    .exact tR aa
    refine qw (v5+1) λq7 q8=>?_;exact tL ⟨ov0,ov1,cl⟩ AE
   refine qw (v5+1) λq9 q10=>?_;exact tL ⟨ov0,ov1,cl⟩ AE
  exact tR aa
def YN:m8->Prop
 |.L0 v0 E0 v5=>((SzL 176 cR) v0)/\(cR E0)/\(0<=v5)
 |.L1 v0 E0 v5 v6=>((SzL 176 cR) v0)/\(cR E0)/\(0<=v5)/\(0<=v6)/\(v5<(E0.Abilities.length:Int))/\(v5<(E0.Abilities.length:Int))
def JZ:m8->M6
 |.L0 v0 E0 v5=>(1,((E0.Abilities.length:Int)-v5).toNat,1000000,0,0,0)
 |.L1 v0 E0 v5 v6=>(1,((E0.Abilities.length:Int)-v5).toNat,1,((((E0.Abilities[v5.toNat]?).map λx=>x.Effects.length).getD 0:Nat)-v6).toNat,1000000,0)
def YO{a0:List Z1}{a1:Z1}(oa0:(SzL 176 cR) a0)(oa1:cR a1):Tot (Z5f a0 a1) (λr=>True):=by
 unfold Z5f;refine tX (Inv:=YN) (μ:=JZ) (m:=(1000000,0,0,0,0,0)) ?_ ?_
 .have lb_a0:=oa0.1;dsimp only[IM,LT.den];exact tL ⟨oa0,oa1,cl⟩ qq
 intro s hs;cases s with
 |L0 v0 E0 v5=>
  obtain⟨ov0,O0,cv5⟩:=hs;have lb_v0:=ov0.1;show Tot (zC v0 E0 v5).den _;dsimp only[zC,LT.den];have q1:=O0.2.2.1;refine tD (λh2=>?_) (λh2=>?_)
  .exact tL ⟨ov0,O0,cl,cl,cl,cl⟩ qq
  exact tR aa
 |L1 v0 E0 v5 v6=>
  obtain⟨ov0,O0,cv5,cv6,bd4,i0⟩:=hs;have lb_v0:=ov0.1;show Tot (zD v0 E0 v5 v6).den _;dsimp only[zD,LT.den];have lx_0:E0.Abilities.length*640<=140737488351232:=O0.2.2.1;refine tB (tI O O) (λx1 h2=>?_);have oh2:dn x1:=O0.2.2.2 x1 h2.1;have mh2:((E0.Abilities[v5.toNat]?).map λx=>x.Effects.length).getD 0=x1.Effects.length:=by rw[h2.2];rfl
  have q3:=oh2.2.2.2.2.1.1;refine tD (λh4=>?_) (λh4=>?_)
  .refine tB (tI O O) (λx5 h6=>?_);have oh6:cJ x5:=oh2.2.2.2.2.1.2 x5 h6.1;refine tE (λh7=>?_) (λh7=>?_)
   .refine tB (YM ov0 (SzS.t oh6.2.2.1)) (λx8 h9=>?_);refine tO (λh10=>?_) (λh10=>?_)
    .exact tR aa
    refine qw (v6+1) λq11 q12=>?_;exact tL ⟨ov0,O0,cl,cl,cl,cl⟩ qq
   refine qw (v6+1) λq13 q14=>?_;exact tL ⟨ov0,O0,cl,cl,cl,cl⟩ qq
  refine qw (v5+1) λq15 q16=>?_;exact tL ⟨ov0,O0,cl⟩ qq
def YP(a0:List Z1):qc->Prop
 |.L0 v0 v4=>(v0=a0)/\((SzL 176 cR) v0)/\(0<=v4)/\(∀(k:Nat) c,(k:Int)<v4->v0[k]?=some c->c.Abilities.length<=8)
def Z2r:qc->M6
 |.L0 v0 v4=>(1,((v0.length:Int)-v4).toNat,1000000,0,0,0)
def N6{a0:List Z1}(oa0:(SzL 176 cR) a0):Tot (zE a0) (λr=>(r.2=0->∀c,c∈a0->c.Abilities.length<=8)):=by
 unfold zE;refine tX (Inv:=(YP a0)) (μ:=Z2r) (m:=(1000000,0,0,0,0,0)) ?_ ?_
 .have lb_a0:=oa0.1;dsimp only[IP,LT.den];have q1:=oa0.1;refine tD (λh2=>?_) (λh2=>?_)
  .exact tR qp
  exact tL ⟨rfl,oa0,cl,J0⟩ KP
 intro s hs;cases s with
 |L0 v0 v4=>
  obtain⟨al0,ov0,cv4,i0⟩:=hs;have lb_v0:=ov0.1;subst al0;show Tot (Z0x v0 v4).den _;dsimp only[Z0x,LT.den];have q1:=ov0.1;refine tD (λh2=>?_) (λh2=>?_)
  .refine tB (tI O O) (λx3 h4=>?_);have oh4:cR x3:=ov0.2 x3 h4.1;have mh4:=h4.2;refine tB (YI oh4) (λx5 h6=>?_);have eh6_0:=h6;refine tO (λh7=>?_) (λh7=>?_)
   .exact tR qp
   have h7_0:=eh6_0 h7;refine tB (YK ov0 (SzS.t oh4.1)) (λx8 h9=>?_);refine tD (λh10=>?_) (λh10=>?_)
   .exact tR qp
   refine tB (YO ov0 oh4) (λx11 h12=>?_);refine tO (λh13=>?_) (λh13=>?_)
   .exact tR qp
   refine qw (v4+1) λq14 q15=>?_;exact tL ⟨rfl,ov0,cl,J0⟩ KP
  exact tR qp
def fH{a0:Int}{a1:Int}{a2:Int}:Tot (zF a0 a1 a2) (λr=>(r=true↔(a1<=a0/\a0<=a2))):=by
 unfold zF;refine tZ ?_;dsimp only[IR,LT.den];refine tD (λh1=>?_) (λh1=>?_)
 .exact tR (by grind)
 exact tR (by grind)
def YQ:qd->Prop
 |.L0 E0 v3=>(0<=v3)/\True
def Z2s:qd->M6
 |.L0 E0 v3=>(1,(6-v3).toNat,1000000,0,0,0)
def YR{a0:A6 Int}:Tot (zG a0) (λr=>True):=by
 unfold zG;refine tX (Inv:=YQ) (μ:=Z2s) (m:=(1000000,0,0,0,0,0)) ?_ ?_
 .dsimp only[IT,LT.den];exact tL ⟨cl,aa⟩ KO
 intro s hs;cases s with
 |L0 E0 v3=>
  obtain⟨cv3,_⟩:=hs;show Tot (Z0y E0 v3).den _;dsimp only[Z0y,LT.den];refine tD (λh1=>?_) (λh1=>?_)
  .refine tB (tI O (by have e:(A6.list E0).length=6:=rfl;omega)) (λx2 h3=>?_);refine tD (λh4=>?_) (λh4=>?_)
   .exact tR aa
   refine tB (tI O (by have e:(A6.list E0).length=6:=rfl;omega)) (λx5 h6=>?_);refine tD (λh7=>?_) (λh7=>?_)
   .exact tR aa
   refine qw (v3+1) λq8 q9=>?_;exact tL ⟨cl,aa⟩ KO
  exact tR aa
def YS(a0:ae)(a1:Int):qe->Prop
 |.L0 v1 E0 v5=>(E0=a0)/\(v1=a1)/\(bc E0)/\(0<=v5)/\(NoId E0.Objects v1 v5)
def Z2t:qe->M6
 |.L0 v1 E0 v5=>(1,((E0.Objects.length:Int)-v5).toNat,1000000,0,0,0)
def YT{a0:ae}{a1:Int}(oa0:bc a0):Tot (zH a0 a1) (λr=>(r<(a0.Objects.length:Int))/\(r=ixO a0.Objects a1)):=by
 unfold zH;refine tX (Inv:=(YS a0 a1)) (μ:=Z2t) (m:=(1000000,0,0,0,0,0)) ?_ ?_
 .dsimp only[IV,LT.den];exact tL ⟨rfl,rfl,oa0,cl,KU⟩ KN
 intro s hs;cases s with
 |L0 v1 E0 v5=>
  obtain⟨al0,al1,O0,cv5,i0⟩:=hs;subst al0;subst al1;show Tot (Z0z v1 E0 v5).den _;dsimp only[Z0z,LT.den];have q1:=O0.2.1.1;refine tD (λh2=>?_) (λh2=>?_)
  .refine tB (tI O O) (λx3 h4=>?_);have mh4:=h4.2;refine tE (λh5=>?_) (λh5=>?_)
   .exact tR ⟨cl,KT⟩
   refine qw (v5+1) λq6 q7=>?_;exact tL ⟨rfl,rfl,O0,cl,KU⟩ KN
  exact tR ⟨cl,KT⟩
def YU{a0:ae}{a1:Int}(oa0:bc a0):Tot (zI a0 a1) (λr=>(r=fdV a0.Objects a1)):=by
 unfold zI;refine tZ ?_;dsimp only[IX,LT.den];refine tB (YT oa0) (λx1 h2=>?_);have eh2_0:=h2.1;have eh2_1:=h2.2;have lh2:=Xu a0.Objects a1;refine tD (λh3=>?_) (λh3=>?_)
 .exact tR Kr
 refine tB (tI O O) (λx4 h5=>?_);have mh5:=h5.2;exact tR Kr
def Z78{a0:ae}{a1:Int}(oa0:bc a0):Tot (Z9a a0 a1) (λr=>True):=by unfold Z9a;refine tZ ?_;dsimp only[IZ,LT.den];refine tB (YU oa0) (λx1 h2=>?_);have eh2_0:=h2;exact tR aa
def YV:qf->Prop
 |.L0 v0 v1 v5 v6=>((SzL 8 (λ_=>True)) v0)/\(0<=v6)
def Kc:qf->M6
 |.L0 v0 v1 v5 v6=>(1,((v0.length:Int)-v6).toNat,1000000,0,0,0)
def BB{a0:List Int}{a1:Int}(oa0:(SzL 8 (λ_=>True)) a0):Tot (zJ a0 a1) (λr=>True):=by
 unfold zJ;refine tX (Inv:=YV) (μ:=Kc) (m:=(1000000,0,0,0,0,0)) ?_ ?_
 .have lb_a0:=oa0.1;dsimp only[I2,LT.den];exact tL ⟨oa0,cl⟩ AD
 intro s hs;cases s with
 |L0 v0 v1 v5 v6=>
  obtain⟨ov0,cv6⟩:=hs;have lb_v0:=ov0.1;show Tot (Z00 v0 v1 v5 v6).den _;dsimp only[Z00,LT.den];have q1:=ov0.1;refine tD (λh2=>?_) (λh2=>?_)
  .refine tB (tI O O) (λx3 h4=>?_);refine tE (λh5=>?_) (λh5=>?_)
   .refine qw (v5+1) λq6 q7=>?_;refine qw (v6+1) λq8 q9=>?_;exact tL ⟨ov0,cl⟩ AD
   refine qw (v6+1) λq10 q11=>?_;exact tL ⟨ov0,cl⟩ AD
  exact tR aa
def YW:qg->Prop
 |.L0 v1 v2 v3 E0 v9=>((SzL 8 (λ_=>True)) v1)/\(bc E0)/\(0<=v9)
def Ka:qg->M6
 |.L0 v1 v2 v3 E0 v9=>(1,((v1.length:Int)-v9).toNat,1000000,0,0,0)
def qP{a0:ae}{a1:List Int}{a2:Int}{a3:Int}(oa0:bc a0)(oa1:(SzL 8 (λ_=>True)) a1):Tot (zK a0 a1 a2 a3) (λr=>True):=by
 unfold zK;refine tX (Inv:=YW) (μ:=Ka) (m:=(1000000,0,0,0,0,0)) ?_ ?_
 .have lb_a1:=oa1.1;dsimp only[I4,LT.den];exact tL ⟨oa1,oa0,cl⟩ AB
 intro s hs;cases s with
 |L0 v1 v2 v3 E0 v9=>
  obtain⟨ov1,O0,cv9⟩:=hs;have lb_v1:=ov1.1;show Tot (Z5g v1 v2 v3 E0 v9).den _;dsimp only[Z5g,LT.den];have q1:=ov1.1;refine tD (λh2=>?_) (λh2=>?_)
  .refine tB (tI O O) (λx3 h4=>?_);refine tB (Z78 O0) (λx5 h6=>?_);refine tO (λh7=>?_) (λh7=>?_)
   .exact tR aa
   refine tN (λh8=>?_) (λh8=>?_)
   .exact tR aa
   refine tD (λh9=>?_) (λh9=>?_)
   .refine tN (λh10=>?_) (λh10=>?_)
    .exact tR aa
    refine tB (BB ov1) (λx11 h12=>?_);refine tN (λh13=>?_) (λh13=>?_)
    .exact tR aa
    refine qw (v9+1) λq14 q15=>?_;exact tL ⟨ov1,O0,cl⟩ AB
   refine tB (BB ov1) (λx16 h17=>?_);refine tN (λh18=>?_) (λh18=>?_)
   .exact tR aa
   refine qw (v9+1) λq19 q20=>?_;exact tL ⟨ov1,O0,cl⟩ AB
  exact tR aa
def YX:qi->Prop
 |.L0 E0 v3=>(bc E0)/\(0<=v3)
def Ky:qi->M6
 |.L0 E0 v3=>(1,((E0.Players.length:Int)-v3).toNat,1000000,0,0,0)
def N3{a0:ae}(oa0:bc a0):Tot (Z5h a0) (λr=>True):=by
 unfold Z5h;refine tX (Inv:=YX) (μ:=Ky) (m:=(1000000,0,0,0,0,0)) ?_ ?_
 .dsimp only[I6,LT.den];have q1:=oa0.1.1;refine tB (fH) (λx2 h3=>?_);have eh3_0:=h3;refine tO (λh4=>?_) (λh4=>?_)
  .exact tR aa
  exact tL ⟨oa0,cl⟩ Kx
 intro s hs;cases s with
 |L0 E0 v3=>
  obtain⟨O0,cv3⟩:=hs;show Tot (zL E0 v3).den _;dsimp only[zL,LT.den];have q1:=O0.1.1;refine tD (λh2=>?_) (λh2=>?_)
  .refine tB (tI O O) (λx3 h4=>?_);have oh4:eV x3:=O0.1.2 x3 h4.1;refine tB (fH) (λx5 h6=>?_);have eh6_0:=h6;refine tO (λh7=>?_) (λh7=>?_)
   .exact tR aa
   refine tB (fH) (λx8 h9=>?_);have eh9_0:=h9;refine tO (λh10=>?_) (λh10=>?_)
   .exact tR aa
   refine tB (fH) (λx11 h12=>?_);have eh12_0:=h12;refine tO (λh13=>?_) (λh13=>?_)
   .exact tR aa
   refine tB (YR) (λx14 h15=>?_);refine tO (λh16=>?_) (λh16=>?_)
   .exact tR aa
   refine tB (qP O0 oh4.1) (λx17 h18=>?_);refine tO (λh19=>?_) (λh19=>?_)
   .exact tR aa
   refine tB (qP O0 oh4.2.1) (λx20 h21=>?_);refine tO (λh22=>?_) (λh22=>?_)
   .exact tR aa
   refine tB (qP O0 oh4.2.2) (λx23 h24=>?_);refine tO (λh25=>?_) (λh25=>?_)
   .exact tR aa
   refine qw (v3+1) λq26 q27=>?_;exact tL ⟨O0,cl⟩ Kx
  refine tB (qP O0 O0.2.2.1) (λx28 h29=>?_);refine tF (λh30=>?_) (λh30=>?_)
  .refine tB (qP O0 O0.2.2.2.1) (λx31 h32=>?_);exact tR aa
  exact tR aa
def kR{a0:ae}{a1:Int}(oa0:bc a0):Tot (Z9b a0 a1) (λr=>(r=true↔(0<=a1/\a1<(a0.Players.length:Int)))):=by unfold Z9b;refine tZ ?_;dsimp only[I8,LT.den];have q1:=oa0.1.1;refine qw ((a0.Players.length:Int)-1) λq2 q3=>?_;refine tB (fH) (λx4 h5=>?_);have eh5_0:=h5;exact tR (by grind)
def YY:Z02->Prop
 |.L0 E0 v3=>(0<=v3)/\True
def Kw:Z02->M6
 |.L0 E0 v3=>(1,(3-v3).toNat,1000000,0,0,0)
def YZ{a0:A3 Int}:Tot (zN a0) (λr=>True):=by
 unfold zN;refine tX (Inv:=YY) (μ:=Kw) (m:=(1000000,0,0,0,0,0)) ?_ ?_
 .dsimp only[Ja,LT.den];exact tL ⟨cl,aa⟩ Kv
 intro s hs;cases s with
 |L0 E0 v3=>
  obtain⟨cv3,_⟩:=hs;show Tot (zM E0 v3).den _;dsimp only[zM,LT.den];refine tD (λh1=>?_) (λh1=>?_)
  .refine tB (tI O (by have e:(A3.list E0).length=3:=rfl;omega)) (λx2 h3=>?_);refine tD (λh4=>?_) (λh4=>?_)
   .exact tR aa
   refine tB (tI O (by have e:(A3.list E0).length=3:=rfl;omega)) (λx5 h6=>?_);refine tD (λh7=>?_) (λh7=>?_)
   .exact tR aa
   refine qw (v3+1) λq8 q9=>?_;exact tL ⟨cl,aa⟩ Kv
  exact tR aa
def Y0{a0:ay}:Tot (zO a0) (λr=>True):=by unfold zO;refine tZ ?_;dsimp only[Jc,LT.den];exact tR aa
def Y1{a0:ay}:Tot (zP a0) (λr=>True):=by unfold zP;refine tZ ?_;dsimp only[Je,LT.den];exact tR aa
def Y2{a0:ay}{a1:Int}{a2:Int}:Tot (zQ a0 a1 a2) (λr=>(r=true->1<=a0.Id)):=by
 unfold zQ;refine tZ ?_;dsimp only[Jg,LT.den];refine tD (λh1=>?_) (λh1=>?_)
 .exact tR bK
 refine tD (λh2=>?_) (λh2=>?_)
 .exact tR bK
 refine tD (λh3=>?_) (λh3=>?_)
 .exact tR bK
 refine tD (λh4=>?_) (λh4=>?_)
 .exact tR bK
 refine tD (λh5=>?_) (λh5=>?_)
 .exact tR bK
 refine tD (λh6=>?_) (λh6=>?_)
 .exact tR bK
 refine tD (λh7=>?_) (λh7=>?_)
 .exact tR bK
 refine tD (λh8=>?_) (λh8=>?_)
 .exact tR bK
 refine tD (λh9=>?_) (λh9=>?_)
 .exact tR bK
 refine tD (λh10=>?_) (λh10=>?_)
 .exact tR bK
 refine tD (λh11=>?_) (λh11=>?_)
 .exact tR bK
 refine tD (λh12=>?_) (λh12=>?_)
 .exact tR bK
 refine tD (λh13=>?_) (λh13=>?_)
 .exact tR bK
 refine tD (λh14=>?_) (λh14=>?_)
 .exact tR bK
 refine tD (λh15=>?_) (λh15=>?_)
 .exact tR bK
 refine tD (λh16=>?_) (λh16=>?_)
 .exact tR bK
 refine tD (λh17=>?_) (λh17=>?_)
 .exact tR bK
 refine tB (YZ) (λx18 h19=>?_);refine tO (λh20=>?_) (λh20=>?_)
 .exact tR bK
 refine tD (λh21=>?_) (λh21=>?_)
 .exact tR bK
 refine tD (λh22=>?_) (λh22=>?_)
 .exact tR bK
 refine tD (λh23=>?_) (λh23=>?_)
 .exact tR bK
 refine tD (λh24=>?_) (λh24=>?_)
 .exact tR bK
 refine tE (λh25=>?_) (λh25=>?_)
 .exact tR tQ
 refine tB (Y0) (λx26 h27=>?_);refine tF (λh28=>?_) (λh28=>?_)
 .refine tB (Y1) (λx29 h30=>?_);refine tF (λh31=>?_) (λh31=>?_)
  .refine tO (λh32=>?_) (λh32=>?_)
   .refine tO (λh33=>?_) (λh33=>?_)
    .exact tR tQ
    exact tR bK
   exact tR bK
  exact tR bK
 exact tR bK
def Y3:qj->Prop
 |.L0 v1 E0 v5 v6=>(bc E0)/\(0<=v6)
def J4:qj->M6
 |.L0 v1 E0 v5 v6=>(1,((E0.Stack.length:Int)-v6).toNat,1000000,0,0,0)
def Y4{a0:ae}{a1:Int}(oa0:bc a0):Tot (Z9c a0 a1) (λr=>True):=by
 unfold Z9c;refine tX (Inv:=Y3) (μ:=J4) (m:=(1000000,0,0,0,0,0)) ?_ ?_
 .dsimp only[Ji,LT.den];exact tL ⟨oa0,cl⟩ ua
 intro s hs;cases s with
 |L0 v1 E0 v5 v6=>
  obtain⟨O0,cv6⟩:=hs;show Tot (zR v1 E0 v5 v6).den _;dsimp only[zR,LT.den];have q1:=O0.2.2.2.2.1.1;refine tD (λh2=>?_) (λh2=>?_)
  .refine tB (tI O O) (λx3 h4=>?_);have oh4:cH x3:=O0.2.2.2.2.1.2 x3 h4.1;refine tE (λh5=>?_) (λh5=>?_)
   .refine tE (λh6=>?_) (λh6=>?_)
    .refine qw (v5+1) λq7 q8=>?_;refine qw (v6+1) λq9 q10=>?_;exact tL ⟨O0,cl⟩ ua
    refine qw (v6+1) λq11 q12=>?_;exact tL ⟨O0,cl⟩ ua
   refine qw (v6+1) λq13 q14=>?_;exact tL ⟨O0,cl⟩ ua
  exact tR aa
def gv{a0:List Int}(oa0:(SzL 8 (λ_=>True)) a0):Tot (Z9d a0) (λr=>((SzL 8 (λ_=>True)) r)/\(r=a0)):=by
 unfold Z9d;refine tZ ?_;have lb_a0:=oa0.1;dsimp only[Jk,LT.den];have q3:=oa0.1;refine tB (tA eD aH) (λx1 h2=>?_);have lh2:x1.length=([]:List Int).length+a0.length:=by rw[h2,bn]
 try simp only[bJ,bU,aK]at lh2
 exact tR ⟨SzL.tr,(by first|assumption|(simpa using(by assumption:r=[]++a0))|grind)⟩
def Y5{a0:ae}{a1:Int}{a2:Int}(oa0:bc a0):Tot (Z9e a0 a1 a2) (λr=>((SzL 8 (λ_=>True)) r)):=by
 unfold Z9e;refine tZ ?_;dsimp only[Jm,LT.den];refine tE (λh1=>?_) (λh1=>?_)
 .refine tB (gv oa0.2.2.1) (λx2 h3=>?_);have eh3_1:=h3.2;exact tR h3.1
 refine tE (λh4=>?_) (λh4=>?_)
 .refine tB (gv oa0.2.2.2.1) (λx5 h6=>?_);have eh6_1:=h6.2;exact tR h6.1
 refine tD (λh7=>?_) (λh7=>?_)
 .exact tR SzL.nil
 have q8:=oa0.1.1;refine tD (λh9=>?_) (λh9=>?_)
 .exact tR SzL.nil
 refine tE (λh10=>?_) (λh10=>?_)
 .refine tB (tI O O) (λx11 h12=>?_);have oh12:eV x11:=oa0.1.2 x11 h12.1;refine tB (gv oh12.2.1) (λx13 h14=>?_);have eh14_1:=h14.2;exact tR h14.1
 refine tE (λh15=>?_) (λh15=>?_)
 .refine tB (tI O O) (λx16 h17=>?_);have oh17:eV x16:=oa0.1.2 x16 h17.1;refine tB (gv oh17.1) (λx18 h19=>?_);have eh19_1:=h19.2;exact tR h19.1
 refine tE (λh20=>?_) (λh20=>?_)
 .refine tB (tI O O) (λx21 h22=>?_);have oh22:eV x21:=oa0.1.2 x21 h22.1;refine tB (gv oh22.2.2) (λx23 h24=>?_);have eh24_1:=h24.2;exact tR h24.1
 exact tR SzL.nil
def Z79{a0:ae}{a1:ay}(oa0:bc a0):Tot (Z9f a0 a1) (λr=>True):=by
 unfold Z9f;refine tZ ?_;dsimp only[Jo,LT.den];refine tE (λh1=>?_) (λh1=>?_)
 .refine tB (Y4 oa0) (λx2 h3=>?_);exact tR aa
 refine tB (Y5 oa0) (λx4 h5=>?_);refine tB (BB h5) (λx6 h7=>?_);exact tR aa
def Y6(a0:List Z1)(a1:ae):qk->Prop
 |.L0 v0 E0 v5=>(v0=a0)/\(E0=a1)/\((SzL 176 cR) v0)/\(bc E0)/\(0<=v5)/\(Z9v E0.Objects v5)
def Kg:qk->M6
 |.L0 v0 E0 v5=>(1,((E0.Objects.length:Int)-v5).toNat,1000000,0,0,0)
def rD{a0:List Z1}{a1:ae}(oa0:(SzL 176 cR) a0)(oa1:bc a1):Tot (Z5i a0 a1) (λr=>(r=true->Ids a1.Objects)/\(r=true->SrtO a1.Objects)):=by
 unfold Z5i;refine tX (Inv:=(Y6 a0 a1)) (μ:=Kg) (m:=(1000000,0,0,0,0,0)) ?_ ?_
 .have lb_a0:=oa0.1;dsimp only[Jr,LT.den];have q1:=oa1.2.1.1;refine tD (λh2=>?_) (λh2=>?_)
  .exact tR ⟨ko,km⟩
  exact tL ⟨rfl,rfl,oa0,oa1,cl,Aj⟩ AH
 intro s hs;cases s with
 |L0 v0 E0 v5=>
  obtain⟨al0,al1,ov0,O0,cv5,i0⟩:=hs;have lb_v0:=ov0.1;subst al0;subst al1;show Tot (zS v0 E0 v5).den _;dsimp only[zS,LT.den];have q1:=O0.2.1.1;refine tD (λh2=>?_) (λh2=>?_)
  .refine tB (tI O O) (λx3 h4=>?_);have mh4:=h4.2;have q5:=ov0.1;have q6:=O0.1.1;refine tB (Y2) (λx7 h8=>?_);have eh8_0:=h8;refine tO (λh9=>?_) (λh9=>?_)
   .exact tR ⟨ko,km⟩
   have h9_0:=eh8_0 h9;refine tD (λh10=>?_) (λh10=>?_)
   .exact tR ⟨ko,km⟩
   refine tD (λh11=>?_) (λh11=>?_)
   .exact tR ⟨ko,km⟩
   refine tD (λh12=>?_) (λh12=>?_)
   .refine qw (v5-1) λq13 q14=>?_;refine tB (tI O O) (λx15 h16=>?_);have mh16:=h16.2;refine tD (λh17=>?_) (λh17=>?_)
    .exact tR ⟨ko,km⟩
    refine tB (Z79 O0) (λx18 h19=>?_);refine tO (λh20=>?_) (λh20=>?_)
    .exact tR ⟨ko,km⟩
    refine qw (v5+1) λq21 q22=>?_;exact tL ⟨rfl,rfl,ov0,O0,cl,Aj⟩ AH
   refine tB (Z79 O0) (λx23 h24=>?_);refine tO (λh25=>?_) (λh25=>?_)
   .exact tR ⟨ko,km⟩
   refine qw (v5+1) λq26 q27=>?_;exact tL ⟨rfl,rfl,ov0,O0,cl,Aj⟩ AH
  exact tR ⟨ko,km⟩
def Y7(a0:List ah)(a1:List ah):ql->Prop
 |.L0 v0 v1 v5=>(v0=a0)/\(v1=a1)/\((SzL 176 cc) v0)/\((SzL 176 cc) v1)/\(0<=v5)/\(v0.length=v1.length)
def KE:ql->M6
 |.L0 v0 v1 v5=>(1,((v0.length:Int)-v5).toNat,1000000,0,0,0)
def Z2u{a0:List ah}{a1:List ah}(oa0:(SzL 176 cc) a0)(oa1:(SzL 176 cc) a1):Tot (Z03 a0 a1) (λr=>(a0=a1->r=true)):=by
 unfold Z03;refine tX (Inv:=(Y7 a0 a1)) (μ:=KE) (m:=(1000000,0,0,0,0,0)) ?_ ?_
 .have lb_a0:=oa0.1;have lb_a1:=oa1.1;dsimp only[Z7g,LT.den];have q1:=oa0.1;have q2:=oa1.1;refine tN (λh3=>?_) (λh3=>?_)
  .exact tR aT
  exact tL ⟨rfl,rfl,oa0,oa1,cl,cl⟩ KD
 intro s hs;cases s with
 |L0 v0 v1 v5=>
  obtain⟨al0,al1,ov0,ov1,cv5,i0⟩:=hs;have lb_v0:=ov0.1;have lb_v1:=ov1.1;subst al0;subst al1;show Tot (zT v0 v1 v5).den _;dsimp only[zT,LT.den];have q1:=ov0.1;refine tD (λh2=>?_) (λh2=>?_)
  .refine tB (tI O O) (λx3 h4=>?_);have oh4:cc x3:=ov0.2 x3 h4.1;have mh4:=h4.2;refine tB (tI O O) (λx5 h6=>?_);have oh6:cc x5:=ov1.2 x5 h6.1;have mh6:=h6.2;refine tO (λh7=>?_) (λh7=>?_)
   .exact tR aT
   refine qw (v5+1) λq8 q9=>?_;exact tL ⟨rfl,rfl,ov0,ov1,cl,cl⟩ KD
  exact tR aT
def Y8{a0:aU}{a1:aU}(oa0:cJ a0)(oa1:cJ a1):Tot (zU a0 a1) (λr=>(a0=a1->r=true)):=by
 unfold zU;refine tZ ?_;dsimp only[Jt,LT.den];refine tE (λh1=>?_) (λh1=>?_)
 .refine tF (λh2=>?_) (λh2=>?_)
  .refine tF (λh3=>?_) (λh3=>?_)
   .refine tE (λh4=>?_) (λh4=>?_)
    .refine tE (λh5=>?_) (λh5=>?_)
     .refine tF (λh6=>?_) (λh6=>?_)
      .refine tF (λh7=>?_) (λh7=>?_)
       .refine tF (λh8=>?_) (λh8=>?_)
        .refine tB (Z2u oa0.2.2.2.2 oa1.2.2.2.2) (λx9 h10=>?_);have eh10_0:=h10;exact tR aT
        exact tR aT
       exact tR aT
      exact tR aT
     exact tR aT
    exact tR aT
   exact tR aT
  exact tR aT
 exact tR aT
def Y9(a0:List aU)(a1:List aU):qm->Prop
 |.L0 v0 v1 v5=>(v0=a0)/\(v1=a1)/\((SzL 560 cJ) v0)/\((SzL 560 cJ) v1)/\(0<=v5)/\(v0.length=v1.length)
def KC:qm->M6
 |.L0 v0 v1 v5=>(1,((v0.length:Int)-v5).toNat,1000000,0,0,0)
def Za{a0:List aU}{a1:List aU}(oa0:(SzL 560 cJ) a0)(oa1:(SzL 560 cJ) a1):Tot (Z04 a0 a1) (λr=>(a0=a1->r=true)):=by
 unfold Z04;refine tX (Inv:=(Y9 a0 a1)) (μ:=KC) (m:=(1000000,0,0,0,0,0)) ?_ ?_
 .have lb_a0:=oa0.1;have lb_a1:=oa1.1;dsimp only[Z7i,LT.den];have q1:=oa0.1;have q2:=oa1.1;refine tN (λh3=>?_) (λh3=>?_)
  .exact tR aT
  exact tL ⟨rfl,rfl,oa0,oa1,cl,cl⟩ KB
 intro s hs;cases s with
 |L0 v0 v1 v5=>
  obtain⟨al0,al1,ov0,ov1,cv5,i0⟩:=hs;have lb_v0:=ov0.1;have lb_v1:=ov1.1;subst al0;subst al1;show Tot (zV v0 v1 v5).den _;dsimp only[zV,LT.den];have q1:=ov0.1;refine tD (λh2=>?_) (λh2=>?_)
  .refine tB (tI O O) (λx3 h4=>?_);have oh4:cJ x3:=ov0.2 x3 h4.1;have mh4:=h4.2;refine tB (tI O O) (λx5 h6=>?_);have oh6:cJ x5:=ov1.2 x5 h6.1;have mh6:=h6.2;refine tB (Y8 oh4 oh6) (λx7 h8=>?_);have eh8_0:=h8;refine tO (λh9=>?_) (λh9=>?_)
   .exact tR aT
   refine qw (v5+1) λq10 q11=>?_;exact tL ⟨rfl,rfl,ov0,ov1,cl,cl⟩ KB
  exact tR aT
def Zb(a0:ar)(a1:ar):qn->Prop
 |.L0 E0 E1 v5=>(E0=a0)/\(E1=a1)/\(dn E0)/\(dn E1)/\(0<=v5)/\(E0.Specs.length=E1.Specs.length)
def Z6k:qn->M6
 |.L0 E0 E1 v5=>(1,((E0.Specs.length:Int)-v5).toNat,1000000,0,0,0)
def Z2v{a0:ar}{a1:ar}(oa0:dn a0)(oa1:dn a1):Tot (zW a0 a1) (λr=>(a0=a1->r=true)):=by
 unfold zW;refine tX (Inv:=(Zb a0 a1)) (μ:=Z6k) (m:=(1000000,0,0,0,0,0)) ?_ ?_
 .dsimp only[Jv,LT.den];have q1:=oa0.2.2.2.1.1;have q2:=oa1.2.2.2.1.1;refine tN (λh3=>?_) (λh3=>?_)
  .exact tR aT
  exact tL ⟨rfl,rfl,oa0,oa1,cl,cl⟩ KJ
 intro s hs;cases s with
 |L0 E0 E1 v5=>
  obtain⟨al0,al1,O0,O1,cv5,i0⟩:=hs;subst al0;subst al1;show Tot (Z5j E0 E1 v5).den _;dsimp only[Z5j,LT.den];have q1:=O0.2.2.2.1.1;refine tD (λh2=>?_) (λh2=>?_)
  .refine tB (tI O O) (λx3 h4=>?_);have oh4:iH x3:=O0.2.2.2.1.2 x3 h4.1;have mh4:=h4.2;refine tB (tI O O) (λx5 h6=>?_);have oh6:iH x5:=O1.2.2.2.1.2 x5 h6.1;have mh6:=h6.2;refine tO (λh7=>?_) (λh7=>?_)
   .exact tR aT
   refine qw (v5+1) λq8 q9=>?_;exact tL ⟨rfl,rfl,O0,O1,cl,cl⟩ KJ
  refine tE (λh10=>?_) (λh10=>?_)
  .refine tF (λh11=>?_) (λh11=>?_)
   .refine tB (Z2u O0.2.1 O1.2.1) (λx12 h13=>?_);have eh13_0:=h13;refine tF (λh14=>?_) (λh14=>?_)
    .refine tF (λh15=>?_) (λh15=>?_)
     .refine tF (λh16=>?_) (λh16=>?_)
      .refine tF (λh17=>?_) (λh17=>?_)
       .refine tF (λh18=>?_) (λh18=>?_)
        .refine tB (Za O0.2.2.2.2.1 O1.2.2.2.2.1) (λx19 h20=>?_);have eh20_0:=h20;refine tF (λh21=>?_) (λh21=>?_)
         .exact tR aT
         exact tR aT
        exact tR aT
       exact tR aT
      exact tR aT
     exact tR aT
    exact tR aT
   exact tR aT
  exact tR aT
def Zc{a0:ae}{a1:az}(oa0:bc a0)(oa1:cH a1):Tot (zX a0 a1) (λr=>True):=by
 unfold zX;refine tZ ?_;dsimp only[Jy,LT.den];refine qw (a0.NextId-1) λq1 q2=>?_;refine tB (fH) (λx3 h4=>?_);have eh4_0:=h4;refine tO (λh5=>?_) (λh5=>?_)
 .exact tR aa
 refine tB (fH) (λx6 h7=>?_);have eh7_0:=h7;refine tO (λh8=>?_) (λh8=>?_)
 .exact tR aa
 have q9:=oa1.2.1;refine tD (λh10=>?_) (λh10=>?_)
 .exact tR aa
 refine tB (kR oa0) (λx11 h12=>?_);have eh12_0:=h12;refine tO (λh13=>?_) (λh13=>?_)
 .exact tR aa
 refine tB (Z78 oa0) (λx14 h15=>?_);refine tE (λh16=>?_) (λh16=>?_)
 .refine tB (Z2v oa1.1 ⟨SzS.nil,SzL.nil,SzS.nil,SzL.nil,SzL.nil,SzS.nil⟩) (λx17 h18=>?_);have eh18_0:=h18;refine tE (λh19=>?_) (λh19=>?_)
  .refine tF (λh20=>?_) (λh20=>?_)
   .refine tE (λh21=>?_) (λh21=>?_)
    .refine tF (λh22=>?_) (λh22=>?_)
     .exact tR aa
     refine tB (uC oa1.1) (λx23 h24=>?_);exact tR aa
    exact tR aa
   exact tR aa
  exact tR aa
 refine tE (λh25=>?_) (λh25=>?_)
 .refine tO (λh26=>?_) (λh26=>?_)
  .refine tB (uC oa1.1) (λx27 h28=>?_);exact tR aa
  exact tR aa
 exact tR aa
def Zd:Z05->Prop
 |.L0 v0 v3=>((SzL 8 (λ_=>True)) v0)/\(0<=v3)/\(1<=v3)
def Ku:Z05->M6
 |.L0 v0 v3=>(1,((v0.length:Int)-v3).toNat,1000000,0,0,0)
def Ze{a0:List Int}(oa0:(SzL 8 (λ_=>True)) a0):Tot (zZ a0) (λr=>True):=by
 unfold zZ;refine tX (Inv:=Zd) (μ:=Ku) (m:=(1000000,0,0,0,0,0)) ?_ ?_
 .have lb_a0:=oa0.1;dsimp only[JA,LT.den];exact tL ⟨oa0,cl,cl⟩ Kt
 intro s hs;cases s with
 |L0 v0 v3=>
  obtain⟨ov0,cv3,i0⟩:=hs;have lb_v0:=ov0.1;show Tot (zY v0 v3).den _;dsimp only[zY,LT.den];have q1:=ov0.1;refine tD (λh2=>?_) (λh2=>?_)
  .refine qw (v3-1) λq3 q4=>?_;refine tB (tI O O) (λx5 h6=>?_);refine tB (tI O O) (λx7 h8=>?_);refine tD (λh9=>?_) (λh9=>?_)
   .exact tR aa
   refine qw (v3+1) λq10 q11=>?_;exact tL ⟨ov0,cl,cl⟩ Kt
  exact tR aa
def Zf(a0:ae):kj->Prop
 |.L0 E0 v3=>(E0=a0)/\(bc E0)/\(0<=v3)/\(E0.Conts.length<=64)
 |.L1 E0 v3 v4=>(E0=a0)/\(bc E0)/\(0<=v4)/\(0<=v3)/\(v3<(E0.Stack.length:Int))/\(E0.Conts.length<=64)
 |.L2 E0 v5=>(E0=a0)/\(bc E0)/\(0<=v5)/\(E0.Conts.length<=64)
 |.L3 E0 v7=>(E0=a0)/\(bc E0)/\(0<=v7)/\(E0.Conts.length<=64)
def JX:kj->M6
 |.L0 E0 v3=>(5,((E0.Stack.length:Int)-v3).toNat,1000000,0,0,0)
 |.L1 E0 v3 v4=>(5,((E0.Stack.length:Int)-v3).toNat,1,(v3-v4).toNat,1000000,0)
 |.L2 E0 v5=>(3,((E0.Waiting.length:Int)-v5).toNat,1000000,0,0,0)
 |.L3 E0 v7=>(1,((E0.Conts.length:Int)-v7).toNat,1000000,0,0,0)
def rE{a0:ae}(oa0:bc a0):Tot (z6 a0) (λr=>(r=true->a0.Conts.length<=64)):=by
 unfold z6;refine tX (Inv:=(Zf a0)) (μ:=JX) (m:=(1000000,0,0,0,0,0)) ?_ ?_
 .dsimp only[JC,LT.den];have q1:=oa0.2.2.2.2.1.1;refine tD (λh2=>?_) (λh2=>?_)
  .exact tR ct
  have q3:=oa0.2.2.2.2.2.1.1;refine tD (λh4=>?_) (λh4=>?_)
  .exact tR ct
  have q5:=oa0.2.2.2.2.2.2.1.1;refine tD (λh6=>?_) (λh6=>?_)
  .exact tR ct
  exact tL ⟨rfl,oa0,cl,cl⟩ kq
 intro s hs;cases s with
 |L0 E0 v3=>
  obtain⟨al0,O0,cv3,i0⟩:=hs;subst al0;show Tot (Z06 E0 v3).den _;dsimp only[Z06,LT.den];have q1:=O0.2.2.2.2.1.1;refine tD (λh2=>?_) (λh2=>?_)
  .refine tB (tI O O) (λx3 h4=>?_);have oh4:cH x3:=O0.2.2.2.2.1.2 x3 h4.1;refine tB (Zc O0 oh4) (λx5 h6=>?_);refine tO (λh7=>?_) (λh7=>?_)
   .exact tR ct
   exact tL ⟨rfl,O0,cl,cl,cl,cl⟩ kq
  exact tL ⟨rfl,O0,cl,cl⟩ kq
 |L1 E0 v3 v4=>
  obtain⟨al0,O0,cv4,cv3,bd4,i0⟩:=hs;subst al0;show Tot (Z07 E0 v3 v4).den _;dsimp only[Z07,LT.den];have lx_0:E0.Stack.length*824<=140737488351232:=O0.2.2.2.2.1.1;refine tD (λh1=>?_) (λh1=>?_)
  .refine tB (tI O O) (λx2 h3=>?_);have oh3:cH x2:=O0.2.2.2.2.1.2 x2 h3.1;refine tB (tI O O) (λx4 h5=>?_);have oh5:cH x4:=O0.2.2.2.2.1.2 x4 h5.1;refine tE (λh6=>?_) (λh6=>?_)
   .exact tR ct
   refine qw (v4+1) λq7 q8=>?_;exact tL ⟨rfl,O0,cl,cl,cl,cl⟩ kq
  refine qw (v3+1) λq9 q10=>?_;exact tL ⟨rfl,O0,cl,cl⟩ kq
 |L2 E0 v5=>
  obtain⟨al0,O0,cv5,i0⟩:=hs;subst al0;show Tot (Z08 E0 v5).den _;dsimp only[Z08,LT.den];have q1:=O0.2.2.2.2.2.1.1;refine tD (λh2=>?_) (λh2=>?_)
  .refine tB (tI O O) (λx3 h4=>?_);have oh4:gW x3:=O0.2.2.2.2.2.1.2 x3 h4.1;refine tB (kR O0) (λx5 h6=>?_);have eh6_0:=h6;refine tO (λh7=>?_) (λh7=>?_)
   .exact tR ct
   refine tN (λh8=>?_) (λh8=>?_)
   .exact tR ct
   refine tB (uC oh4) (λx9 h10=>?_);refine tO (λh11=>?_) (λh11=>?_)
   .exact tR ct
   refine qw (v5+1) λq12 q13=>?_;exact tL ⟨rfl,O0,cl,cl⟩ kq
  exact tL ⟨rfl,O0,cl,cl⟩ kq
 |L3 E0 v7=>
  obtain⟨al0,O0,cv7,i0⟩:=hs;subst al0;show Tot (Z09 E0 v7).den _;dsimp only[Z09,LT.den];have q1:=O0.2.2.2.2.2.2.1.1;refine tD (λh2=>?_) (λh2=>?_)
  .refine tB (tI O O) (λx3 h4=>?_);have oh4:fI x3:=O0.2.2.2.2.2.2.1.2 x3 h4.1;refine tB (kR O0) (λx5 h6=>?_);have eh6_0:=h6;refine tO (λh7=>?_) (λh7=>?_)
   .exact tR ct
   refine tD (λh8=>?_) (λh8=>?_)
   .exact tR ct
   refine tB (fH) (λx9 h10=>?_);have eh10_0:=h10;refine tO (λh11=>?_) (λh11=>?_)
   .exact tR ct
   refine tB (Ze oh4.1) (λx12 h13=>?_);refine tO (λh14=>?_) (λh14=>?_)
   .exact tR ct
   refine tB (Bj oh4.2) (λx15 h16=>?_);have eh16_0:=h16;refine tF (λh17=>?_) (λh17=>?_)
   .exact tR ct
   refine qw (v7+1) λq18 q19=>?_;exact tL ⟨rfl,O0,cl,cl⟩ kq
  exact tR ct
end Go.PW
