import Derived.Test.YtchddhcajpagjaaGreatQE
import Derived.Test.YtchddhcajpagjaaGreatPwYi
import Derived.Test.YtchddhcajpagjaaGreatQDc
import Derived.Test.YtchddhcajpagjaaGreatQU
set_option linter.all false
set_option maxRecDepth 100000
namespace Go.PW
variable{p:Prop}
def od(h:p:=by exact tR Ai):=h
def ss(h:p:=by exact tR (by unfold inB;grind)):=h
def mC(h:p:=by exact tR (by unfold fb;grind)):=h
def bP(h:p:=by exact tR (by intro hr;cases hr)):=h
def mD(h:p:=by exact tJ (Z61 trivial)):=h
def oI(h:p:=by exact tR dO):=h
def wy(h:p:=by exact tJ (Pn ⟨ov0,cs⟩)):=h
def zS(h:p:=by exact tR (by unfold clV minI maxI;grind)):=h
def BO(h:p:=by exact tJ (Po ⟨oa0,ab⟩)):=h
def BP(h:p:=by exact tJ (Pp ⟨oa0,ab⟩)):=h
def gm(h:p:=by exact tR (by first|rfl|(unfold stV;grind))):=h
def BQ(h:p:=by exact tJ (Pq ⟨O0,ab⟩)):=h
def wz(h:p:=by exact tJ (Pr ⟨O0,ab⟩)):=h
def wC(h:p:=by exact tJ (Ps ⟨O0,ab⟩)):=h
def LB(h:p:=by exact tR ⟨oa0,gJ⟩):=h
def Pt(h:p:=by exact tR ⟨h1.1,gJ⟩):=h
def wD(h:p:=by exact tR (by intro hr;first|omega|(cases hr;done))):=h
def KO(h:p:=by exact tJ (Z4q ⟨rfl,aP,aP⟩)):=h
def vg(h:p:=by exact tJ (Z4r ⟨rfl,aP,aP⟩)):=h
def zU(h:p:=by exact tJ (Z4p ⟨rfl,aP,aP⟩)):=h
def Pu(h:p:=by exact tJ (Pv ⟨rfl,rfl,oa0,aP⟩)):=h
def Pw(h:p:=by exact tL ⟨ov0,cl⟩ Px):=h
def Py(h:p:=by exact tL ⟨cl,cl⟩ (by unfold Pz lt6;dsimp only;omega)):=h
def PA(h:p:=by exact tL ⟨cl,cl⟩ (by unfold PB lt6;dsimp only;omega)):=h
def BS(h:p:=by exact tL ⟨cl,cs⟩ (by unfold PC lt6;dsimp only;omega)):=h
def PD(h:p:=by
 apply tE<;>intro h1
 .exact tR ab
 exact tR ab):=h
def oJ(h:p:=by exact tL ⟨cl,cs⟩ PE):=h
def BT(h:p:=by exact tL ⟨cl,cs⟩ (by unfold PF lt6;dsimp only;omega)):=h
def BU(h:p:=by
 apply tD<;>intro h1
 .exact tR ab
 exact tR ab):=h
def PG(h:p:=by
 apply tF<;>intro h2
 .exact tR ab
 exact tR ab):=h
def BV(h:p:=by
 apply tD<;>intro h4
 .exact tR ab
 exact tR ab):=h
def PH(h:p:=by exact tL ⟨ov0,cl⟩ PI):=h
def PJ(h:p:=by exact tL ⟨cl,ab⟩ (by unfold PK lt6;dsimp only;omega)):=h
def PL(h:p:=by exact tL ⟨cl,cl⟩ (by unfold Z6y lt6;dsimp only;omega)):=h
def PM(h:p:=by exact tL ⟨cl,ab⟩ (by unfold PN lt6;dsimp only;omega)):=h
def PO(h:p:=by exact tL ⟨cl,ab⟩ (by unfold PP lt6;dsimp only;omega)):=h
def PQ(h:p:=by exact tL ⟨ov0,ov2,cs⟩ PS):=h
def PT(h:p:=by exact tL ⟨O0,cl⟩ PU):=h
def gv(h:p:=by exact tR (by obtain⟨k1,k2,k3,k4⟩:=a0;unfold amV;grind[X7,usV])):=h
def dQ(h:p:=by exact tR BW):=h
def j6(h:p:=by exact tR ⟨⟨oa0.1,oa0.2.1,oa0.2.2⟩,gJ⟩):=h
def mF(h:p:=by exact tL ⟨rfl,O0,cs⟩ PX):=h
def kf(h:p:=by exact tR ⟨⟨h1.1.1,h1.1.2.1,h1.1.2.2⟩,gJ⟩):=h
def PY(h:p:=by exact tL ⟨ov0,O0,cs⟩ BX):=h
def PZ(h:p:=by simp only[bk,bw,eT,jv];omega):=h
def kh(h:p:=by exact tL ⟨O0,ov6,ov7,cs⟩ sw):=h
def P0(h:p:=by have q1:=wr (v3+1);exact Pw):=h
def P1(h:p:=by exact tJ (P2 ⟨rfl,oa0,cl,P3⟩)):=h
def P4(h:p:=by exact tJ (P5 ⟨rfl,rfl,oa0,⟨SzS.nil,SzL.nil,SzL.nil⟩,aP⟩)):=h
def P6(h:p:=by exact tJ (Z4i ⟨rfl,Z6,aP,aP⟩)):=h
def P7(h:p:=by have q2:=wr (v4+1);exact BS):=h
def wE(h:p:=by exact tJ (Z4j ⟨rfl,Z6,aP,aP⟩)):=h
def BY(h:p:=by exact tJ (Z4h ⟨rfl,Z6,aP,aP⟩)):=h
def P8(h:p:=by have q2:=wr (v4+1);exact BT):=h
def Kv(h:p:=by exact tR ⟨ov5,(by exact Zeo V Z6 O)⟩):=h
def P9(h:p:=by have q1:=wr (v4+1);exact tL ⟨ov0,cs⟩ Qa):=h
def Qb(h:p:=by have q1:=wr (v7+1);exact PM):=h
def Qc(h:p:=by have q2:=wr (v6+1);exact tL ⟨ov0,ov1,cs⟩ Qd):=h
def Qe(h:p:=by have q1:=wr (v5+1);exact tL ⟨ov0,ov1,cl⟩ Qf):=h
def Qg(h:p:=by have q2:=wr (v8+1);exact PQ):=h
def Qh(h:p:=by have q2:=wr (v6+1);exact PT):=h
def Qi(h:p:=by have q1:=wr (v9+1);exact tL ⟨ov1,O0,cl⟩ Qj):=h
def Qk(h:p:=by have q2:=wr (v6+1);exact PY):=h
def mG(h:p:=by exact tR ⟨SzL.nil,mH⟩):=h
def Ql(h:p:=by exact tJ (Z6v ⟨O0,O1,V,V,aP,aP⟩)):=h
def Qm(h:p:=by exact tL ⟨rfl,O0,cl,(by first|assumption|omega)⟩ Qn):=h
def wF(h:p:=by exact tR tk85):=h
def df(h:p:=by exact tR bc):=h
def Mt(h:p:=by
 apply tD<;>intro h1
 .exact Tot.ix λx1 h2=>tR (by unfold stp;grind)
 exact tR (by unfold stp;grind)):=h
def wH(h:p:=by have q1:=wr (5+v0);have q2:=wr ((IntKind.wrap .i64 (5+v0))-11);exact gm):=h
def BZ(h:p:=by
 apply tE<;>intro h4
 .exact tR ab
 apply tE<;>intro h5
 .exact tR ab
 exact tR ab):=h
def Km(h:p:=by exact tJ (Ki ⟨rfl,rfl,oa0,⟨SzS.nil,SzL.nil,SzL.nil⟩,bO,aP⟩)):=h
def oK(h:p:=by exact tR (by first|with_reducible exact ZeM V O|(rw[ZeN V O];grind))):=h
def KW(h:p:=by exact tR (by first|exact an_y V (bq_y V V)|exact an_e V O)):=h
def Qo(h:p:=by exact tR (by first|exact X9 V V|exact Ya V V V)):=h
def B0(h:p:=by exact tL ⟨rfl,O0,cl,cl,P3⟩ (by unfold Z62 lt6;dsimp only;omega)):=h
def Qp(h:p:=by exact tJ (Qq ⟨rfl,O0,Z6,V,V,aP,aP⟩)):=h
def Qr(h:p:=by exact tJ (Qs ⟨rfl,O0,Z6,V,V,aP,aP⟩)):=h
def Qt(h:p:=by exact tJ (Qu ⟨rfl,O0,Z6,V,V,aP,aP⟩)):=h
def Qv(h:p:=by exact tJ (Qw ⟨rfl,O0,Z6,V,V,aP,aP⟩)):=h
def Qx(h:p:=by exact tJ (Qy ⟨rfl,oa0,Z6,B1,aP,aP⟩)):=h
def M3(h:p:=by exact tR ⟨SzL.nil,tk81⟩):=h
def Qz(h:p:=by exact tJ (QA ⟨rfl,oa0,Z6,B1,aP,aP⟩)):=h
def QB(h:p:=by
 refine tB (kj oa1) λx1 h2=>?_;have eh2_0:=h2.1;apply tF<;>intro h3
 .exact tR ab
 exact tR ab):=h
def QC(h:p:=by exact tR (by first|exact bl_y V V V V|exact bl_e V O)):=h
def QD(h:p:=by exact tR (by first|exact ZbU V V V aP|exact ZbV V O)):=h
def LL(h:p:=by exact tR (by first|exact an_y V (dq_y V V V)|exact an_e V O)):=h
def QE(h:p:=by
 refine tB (kj O0) λx2 h4=>?_;have eh4_0:=h4.1;apply tF<;>intro h5
 .exact tR ab
 exact tR ab):=h
def QF(h:p:=by exact tJ (Z65 ⟨rfl,O0,O1,O2,Z6,V,aP,aP⟩)):=h
def J4(h:p:=by exact tR (by first|with_reducible exact QG V rfl V O O|with_reducible exact QH aP)):=h
def QI(h:p:=by exact tR ⟨(by first|exact li_n V V|exact li_y V V),cl,dO⟩):=h
def MX(h:p:=by exact tR ⟨SzL.nil,tk70⟩):=h
def oL(h:p:=by exact tJ (Z6w ⟨⟨oa0.1,oa0.2⟩,⟨SzS.nil,SzS.nil⟩,Z6,Z6,aP⟩)):=h
def QJ(h:p:=by exact tR ⟨oc1,Z6,(by first|exact fx_y V V aP|exact fx_n V O)⟩):=h
def eM(h:p:=by exact tR ⟨BW,(by first|(intro hr;exact absurd hr bE)|(intro _;assumption))⟩):=h
def B2(h:p:=by exact tR ⟨⟨O2.1,O2.2.1,O2.2.2⟩,tk94⟩):=h
def zM(h:p:=by exact tR ⟨⟨O2.1,O2.2.1,O2.2.2⟩,cl,tk94⟩):=h
def QK(h:p:=by exact tR ⟨cl,tk56⟩):=h
def n7(h:p:=by exact tR (by first|exact eq_y V V O|exact eq_n V V V|(simp;intro e;subst e;omega))):=h
def QL(h:p:=by exact tR tk54):=h
def oM(h:p:=by exact tJ (Z66 ⟨rfl,oa0,⟨SzS.nil,SzS.nil⟩,⟨SzS.nil,SzS.nil⟩,Z6,Z6,aP⟩)):=h
def K2(h:p:=by exact tR ⟨cl,cl,tk56⟩):=h
def QM(h:p:=by
 try simp only[bw,bT,aM]at lh1
 exact tR ⟨SzL.tr,mH⟩):=h
def B3(h:p:=by exact tR ⟨ov7,(by first|exact ZeO V V O O|exact ZeP V O|exact ZeQ V O)⟩):=h
def B4(h:p:=by exact tR ⟨⟨O2.1,O2.2⟩,tk59⟩):=h
def K9(h:p:=by exact tR tk46):=h
def QN(h:p:=by exact tR ⟨cl,cl,(by first|exact(aq bE).trans (QO V O)|exact(aw O).trans (QP V V O aP))⟩):=h
def ff(h:p:=by exact tR ⟨tk99,sx⟩):=h
def B5(h:p:=by exact tR (by first|with_reducible exact QG V V V O O|with_reducible exact ZeR V|with_reducible exact QH aP)):=h
def QQ(h:p:=by exact tR ⟨cl,cl,tk46⟩):=h
def zV(h:p:=by exact tR (by first|exact yr_c V V V V V|exact yr_b V V V|exact yr_a V V)):=h
def B6(h:p:=by exact tR (by first|exact ld_y V V V V V V|exact ld_a V V|exact ld_b V V)):=h
def dJ(h:p:=by exact tR Z35):=h
def B7(h:p:=by exact tL ⟨O0,ov6,SzL.app (k:=16) h6 lo ov7.2 (me1 tk85),cs⟩ sw):=h
def QR(h:p:=by exact tL ⟨rfl,cl,Z6,(by first|(intro k x hk;omega)|exact mm V V O ⟨by omega,by omega⟩ O)⟩ (by unfold QS lt6;dsimp only;omega)):=h
def B8(h:p:=by exact tR ⟨⟨O0.1,O0.2⟩,tk43⟩):=h
def B9(h:p:=by exact tR ⟨h1.1,tk36⟩):=h
def Z6s(h:p:=by exact tR ⟨(by first|(intro hr;exact absurd hr bE)|exact λ_=>Yc (v:=v5) V O),(by first|(intro hr;exact absurd hr bE)|exact λ_=>ZeG (v:=v5) V O)⟩):=h
def QT(h:p:=by exact tR ⟨QU,(by first|assumption|(intro hr;exact absurd hr bE)|(intro hr;grind)),QU⟩):=h
def Ca(h:p:=by exact tR (by first|exact yo_c V V V V V V|exact yo_b V V V V|exact yo_a V V)):=h
def Mg(h:p:=by exact tL ⟨rfl,rfl,ov0,ov1,ov7,cl,V,V,cl,(by first|exact RB_0 V O|exact ZbN V V O aP)⟩ oe):=h
def QV(h:p:=by have eh9_1:=h9.2;exact tR ⟨h9.1,tk36⟩):=h
def QW(h:p:=by
 apply tF<;>intro h2
 .exact wF
 exact wF):=h
def sy(h:p:=by exact tR ⟨(by first|(intro hr;exact absurd hr bE)|(intro _ c hc;obtain⟨k,hk⟩:=List.mem_iff_getElem?.1 hc;exact i0 k c aP hk)),(by first|(intro hr;exact absurd hr bE)|(intro _;exact ZeS V O))⟩):=h
def QX(h:p:=by exact tJ (Cb ⟨rfl,O1,⟨SzS.nil,SzL.nil,SzL.nil⟩,tk42⟩)):=h
def Kj(h:p:=by exact tJ (Z1k ⟨rfl,O1,⟨SzS.nil,SzL.nil,SzL.nil⟩,cl,tk42⟩)):=h
def z8(h:p:=by exact tR ⟨SzL.app (k:=16) h1 lo (λ_ h=>by cases h) oa0.2,tk32⟩):=h
def vi(h:p:=by exact tR (by first|exact ar_d V V V V V V V|exact ar_c V V V|exact ar_b V V|exact ar_a V V)):=h
def Cc(h:p:=by exact tR ⟨tk85,tk52⟩):=h
def rK(h:p:=by have q1:=wr (v9+1);exact tL ⟨rfl,ov1,ov7,cl,cl,V,tk48⟩ Mw):=h
def QY(h:p:=by
 apply tD<;>intro h4
 .apply tD<;>intro h5
  .exact gv
  exact gv
 exact gv):=h
def wJ(h:p:=by exact tR (by first|exact ac_d V V V V V V V V|exact ac_c V V V V|exact ac_b V V|exact ac_a V V)):=h
def Ly(h:p:=by exact tJ (Z1u ⟨rfl,rfl,ov1,O0,O1,ov5,cl,cl,cl,bO,aP,aP,bO,(by first|assumption|exact QP V V O V|(rw[<- QO V O];omega))⟩)):=h
def LN(h:p:=by have q2:=wr (v5+1);exact tL ⟨rfl,rfl,O0,cl,tk31⟩ LI):=h
def QZ(h:p:=by exact tL ⟨rfl,rfl,ov0,cl,cl,cl,cl,tk40⟩ tk88):=h
def Q0(h:p:=by
 apply tE<;>intro h6
 .exact eM
 exact eM):=h
def Q1(h:p:=by exact tL ⟨rfl,O0,O1,cl,cl,cl,cl,cl,cl,tk67,cl,cl,cl,cl,O,(by first|exact MK_0 V|exact Q2 V O O O)⟩ Z6u):=h
def Q3(h:p:=by exact tL ⟨rfl,O0,O1,cl,cl,cl,cl,tk67,cl,O,(by first|exact ZeT (Q4 V O)|exact ZeU V O O O)⟩ Z6u):=h
def Ks(h:p:=by have q2:=wr (v6+1);exact tL ⟨rfl,rfl,ov0,O0,ov5,cl,cl,cl,bO,tk35,cl⟩ l9):=h
def Q5(h:p:=by exact tL ⟨cl,cl,Z6,bO,(by first|with_reducible exact Q6 _|with_reducible exact ZeV V V O O V O|with_reducible exact Q7 V V O O O O)⟩ (by unfold Q8 lt6;dsimp only;omega)):=h
def Q9(h:p:=by exact tL ⟨rfl,rfl,ov0,O0,cl,tk16⟩ Ra):=h
def Mi(h:p:=by exact tL ⟨rfl,rfl,ov0,ov1,ov7,cl,cl,cl,V,V,cl,Mk⟩ oe):=h
def Rb(h:p:=by have q1:=wr (v17+1);exact Q5):=h
def Rc(h:p:=by have q1:=wr (v15+1);exact tL ⟨rfl,rfl,ov0,O0,ov5,ov13,cl,cl,cl,bO,tk35,Z6,cs⟩ mI):=h
def JX(h:p:=by exact tR ⟨ov6,oc0,cl,cl,cl,cl,cl,cl,bu,cx,cx,(by first|exact sg_e V V V|exact absurd (ZeW V V (Ap V) V) id)⟩):=h
def Ml(h:p:=by have q1:=wr (v10+1);exact Mi):=h
def sA(h:p:=by have q1:=wr (v16+1);exact tL ⟨rfl,ov1,ov14,cl,V,cl,cl,V,Re,V,tk48⟩ Rf):=h
def Ad(h:p:=by exact tR tk8):=h
def Ma(h:p:=by have q1:=wr (v4+1);exact tL ⟨rfl,ov0,ov3,cl,cl,cl,tk13⟩ Af):=h
def wK(h:p:=by exact tR tk5):=h
def zK(h:p:=by exact tL ⟨rfl,cl,cl,(by first|with_reducible exact Q6 _|with_reducible exact ZeX V V O O V V O O|with_reducible exact Q7 V V O O O O),(by first|with_reducible exact ZeY O V O O|rfl),bO⟩ (by unfold J1 lt6;dsimp only;omega)):=h
def MD(h:p:=by exact tL ⟨rfl,rfl,rfl,ov1,O0,ov7,ov8,cl,cl,cl,cl,cl,cl,cl,jc,V,cl,cl,tk58,An,(by first|exact ZeZ V|exact Ze0 V O O O O)⟩ rL):=h
def Rg(h:p:=by have q1:=wr (v8+1);exact tL ⟨rfl,ov3,ov6,cl,cl,cl,cl,tk89,tk13⟩ Cd):=h
def Ce(h:p:=by have q1:=wr (v20+1);exact tL ⟨rfl,rfl,O1,ov18,cl,cl,cl,cl,cl,cl,cl,bu,V,cl,cl,cl,Z6,V,tk33⟩ Rh):=h
def Lt(h:p:=by have q2:=wr (v9+1);exact tL ⟨rfl,rfl,rfl,O0,SzL.tr,O1,cl,cl,cl,cl,cl,cl,cl,cl,cl,cl,cl,V,tk7⟩ z6):=h
def Mp(h:p:=by exact tL ⟨rfl,ov1,ov5,ov6,cl,cl,cl,V,vn,jH,cl,cl,cl,V,(by first|exact Ze1|exact Ze2 V V V V V V V V V V O O O|exact Ze3 V V V V V V O O|exact Ze4 V V V V V O O|exact Ze5 V V O O O)⟩ vo):=h
def Ri(h:p:=by have q1:=wr (v25+1);exact tL ⟨rfl,rfl,O1,ov8,ov23,cl,cl,cl,cl,cl,cl,cl,bu,V,cl,cl,cl,cl,cl,V,Z6,tk9⟩ Cf):=h
def vq(h:p:=by have q1:=wr (v9+1);exact Mp):=h
def Rj(h:p:=by exact tL ⟨rfl,ov7,cl,cJ,cl,cl,cl,cl,cl,cl,bu,V,cl,tk90,tk67,cl,V,(by first|assumption|exact mp_e V O),jc,(by first|exact Ze6 V|exact Ze7 V O V O O)⟩ mJ):=h
def Rk(h:p:=by exact tL ⟨oc0,ov10,cl,cl,cl,cl,cl,cl,cl,bu,cx,cx,cl,cl,Z6,tk10,Z6,Z6,Z6⟩ Cg):=h
def Rl(h:p:=by exact tL ⟨rfl,ov7,cl,cJ,cl,cl,cl,cl,cl,cl,bu,V,cl,tk90,tk67,cl,V,V,(by first|exact mp_0|exact mp_y V V V O O V V V|exact mp_n V V O O V V),jc⟩ mJ):=h
def rA(h:p:=by have q1:=wr (v7+1);exact tL ⟨rfl,rfl,O0,ov5,O1,cl,cl,cl,cl,cl,cl,cl,cl,cl,cl,cl,tk1,V,aP,n9⟩ zX):=h
def zY(h:p:=by have q1:=wr (v7+1);exact tL ⟨rfl,rfl,O0,SzL.tr,O1,cl,cl,cl,cl,cl,cl,cl,cl,cl,cl,cl,tk1,V,aP,n9⟩ zX):=h
def Rm(h:p:=by have q1:=wr (v44+1);exact Rl):=h
def Rn(h:p:=by exact tL ⟨rfl,O0,O1,cl,cl,cl,cl,cl,cl,cl,cl,tk67,cl,cl,cl,cl,cl,cl,cl,tk0⟩ Z6u):=h
def Ro(h:p:=by have q1:=wr (v57+1);exact Rn):=h
def sB(h:p:=by have q1:=wr (v44+1);exact tL ⟨O1,ov7,ov42,cl,cl,cl,cl,cl,cl,cl,bu,V,cl,cl,cl,cl,tk82,tk3,V,V,Z6,aP,n9⟩ Ch):=h
def Ci(h:p:=by have q1:=wr (v44+1);exact tL ⟨O1,SzL.tr,ov42,cl,cl,cl,cl,cl,cl,cl,bu,V,cl,cl,cl,cl,tk82,tk3,V,V,Z6,aP,n9⟩ Ch):=h
def Rp(h:p:=by have q1:=wr (v82+1);exact tL ⟨rfl,ov7,O1,cl,cl,cl,cJ,cl,cl,cl,cl,cl,cl,bu,V,cl,tk90,tk67,cl,cl,V,cl,cl,dO,cl,cl,cl,cl,cl,cl,bu,V,jc,Cj,V,cJ,tk2⟩ mJ):=h
def tk0(h:p:=by first|assumption|exact Rq V V V V O (wm_y (m':=v9) (i':=v10) V V V V V O O O O O O O O V V) V O|exact Rr V (wm_b (m':=v9) V V V O V O O O V) V O|exact Rr V (wm_a (m':=v9) (i':=v10) V V V O O O O O O V) V O):=h
def tk1(h:p:=by first|exact wN|exact Ck V V V O V (by first|exact hr_c V V V V|exact(hr_m V V V V V O).trans V) rfl|exact Cm V V V O (by first|exact hr_n V V V|exact(hr_m V V V V V O).trans V|exact hr_z V|(exfalso;grind))):=h
def tk2(h:p:=by first|assumption|exact Ze8 V V V V V V V O O (Cn V V V) V V V V V|exact Rs V V V O O (Cn V V V) (.inl V)|exact Rs V V V O O (Cn V V V) (.inr V)):=h
def tk3(h:p:=by first|exact wN|exact Ck V V V O V (by first|exact ht_c V V V V|exact(ht_m V V V V O).trans V) rfl|exact Cm V V V O (by first|exact ht_n V V V|exact(ht_m V V V V O).trans V|exact ht_z V|(exfalso;grind))):=h
def tk4(h:p:=by first|exact gb_0 V|exact gb_y V V O V (iN V).symm V V V O V V|exact gb_m V O V V V O V|exact gb_n V O V V V O (.inr ⟨ V,(iN V).symm,V⟩)):=h
def tk5(h:p:=by first|exact de_y V V V V V V V V|exact de_e V O V V (by first|exact de_1 V|exact de_2 V V|exact de_3 V V V V|exact de_4 V V V V V)):=h
def tk6(h:p:=by first|(simp;done)|exact Co V V V (cu_y V V V V V V) O O|exact Co V V V (cu_n V (.inl V)) O O|exact Co V V V (cu_n V (.inr V)) O O):=h
def tk7(h:p:=by first|exact nr_0|exact nr_n V V V O V V|exact nr_y V V V V O V V (nu_y V V V V V)|exact nr_y V V V V O V V (nu_k V)):=h
def tk8(h:p:=by first|exact Ze9 V|exact nd_c V V V V V V V V V V V V|exact nd_b V V V V V V|exact nd_a V V V V V):=h
def tk9(h:p:=by first|exact nu_0 V rfl|exact wP V V V O (by assumption:_/\_/\_).2.2 (nu_y V V V V V)|exact sC V V V O (nu_s V V)|exact sC V V V O (nu_k V)):=h
def tk10(h:p:=by first|exact Cp|exact ct_y V V V V V V V V O O V V|exact ct_n V V V O O (.inl V)|exact ct_n V V V O O (.inr V)):=h
def tk11(h:p:=by first|exact Zfa V|exact dr_y V V V V O O V V V|exact Rt V V O O V (.inl V)|exact Rt V V O O V (.inr V)):=h
def tk12(h:p:=by first|assumption|exact Rq V V V V O (Zfb V V V V) V O|exact Q2 V O O O|exact Zfc V V V|exact Zfd V):=h
def tk13(h:p:=by first|rfl|exact el_y' V V V O V V V V|exact el_n V V V O (.inl O)|exact el_n' V V V O V V):=h
def tk14(h:p:=by first|exact Zej V|exact Pc V V V O O O rfl|exact Pc V V V O O O (by subst_vars;rfl)|exact Zei V V O O O):=h
def tk15(h:p:=by first|exact ga_0 V|exact ga_y V V V V (iN V).symm V V V O V|exact ga_n V O V V V O V):=h
def tk16(h:p:=by first|exact Yb|exact Eu (v:=v5) V V O O (Yd (v:=v5) V O V) O|exact Eu (v:=v5) V V O O (λy hv _=>absurd hv O) O):=h
def tk17(h:p:=by first|exact Zfe V|exact tr_y V V V V V V O O V V|exact Zff V V O O V V):=h
def tk18(h:p:=by first|rfl|exact Ay V V V V ((by assumption:rdB _ _ _ = !_).trans (by simp[*])) O|exact Az V V V ((by assumption:rdB _ _ _ = !_).trans (by simp[*])) O):=h
def tk19(h:p:=by first|rfl|exact Ay V V V V ((Ru V O V).trans V) O|exact Zfg V V V O O O O):=h
def tk20(h:p:=by first|assumption|exact Pj|exact Zez V V O O V|exact Pk V V O O O|(rw[show IntKind.wrap .i64 (v18+1)=v18+1 by omega];assumption)):=h
def tk21(h:p:=by first|exact mr_0|exact mr_y V V V V V O O V V|exact mr_n V V V O V V):=h
def tk22(h:p:=by first|exact ZbX V V O|exact ZbR (v:=v0) (i:=v5) (j:=v6) V aP V aP O O|exact ZbS (j:=v6) V V aP O):=h
def tk23(h:p:=by first|exact af_h V V V|exact af_n V V V V|exact af_l V O V V V V V):=h
def tk24(h:p:=by first|exact ra_e V V V V V V V V V V O O O|exact ra_n V V):=h
def tk25(h:p:=by first|with_reducible exact pr_0 V V|with_reducible exact pr_0' V V|with_reducible exact Rv V V O O V V):=h
def tk26(h:p:=by first|exact fr_h V V V|exact fr_n V V V V|exact fr_l V O V V V):=h
def tk27(h:p:=by first|rfl|exact cs_y V V V O V V O|exact cs_n V V V O V V):=h
def tk28(h:p:=by first|exact Zen aP|exact Pe V V V O O rfl|exact Pe V V V O O (by subst_vars;rfl)):=h
def tk29(h:p:=by first|with_reducible exact pr_0 V V|with_reducible exact Rv V (by rw[<- (by assumption:v32=a0.Abilities)];assumption) O O V V):=h
def tk30(h:p:=by first|exact sg_0 V V O V V|exact sg_y V V V V V V V):=h
def tk31(h:p:=by first|rfl|exact an_n V V V O (dq_b V V)|exact an_n V V V O (dq_a V)):=h
def tk32(h:p:=by first|exact Rw aP aP|exact ln_r V V V V V V V V V V):=h
def tk33(h:p:=by first|rfl|exact dp_n V V V O (by first|exact dp_c V V|exact dp_b V V|exact dp_a V)):=h
def Z35(h:p:=by first|(rw[Zfh (by first|(simp only[inB];simp;omega)|grind)];done)|exact Zfi aP|(rw[Zfj B1 aP];unfold mdK;(try unfold inB at *);grind)):=h
def tk35(h:p:=by first|exact Zek|exact Zel V V O O O|exact Zem V V V O O O O):=h
def tk36(h:p:=by first|exact Rw V aP|exact ln_p V V V (by first|exact .inl ⟨by omega,rfl⟩|exact .inr ⟨by omega,rfl⟩) aP aP aP):=h
def tk37(h:p:=by first|(intro k y hk;omega)|exact mm V V V V O|exact mm V V V aP O):=h
def tk38(h:p:=by first|exact wN|exact Ck V V V O V aP rfl|exact Cm V V V O aP):=h
def tk39(h:p:=by first|rfl|(exact Ay V V V V aP O)|(exact Az V V V aP O)):=h
def tk40(h:p:=by first|exact ZeH O|exact ZeI V V O O O|exact ZeJ V V O O O|assumption):=h
def tk41(h:p:=by first|exact sr_0 V V O rfl V|exact sr_y V V V V V V):=h
def tk42(h:p:=by rw[<- (by assumption:v5=if E0.Copy<0 then E0.Card else E0.Copy)];first|exact(sD O).symm|(rw[Cq V O];assumption)):=h
def tk43(h:p:=by subst_vars;first|exact ur_1 (m:=a0) aP|exact ur_2 (m:=a0) aP|exact ur_3 (m:=a0) aP|exact ur_4 (m:=a0) aP|exact ur_5 (m:=a0) aP):=h
def tk44(h:p:=by first|exact sl_n V V V V V V|exact sl_0 V V V O):=h
def tk45(h:p:=by first|with_reducible exact Zfk V V|with_reducible exact Zfl V V O O V V):=h
def tk46(h:p:=by first|exact Rx V V V|(subst_vars;exact Rx V V V)|exact Zfm V O):=h
def tk47(h:p:=by first|assumption|exact Zfn V V V V V V V V O O):=h
def tk48(h:p:=by first|rfl|exact nx_y V V V O O|exact nx_n V V V O O):=h
def tk49(h:p:=by first|(intro k c hk;omega)|(intro k c hk hc;rcases Z10 (v:=v4) V O hk hc V with h|h;(exact i0 k c h hc);(rw[h];assumption))):=h
def tk50(h:p:=by first|assumption|exact cp_e V V V V|exact cp_n V V V V):=h
def tk51(h:p:=by first|exact ZbW V V|exact ZbT (v:=v0) (i:=v5) (j:=v6) V V V O O):=h
def tk52(h:p:=by first|(refine⟨λ_=>by omega,λ_=>rfl⟩)|(have w := ‹_∈A3.list _›;simp only[A3.list,cf,sE,or_false]at w;grind)|grind):=h
def tk53(h:p:=by first|assumption|with_reducible exact ls_1 V V V V V V|(exfalso;grind)):=h
def tk54(h:p:=by first|exact cg_c V V V V|exact cg_b V V|exact cg_a V):=h
def tk55(h:p:=by first|assumption|exact rW|exact Ph V V O O|exact Zer V V):=h
def tk56(h:p:=by first|exact Et V V V (by first|assumption|grind)|exact yc V O):=h
def tk57(h:p:=by first|(intro k x hk;omega)|(intro k x hk hx;rcases Z10 (v:=v5) V aP hk hx V with h|h<;>grind)):=h
def tk58(h:p:=by first|assumption|(intro y hy;exact absurd hy sE)|exact ZbZ V V V|grind):=h
def tk59(h:p:=by subst_vars;first|exact us_1 aP|exact us_2 aP|exact us_3 aP|exact us_4 aP|exact us_5 aP):=h
def tk60(h:p:=by first|exact ZeK V O V O V|exact ZeL V O):=h
def tk61(h:p:=by first|(intro k x hk;omega)|exact Zfo V V V V O O):=h
def tk62(h:p:=by first|exact tr_0 rfl|assumption|exact Zfp V V V O O O):=h
def tk63(h:p:=by first|exact dr_0 rfl|assumption|exact Zfq V V V O O O):=h
def tk64(h:p:=by first|rfl|assumption|exact cp_0 V V|exact cp_c V V V):=h
def tk65(h:p:=by first|exact X2|exact X3 V V V (by first|assumption|grind) O):=h
def tk66(h:p:=by first|exact Pi|assumption|exact sub_app' (d:=v16) V V V V):=h
def tk67(h:p:=by first|assumption|exact Zew V O|exact Zeu V V V):=h
def tk68(h:p:=by first|(simp;done)|exact BN V V V V O O):=h
def tk69(h:p:=by first|rfl|exact an_n V V V O (bq_n V V)):=h
def tk70(h:p:=by first|exact ov_z O|with_reducible exact ov_e V V O O O):=h
def tk71(h:p:=by first|with_reducible exact Zfr V V V V|(subst_vars;rfl)):=h
def tk72(h:p:=by first|(intro k y hk;omega)|exact mm V V V aP O):=h
def tk73(h:p:=by first|(intro k x hk;omega)|exact mm V V V aP O):=h
def tk74(h:p:=by first|assumption|exact Zfs V V O|exact NU V O):=h
def bu(h:p:=by first|assumption|exact Pf|exact Pg (by assumption:(_:Int)=_/\∀y:List Int,y∈_->y=[]).2):=h
def tk76(h:p:=by first|assumption|exact Pj|exact Pk V V O O O):=h
def tk77(h:p:=by first|(intro k x hk;omega)|exact mm V V O aP O):=h
def tk78(h:p:=by first|(simp;done)|exact BN V V V rfl O O):=h
def tk79(h:p:=by first|rfl|exact bl_n V V O O V V):=h
def tk80(h:p:=by first|exact Ry|exact Rz V V O V O):=h
def tk81(h:p:=by first|exact or_z O|with_reducible exact od_e V O O O):=h
def tk82(h:p:=by first|assumption|exact rW|exact Ph V V O O):=h
def tk83(h:p:=by first|(simp;done)|exact Zft V V V O O):=h
def bc(h:p:=by unfold SzN;first|omega|(simp only[bk,bw,bT];omega)):=h
def tk85(h:p:=by unfold SzT;first|omega|(simp only[bk,bw,bT];omega)):=h
def tk86(h:p:=by first|exact Ry|exact Rz V V O aP O):=h
def tk87(h:p:=by first|exact Zfu V|exact Zfv V V V):=h
def tk88(h:p:=by unfold RE lt6;dsimp only;omega):=h
def tk89(h:p:=by first|exact Pi|assumption|exact Zes V V V):=h
def tk90(h:p:=by first|assumption|exact ZeD|exact ZeE V V V):=h
def tk91(h:p:=by intro m hm;simp only[cf,sE,or_false]at hm;subst hm;exact Zfw _):=h
def tk92(h:p:=by first|assumption|(rw[aq V];assumption)|(rw[aw V])):=h
def tk93(h:p:=by first|assumption|exact Zfx V V|exact nd_z V):=h
def tk94(h:p:=by first|exact ba_c V rfl O|exact ba_o V rfl O):=h
def tk95(h:p:=by first|assumption|exact nd_f V V|exact nd_z V):=h
def tk96(h:p:=by unfold RF lt6;dsimp only;omega):=h
def ca(h:p:=by first|(simp only[bk,bw,bT];omega)|omega):=h
def tk98(h:p:=by first|exact od_0|with_reducible exact od_n V V O):=h
def tk99(h:p:=by first|(intro hr;exact absurd hr bE)|(intro hr;exact⟨by omega,by grind⟩)):=h
def RG(h:p:=by unfold RH lt6;dsimp only;omega):=h
def Cr(h:p:=by first|assumption|exact rW|exact(Pl V V).2):=h
def RJ(h:p:=by unfold RK lt6;dsimp only;omega):=h
def MB(h:p:=by first|exact Zfy|exact Zfz V V V):=h
def MY(h:p:=by first|assumption|exact wr_n V V O O):=h
def M4(h:p:=by first|assumption|exact rr_n V V O O):=h
def sx(h:p:=by first|(intro hr;exact absurd hr bE)|(intro _;assumption)|assumption):=h
def RM(h:p:=by unfold RN lt6;dsimp only;omega):=h
def Re(h:p:=by first|assumption|exact Zet V V|(left;omega)):=h
def mH(h:p:=by first|rfl|assumption|(simpa using(by assumption:_=[]++a0))|grind):=h
def Ct(h:p:=by first|omega|exact(Pl V V).1|(simp;done)):=h
def wQ(h:p:=by first|omega|(have:=(by assumption:ML _ _ _) _ V;omega)):=h
def JU(h:p:=by first|assumption|exact wx V O V):=h
def RO(h:p:=by unfold RP lt6;dsimp only;omega):=h
def MR(h:p:=by first|assumption|exact bs_l V V O):=h
def RQ(h:p:=by first|(intro hr;exact absurd hr wv)|(intro _;omega)):=h
def n9(h:p:=by first|assumption|exact(gQ V).trans V):=h
def Kr(h:p:=by first|omega|(rw[(by assumption:E0.Objects=_)];omega)):=h
def QU(h:p:=by first|(intro hr;exact absurd hr bE)|(intro hr;grind)):=h
def BW(h:p:=by first|(intro hr;exact absurd hr bE)|(intro _;omega)):=h
def Cj(h:p:=by first|assumption|(rw[<- (by assumption:_=b0)];assumption)):=h
def An(h:p:=by first|assumption|exact wx V O rfl):=h
def cJ(h:p:=by first|assumption|exact ZfA V V):=h
def mJ(h:p:=by unfold RR lt6;dsimp only;omega):=h
def wU(h:p:=by first|assumption|exact fa_m V V):=h
def Z6t(h:p:=by first|assumption|exact ap_s V V):=h
def MQ(h:p:=by first|assumption|exact rp_L V V):=h
def Ch(h:p:=by unfold RS lt6;dsimp only;omega):=h
def Cu(h:p:=by first|omega|exact shl_ne' O O|decide):=h
def Cv(h:p:=by first|assumption|exact ZeB V O):=h
def Rh(h:p:=by unfold RT lt6;dsimp only;omega):=h
def Cf(h:p:=by unfold RU lt6;dsimp only;omega):=h
def JW(h:p:=by first|assumption|exact ZeC V O):=h
def J6(h:p:=by have e:(A5.list E0.Color).length=5:=rfl;omega):=h
def KJ(h:p:=by exact ZfB V V V):=h
def Cg(h:p:=by unfold RW lt6;dsimp only;omega):=h
def oN(h:p:=by unfold RX lt6;dsimp only;omega):=h
def n3(h:p:=by unfold JP lt6;dsimp only;omega):=h
def RY(h:p:=by unfold RZ lt6;dsimp only;omega):=h
def R1(h:p:=by unfold R2 lt6;dsimp only;omega):=h
def Kh(h:p:=by exact ZfC V (by first|omega|grind)):=h
def R3(h:p:=by first|omega|(rw[(by assumption:v13=_)];omega)):=h
def Cw(h:p:=by have e:(A6.list E0).length=6:=rfl;omega):=h
def vr(h:p:=by first|rfl|assumption|exact cr_L V):=h
def jc(h:p:=by first|assumption|exact Ap V):=h
def jH(h:p:=by first|assumption|exact R4 V):=h
def Cd(h:p:=by unfold R5 lt6;dsimp only;omega):=h
def vn(h:p:=by first|assumption|exact ZfD V):=h
def u7(h:p:=by have e:(A3.list a0).length=3:=rfl;omega):=h
def mI(h:p:=by unfold Z63 lt6;dsimp only;omega):=h
def Z6u(h:p:=by unfold Z68 lt6;dsimp only;omega):=h
def Cx(h:p:=by unfold Z69 lt6;dsimp only;omega):=h
def Ab(h:p:=by unfold Z7a lt6;dsimp only;omega):=h
def Af(h:p:=by unfold Z7c lt6;dsimp only;omega):=h
def BX(h:p:=by unfold R6 lt6;dsimp only;omega):=h
def vd(h:p:=by unfold KK lt6;dsimp only;omega):=h
def zX(h:p:=by unfold Lk lt6;dsimp only;omega):=h
def z6(h:p:=by unfold Lq lt6;dsimp only;omega):=h
def vm(h:p:=by unfold LO lt6;dsimp only;omega):=h
def oe(h:p:=by unfold Md lt6;dsimp only;omega):=h
def Ao(h:p:=by unfold MG lt6;dsimp only;omega):=h
def wV(h:p:=by unfold R7 lt6;dsimp only;omega):=h
def l9(h:p:=by unfold Ko lt6;dsimp only;omega):=h
def oq(h:p:=by unfold MM lt6;dsimp only;omega):=h
def vo(h:p:=by unfold Mm lt6;dsimp only;omega):=h
def sw(h:p:=by unfold k9 lt6;dsimp only;omega):=h
def rL(h:p:=by unfold My lt6;dsimp only;omega):=h
def cx(h:p:=by first|rfl|assumption|grind):=h
def Cy(h:p:=by first|rfl|(subst_vars;rfl)):=h
def gJ(h:p:=by subst_vars;unfold apV;grind):=h
def Cz(h:p:=by intro _ _;unfold wtP;grind):=h
def bO(h:p:=by first|assumption|grind):=h
def Z6(h:p:=by first|rfl|assumption):=h
def dO(h:p:=by first|omega|grind):=h
def dR(h:p:=by first|assumption):=h
abbrev fE(x:aI):Prop:=(SzL 16 SzT) x.Subs
def ZfE{x:aI}(h:Z8g x):fE x:=(eK h.2.2 (λ_ h=>ZfF h))
abbrev da(x:al):Prop:=SzS x.Sub
def la{x:al}(h:jE x):da x:=(wW h.2.2.2.2.2.2.2.1)
abbrev bC(x:af):Prop:=SzS x.Sub/\da x.Filter
def Z0u{x:af}(h:qU x):bC x:=⟨wW h.2.2.2.1,la h.2.2.2.2⟩
abbrev wX(x:fN):Prop:=da x.Filter
def ZfG{x:fN}(h:zA x):wX x:=(la h.2.2)
abbrev lf(x:ck):Prop:=da x.Filter
def ZfH{x:ck}(h:Z8h x):lf x:=(la h.2.2)
abbrev sF(x:gf):Prop:=da x.Filter
def ZfI{x:gf}(h:zB x):sF x:=(la h.2.2)
abbrev Z0v(x:ec):Prop:=da x.Filter
def ZfJ{x:ec}(h:Z0l x):Z0v x:=(la h.2.2.2)
abbrev cP(x:aZ):Prop:=sF x.Ref/\Z0v x.Amount/\SzS x.Card/\da x.Filter/\(SzL 176 bC) x.Mods
def ZfK{x:aZ}(h:Z0m x):cP x:=⟨ZfI h.2.1,ZfJ h.2.2.1,wW h.2.2.2.2.2.1,la h.2.2.2.2.2.2.1,eK h.2.2.2.2.2.2.2.2 (λ_ h=>(Z0u h))⟩
abbrev km(x:dx):Prop:=da x.Filter
def ZfL{x:dx}(h:zC x):km x:=(la h.2.2.1)
abbrev cz(x:ar):Prop:=da x.Filter/\(SzL 176 bC) x.Mods/\wX x.Trigger/\(SzL 144 lf) x.Specs/\(SzL 560 cP) x.Effects/\km x.Replace
def CA{x:ar}(h:qV x):cz x:=⟨la h.2.1,eK h.2.2.1 (λ_ h=>(Z0u h)),ZfG h.2.2.2.2.2.1,eK h.2.2.2.2.2.2.2.1 (λ_ h=>(ZfH h)),eK h.2.2.2.2.2.2.2.2.1 (λ_ h=>(ZfK h)),ZfL h.2.2.2.2.2.2.2.2.2⟩
abbrev bR(x:an):Prop:=SzS x.Name/\fE x.Line/\(SzL 640 cz) x.Abilities
def ZdP{x:an}(h:JG x):bR x:=⟨wW h.1,ZfE h.2.2.2.2.1,eK h.2.2.2.2.2.2.2.2 (λ_ h=>(CA h))⟩
abbrev oO(x:hP):Prop:=(SzL 8 (λ_=>True)) x.Library/\(SzL 8 (λ_=>True)) x.Hand/\(SzL 8 (λ_=>True)) x.Graveyard
def ZfM{x:hP}(h:Z0n x):oO x:=⟨eK h.2.2.2.2.2.2.1 (λ_ _=>trivial),eK h.2.2.2.2.2.2.2.1 (λ_ _=>trivial),eK h.2.2.2.2.2.2.2.2 (λ_ _=>trivial)⟩
abbrev wY(x:gE):Prop:=cz x.Ability/\(SzL 16 (λ_=>True)) x.Targets
def ZfN{x:gE}(h:Z8i x):wY x:=⟨CA h.2.2.2.2.2.2.1,eK h.2.2.2.2.2.2.2.1 (λ_ _=>trivial)⟩
abbrev CB(x:iC):Prop:=cz x.Ability
def ZfO{x:iC}(h:zD x):CB x:=(CA h.2.2.1)
abbrev n6(x:dn):Prop:=(SzL 8 (λ_=>True)) x.Objects/\(SzL 176 bC) x.Mods
def ZfP{x:dn}(h:Z8j x):n6 x:=⟨eK h.2.2.2.2.1 (λ_ _=>trivial),eK h.2.2.2.2.2 (λ_ h=>(Z0u h))⟩
abbrev Z8(x:ao):Prop:=(SzL 152 oO) x.Players/\(SzL 128 (λ_=>True)) x.Objects/\(SzL 8 (λ_=>True)) x.Battlefield/\(SzL 8 (λ_=>True)) x.Exile/\(SzL 824 wY) x.Stack/\(SzL 768 CB) x.Waiting/\(SzL 80 n6) x.Conts/\(SzL 8 (λ_=>True)) x.Extra
def ZdQ{x:ao}(h:JJ x):Z8 x:=⟨eK h.1 (λ_ h=>(ZfM h)),eK h.2.1 (λ_ _=>trivial),eK h.2.2.1 (λ_ _=>trivial),eK h.2.2.2.1 (λ_ _=>trivial),eK h.2.2.2.2.1 (λ_ h=>(ZfN h)),eK h.2.2.2.2.2.1 (λ_ h=>(ZfO h)),eK h.2.2.2.2.2.2.1 (λ_ h=>(ZfP h)),eK h.2.2.2.2.2.2.2.2.2.2.2.2.2.2.2.2.1 (λ_ _=>trivial)⟩
abbrev gk(x:Z2):Prop:=(SzL 8 (λ_=>True)) x.Objects/\da x.Filter/\(SzL 176 bC) x.Mods
abbrev fD(x:ba):Prop:=(SzL 8 (λ_=>True)) x.Objects/\da x.Filter/\(SzL 176 bC) x.Mods
abbrev Z0(x:ae):Prop:=SzS x.Name/\fE x.Line/\(SzL 640 cz) x.Abilities
abbrev cj(x:ak):Prop:=Z8 x.s/\(SzL 224 gk) x.forces/\(SzL 176 Z0) x.traits/\(SzL 1 (λ_=>True)) x.dropped/\(SzL 1 (λ_=>True)) x.done/\(SzL 24 (SzL 8 (λ_=>True))) x.hits
abbrev cW(x:au):Prop:=Z8 x.S/\(SzL 176 Z0) x.All/\(SzL 224 fD) x.L/\(SzL 1 (λ_=>True)) x.Begun/\(SzL 24 (SzL 8 (λ_=>True))) x.Sets/\(SzL 1 (λ_=>True)) x.Blank
abbrev Z0w(x:bM):Prop:=(SzL 8 (λ_=>True)) x.hits/\(SzL 8 (λ_=>True)) x.numbers
def R8{a0:Int}:Tot (uo a0) (λr=>True):=by apply tZ;dsimp only[yq,LT.den];exact BU
def CC:jS->Prop
 |.L0 v0 v3=>(SzT v0)/\(0<=v3)
 |.L1 v0 v3=>(SzT v0)/\(0<=v3)/\(v3<(v0.length:Int))/\(0<=v3)/\(v3<v0.length)
def wZ:jS->M6
 |.L0 v0 v3=>(1,((v0.length:Int)-v3).toNat,1000000,0,0,0)
 |.L1 v0 v3=>(1,((v0.length:Int)-v3).toNat,0,0,0,0)
def Pn{v0:List UInt8}{v3:Int}(h:CC (.L1 v0 v3)):Tot (jT v0 v3).den (Nx CC wZ (1,((v0.length:Int)-v3).toNat,0,0,0,0) (λr=>True)):=by
 obtain⟨ov0,cv3,bd2,i0,i1⟩:=h;have lb_v0:v0.length<=562949953421312:=ov0;dsimp only[jT,LT.den];apply tD<;>intro h1
 .refine Tot.ix λx1 h2=>?_;apply tE<;>intro h3
  .have q1:=wr (v3-1);refine Tot.ix λx2 h4=>?_;apply tE<;>intro h5
   .exact tR ab
   have q2:=wr (v3+1);exact Pw
  exact P0
 exact P0
def R9{a0:List UInt8}(oa0:SzT a0):Tot (uq a0) (λr=>True):=by
 apply Tot.rn CC wZ
 .have lb_a0:a0.length<=562949953421312:=oa0;dsimp only[yr,LT.den];apply tD<;>intro h1
  .exact tR ab
  apply tD<;>intro h2
  .exact tR ab
  refine Tot.ix λx1 h3=>tB (R8) λx2 h4=>?_;apply tO<;>intro h5
  .exact tR ab
  have q1:=wr ((a0.length:Int)-1);refine Tot.ix λx3 h6=>?_;apply tE<;>intro h7
  .exact tR ab
  exact tL ⟨oa0,cl⟩ Px
 intro s hs;cases s with
 |L0 v0 v3=>
  obtain⟨ov0,cv3⟩:=hs;dsimp only[nr,nq,LT.den,wZ];apply tD<;>intro h1
  .refine Tot.ix λx1 h2=>tB (R8) λx2 h3=>?_;apply tO<;>intro h4
   .refine Tot.ix λx3 h5=>?_;apply tD<;>intro h6
    .refine Tot.ix λx4 h7=>?_;apply tN<;>intro h8
     .exact tR ab
     exact wy
    refine Tot.ix λx4 h7=>?_;apply tD<;>intro h8
    .refine Tot.ix λx5 h9=>?_;apply tN<;>intro h10
     .exact tR ab
     exact wy
    exact wy
   exact wy
  exact tR ab
 |L1 _ _=>exact Pn hs
def Z0x(n m:Int):Bool:=decide (n>=0)&&decide (n<=m)
def sG(c:aK):Bool:=Z0x c.Generic 99&&(Z0x c.X 2&&c.Color.list.all λn=>Z0x n 9)
def ZfQ(c:aK):Z9c c=some (sG c):=by
 unfold Z9c LF.run;dsimp only[yu,LT.den];have hl:bX jx.step (.L0 c 0)=some (c.Color.list.all λn=>Z0x n 9):=by
  have:=Z2q (st:=λi=>jU.L0 c (i:Int)) (step:=jx.step) (bad:=false) c.Color.list (λn=>Z0x n 9) (λi x hx=>by
   have hi:=(aJ.1 hx).1;have hi:i<5:=hi;show(nu _ _).den=_;dsimp only[nu,LT.den];rw[bd O,gu hx,fe O O];simp only[aB,bb];unfold Z0x;by_cases h1:x<0
   .rw [bd h1,bl (show ¬x>=0 by omega)];rfl
   rw[bl h1,bd (show x>=0 by omega)];by_cases h2:x>9
   .rw [bd h2,bl (show ¬x<=9 by omega)];rfl
   rw[bl h2,bd (show x<=9 by omega)];rfl)
  rw[show(jU.L0 c 0) = .L0 c ((0:Nat):Int)from rfl,this];have he:bX jx.step (.L0 c ((c.Color.list.length:Nat):Int))=some true:=OS
  rw[he];cases c.Color.list.all λn=>Z0x n 9<;>rfl
 refine(cC λ_=>cC λ_=>cC λ_=>cC λ_=>(show Option.bind (some (Sum.inl (jU.L0 c 0))) (de jx.step)=some (c.Color.list.all λn=>Z0x n 9)from hl)).trans ?_;congr 1;unfold sG Z0x;rw[j8];simp only[aN,dy,oy,gP,my,sf,oG];constructor
 .rintro ⟨h1,h2,h3,h4,h5⟩;exact⟨⟨h1,h2⟩,⟨h3,h4⟩,h5⟩
 rintro⟨⟨h1,h2⟩,⟨h3,h4⟩,h5⟩;exact⟨h1,h2,h3,h4,h5⟩
def Z19(a0:aK):Tot (Z9c a0) (λr=>(r=true->a0.X<=2)/\(r=true->∀n,n∈A5.list a0.Color->n<=9)/\(r=Z0p a0)):=by
 refine⟨_,ZfQ a0,λh=>?_,λh n hn=>?_,?_⟩
 .simp only[sG,Z0x,aN,gP]at h;exact h.2.1.2
 .simp only[sG,Z0x,aN,gP,bK]at h;exact(h.2.2 n hn).2
 unfold sG Z0x Z0p;rw[j8];simp only[aN,gP,bK,my];exact⟨λ⟨⟨h1,h2⟩,⟨h3,h4⟩,h5⟩=>⟨h1,h2,h3,h4,h5⟩,λ⟨h1,h2,h3,h4,h5⟩=>⟨⟨h1,h2⟩,⟨h3,h4⟩,h5⟩⟩
def ZfR:Tot (ur) (λr=>((SzL 16 SzN) r)/\(r.length=6)):=by apply tZ;dsimp only[Z5c,LT.den];have q1:(SzL 16 SzN) ([([99,114,101,97,116,117,114,101]:List UInt8),([105,110,115,116,97,110,116]:List UInt8),([114,105,116,117,97,108]:List UInt8),([114,101,108,105,99]:List UInt8),([99,104,97,114,109]:List UInt8),([108,97,110,100]:List UInt8)]:List (List UInt8)):=⟨by simp only[bw,bT];omega,mem_cons' bc (mem_cons' bc (mem_cons' bc (mem_cons' bc (mem_cons' bc (mem_cons' bc (λ_ h=>by cases h))))))⟩;have lq1:([([99,114,101,97,116,117,114,101]:List UInt8),([105,110,115,116,97,110,116]:List UInt8),([114,105,116,117,97,108]:List UInt8),([114,101,108,105,99]:List UInt8),([99,104,97,114,109]:List UInt8),([108,97,110,100]:List UInt8)]:List (List UInt8)).length=6:=rfl;exact tR ⟨q1,cl⟩
def vl(a0:List UInt8)(oa0:SzT a0):Tot (Z5e a0) (λr=>r=fU a0):=⟨_,Sa a0,rfl⟩
def ZfS:pE->Prop
 |.L0 v0 v1 v5=>(0<=v5)/\(v1<=100)
def PB:pE->M6
 |.L0 v0 v1 v5=>(1,(v1-v5).toNat,1000000,0,0,0)
def Z8p{a0:Int}{a1:Int}(h0:a1<=100):Tot (EW a0 a1) (λr=>True):=by
 apply Tot.rn ZfS PB
 .dsimp only[EV,LT.den];exact PA
 rintro⟨v0,v1,v5⟩ ⟨cv5,i0⟩;dsimp only[yx,EU,LT.den];apply tD<;>intro h1
 .have q1:=wr (v5+1);exact PA
 exact tR ab
def ZfT(a0:aI):Z2v->Prop
 |.L0 E0 v3=>(E0=a0)/\(fE E0)/\(0<=v3)/\(1<=E0.Types/\E0.Types<=63)
def Sb:Z2v->M6
 |.L0 E0 v3=>(1,((E0.Subs.length:Int)-v3).toNat,1000000,0,0,0)
def ZfU{a0:aI}(oa0:fE a0):Tot (EZ a0) (λr=>(r=true->1<=a0.Types/\a0.Types<=63)):=by
 apply Tot.rn (ZfT a0) Sb
 .dsimp only[EY,LT.den];apply tD<;>intro h1
  .exact dQ
  apply tD<;>intro h2
  .exact dQ
  apply tD<;>intro h3
  .exact dQ
  apply tD<;>intro h4
  .exact dQ
  apply tD<;>intro h5
  .exact dQ
  exact tL ⟨rfl,oa0,cl,(by first|assumption|omega)⟩ Qn
 rintro⟨E0,v3⟩ ⟨al0,O0,cv3,i0⟩;subst al0;dsimp only[yz,EX,LT.den];have q1:=O0.1;apply tD<;>intro h1
 .refine Tot.ix λx1 h2=>?_;have oh2:SzT x1:=O0.2 x1 h2.1;refine tB (vl x1 oh2) λx2 h3=>?_;apply tO<;>intro h4
  .exact dQ
  apply tD<;>intro h5
  .have q2:=wr (v3-1);refine Tot.ix λx3 h6=>?_;apply tO<;>intro h7
   .exact dQ
   have q3:=wr (v3+1);exact Qm
  have q2:=wr (v3+1);exact Qm
 apply tE<;>intro h2
 .exact dQ
 apply tE<;>intro h3
 .exact dQ
 refine tB (Z8p cl) λx1 h4=>?_;apply tO<;>intro h5
 .exact tB (Z8p cl) λx2 h6=>tR BW
 exact dQ
def Sc{a0:Int}:Tot (E6 a0) (λr=>True):=by apply tZ;dsimp only[E4,LT.den];exact BU
def ZfV{a0:an}(oa0:bR a0):Tot (E8 a0) (λr=>True):=by apply tZ;dsimp only[Z9d,LT.den];exact tR ab
def ZfW:pF->Prop
 |.L0 v0 v1 v7=>(0<=v7)/\True
def PN:pF->M6
 |.L0 v0 v1 v7=>(1,(6-v7).toNat,1000000,0,0,0)
def Se{a0:Int}{a1:Int}{a2:Int}:Tot (Z5f a0 a1 a2) (λr=>True):=by
 apply Tot.rn ZfW PN
 .dsimp only[Z7p,LT.den];apply tD<;>intro h1
  .exact tR ab
  apply tD<;>intro h2
  .exact tR ab
  apply tD<;>intro h3
  .exact tR ab
  apply tD<;>intro h4
  .exact tR ab
  exact PM
 rintro⟨v0,v1,v7⟩ ⟨cv7,_⟩;dsimp only[nw,nv,LT.den];apply tD<;>intro h1
 .apply tE<;>intro h2
  .apply tE<;>intro h3
   .exact tR ab
   exact Qb
  exact Qb
 exact tR ab
def Z0y{a0:ah}:Tot (Z5g a0) (λr=>(r=true->0<=a0.Kind/\a0.Kind<=3)):=by
 apply tZ;dsimp only[Z7q,LT.den];apply tD<;>intro h1
 .exact bP
 apply tD<;>intro h2
 .exact bP
 apply tD<;>intro h3
 .exact bP
 apply tD<;>intro h4
 .exact bP
 apply tN<;>intro h5
 .exact wD
 exact wD
abbrev Sf(a0:al)(r:Bool):Prop:=(r=true->0<=a0.Zone/\a0.Zone<=5/\0<=a0.Who/\a0.Who<=2/\0<=a0.Self/\a0.Self<=2/\0<=a0.Tap/\a0.Tap<=2/\0<=a0.Power.Kind/\a0.Power.Kind<=3/\0<=a0.Tough.Kind/\a0.Tough.Kind<=3/\0<=a0.Value.Kind/\a0.Value.Kind<=3)
def CD(a0:al):Z2x->Prop
 |.L0 E0=>(E0=a0)/\(da E0)/\(0<=E0.Zone/\E0.Zone<=5/\0<=E0.Who/\E0.Who<=2/\0<=E0.Self/\E0.Self<=2/\0<=E0.Tap/\E0.Tap<=2)
def Sh:Z2x->M6
 |.L0 E0=>(0,0,0,0,0,0)
def Z0z{a0:al}{E0:al}(h:(CD a0) (.L0 E0)):Tot (lH E0).den (Nx (CD a0) Sh (0,0,0,0,0,0) (Sf a0)):=by
 obtain⟨al0,O0,i0⟩:=h;subst al0;dsimp only[lH,LT.den];refine tB (Z0y) λx1 h1=>?_;have eh1_0:=h1;apply tF<;>intro h2
 .have h2_0:=eh1_0 h2;refine tB (Z0y) λx2 h3=>?_;have eh3_0:=h3;apply tF<;>intro h4
  .have h4_0:=eh3_0 h4;refine tB (Z0y) λx3 h5=>?_;have eh5_0:=h5;exact tR (by intro hr;have:=eh5_0 hr;first|omega|(cases hr;done))
  exact bP
 exact bP
def ZfX{a0:al}(oa0:da a0):Tot (pG a0) (Sf a0):=by
 apply Tot.rn (CD a0) Sh
 .dsimp only[yA,LT.den];apply tD<;>intro h1
  .exact bP
  apply tD<;>intro h2
  .exact bP
  apply tD<;>intro h3
  .exact bP
  apply tD<;>intro h4
  .exact bP
  apply tD<;>intro h5
  .exact bP
  apply tD<;>intro h6
  .exact bP
  apply tD<;>intro h7
  .exact bP
  apply tD<;>intro h8
  .exact bP
  refine tB (Se) λx1 h9=>?_;apply tO<;>intro h10
  .exact bP
  refine tB (Se) λx2 h11=>?_;apply tO<;>intro h12
  .exact bP
  apply tO<;>intro h13
  .refine tB (vl a0.Sub (SzS.t oa0)) λx3 h14=>?_;apply tO<;>intro h15
   .exact bP
   apply tD<;>intro h16
   .exact bP
   apply tD<;>intro h17
   .exact bP
   exact tJ (Z0z ⟨rfl,oa0,cl⟩)
  apply tD<;>intro h14
  .exact bP
  apply tD<;>intro h15
  .exact bP
  exact tJ (Z0z ⟨rfl,oa0,cl⟩)
 intro s hs;cases s with
 |L0 _=>exact Z0z hs
def kj{a0:al}(oa0:da a0):Tot (pG a0) (λr=>(r=true->0<=a0.Zone/\a0.Zone<=5/\0<=a0.Who/\a0.Who<=2/\0<=a0.Self/\a0.Self<=2/\0<=a0.Tap/\a0.Tap<=2/\0<=a0.Power.Kind/\a0.Power.Kind<=3/\0<=a0.Tough.Kind/\a0.Tough.Kind<=3/\0<=a0.Value.Kind/\a0.Value.Kind<=3)/\(r=Z0o a0)):=(Tot.we (ZfX oa0)).mono λr h=>⟨h.1,cF (h.2.symm.trans (O6 a0))⟩
abbrev Z00(a0:af)(r:af):Prop:=(bC r)/\(aF (ay r) (ay oP)=dB a0)
def sH(a0:af):nx->Prop
 |.L0 E0 E1 v7 v8=>(bC E0)/\(bC E1)/\(v7=a0.Kind)/\(E0={ a0 with Kind:=0 })/\(v8=true↔v7=2\/v7=3\/v7=6\/v7=7\/v7=8\/v7=9)
 |.L1 E0 E1 v7 v16=>(bC E0)/\(bC E1)/\(v7=a0.Kind)/\(E0={ a0 with Kind:=0 })/\(¬(v7=2\/v7=3\/v7=6\/v7=7\/v7=8\/v7=9))/\(v16=true↔v7=4\/v7=5)
def Z8q:nx->M6
 |.L0 E0 E1 v7 v8=>(0,0,0,0,0,0)
 |.L1 E0 E1 v7 v16=>(0,0,0,0,0,0)
def Z6v{a0:af}{E0:af}{E1:af}{v7:Int}{v16:Bool}(h:(sH a0) (.L1 E0 E1 v7 v16)):Tot (pH E0 E1 v7 v16).den (Nx (sH a0) Z8q (0,0,0,0,0,0) (Z00 a0)):=by
 obtain⟨O0,O1,i0,i1,i2,i3⟩:=h;dsimp only[pH,LT.den];apply tF<;>intro h1
 .exact tR ⟨⟨SzS.nil,O0.2⟩,tk43⟩
 apply tE<;>intro h2
 .exact tR ⟨⟨O0.1,SzS.nil⟩,tk43⟩
 apply tE<;>intro h3
 .exact B8
 apply tE<;>intro h4
 .exact B8
 exact tR ⟨O0,tk43⟩
def Z6w{a0:af}{E0:af}{E1:af}{v7:Int}{v8:Bool}(h:(sH a0) (.L0 E0 E1 v7 v8)):Tot (jV E0 E1 v7 v8).den (Nx (sH a0) Z8q (0,0,0,0,0,0) (Z00 a0)):=by
 obtain⟨O0,O1,i0,i1,i2⟩:=h;dsimp only[jV,LT.den];apply tF<;>intro h1
 .exact B8
 apply tE<;>intro h2
 .exact Ql
 exact Ql
def ZfY{a0:af}(oa0:bC a0):Tot (Fe a0) (Z00 a0):=by
 apply Tot.rn (sH a0) Z8q
 .dsimp only[Fb,LT.den];apply tE<;>intro h1
  .exact oL
  apply tE<;>intro h2
  .exact oL
  apply tE<;>intro h3
  .exact oL
  apply tE<;>intro h4
  .exact oL
  apply tE<;>intro h5
  .exact oL
  exact oL
 intro s hs;cases s with
 |L0 _ _ _ _=>exact Z6w hs
 |L1 _ _ _ _=>exact Z6v hs
def ZfZ{a0:Int}:Tot (Fh a0) (λr=>(r=(inB a0 1 63&&decide (aQ .and .i64 a0 6=0)))):=by
 apply tZ;dsimp only[Ff,LT.den];apply tD<;>intro h1
 .apply tD<;>intro h2
  .exact ss
  exact ss
 exact ss
def mK(a0:af):lI->Prop
 |.L0 E0 v18 v19=>(E0=a0)/\(bC E0)/\(v18=E0.Kind)/\(inB E0.Kind 1 14=true)/\(dB E0=true)/\(v19=true↔E0.Kind=2\/E0.Kind=3)
 |.L1 E0 v18 v25=>(E0=a0)/\(bC E0)/\(v18=E0.Kind)/\(inB E0.Kind 1 14=true)/\(dB E0=true)/\(v25=true↔E0.Kind=4\/E0.Kind=5)/\(¬(E0.Kind=2\/E0.Kind=3))
 |.L2 E0 v18 v51=>(E0=a0)/\(bC E0)/\(v18=E0.Kind)/\(inB E0.Kind 1 14=true)/\(dB E0=true)/\(v51=true↔E0.Kind=8\/E0.Kind=9)/\(¬(2<=E0.Kind/\E0.Kind<=7))
def Z6x:lI->M6
 |.L0 E0 v18 v19=>(0,0,0,0,0,0)
 |.L1 E0 v18 v25=>(0,0,0,0,0,0)
 |.L2 E0 v18 v51=>(0,0,0,0,0,0)
def Qu{a0:af}{E0:af}{v18:Int}{v51:Bool}(h:(mK a0) (.L2 E0 v18 v51)):Tot (pI E0 v18 v51).den (Nx (mK a0) Z6x (0,0,0,0,0,0) (λr=>(r=mdV a0))):=by
 obtain⟨al0,O0,i0,i1,i2,i3,i4⟩:=h;subst al0;dsimp only[pI,LT.den];apply tF<;>intro h1
 .apply tD<;>intro h2
  .exact dJ
  exact dJ
 apply tE<;>intro h2
 .exact tB (kj O0.2) λx1 h3=>tR Z35
 apply tE<;>intro h3
 .apply tD<;>intro h4
  .apply tD<;>intro h5
   .apply tD<;>intro h6
    .exact dJ
    exact dJ
   exact dJ
  exact dJ
 apply tE<;>intro h4
 .apply tD<;>intro h5
  .apply tD<;>intro h6
   .apply tD<;>intro h7
    .exact dJ
    exact dJ
   exact dJ
  exact dJ
 exact dJ
def Qq{a0:af}{E0:af}{v18:Int}{v25:Bool}(h:(mK a0) (.L1 E0 v18 v25)):Tot (pJ E0 v18 v25).den (Nx (mK a0) Z6x (0,0,0,0,0,0) (λr=>(r=mdV a0))):=by
 obtain⟨al0,O0,i0,i1,i2,i3,i4⟩:=h;subst al0;dsimp only[pJ,LT.den];apply tF<;>intro h1
 .exact tB (vl E0.Sub (SzS.t O0.1)) λx1 h2=>tR Z35
 apply tE<;>intro h2
 .apply tD<;>intro h3
  .exact dJ
  exact dJ
 apply tE<;>intro h3
 .apply tD<;>intro h4
  .exact dJ
  exact dJ
 apply tE<;>intro h4
 .exact Qt
 exact Qt
def Qy{a0:af}{E0:af}{v18:Int}{v19:Bool}(h:(mK a0) (.L0 E0 v18 v19)):Tot (pK E0 v18 v19).den (Nx (mK a0) Z6x (0,0,0,0,0,0) (λr=>(r=mdV a0))):=by
 obtain⟨al0,O0,i0,i1,i2,i3⟩:=h;subst al0;dsimp only[pK,LT.den];apply tF<;>intro h1
 .exact tB (ZfZ) λx1 h2=>tR Z35
 apply tE<;>intro h2
 .exact Qp
 exact Qp
def Aa{a0:af}(oa0:bC a0):Tot (Fk a0) (λr=>(r=mdV a0)):=by
 apply Tot.rn (mK a0) Z6x
 .dsimp only[Fi,LT.den];apply tD<;>intro h1
  .exact dJ
  apply tD<;>intro h2
  .exact dJ
  refine tB (ZfY oa0) λx1 h3=>?_;apply tO<;>intro h4
  .exact dJ
  apply tE<;>intro h5
  .exact Qx
  exact Qx
 intro s hs;cases s with
 |L0 _ _ _=>exact Qy hs
 |L1 _ _ _=>exact Qq hs
 |L2 _ _ _=>exact Qu hs
def Zf0:pL->Prop
 |.L0 v0 v1 v2 v7 v8=>((SzL 16 SzN) v0)/\(SzN v2)/\(0<=v8)/\(v7.length<=200*v8.toNat)/\(v0.length<=100)/\(v8<=v0.length)
def Z01:pL->M6
 |.L0 v0 v1 v2 v7 v8=>(1,((v0.length:Int)-v8).toNat,1000000,0,0,0)
def Zf1{a0:List (List UInt8)}{a1:Int}{a2:List UInt8}(oa0:(SzL 16 SzN) a0)(oa2:SzN a2)(h0:a0.length<=100):Tot (Fo a0 a1 a2) (λr=>(SzT r)/\(r.length<=20000)):=by
 apply Tot.rn Zf0 Z01
 .dsimp only[Fm,LT.den];exact tL ⟨oa0,oa2,cs⟩ PS
 rintro⟨v0,v1,v2,v7,v8⟩ ⟨ov0,ov2,cv8,i0,i1,i2⟩;have lb_v2:v2.length<=100:=ov2;dsimp only[Z2y,Fl,LT.den];apply tD<;>intro h1
 .refine tB (Z8p cl) λx1 h2=>?_;apply tF<;>intro h3
  .apply tO<;>intro h4
   .refine tB (tK ca) λx2 h5=>Tot.ix λx3 h6=>?_;have oh6:SzN x3:=ov0.2 x3 h6.1;have q1:x3.length<=100:=oh6;refine tB (tK ca) λx4 h7=>?_;exact Qg
   refine Tot.ix λx2 h5=>?_;have oh5:SzN x2:=ov0.2 x2 h5.1;have q1:x2.length<=100:=oh5;refine tB (tK ca) λx3 h6=>?_;exact Qg
  have q1:=wr (v8+1);exact PQ
 exact tR ⟨tk85,cl⟩
def CE{a0:Int}:Tot (Fp a0) (λr=>(SzT r)/\(r.length<=20000)):=by
 apply tZ;dsimp only[Z5h,LT.den];apply tD<;>intro h1
 .exact tR ⟨SzT.nil,cl⟩
 apply tD<;>intro h2
 .exact tR ⟨SzT.nil,cl⟩
 refine tB (ZfR) λx1 h3=>tB (Zf1 h3.1 bc cl) λx2 h4=>?_;have eh4_1:=h4.2;exact tR ⟨h4.1,cl⟩
def Zf2{a0:Int}:Tot (Fu a0) (λr=>True):=by apply tZ;dsimp only[Fq,LT.den];exact BU
def w4{a0:Int}:Tot (Fx a0) (λr=>(SzN r)):=by
 apply tZ;dsimp only[Fv,LT.den];apply tE<;>intro h1
 .exact df
 apply tE<;>intro h2
 .exact df
 apply tE<;>intro h3
 .exact df
 apply tE<;>intro h4
 .exact df
 apply tE<;>intro h5
 .exact df
 exact tR (SzN.nil)
def Zf3:pM->Prop
 |.L0 v0 v3 v4=>(0<=v4)/\(v3.length<=200*v4.toNat)/\(v4<=5)
def PC:pM->M6
 |.L0 v0 v3 v4=>(1,(5-v4).toNat,1000000,0,0,0)
def Si{a0:Int}:Tot (FA a0) (λr=>(SzT r)):=by
 apply Tot.rn Zf3 PC
 .dsimp only[Fz,LT.den];refine tB (Zf2) λx1 h1=>?_;apply tO<;>intro h2
  .exact tR (SzT.nil)
  apply tE<;>intro h3
  .exact wF
  exact BS
 rintro⟨v0,v3,v4⟩ ⟨cv4,i0,i1⟩;dsimp only[yE,Fy,LT.den];apply tD<;>intro h1
 .refine tB (tK Cu) λx1 h2=>tB (tK Cu) λx2 h3=>?_;apply tE<;>intro h4
  .apply tO<;>intro h5
   .refine tB (tK ca) λx3 h6=>tB (w4) λx4 h7=>?_;have q1:x4.length<=100:=h7;refine tB (tK ca) λx5 h8=>?_;exact P7
   refine tB (w4) λx3 h6=>?_;have q1:x3.length<=100:=h6;refine tB (tK ca) λx4 h7=>?_;exact P7
  have q1:=wr (v4+1);exact BS
 exact wF
def Zf4:Tot (yF) (λr=>((SzL 16 SzN) r)/\(r.length=17)):=by apply tZ;dsimp only[FC,LT.den];have q1:(SzL 16 SzN) ([([102,108,121,105,110,103]:List UInt8),([114,101,97,99,104]:List UInt8),([104,97,115,116,101]:List UInt8),([118,105,103,105,108,97,110,116]:List UInt8),([116,114,97,109,112,108,101]:List UInt8),([102,105,114,115,116,45,115,116,114,105,107,101]:List UInt8),([100,111,117,98,108,101,45,115,116,114,105,107,101]:List UInt8),([100,101,97,100,108,121]:List UInt8),([108,105,102,101,108,105,110,107]:List UInt8),([109,101,110,97,99,101]:List UInt8),([100,101,102,101,110,100,101,114]:List UInt8),([119,97,114,100,101,100]:List UInt8),([115,116,117,114,100,121]:List UInt8),([101,108,117,115,105,118,101]:List UInt8),([110,111,45,97,116,116,97,99,107]:List UInt8),([110,111,45,98,108,111,99,107]:List UInt8),([109,117,115,116,45,97,116,116,97,99,107]:List UInt8)]:List (List UInt8)):=⟨by simp only[bw,bT];omega,mem_cons' bc (mem_cons' bc (mem_cons' bc (mem_cons' bc (mem_cons' bc (mem_cons' bc (mem_cons' bc (mem_cons' bc (mem_cons' bc (mem_cons' bc (mem_cons' bc (mem_cons' bc (mem_cons' bc (mem_cons' bc (mem_cons' bc (mem_cons' bc (mem_cons' bc (λ_ h=>by cases h)))))))))))))))))⟩;have lq1:([([102,108,121,105,110,103]:List UInt8),([114,101,97,99,104]:List UInt8),([104,97,115,116,101]:List UInt8),([118,105,103,105,108,97,110,116]:List UInt8),([116,114,97,109,112,108,101]:List UInt8),([102,105,114,115,116,45,115,116,114,105,107,101]:List UInt8),([100,111,117,98,108,101,45,115,116,114,105,107,101]:List UInt8),([100,101,97,100,108,121]:List UInt8),([108,105,102,101,108,105,110,107]:List UInt8),([109,101,110,97,99,101]:List UInt8),([100,101,102,101,110,100,101,114]:List UInt8),([119,97,114,100,101,100]:List UInt8),([115,116,117,114,100,121]:List UInt8),([101,108,117,115,105,118,101]:List UInt8),([110,111,45,97,116,116,97,99,107]:List UInt8),([110,111,45,98,108,111,99,107]:List UInt8),([109,117,115,116,45,97,116,116,97,99,107]:List UInt8)]:List (List UInt8)).length=17:=rfl;exact tR ⟨q1,cl⟩
def Z36{a0:Int}:Tot (FH a0) (λr=>(SzN r)):=by
 apply tZ;dsimp only[FF,LT.den];apply tD<;>intro h1
 .exact tR (SzN.nil)
 apply tD<;>intro h2
 .exact tR (SzN.nil)
 refine tB (Zf4) λx1 h3=>Tot.ix λx2 h4=>?_;have oh4:SzN x2:=h3.1.2 x2 h4.1;exact tR oh4
def Zf5:pN->Prop
 |.L0 v0 v3 v4=>(0<=v4)/\(v3.length<=200*v4.toNat)/\(v4<=17)
def PF:pN->M6
 |.L0 v0 v3 v4=>(1,(17-v4).toNat,1000000,0,0,0)
def Sj{a0:Int}:Tot (FK a0) (λr=>(SzT r)):=by
 apply Tot.rn Zf5 PF
 .dsimp only[FJ,LT.den];refine tB (Sc) λx1 h1=>?_;apply tO<;>intro h2
  .exact tR (SzT.nil)
  exact BT
 rintro⟨v0,v3,v4⟩ ⟨cv4,i0,i1⟩;dsimp only[yG,FI,LT.den];apply tD<;>intro h1
 .apply tE<;>intro h2
  .apply tO<;>intro h3
   .refine tB (tK ca) λx1 h4=>tB (Z36) λx2 h5=>?_;have q1:x2.length<=100:=h5;refine tB (tK ca) λx3 h6=>?_;exact P8
   refine tB (Z36) λx1 h4=>?_;have q1:x1.length<=100:=h4;refine tB (tK ca) λx2 h5=>?_;exact P8
  have q1:=wr (v4+1);exact BT
 exact QW
def Zf6:Tot (yH) (λr=>((SzL 16 SzN) r)/\(r.length=6)):=by apply tZ;dsimp only[Z5j,LT.den];have q1:(SzL 16 SzN) ([([]:List UInt8),([105,110,45,104,97,110,100]:List UInt8),([105,110,45,108,105,98,114,97,114,121]:List UInt8),([105,110,45,103,114,97,118,101,121,97,114,100]:List UInt8),([105,110,45,101,120,105,108,101]:List UInt8),([111,110,45,115,116,97,99,107]:List UInt8)]:List (List UInt8)):=⟨by simp only[bw,bT];omega,mem_cons' (SzN.nil) (mem_cons' bc (mem_cons' bc (mem_cons' bc (mem_cons' bc (mem_cons' bc (λ_ h=>by cases h))))))⟩;have lq1:([([]:List UInt8),([105,110,45,104,97,110,100]:List UInt8),([105,110,45,108,105,98,114,97,114,121]:List UInt8),([105,110,45,103,114,97,118,101,121,97,114,100]:List UInt8),([105,110,45,101,120,105,108,101]:List UInt8),([111,110,45,115,116,97,99,107]:List UInt8)]:List (List UInt8)).length=6:=rfl;exact tR ⟨q1,cl⟩
def Zf7:Tot (Z2z) (λr=>((SzL 16 SzN) r)/\(r.length=3)):=by apply tZ;dsimp only[Z9f,LT.den];have q1:(SzL 16 SzN) ([([]:List UInt8),([121,111,117,114,115]:List UInt8),([116,104,101,105,114,115]:List UInt8)]:List (List UInt8)):=⟨by simp only[bw,bT];omega,mem_cons' (SzN.nil) (mem_cons' bc (mem_cons' bc (λ_ h=>by cases h)))⟩;have lq1:([([]:List UInt8),([121,111,117,114,115]:List UInt8),([116,104,101,105,114,115]:List UInt8)]:List (List UInt8)).length=3:=rfl;exact tR ⟨q1,cl⟩
def Zf8:Tot (yI) (λr=>((SzL 16 SzN) r)/\(r.length=3)):=by apply tZ;dsimp only[Z5l,LT.den];have q1:(SzL 16 SzN) ([([]:List UInt8),([115,101,108,102]:List UInt8),([111,116,104,101,114]:List UInt8)]:List (List UInt8)):=⟨by simp only[bw,bT];omega,mem_cons' (SzN.nil) (mem_cons' bc (mem_cons' bc (λ_ h=>by cases h)))⟩;have lq1:([([]:List UInt8),([115,101,108,102]:List UInt8),([111,116,104,101,114]:List UInt8)]:List (List UInt8)).length=3:=rfl;exact tR ⟨q1,cl⟩
def Zf9:Tot (Z20) (λr=>((SzL 16 SzN) r)/\(r.length=3)):=by apply tZ;dsimp only[Z9h,LT.den];have q1:(SzL 16 SzN) ([([]:List UInt8),([116,97,112,112,101,100]:List UInt8),([117,110,116,97,112,112,101,100]:List UInt8)]:List (List UInt8)):=⟨by simp only[bw,bT];omega,mem_cons' (SzN.nil) (mem_cons' bc (mem_cons' bc (λ_ h=>by cases h)))⟩;have lq1:([([]:List UInt8),([116,97,112,112,101,100]:List UInt8),([117,110,116,97,112,112,101,100]:List UInt8)]:List (List UInt8)).length=3:=rfl;exact tR ⟨q1,cl⟩
def Zga:pO->Prop
 |.L0 v0 v1 v5=>(0<=v5)/\(v1<=100)
def Pz:pO->M6
 |.L0 v0 v1 v5=>(1,(v1-v5).toNat,1000000,0,0,0)
def sI{a0:Int}{a1:Int}(h0:a1<=100):Tot (FO a0 a1) (λr=>True):=by
 apply Tot.rn Zga Pz
 .dsimp only[FN,LT.den];exact Py
 rintro⟨v0,v1,v5⟩ ⟨cv5,i0⟩;dsimp only[yJ,FM,LT.den];apply tD<;>intro h1
 .have q1:=wr (v5+1);exact Py
 exact tR ab
def Zgb:pQ->Prop
 |.L0 v0 v3 v4=>(0<=v4)/\(v0<=100)
def Z6y:pQ->M6
 |.L0 v0 v3 v4=>(1,(v0-v4).toNat,1000000,0,0,0)
def Z37{a0:Int}(h0:a0<=100):Tot (FP a0) (λr=>(SzT r)/\(r.length<=20000)):=by
 apply Tot.rn Zgb Z6y
 .dsimp only[Z9j,LT.den];exact PL
 rintro⟨v0,v3,v4⟩ ⟨cv4,i0⟩;dsimp only[yK,Z5n,LT.den];apply tD<;>intro h1
 .have q1:=wr (v3*2);have q2:=wr (v4+1);exact PL
 refine tB (CE) λx1 h2=>?_;have eh2_1:=h2.2;exact tR ⟨h2.1,cl⟩
def Zgc:Tot (yL) (λr=>((SzL 16 SzN) r)/\(r.length=4)):=by apply tZ;dsimp only[FQ,LT.den];have q1:(SzL 16 SzN) ([([]:List UInt8),([62,61]:List UInt8),([60,61]:List UInt8),([61]:List UInt8)]:List (List UInt8)):=⟨by simp only[bw,bT];omega,mem_cons' (SzN.nil) (mem_cons' bc (mem_cons' bc (mem_cons' bc (λ_ h=>by cases h))))⟩;have lq1:([([]:List UInt8),([62,61]:List UInt8),([60,61]:List UInt8),([61]:List UInt8)]:List (List UInt8)).length=4:=rfl;exact tR ⟨q1,cl⟩
def Sk{n:Int}(h0:0<=n)(h1:n<18446744073709551616):er .u64 n 10=n/10:=by
 unfold er;rw[Int.tdiv_eq_ediv_of_nonneg h0];have h2:0<=n/10:=aW
 have h3:n/10<18446744073709551616:=aW
 simp only[IntKind.wrap,IntKind.bits,IntKind.signed,w5,eR,fk];exact Int.emod_eq_of_lt h2 h3
def Z6z:∀(k:Nat) (n:Int) (s:List UInt8),k<=20->0<=n->n<10 ^ k->n<18446744073709551616->s.length+k<=40->Tot (bX uw.step (.L0 n s)) λr=>SzN r/\r.length<=40
 |0,n,s,_,h0,h1,_,hs=>by
  have:n=0:=aW
  subst this;refine Tot.stop (r:=s) ?_ ⟨show s.length<=100 by omega,by omega⟩;show(lJ _ _).den=_;dsimp only[lJ,LT.den];rfl
 |k+1,n,s,hk,h0,h1,h2,hs=>by
  by_cases hn:n>0
  .obtain⟨d,hd,hl⟩:=Tot.str (xs:=[IntKind.wrap .u8 (IntKind.wrap .u64 (48+(Int.tmod n 10)))]) ax tk91;simp only[bw,bT]at hl;have e:uw.step (.L0 n s)=some (.inl (.L0 (n/10) (d++s))):=by
    show(lJ _ _).den=_;dsimp only[lJ,LT.den];rw[bd hn,aB,hd,bb,bd (show d.length+s.length<=9223372036854775807 by omega),Sk h0 h2];rfl
   obtain⟨r,hr,hp⟩:=Z6z k (n/10) (d++s) O O (by rw[Int.pow_succ]at h1;have:n/10<10 ^ k:=Int.ediv_lt_of_lt_mul bE h1;exact this) O (by rw[bk];omega);exact⟨r,by rw[jK e];exact hr,hp⟩
  refine Tot.stop (r:=s) ?_ ⟨show s.length<=100 by omega,by omega⟩;show(lJ _ _).den=_;dsimp only[lJ,LT.den];rw[bl hn];rfl
def Sl(a0:Int)(h0:0<=a0)(h1:a0<18446744073709551616):Tot (yM a0) (λr=>(SzN r)/\(r.length<=40)):=by unfold yM LF.run;dsimp only[FT,LT.den];obtain⟨d,hd,hl⟩:=Tot.str (xs:=[IntKind.wrap .u8 (IntKind.wrap .u64 (48+(Int.tmod a0 10)))]) ax tk91;simp only[bw,bT]at hl;rw[hd,bb,bb,ka,Sk h0 h1];exact Z6z 20 (a0/10) d O O O O O
def oQ{a0:Int}:Tot (FY a0) (λr=>(SzN r)):=by
 apply tZ;dsimp only[FV,LT.den];apply tD<;>intro h1
 .have q1:0<=IntKind.wrap .u64 (0-(IntKind.wrap .u64 a0))/\IntKind.wrap .u64 (0-(IntKind.wrap .u64 a0))<18446744073709551616:=Sm _;exact tB (Sl (IntKind.wrap .u64 (0-(IntKind.wrap .u64 a0))) cl cl) λx1 h2=>tB (tK ca) λx2 h3=>tR bc
 have q1:0<=IntKind.wrap .u64 a0/\IntKind.wrap .u64 a0<18446744073709551616:=Sm _;exact tB (Sl (IntKind.wrap .u64 a0) cl cl) λx1 h2=>tR h2.1
def CF{a0:List UInt8}{a1:ah}(oa0:SzN a0)(h0:0<=a1.Kind)(h1:a1.Kind<=3):Tot (FZ a0 a1) (λr=>(SzT r)):=by
 apply tZ;have lb_a0:a0.length<=100:=oa0;dsimp only[Z5p,LT.den];apply tE<;>intro h1
 .exact tR (SzT.nil)
 refine tB (Zgc) λx1 h2=>Tot.ix λx2 h3=>?_;have oh3:SzN x2:=h2.1.2 x2 h3.1;have q1:x2.length<=100:=oh3;refine tB (tK ca) λx3 h4=>tB (oQ) λx4 h5=>?_;have q2:x4.length<=100:=h5;exact tB (tK ca) λx5 h6=>tR tk85
def Zgd:pR->Prop
 |.L0 v0 v1 v5 v6=>((SzL 16 SzT) v0)/\(SzN v1)/\(0<=v6)/\(v5.length<=1125899906842624*v6.toNat)/\(v0.length<=100)/\(v6<=v0.length)
def Z8r:pR->M6
 |.L0 v0 v1 v5 v6=>(1,((v0.length:Int)-v6).toNat,1000000,0,0,0)
def Zge{a0:List (List UInt8)}{a1:List UInt8}(oa0:(SzL 16 SzT) a0)(oa1:SzN a1)(h0:a0.length<=100):Tot (F2 a0 a1) (λr=>(r.length<=144115188075855872)):=by
 apply Tot.rn Zgd Z8r
 .dsimp only[F1,LT.den];exact tL ⟨oa0,oa1,cs⟩ Qd
 rintro⟨v0,v1,v5,v6⟩ ⟨ov0,ov1,cv6,i0,i1,i2⟩;have lb_v1:v1.length<=100:=ov1;dsimp only[yO,F0,LT.den];apply tD<;>intro h1
 .apply tD<;>intro h2
  .refine tB (tK ca) λx1 h3=>Tot.ix λx2 h4=>?_;have oh4:SzT x2:=ov0.2 x2 h4.1;have q1:x2.length<=562949953421312:=oh4;refine tB (tK ca) λx3 h5=>?_;exact Qc
  refine Tot.ix λx1 h3=>?_;have oh3:SzT x1:=ov0.2 x1 h3.1;have q1:x1.length<=562949953421312:=oh3;refine tB (tK ca) λx2 h4=>?_;exact Qc
 exact tR cl
def mL{b0:List (List UInt8)}{a1:List UInt8}(ob0:(SzL 16 SzT) b0)(oa1:SzT a1)(h0:b0.length<=1000):Tot (F3 b0 a1) (λr=>((SzL 16 SzT) r)/\(r.length<=b0.length+1)):=by
 apply tZ;dsimp only[Z9k,LT.den];apply tF<;>intro h1
 .exact tR ⟨ob0,cl⟩
 refine Tot.ap λx1 h2=>?_;have lh2:=b7 h2;exact tR ⟨SzL.app (k:=16) h2 lo ob0.2 (me1 oa1),cl⟩
def Z38:jy->Prop
 |.L0 E0 v6 v7 v8=>(da E0)/\((SzL 16 SzN) v6)/\((SzL 16 SzT) v7)/\(0<=v8)/\(v7.length<=3+v8.toNat)/\(v8<=6)/\(v6.length=3)/\(0<=E0.Tap/\E0.Tap<=2/\0<=E0.Power.Kind/\E0.Power.Kind<=3/\0<=E0.Tough.Kind/\E0.Tough.Kind<=3/\0<=E0.Value.Kind/\E0.Value.Kind<=3)
 |.L1 E0 v6 v7 v9=>(da E0)/\((SzL 16 SzN) v6)/\((SzL 16 SzT) v7)/\(0<=v9)/\(v7.length<=9+v9.toNat)/\(v9<=6)/\(v6.length=3)/\(0<=E0.Tap/\E0.Tap<=2/\0<=E0.Power.Kind/\E0.Power.Kind<=3/\0<=E0.Tough.Kind/\E0.Tough.Kind<=3/\0<=E0.Value.Kind/\E0.Value.Kind<=3)
 |.L2 E0 v6 v7 v10=>(da E0)/\((SzL 16 SzN) v6)/\((SzL 16 SzT) v7)/\(0<=v10)/\(v7.length<=15+v10.toNat)/\(v10<=5)/\(v6.length=3)/\(0<=E0.Tap/\E0.Tap<=2/\0<=E0.Power.Kind/\E0.Power.Kind<=3/\0<=E0.Tough.Kind/\E0.Tough.Kind<=3/\0<=E0.Value.Kind/\E0.Value.Kind<=3)
 |.L3 E0 v6 v7 v11=>(da E0)/\((SzL 16 SzN) v6)/\((SzL 16 SzT) v7)/\(0<=v11)/\(v7.length<=20+v11.toNat)/\(v11<=5)/\(v6.length=3)/\(0<=E0.Tap/\E0.Tap<=2/\0<=E0.Power.Kind/\E0.Power.Kind<=3/\0<=E0.Tough.Kind/\E0.Tough.Kind<=3/\0<=E0.Value.Kind/\E0.Value.Kind<=3)
 |.L4 E0 v6 v7=>(da E0)/\((SzL 16 SzN) v6)/\((SzL 16 SzT) v7)/\(v7.length<=26)/\(v6.length=3)/\(0<=E0.Tap/\E0.Tap<=2/\0<=E0.Power.Kind/\E0.Power.Kind<=3/\0<=E0.Tough.Kind/\E0.Tough.Kind<=3/\0<=E0.Value.Kind/\E0.Value.Kind<=3)
 |.L5 E0 v6 v7 v12=>(da E0)/\((SzL 16 SzN) v6)/\((SzL 16 SzT) v7)/\(0<=v12)/\(v7.length<=26+v12.toNat)/\(v12<=17)/\(v6.length=3)/\(0<=E0.Tap/\E0.Tap<=2/\0<=E0.Power.Kind/\E0.Power.Kind<=3/\0<=E0.Tough.Kind/\E0.Tough.Kind<=3/\0<=E0.Value.Kind/\E0.Value.Kind<=3)
def k9:jy->M6
 |.L0 E0 v6 v7 v8=>(9,(6-v8).toNat,1000000,0,0,0)
 |.L1 E0 v6 v7 v9=>(7,(6-v9).toNat,1000000,0,0,0)
 |.L2 E0 v6 v7 v10=>(5,(5-v10).toNat,1000000,0,0,0)
 |.L3 E0 v6 v7 v11=>(3,(5-v11).toNat,1000000,0,0,0)
 |.L4 E0 v6 v7=>(2,0,0,0,0,0)
 |.L5 E0 v6 v7 v12=>(1,(17-v12).toNat,1000000,0,0,0)
def CG{E0:al}{v6:List (List UInt8)}{v7:List (List UInt8)}(h:Z38 (.L4 E0 v6 v7)):Tot (pS E0 v6 v7).den (Nx Z38 k9 (2,0,0,0,0,0) (λr=>(r.length<=144115188075855872))):=by obtain⟨O0,ov6,ov7,i0,i1,i2⟩:=h;dsimp only[pS,LT.den];exact kh
def Zgf{a0:al}(oa0:da a0):Tot (Ga a0) (λr=>(r.length<=144115188075855872)):=by
 apply Tot.rn Z38 k9
 .dsimp only[F9,LT.den];refine tB (kj oa0) λx1 h1=>?_;have eh1_0:=h1.1;apply tO<;>intro h2
  .exact tR cl
  have h2_0:=eh1_0 h2;refine tB (Zf6) λx2 h3=>tB (Zf7) λx3 h4=>tB (Zf8) λx4 h5=>tB (Zf9) λx5 h6=>?_;have eh6_1:=h6.2;refine Tot.ix λx6 h7=>?_;have oh7:SzN x6:=h3.1.2 x6 h7.1;refine tB (mL SzL.nil (SzN.t oh7) cl) λx7 h8=>?_;have eh8_1:=h8.2;try simp only[bT,bw,aM]at eh8_1
  refine Tot.ix λx8 h9=>?_;have oh9:SzN x8:=h4.1.2 x8 h9.1;refine tB (mL h8.1 (SzN.t oh9) cl) λx9 h10=>Tot.ix λx10 h11=>?_;have oh11:SzN x10:=h5.1.2 x10 h11.1;exact tB (mL h10.1 (SzN.t oh11) cl) λx11 h12=>tL ⟨oa0,h6.1,h12.1,cs⟩ sw
 intro s hs;cases s with
 |L0 E0 v6 v7 v8=>
  obtain⟨O0,ov6,ov7,cv8,i0,i1,i2,i3⟩:=hs;have lb_v7:=ov7.1;dsimp only[lL,F4,LT.den,k9];apply tD<;>intro h1
  .refine tB (sI cl) λx1 h2=>?_;apply tF<;>intro h3
   .refine tB (Z37 cl) λx2 h4=>Tot.ap λx3 h5=>?_;have lh5:=b7 h5;have q1:=wr (v8+1);exact tL ⟨O0,ov6,SzL.app (k:=16) h5 lo ov7.2 (me1 h4.1),cs⟩ sw
   have q1:=wr (v8+1);exact kh
  exact kh
 |L1 E0 v6 v7 v9=>
  obtain⟨O0,ov6,ov7,cv9,i0,i1,i2,i3⟩:=hs;have lb_v7:=ov7.1;dsimp only[lL,F5,LT.den,k9];apply tD<;>intro h1
  .refine tB (sI cl) λx1 h2=>?_;apply tF<;>intro h3
   .refine tB (Z37 cl) λx2 h4=>?_;have q1:x2.length<=562949953421312:=h4.1;refine tB (tK ca) λx3 h5=>?_;have q2:=ov7.1;refine Tot.ap λx4 h6=>?_;have lh6:=b7 h6;have q3:=wr (v9+1);exact B7
   have q1:=wr (v9+1);exact kh
  exact kh
 |L2 E0 v6 v7 v10=>
  obtain⟨O0,ov6,ov7,cv10,i0,i1,i2,i3⟩:=hs;have lb_v7:=ov7.1;dsimp only[lL,F6,LT.den,k9];apply tD<;>intro h1
  .refine tB (sI cl) λx1 h2=>?_;apply tF<;>intro h3
   .refine tB (w4) λx2 h4=>Tot.ap λx3 h5=>?_;have lh5:=b7 h5;have q1:=wr (v10+1);exact tL ⟨O0,ov6,SzL.app (k:=16) h5 lo ov7.2 (me1 (SzN.t h4)),cs⟩ sw
   have q1:=wr (v10+1);exact kh
  exact kh
 |L3 E0 v6 v7 v11=>
  obtain⟨O0,ov6,ov7,cv11,i0,i1,i2,i3⟩:=hs;have lb_v7:=ov7.1;dsimp only[lL,F7,LT.den,k9];apply tD<;>intro h1
  .refine tB (sI cl) λx1 h2=>?_;apply tF<;>intro h3
   .refine tB (w4) λx2 h4=>?_;have q1:x2.length<=100:=h4;refine tB (tK ca) λx3 h5=>?_;have q2:=ov7.1;refine Tot.ap λx4 h6=>?_;have lh6:=b7 h6;have q3:=wr (v11+1);exact B7
   have q1:=wr (v11+1);exact kh
  apply tO<;>intro h2
  .have q1:E0.Sub.length<=281474976710656:=O0;refine tB (tK ca) λx1 h3=>Tot.ap λx2 h4=>?_;have lh4:=b7 h4;exact tJ (CG ⟨O0,ov6,SzL.app (k:=16) h4 lo ov7.2 (me1 tk85),cs⟩)
  exact tJ (CG ⟨O0,ov6,ov7,cs⟩)
 |L4 _ _ _=>exact CG hs
 |L5 E0 v6 v7 v12=>
  obtain⟨O0,ov6,ov7,cv12,i0,i1,i2,i3⟩:=hs;have lb_v7:=ov7.1;dsimp only[lL,F8,LT.den,k9];apply tD<;>intro h1
  .refine tB (sI cl) λx1 h2=>?_;apply tF<;>intro h3
   .refine tB (Z36) λx2 h4=>?_;have q1:x2.length<=100:=h4;refine tB (tK ca) λx3 h5=>?_;have q2:=ov7.1;refine Tot.ap λx4 h6=>?_;have lh6:=b7 h6;have q3:=wr (v12+1);exact B7
   have q1:=wr (v12+1);exact kh
  refine Tot.ix λx1 h2=>?_;have oh2:SzN x1:=ov6.2 x1 h2.1;refine tB (mL ov7 (SzN.t oh2) cl) λx2 h3=>tB (CF bc cl cl) λx3 h4=>tB (mL h3.1 h4 cl) λx4 h5=>tB (CF bc cl cl) λx5 h6=>tB (mL h5.1 h6 cl) λx6 h7=>tB (CF bc cl cl) λx7 h8=>tB (mL h7.1 h8 cl) λx8 h9=>?_;apply tE<;>intro h10
  .exact tR cl
  exact tB (Zge h9.1 bc cl) λx9 h11=>tR cl
def Sn{a0:af}(oa0:bC a0):Tot (Gd a0) (λr=>(r.length<=288230376151711744)):=by
 apply tZ;dsimp only[Gb,LT.den];refine tB (Aa oa0) λx1 h1=>?_;apply tO<;>intro h2
 .exact tR cl
 apply tE<;>intro h3
 .exact tR cl
 apply tE<;>intro h4
 .exact tB (CE) λx2 h5=>tB (tK ca) λx3 h6=>tR cl
 apply tE<;>intro h5
 .exact tB (CE) λx2 h6=>tB (tK ca) λx3 h7=>tR cl
 apply tE<;>intro h6
 .have q1:a0.Sub.length<=281474976710656:=oa0.1;exact tB (tK ca) λx2 h7=>tR cl
 apply tE<;>intro h7
 .have q1:a0.Sub.length<=281474976710656:=oa0.1;exact tB (tK ca) λx2 h8=>tR cl
 apply tE<;>intro h8
 .refine tB (Si) λx2 h9=>?_;have q1:x2.length<=562949953421312:=h9;exact tB (tK ca) λx3 h10=>tR cl
 apply tE<;>intro h9
 .refine tB (Si) λx2 h10=>?_;have q1:x2.length<=562949953421312:=h10;exact tB (tK ca) λx3 h11=>tR cl
 apply tE<;>intro h10
 .refine tB (Sj) λx2 h11=>?_;have q1:x2.length<=562949953421312:=h11;exact tB (tK ca) λx3 h12=>tR cl
 apply tE<;>intro h11
 .refine tB (Sj) λx2 h12=>?_;have q1:x2.length<=562949953421312:=h12;exact tB (tK ca) λx3 h13=>tR cl
 apply tE<;>intro h12
 .exact tR cl
 apply tE<;>intro h13
 .exact tB (Zgf oa0.2) λx2 h14=>tB (tK ca) λx3 h15=>tB (tK ca) λx4 h16=>tR cl
 apply tE<;>intro h14
 .refine tB (oQ) λx2 h15=>?_;have q1:x2.length<=100:=h15;refine tB (tK ca) λx3 h16=>tB (tK ca) λx4 h17=>tB (oQ) λx5 h18=>?_;have q2:x5.length<=100:=h18;exact tB (tK ca) λx6 h19=>tR cl
 apply tE<;>intro h15
 .refine tB (oQ) λx2 h16=>?_;have q1:x2.length<=100:=h16;refine tB (tK ca) λx3 h17=>tB (tK ca) λx4 h18=>tB (oQ) λx5 h19=>?_;have q2:x5.length<=100:=h19;exact tB (tK ca) λx6 h20=>tR cl
 exact tR cl
def Zgg:pT->Prop
 |.L0 v0 v3 v4=>((SzL 176 bC) v0)/\(0<=v4)/\(v3.length<=576460752303423488*v4.toNat)/\(v0.length<=6)/\(v4<=v0.length)
def So:pT->M6
 |.L0 v0 v3 v4=>(1,((v0.length:Int)-v4).toNat,1000000,0,0,0)
def CH{a0:List af}(oa0:(SzL 176 bC) a0):Tot (Gf a0) (λr=>(r.length<=4611686018427387904)):=by
 apply Tot.rn Zgg So
 .have lb_a0:=oa0.1;dsimp only[Z9m,LT.den];apply tE<;>intro h1
  .exact tR cl
  apply tD<;>intro h2
  .exact tR cl
  exact tL ⟨oa0,cs⟩ Qa
 rintro⟨v0,v3,v4⟩ ⟨ov0,cv4,i0,i1,i2⟩;dsimp only[yP,Z5r,LT.den];apply tD<;>intro h1
 .refine Tot.ix λx1 h2=>?_;have oh2:bC x1:=ov0.2 x1 h2.1;refine tB (Aa oh2) λx2 h3=>?_;apply tO<;>intro h4
  .exact tR cl
  apply tD<;>intro h5
  .refine tB (tK ca) λx3 h6=>tB (Sn oh2) λx4 h7=>tB (tK ca) λx5 h8=>?_;exact P9
  refine tB (Sn oh2) λx3 h6=>tB (tK ca) λx4 h7=>?_;exact P9
 exact tR cl
def Zgh{a0:iY}:Tot (Gi a0) (λr=>True):=by
 apply tZ;dsimp only[Gg,LT.den];refine tB (Z19 a0.Mana) λx1 h1=>?_;have eh1_0:=h1.1;have eh1_1:=h1.2.1;apply tF<;>intro h2
 .apply tE<;>intro h3
  .exact BV
  exact tR ab
 exact tR ab
def Sp{a0:Int}:Tot (Gl a0) (λr=>(SzN r)):=by
 apply tZ;dsimp only[Gj,LT.den];apply tE<;>intro h1
 .exact df
 apply tE<;>intro h2
 .exact df
 apply tE<;>intro h3
 .exact df
 apply tE<;>intro h4
 .exact df
 apply tE<;>intro h5
 .exact df
 apply tE<;>intro h6
 .exact df
 apply tE<;>intro h7
 .exact df
 apply tE<;>intro h8
 .exact df
 apply tE<;>intro h9
 .exact df
 apply tE<;>intro h10
 .exact df
 apply tE<;>intro h11
 .exact df
 apply tE<;>intro h12
 .exact df
 apply tE<;>intro h13
 .exact df
 apply tE<;>intro h14
 .exact df
 exact tR (SzN.nil)
def Sq{a0:Int}:Tot (Gq a0) (λr=>True):=by
 apply tZ;dsimp only[Gn,LT.den];apply tE<;>intro h1
 .exact tR ab
 apply tE<;>intro h2
 .exact tR ab
 apply tE<;>intro h3
 .exact tR ab
 exact BZ
def Zgi{a0:Int}:Tot (Gt a0) (λr=>True):=by
 apply tZ;dsimp only[Z5s,LT.den];refine tB (Sp) λx1 h1=>?_;apply tO<;>intro h2
 .refine tB (Sq) λx2 h3=>?_;apply tO<;>intro h4
  .exact tR ab
  exact tR ab
 exact tR ab
def CI:Z22->Prop
 |.L0 E0=>(wX E0)/\True
def Sr:Z22->M6
 |.L0 E0=>(0,0,0,0,0,0)
def Z02{E0:fN}(h:CI (.L0 E0)):Tot (pU E0).den (Nx CI Sr (0,0,0,0,0,0) (λr=>True)):=by
 obtain⟨O0,_⟩:=h;dsimp only[pU,LT.den];refine tB (Zgi) λx1 h1=>?_;apply tO<;>intro h2
 .exact tR ab
 apply tE<;>intro h3
 .exact QE
 exact QE
def Zgj{a0:fN}(oa0:wX a0):Tot (Gw a0) (λr=>True):=by
 apply Tot.rn CI Sr
 .dsimp only[Gu,LT.den];refine tB (Sp) λx1 h1=>?_;apply tF<;>intro h2
  .exact tR ab
  apply tD<;>intro h3
  .exact tR ab
  apply tD<;>intro h4
  .exact tR ab
  refine tB (Sq) λx2 h5=>?_;apply tO<;>intro h6
  .apply tN<;>intro h7
   .exact tR ab
   exact tJ (Z02 ⟨oa0,ab⟩)
  exact tJ (Z02 ⟨oa0,ab⟩)
 intro s hs;cases s with
 |L0 _=>exact Z02 hs
def Z03{a0:al}(oa0:da a0):Tot (Gz a0) (λr=>True):=by apply tZ;dsimp only[Gx,LT.den];refine tB (kj oa0) λx1 h1=>?_;have eh1_0:=h1.1;exact PG
def Zgk{a0:dx}(oa0:km a0):Tot (GC a0) (λr=>True):=by
 apply tZ;dsimp only[GA,LT.den];apply tN<;>intro h1
 .exact tR ab
 refine tB (Z03 oa0) λx1 h2=>?_;apply tO<;>intro h3
 .exact tR ab
 apply tE<;>intro h4
 .apply tE<;>intro h5
  .apply tE<;>intro h6
   .apply tE<;>intro h7
    .exact tR ab
    apply tE<;>intro h8
    .exact tR ab
    exact tR ab
   exact tR ab
  exact tR ab
 apply tE<;>intro h5
 .apply tE<;>intro h6
  .apply tE<;>intro h7
   .exact tR ab
   exact tR ab
  exact tR ab
 apply tE<;>intro h6
 .apply tE<;>intro h7
  .apply tD<;>intro h8
   .apply tD<;>intro h9
    .apply tD<;>intro h10
     .exact tR ab
     exact tR ab
    exact tR ab
   exact tR ab
  exact tR ab
 exact tR ab
def Zgl{a0:dx}(oa0:km a0):Tot (GF a0) (λr=>True):=by
 apply tZ;dsimp only[GD,LT.den];apply tN<;>intro h1
 .exact tR ab
 apply tN<;>intro h2
 .exact tR ab
 apply tE<;>intro h3
 .exact BV
 apply tE<;>intro h4
 .apply tD<;>intro h5
  .exact tR ab
  exact tR ab
 exact tR ab
def oR:lM->Prop
 |.L0 E0 v3 v4=>(km E0)/\True
 |.L1 E0 v3=>(km E0)/\True
 |.L2 E0 v3 v4 v109=>(km E0)/\True
def Z60:lM->M6
 |.L0 E0 v3 v4=>(0,0,0,0,0,0)
 |.L1 E0 v3=>(0,0,0,0,0,0)
 |.L2 E0 v3 v4 v109=>(0,0,0,0,0,0)
def Pq{E0:dx}{v3:Bool}{v4:Bool}{v109:Bool}(h:(km E0)/\True):Tot (nz E0 v3 v4 v109).den (Nx oR Z60 (0,0,0,0,0,0) (λr=>True)):=by
 obtain⟨O0,_⟩:=h;dsimp only[nz,LT.den];apply tF<;>intro h1
 .apply tF<;>intro h2
  .apply tD<;>intro h3
   .exact BV
   exact tR ab
  exact tR ab
 exact tR ab
def Ps{E0:dx}{v3:Bool}(h:oR (.L1 E0 v3)):Tot (lN E0 v3).den (Nx oR Z60 (0,0,0,0,0,0) (λr=>True)):=by
 obtain⟨O0,_⟩:=h;dsimp only[lN,LT.den];apply tE<;>intro h1
 .refine tB (Z03 O0) λx1 h2=>?_;apply tF<;>intro h3
  .exact tR ab
  exact BZ
 apply tE<;>intro h2
 .exact tR ab
 apply tE<;>intro h3
 .exact tR ab
 exact tR ab
def Po{E0:dx}{v3:Bool}{v4:Bool}(h:oR (.L0 E0 v3 v4)):Tot (nA E0 v3 v4).den (Nx oR Z60 (0,0,0,0,0,0) (λr=>True)):=by
 obtain⟨O0,_⟩:=h;dsimp only[nA,LT.den];apply tE<;>intro h1
 .apply tN<;>intro h2
  .apply tN<;>intro h3
   .apply tN<;>intro h4
    .apply tN<;>intro h5
     .exact tR ab
     exact wC
    exact wC
   exact wC
  exact wC
 apply tE<;>intro h2
 .apply tF<;>intro h3
  .apply tE<;>intro h4
   .exact tB (Z03 O0) λx1 h5=>tR trivial
   exact tR ab
  exact tR ab
 apply tE<;>intro h3
 .apply tE<;>intro h4
  .apply tD<;>intro h5
   .apply tD<;>intro h6
    .exact tR ab
    exact tR ab
   exact tR ab
  apply tE<;>intro h5
  .apply tD<;>intro h6
   .apply tD<;>intro h7
    .exact tR ab
    exact tR ab
   exact tR ab
  exact tR ab
 apply tE<;>intro h4
 .exact BQ
 apply tE<;>intro h5
 .exact BQ
 exact BQ
def Zgm{a0:dx}(oa0:km a0):Tot (GI a0) (λr=>True):=by
 apply Tot.rn oR Z60
 .dsimp only[GG,LT.den];apply tE<;>intro h1
  .exact tB (Zgk oa0) λx1 h2=>tR trivial
  refine tB (Zgl oa0) λx1 h2=>?_;apply tO<;>intro h3
  .exact tR ab
  apply tE<;>intro h4
  .exact BO
  apply tE<;>intro h5
  .exact BO
  exact BO
 intro s hs;cases s with
 |L0 _ _ _=>exact Po hs
 |L1 _ _=>exact Ps hs
 |L2 _ _ _ _=>exact Pq hs
def Zgn{a0:ck}(oa0:lf a0):Tot (GM a0) (λr=>True):=by
 apply tZ;dsimp only[GJ,LT.den];apply tO<;>intro h1
 .exact PG
 refine tB (kj oa0) λx1 h2=>?_;have eh2_0:=h2.1;apply tF<;>intro h3
 .exact BZ
 exact tR ab
def Zgo:pV->Prop
 |.L0 v0 v3=>((SzL 144 lf) v0)/\(0<=v3)
def Z39:pV->M6
 |.L0 v0 v3=>(1,((v0.length:Int)-v3).toNat,1000000,0,0,0)
def Zgp{a0:List ck}(oa0:(SzL 144 lf) a0):Tot (GP a0) (λr=>True):=by
 apply Tot.rn Zgo Z39
 .dsimp only[GO,LT.den];exact tL ⟨oa0,cl⟩ Ss
 rintro⟨v0,v3⟩ ⟨ov0,cv3⟩;have lb_v0:=ov0.1;dsimp only[Z7s,GN,LT.den];apply tD<;>intro h1
 .refine Tot.ix λx1 h2=>?_;have oh2:lf x1:=ov0.2 x1 h2.1;refine tB (Zgn oh2) λx2 h3=>?_;apply tO<;>intro h4
  .exact tR ab
  have q1:=wr (v3+1);exact tL ⟨ov0,cl⟩ Ss
 exact tR ab
def Zgq{a0:Int}:Tot (GS a0) (λr=>(SzN r)):=by
 apply tZ;dsimp only[GQ,LT.den];apply tD<;>intro h1
 .exact tR (SzN.nil)
 apply tD<;>intro h2
 .exact tR (SzN.nil)
 have q1:(SzL 16 SzN) ([([100,97,109,97,103,101]:List UInt8),([100,101,115,116,114,111,121]:List UInt8),([109,111,118,101]:List UInt8),([100,114,97,119]:List UInt8),([100,105,115,99,97,114,100]:List UInt8),([103,97,105,110]:List UInt8),([108,111,115,101]:List UInt8),([116,97,112]:List UInt8),([117,110,116,97,112]:List UInt8),([112,117,116]:List UInt8),([116,97,107,101]:List UInt8),([99,114,101,97,116,101]:List UInt8),([109,111,100]:List UInt8),([109,97,110,97]:List UInt8),([99,111,117,110,116,101,114]:List UInt8),([99,111,112,121]:List UInt8),([98,101,99,111,109,101]:List UInt8),([115,97,99,114,105,102,105,99,101]:List UInt8),([109,105,108,108]:List UInt8),([115,99,114,121]:List UInt8),([115,101,97,114,99,104]:List UInt8),([115,104,105,101,108,100]:List UInt8),([116,117,114,110]:List UInt8),([119,105,110]:List UInt8),([100,101,102,101,97,116]:List UInt8),([118,101,110,111,109]:List UInt8)]:List (List UInt8)):=⟨by simp only[bw,bT];omega,mem_cons' bc (mem_cons' bc (mem_cons' bc (mem_cons' bc (mem_cons' bc (mem_cons' bc (mem_cons' bc (mem_cons' bc (mem_cons' bc (mem_cons' bc (mem_cons' bc (mem_cons' bc (mem_cons' bc (mem_cons' bc (mem_cons' bc (mem_cons' bc (mem_cons' bc (mem_cons' bc (mem_cons' bc (mem_cons' bc (mem_cons' bc (mem_cons' bc (mem_cons' bc (mem_cons' bc (mem_cons' bc (mem_cons' bc (λ_ h=>by cases h))))))))))))))))))))))))))⟩;have lq1:([([100,97,109,97,103,101]:List UInt8),([100,101,115,116,114,111,121]:List UInt8),([109,111,118,101]:List UInt8),([100,114,97,119]:List UInt8),([100,105,115,99,97,114,100]:List UInt8),([103,97,105,110]:List UInt8),([108,111,115,101]:List UInt8),([116,97,112]:List UInt8),([117,110,116,97,112]:List UInt8),([112,117,116]:List UInt8),([116,97,107,101]:List UInt8),([99,114,101,97,116,101]:List UInt8),([109,111,100]:List UInt8),([109,97,110,97]:List UInt8),([99,111,117,110,116,101,114]:List UInt8),([99,111,112,121]:List UInt8),([98,101,99,111,109,101]:List UInt8),([115,97,99,114,105,102,105,99,101]:List UInt8),([109,105,108,108]:List UInt8),([115,99,114,121]:List UInt8),([115,101,97,114,99,104]:List UInt8),([115,104,105,101,108,100]:List UInt8),([116,117,114,110]:List UInt8),([119,105,110]:List UInt8),([100,101,102,101,97,116]:List UInt8),([118,101,110,111,109]:List UInt8)]:List (List UInt8)).length=26:=rfl;have q2:=wr (a0-1);refine Tot.ix λx1 h3=>?_;have oh3:SzN x1:=q1.2 x1 h3.1;exact tR oh3
def Z4a:nC->Prop
 |.L0 v3 v4=>True
 |.L1 v3 v14=>True
def Z8s:nC->M6
 |.L0 v3 v4=>(0,0,0,0,0,0)
 |.L1 v3 v14=>(0,0,0,0,0,0)
def CJ{v3:Int}{v14:Bool}(h:True):Tot (pW v3 v14).den (Nx Z4a Z8s (0,0,0,0,0,0) (λr=>(SzN r))):=by
 dsimp only[pW,LT.den];apply tF<;>intro h1
 .exact df
 apply tE<;>intro h2
 .exact df
 apply tE<;>intro h3
 .exact df
 apply tE<;>intro h4
 .exact df
 apply tE<;>intro h5
 .exact df
 apply tE<;>intro h6
 .exact df
 apply tE<;>intro h7
 .exact df
 apply tE<;>intro h8
 .exact tR (SzN.nil)
 apply tE<;>intro h9
 .exact tR (SzN.nil)
 exact df
def Z61{v3:Int}{v4:Bool}(h:True):Tot (jA v3 v4).den (Nx Z4a Z8s (0,0,0,0,0,0) (λr=>(SzN r))):=by
 dsimp only[jA,LT.den];apply tF<;>intro h1
 .exact df
 apply tE<;>intro h2
 .exact df
 apply tE<;>intro h3
 .exact tJ (CJ trivial)
 exact tJ (CJ trivial)
def Zgr{a0:Int}:Tot (GV a0) (λr=>(SzN r)):=by
 apply Tot.rn Z4a Z8s
 .dsimp only[GT,LT.den];apply tE<;>intro h1
  .exact mD
  apply tE<;>intro h2
  .exact mD
  apply tE<;>intro h3
  .exact mD
  apply tE<;>intro h4
  .exact mD
  apply tE<;>intro h5
  .exact mD
  apply tE<;>intro h6
  .exact mD
  exact mD
 intro s hs;cases s with
 |L0 _ _=>exact Z61 hs
 |L1 _ _=>exact CJ hs
def Zgs:pX->Prop
 |.L0 v1 v5 v6=>(SzT v5)/\(0<=v6)
def Z8t:pX->M6
 |.L0 v1 v5 v6=>(1,((v5.length:Int)-v6).toNat,1000000,0,0,0)
def lg{a0:Int}{a1:Int}:Tot (GY a0 a1) (λr=>True):=by
 apply Tot.rn Zgs Z8t
 .dsimp only[GX,LT.den];exact tB (Zgr) λx1 h1=>tL ⟨SzN.t h1,cl⟩ Su
 rintro⟨v1,v5,v6⟩ ⟨ov5,cv6⟩;have lb_v5:v5.length<=562949953421312:=ov5;dsimp only[yR,GW,LT.den];apply tD<;>intro h1
 .refine Tot.ix λx1 h2=>?_;apply tE<;>intro h3
  .exact tR ab
  have q1:=wr (v6+1);exact tL ⟨ov5,cl⟩ Su
 exact tR ab
def Zgt{a0:Int}:Tot (GZ a0) (λr=>True):=by apply tZ;dsimp only[Z9n,LT.den];exact PD
def sJ:nD->Prop
 |.L0 v1 E0=>(sF E0)/\True
 |.L1 E0=>(sF E0)/\True
def CK:nD->M6
 |.L0 v1 E0=>(0,0,0,0,0,0)
 |.L1 E0=>(0,0,0,0,0,0)
def Z04{E0:gf}(h:sJ (.L1 E0)):Tot (pY E0).den (Nx sJ CK (0,0,0,0,0,0) (λr=>True)):=by
 obtain⟨O0,_⟩:=h;dsimp only[pY,LT.den];apply tE<;>intro h1
 .exact tB (kj O0) λx1 h2=>tR trivial
 exact tR ab
def Z05{v1:Int}{E0:gf}(h:sJ (.L0 v1 E0)):Tot (pZ v1 E0).den (Nx sJ CK (0,0,0,0,0,0) (λr=>True)):=by
 obtain⟨O0,_⟩:=h;dsimp only[pZ,LT.den];apply tD<;>intro h1
 .exact tR ab
 apply tD<;>intro h2
 .exact tR ab
 refine tB (Zgt) λx1 h3=>?_;apply tF<;>intro h4
 .apply tD<;>intro h5
  .exact tR ab
  apply tD<;>intro h6
  .exact tR ab
  exact tJ (Z04 ⟨O0,ab⟩)
 apply tN<;>intro h5
 .exact tR ab
 exact tJ (Z04 ⟨O0,ab⟩)
def Zgu{a0:gf}{a1:Int}(oa0:sF a0):Tot (G2 a0 a1) (λr=>True):=by
 apply Tot.rn sJ CK
 .dsimp only[G0,LT.den];apply tD<;>intro h1
  .exact tJ (Z05 ⟨oa0,ab⟩)
  exact tJ (Z05 ⟨oa0,ab⟩)
 intro s hs;cases s with
 |L0 _ _=>exact Z05 hs
 |L1 _=>exact Z04 hs
def Sv{a0:Int}:Tot (G5 a0) (λr=>(SzT r)/\(r=[]↔¬(0<=a0/\a0<=2))):=by
 apply tZ;dsimp only[G3,LT.den];apply tE<;>intro h1
 .exact Cc
 apply tE<;>intro h2
 .exact Cc
 apply tE<;>intro h3
 .exact Cc
 exact tR ⟨SzT.nil,tk52⟩
def Zgv{a0:ec}(oa0:Z0v a0):Tot (G9 a0) (λr=>(r=amV a0)):=by
 apply tZ;dsimp only[G7,LT.den];apply tE<;>intro h1
 .apply tD<;>intro h2
  .exact gv
  apply tD<;>intro h3
  .exact gv
  exact QY
 apply tE<;>intro h2
 .apply tD<;>intro h3
  .exact gv
  apply tD<;>intro h4
  .exact gv
  refine tB (kj oa0) λx1 h5=>?_;have eh5_0:=h5.1;have eh5_1:=h5.2;apply tO<;>intro h6
  .exact gv
  have h6_0:=eh5_0 h6;apply tD<;>intro h7
  .apply tD<;>intro h8
   .exact gv
   exact gv
  exact gv
 apply tE<;>intro h3
 .refine tB (Sv) λx1 h4=>?_;have eh4_1:=h4.2;apply tF<;>intro h5
  .exact gv
  apply tD<;>intro h6
  .apply tD<;>intro h7
   .exact gv
   exact gv
  exact gv
 exact QY
def Zgw{a0:List af}(oa0:(SzL 176 bC) a0):Tot (Hc a0) (λr=>True):=by apply tZ;dsimp only[Ha,LT.den];exact tB (CH oa0) λx1 h1=>tR trivial
def Zgx:p3->Prop
 |.L0 E0 E1 E2 v4=>(0<=v4)/\True
def Z8u:p3->M6
 |.L0 E0 E1 E2 v4=>(1,(5-v4).toNat,1000000,0,0,0)
def Zgy{a0:A6 Int}:Tot (Hf a0) (λr=>True):=by
 apply Tot.rn Zgx Z8u
 .dsimp only[He,LT.den];exact tB (tI O (by have e:(A6.list a0).length=6:=rfl;omega)) λx1 h1=>tL ⟨cl,ab⟩ Sw
 rintro⟨E0,E1,E2,v4⟩ ⟨cv4,_⟩;dsimp only[yS,Hd,LT.den];apply tD<;>intro h1
 .have q1:=wr (v4+1);exact tB (tI O Cw) λx1 h2=>tB (tI O (by have e:(A5.list E2.Color).length=5:=rfl;omega)) λx2 h3=>tB (Tot.setA5 O O) λx3 h4=>tL ⟨cl,ab⟩ Sw
 exact tR ab
def Zgz:lO->Prop
 |.L0 E0 v3 v4=>(0<=v4)/\(E0.X<=2)/\(∀n,n∈A5.list E0.Color->n<=9)/\(v3.length<=v4.toNat)/\(v4<=2)
 |.L1 E0 v3 v5=>(0<=v5)/\(v3.length<=200+200*v5.toNat)/\(∀n,n∈A5.list E0.Color->n<=9)/\(v5<=5)
 |.L2 E0 v3 v5 v6=>(0<=v5)/\(0<=v6)/\(v5<5)/\(v3.length<=200+200*v5.toNat+v6.toNat)/\(∀n,n∈A5.list E0.Color->n<=9)/\(v5<5)/\(v6<=9)
def Z8v:lO->M6
 |.L0 E0 v3 v4=>(3,(E0.X-v4).toNat,1000000,0,0,0)
 |.L1 E0 v3 v5=>(1,(5-v5).toNat,1000000,0,0,0)
 |.L2 E0 v3 v5 v6=>(1,(5-v5).toNat,1,(9-v6).toNat,1000000,0)
def ZgA{a0:aK}:Tot (Hk a0) (λr=>(SzT r)):=by
 apply Tot.rn Zgz Z8v
 .dsimp only[Hj,LT.den];refine tB (Z19 a0) λx1 h1=>?_;have eh1_0:=h1.1;have eh1_1:=h1.2.1;apply tO<;>intro h2
  .exact tR (SzT.nil)
  have h2_0:=eh1_0 h2;have h2_1:=eh1_1 h2;exact oJ
 intro s hs;cases s with
 |L0 E0 v3 v4=>
  obtain⟨cv4,i0,i1,i2,i3⟩:=hs;dsimp only[p4,Hg,LT.den];apply tD<;>intro h1
  .refine tB (tK ca) λx1 h2=>?_;have q1:=wr (v4+1);exact oJ
  apply tN<;>intro h2
  .refine tB (oQ) λx1 h3=>?_;have q1:x1.length<=100:=h3;exact tB (tK ca) λx2 h4=>tL ⟨cl,cs⟩ PE
  exact oJ
 |L1 E0 v3 v5=>
  obtain⟨cv5,i0,i1,i2⟩:=hs;dsimp only[p4,Hh,LT.den];apply tD<;>intro h1
  .exact oJ
  exact QW
 |L2 E0 v3 v5 v6=>
  obtain⟨cv5,cv6,bd2,i0,i1,i2,i3⟩:=hs;dsimp only[p4,Hi,LT.den];refine tB (tI O J6) λx1 h1=>?_;have ph1:=i1 x1 h1.1;apply tD<;>intro h2
  .have q1:=wr (v5+1);refine tB (Tot.slice O O (by first|omega|(simp only[bw,bT];omega))) λx2 h3=>tB (tK ca) λx3 h4=>?_;have q2:=wr (v6+1);exact oJ
  have q1:=wr (v5+1);exact oJ
def ZgB{a0:A6 Int}:Tot (Hl a0) (λr=>(SzT r)):=by apply tZ;dsimp only[Z9p,LT.den];exact tB (Zgy) λx1 h1=>tB (ZgA) λx2 h2=>tR h2
def ZgC{a0:Int}{a1:al}(oa1:da a1):Tot (Ho a0 a1) (λr=>True):=by
 apply tZ;dsimp only[Hm,LT.den];apply tE<;>intro h1
 .exact QB
 exact QB
def jg:iB->Prop
 |.L0 E0 v5=>(cP E0)/\True
 |.L1 E0 v5 v6=>(cP E0)/\True
 |.L2 E0 v5 v6 v7=>(cP E0)/\True
 |.L3 E0 v5 v6 v7 v8=>(cP E0)/\True
 |.L4 E0 v5 v6 v7 v8 v9=>(cP E0)/\True
 |.L5 E0 v5 v6 v7 v8 v9 v10=>(cP E0)/\True
 |.L6 E0 v5 v6 v7 v8 v9 v10 v11=>(cP E0)/\True
 |.L7 v5 v6 v7 v8 v9 v10 v11 v12=>True
def ko:iB->M6
 |.L0 E0 v5=>(0,0,0,0,0,0)
 |.L1 E0 v5 v6=>(0,0,0,0,0,0)
 |.L2 E0 v5 v6 v7=>(0,0,0,0,0,0)
 |.L3 E0 v5 v6 v7 v8=>(0,0,0,0,0,0)
 |.L4 E0 v5 v6 v7 v8 v9=>(0,0,0,0,0,0)
 |.L5 E0 v5 v6 v7 v8 v9 v10=>(0,0,0,0,0,0)
 |.L6 E0 v5 v6 v7 v8 v9 v10 v11=>(0,0,0,0,0,0)
 |.L7 v5 v6 v7 v8 v9 v10 v11 v12=>(0,0,0,0,0,0)
def Z06{v5:Bool}{v6:Bool}{v7:Bool}{v8:Bool}{v9:Bool}{v10:Bool}{v11:Bool}{v12:Bool}(h:True):Tot (p5 v5 v6 v7 v8 v9 v10 v11 v12).den (Nx jg ko (0,0,0,0,0,0) (λr=>True)):=by
 dsimp only[p5,LT.den];apply tF<;>intro h1
 .apply tF<;>intro h2
  .apply tF<;>intro h3
   .apply tF<;>intro h4
    .apply tF<;>intro h5
     .apply tF<;>intro h6
      .apply tF<;>intro h7
       .exact tR ab
       exact tR ab
      exact tR ab
     exact tR ab
    exact tR ab
   exact tR ab
  exact tR ab
 exact tR ab
def w6{E0:aZ}{v5:Bool}{v6:Bool}{v7:Bool}{v8:Bool}{v9:Bool}{v10:Bool}{v11:Bool}(h:(cP E0)/\True):Tot (nE E0 v5 v6 v7 v8 v9 v10 v11).den (Nx jg ko (0,0,0,0,0,0) (λr=>True)):=by
 obtain⟨O0,_⟩:=h;dsimp only[nE,LT.den];refine tB (lg) λx1 h1=>?_;apply tF<;>intro h2
 .exact tB (ZgC O0.2.2.2.1) λx2 h3=>tJ (Z06 trivial)
 exact tJ (Z06 trivial)
def Z07{E0:aZ}{v5:Bool}{v6:Bool}{v7:Bool}{v8:Bool}{v9:Bool}{v10:Bool}(h:(cP E0)/\True):Tot (p6 E0 v5 v6 v7 v8 v9 v10).den (Nx jg ko (0,0,0,0,0,0) (λr=>True)):=by
 obtain⟨O0,_⟩:=h;dsimp only[p6,LT.den];refine tB (lg) λx1 h1=>?_;apply tF<;>intro h2
 .apply tO<;>intro h3
  .exact tB (ZgB) λx2 h4=>tJ (w6 ⟨O0,ab⟩)
  exact tJ (w6 ⟨O0,ab⟩)
 exact tJ (w6 ⟨O0,ab⟩)
def Z08{E0:aZ}{v5:Bool}{v6:Bool}{v7:Bool}{v8:Bool}{v9:Bool}(h:(cP E0)/\True):Tot (p7 E0 v5 v6 v7 v8 v9).den (Nx jg ko (0,0,0,0,0,0) (λr=>True)):=by
 obtain⟨O0,_⟩:=h;dsimp only[p7,LT.den];refine tB (lg) λx1 h1=>?_;apply tF<;>intro h2
 .exact tB (Zgw O0.2.2.2.2) λx2 h3=>tJ (Z07 ⟨O0,ab⟩)
 exact tJ (Z07 ⟨O0,ab⟩)
def Z09{E0:aZ}{v5:Bool}{v6:Bool}{v7:Bool}{v8:Bool}(h:(cP E0)/\True):Tot (p8 E0 v5 v6 v7 v8).den (Nx jg ko (0,0,0,0,0,0) (λr=>True)):=by
 obtain⟨O0,_⟩:=h;dsimp only[p8,LT.den];refine tB (lg) λx1 h1=>?_;apply tF<;>intro h2
 .exact tB (Zgv O0.2.1) λx2 h3=>tJ (Z08 ⟨O0,ab⟩)
 exact tJ (Z08 ⟨O0,ab⟩)
def w7{E0:aZ}{v5:Bool}{v6:Bool}{v7:Bool}(h:(cP E0)/\True):Tot (nF E0 v5 v6 v7).den (Nx jg ko (0,0,0,0,0,0) (λr=>True)):=by
 obtain⟨O0,_⟩:=h;dsimp only[nF,LT.den];refine tB (lg) λx1 h1=>?_;apply tF<;>intro h2
 .exact tB (R9 (SzS.t O0.2.2.1)) λx2 h3=>tJ (Z09 ⟨O0,ab⟩)
 exact tJ (Z09 ⟨O0,ab⟩)
def Pr{E0:aZ}{v5:Bool}{v6:Bool}(h:jg (.L1 E0 v5 v6)):Tot (lP E0 v5 v6).den (Nx jg ko (0,0,0,0,0,0) (λr=>True)):=by
 obtain⟨O0,_⟩:=h;dsimp only[lP,LT.den];apply tE<;>intro h1
 .exact tJ (w7 ⟨O0,ab⟩)
 refine tB (lg) λx1 h2=>?_;apply tF<;>intro h3
 .exact tB (Sv) λx2 h4=>tJ (w7 ⟨O0,ab⟩)
 exact tJ (w7 ⟨O0,ab⟩)
def Z1a{E0:aZ}{v5:Bool}(h:jg (.L0 E0 v5)):Tot (p9 E0 v5).den (Nx jg ko (0,0,0,0,0,0) (λr=>True)):=by
 obtain⟨O0,_⟩:=h;dsimp only[p9,LT.den];apply tE<;>intro h1
 .exact wz
 refine tB (lg) λx1 h2=>?_;apply tF<;>intro h3
 .apply tD<;>intro h4
  .exact wz
  exact wz
 exact wz
def ZgD{a0:aZ}{a1:Int}(oa0:cP a0):Tot (Hr a0 a1) (λr=>True):=by
 apply Tot.rn jg ko
 .dsimp only[Hp,LT.den];refine tB (Zgq) λx1 h1=>?_;apply tF<;>intro h2
  .exact tR ab
  refine tB (lg) λx2 h3=>?_;apply tF<;>intro h4
  .exact tB (Zgu oa0.1) λx3 h5=>tJ (Z1a ⟨oa0,ab⟩)
  exact tJ (Z1a ⟨oa0,ab⟩)
 intro s hs;cases s with
 |L0 _ _=>exact Z1a hs
 |L1 _ _ _=>exact Pr hs
 |L2 _ _ _ _=>exact w7 hs
 |L3 _ _ _ _ _=>exact Z09 hs
 |L4 _ _ _ _ _ _=>exact Z08 hs
 |L5 _ _ _ _ _ _ _=>exact Z07 hs
 |L6 _ _ _ _ _ _ _ _=>exact w6 hs
 |L7 _ _ _ _ _ _ _ _=>exact Z06 hs
def ZgE:qa->Prop
 |.L0 v0 v1 v5=>((SzL 560 cP) v0)/\(0<=v5)
def Sx:qa->M6
 |.L0 v0 v1 v5=>(1,((v0.length:Int)-v5).toNat,1000000,0,0,0)
def ZgF{a0:List aZ}{a1:Int}(oa0:(SzL 560 cP) a0):Tot (Ht a0 a1) (λr=>True):=by
 apply Tot.rn ZgE Sx
 .dsimp only[Hs,LT.den];exact tL ⟨oa0,cl⟩ Sy
 rintro⟨v0,v1,v5⟩ ⟨ov0,cv5⟩;have lb_v0:=ov0.1;dsimp only[yU,Z9r,LT.den];apply tD<;>intro h1
 .refine Tot.ix λx1 h2=>?_;have oh2:cP x1:=ov0.2 x1 h2.1;refine tB (ZgD oh2) λx2 h3=>?_;apply tO<;>intro h4
  .exact tR ab
  have q1:=wr (v5+1);exact tL ⟨ov0,cl⟩ Sy
 apply tD<;>intro h2
 .exact tR ab
 exact tR ab
def jh:jX->Prop
 |.L0 E0 v3=>(cz E0)/\True
 |.L1 E0 v3=>(cz E0)/\True
 |.L2 E0 v3=>(cz E0)/\True
 |.L3 E0 v3=>(cz E0)/\True
 |.L4 E0 v3=>(cz E0)/\True
def oS:jX->M6
 |.L0 E0 v3=>(0,0,0,0,0,0)
 |.L1 E0 v3=>(0,0,0,0,0,0)
 |.L2 E0 v3=>(0,0,0,0,0,0)
 |.L3 E0 v3=>(0,0,0,0,0,0)
 |.L4 E0 v3=>(0,0,0,0,0,0)
def Z1b{E0:ar}{v3:Bool}(h:jh (.L4 E0 v3)):Tot (qb E0 v3).den (Nx jh oS (0,0,0,0,0,0) (λr=>True)):=by
 obtain⟨O0,_⟩:=h;dsimp only[qb,LT.den];apply tF<;>intro h1
 .refine tB (Zgp O0.2.2.2.1) λx1 h2=>?_;apply tF<;>intro h3
  .exact tB (ZgF O0.2.2.2.2.1) λx2 h4=>tR trivial
  exact tR ab
 apply tE<;>intro h2
 .exact tR ab
 exact tR ab
def Z1c{E0:ar}{v3:Bool}(h:jh (.L3 E0 v3)):Tot (qc E0 v3).den (Nx jh oS (0,0,0,0,0,0) (λr=>True)):=by
 obtain⟨O0,_⟩:=h;dsimp only[qc,LT.den];apply tE<;>intro h1
 .refine tB (Zgm O0.2.2.2.2.2) λx1 h2=>?_;apply tO<;>intro h3
  .exact tR ab
  exact tJ (Z1b ⟨O0,ab⟩)
 apply tO<;>intro h2
 .exact tR ab
 exact tJ (Z1b ⟨O0,ab⟩)
def Z1d{E0:ar}{v3:Bool}(h:jh (.L2 E0 v3)):Tot (qd E0 v3).den (Nx jh oS (0,0,0,0,0,0) (λr=>True)):=by
 obtain⟨O0,_⟩:=h;dsimp only[qd,LT.den];apply tE<;>intro h1
 .refine tB (Zgj O0.2.2.1) λx1 h2=>?_;apply tO<;>intro h3
  .exact tR ab
  exact tJ (Z1c ⟨O0,ab⟩)
 apply tO<;>intro h2
 .exact tR ab
 apply tF<;>intro h3
 .exact tR ab
 exact tJ (Z1c ⟨O0,ab⟩)
def Z1e{E0:ar}{v3:Bool}(h:jh (.L1 E0 v3)):Tot (qe E0 v3).den (Nx jh oS (0,0,0,0,0,0) (λr=>True)):=by
 obtain⟨O0,_⟩:=h;dsimp only[qe,LT.den];apply tE<;>intro h1
 .refine tB (Zgh) λx1 h2=>?_;apply tO<;>intro h3
  .exact tR ab
  exact tJ (Z1d ⟨O0,ab⟩)
 apply tO<;>intro h2
 .exact tR ab
 apply tF<;>intro h3
 .exact tR ab
 exact tJ (Z1d ⟨O0,ab⟩)
def Pp{E0:ar}{v3:Bool}(h:jh (.L0 E0 v3)):Tot (nG E0 v3).den (Nx jh oS (0,0,0,0,0,0) (λr=>True)):=by
 obtain⟨O0,_⟩:=h;dsimp only[nG,LT.den];apply tE<;>intro h1
 .refine tB (kj O0.1) λx1 h2=>?_;have eh2_0:=h2.1;apply tO<;>intro h3
  .exact tR ab
  apply tN<;>intro h4
  .exact tR ab
  refine tB (CH O0.2.1) λx2 h5=>?_;apply tF<;>intro h6
  .exact tR ab
  exact tJ (Z1e ⟨O0,ab⟩)
 apply tO<;>intro h2
 .exact tR ab
 apply tD<;>intro h3
 .exact tR ab
 exact tJ (Z1e ⟨O0,ab⟩)
def Z2a{a0:ar}(oa0:cz a0):Tot (Hw a0) (λr=>True):=by
 apply Tot.rn jh oS
 .dsimp only[Hu,LT.den];apply tD<;>intro h1
  .exact tR ab
  apply tD<;>intro h2
  .exact tR ab
  apply tE<;>intro h3
  .exact BP
  apply tE<;>intro h4
  .exact BP
  exact BP
 intro s hs;cases s with
 |L0 _ _=>exact Pp hs
 |L1 _ _=>exact Z1e hs
 |L2 _ _=>exact Z1d hs
 |L3 _ _=>exact Z1c hs
 |L4 _ _=>exact Z1b hs
def ZgG{a0:an}(oa0:bR a0):Tot (Hz a0) (λr=>True):=by apply tZ;dsimp only[Hx,LT.den];exact PD
def CL(a0:an):nH->Prop
 |.L0 E0=>(E0=a0)/\(bR E0)/\(E0.Abilities.length<=8)/\(ic E0)
 |.L1 E0 v3 v4=>(E0=a0)/\(bR E0)/\(0<=v4)/\(E0.Abilities.length<=8)/\(ic E0)
def Z62:nH->M6
 |.L0 E0=>(2,0,0,0,0,0)
 |.L1 E0 v3 v4=>(1,((E0.Abilities.length:Int)-v4).toNat,1000000,0,0,0)
def P2{a0:an}{E0:an}(h:(CL a0) (.L0 E0)):Tot (qf E0).den (Nx (CL a0) Z62 (2,0,0,0,0,0) (λr=>(r=true->a0.Abilities.length<=8)/\(r=true->ic a0))):=by obtain⟨al0,O0,i0,i1⟩:=h;subst al0;dsimp only[qf,LT.den];exact B0
def ZgH{a0:an}(oa0:bR a0):Tot (HC a0) (λr=>(r=true->a0.Abilities.length<=8)/\(r=true->ic a0)):=by
 apply Tot.rn (CL a0) Z62
 .dsimp only[HB,LT.den];refine tB (R9 (SzS.t oa0.1)) λx1 h1=>?_;apply tO<;>intro h2
  .exact eM
  refine tB (Z19 a0.Cost) λx2 h3=>?_;have eh3_0:=h3.1;have eh3_1:=h3.2.1;apply tO<;>intro h4
  .exact eM
  refine tB (ZfU oa0.2.1) λx3 h5=>?_;have eh5_0:=h5;apply tO<;>intro h6
  .exact eM
  refine tB (Sc) λx4 h7=>?_;apply tO<;>intro h8
  .exact eM
  apply tD<;>intro h9
  .exact eM
  apply tD<;>intro h10
  .exact eM
  apply tD<;>intro h11
  .exact eM
  apply tD<;>intro h12
  .exact eM
  apply tD<;>intro h13
  .exact eM
  apply tD<;>intro h14
  .exact eM
  refine tB (ZfV oa0) λx5 h15=>?_;apply tO<;>intro h16
  .apply tN<;>intro h17
   .exact eM
   apply tN<;>intro h18
   .exact eM
   have q1:=oa0.2.2.1;apply tD<;>intro h19
   .exact eM
   exact P1
  have q1:=oa0.2.2.1;apply tD<;>intro h17
  .exact eM
  exact P1
 intro s hs;cases s with
 |L0 _=>exact P2 hs
 |L1 E0 v3 v4=>
  obtain⟨al0,O0,cv4,i0,i1⟩:=hs;subst al0;dsimp only[yV,HA,LT.den,Z62];apply tD<;>intro h1
  .refine Tot.ix λx1 h2=>?_;have oh2:cz x1:=O0.2.2.2 x1 h2.1;refine tB (Z2a oh2) λx2 h3=>?_;apply tO<;>intro h4
   .exact eM
   apply tE<;>intro h5
   .have q1:=wr (v3+1);have q2:=wr (v4+1);exact B0
   have q1:=wr (v4+1);exact B0
  refine tB (ZgG O0) λx1 h2=>?_;apply tF<;>intro h3
  .apply tO<;>intro h4
   .apply tE<;>intro h5
    .exact Q0
    exact eM
   exact eM
  apply tE<;>intro h4
  .apply tO<;>intro h5
   .exact Q0
   exact eM
  exact eM
def ZgI:qg->Prop
 |.L0 v0 v1 v5=>((SzL 176 bR) v0)/\(SzT v1)/\(0<=v5)
def Z8w:qg->M6
 |.L0 v0 v1 v5=>(1,((v0.length:Int)-v5).toNat,1000000,0,0,0)
def ZgJ{a0:List an}{a1:List UInt8}(oa0:(SzL 176 bR) a0)(oa1:SzT a1):Tot (HF a0 a1) (λr=>True):=by
 apply Tot.rn ZgI Z8w
 .dsimp only[HE,LT.den];exact tL ⟨oa0,oa1,cl⟩ Sz
 rintro⟨v0,v1,v5⟩ ⟨ov0,ov1,cv5⟩;have lb_v0:=ov0.1;dsimp only[yW,HD,LT.den];apply tD<;>intro h1
 .refine Tot.ix λx1 h2=>?_;apply tF<;>intro h3
  .exact tR ab
  have q1:=wr (v5+1);exact tL ⟨ov0,ov1,cl⟩ Sz
 exact tR ab
def ZgK:qh->Prop
 |.L0 v0 v1 v5=>((SzL 176 bR) v0)/\(SzT v1)/\(0<=v5)
def Z4b:qh->M6
 |.L0 v0 v1 v5=>(1,((v0.length:Int)-v5).toNat,1000000,0,0,0)
def ZgL{a0:List an}{a1:List UInt8}(oa0:(SzL 176 bR) a0)(oa1:SzT a1):Tot (HJ a0 a1) (λr=>True):=by
 apply Tot.rn ZgK Z4b
 .dsimp only[HH,LT.den];exact tL ⟨oa0,oa1,cl⟩ Qf
 rintro⟨v0,v1,v5⟩ ⟨ov0,ov1,cv5⟩;have lb_v0:=ov0.1;dsimp only[Z7t,HG,LT.den];apply tD<;>intro h1
 .refine Tot.ix λx1 h2=>?_;apply tF<;>intro h3
  .apply tF<;>intro h4
   .exact tR ab
   exact Qe
  exact Qe
 exact tR ab
def ZgM:nI->Prop
 |.L0 v0 E0 v5=>((SzL 176 bR) v0)/\(bR E0)/\(0<=v5)
 |.L1 v0 E0 v5 v6=>((SzL 176 bR) v0)/\(bR E0)/\(0<=v5)/\(0<=v6)/\(v5<(E0.Abilities.length:Int))/\(v5<(E0.Abilities.length:Int))
def R6:nI->M6
 |.L0 v0 E0 v5=>(1,((E0.Abilities.length:Int)-v5).toNat,1000000,0,0,0)
 |.L1 v0 E0 v5 v6=>(1,((E0.Abilities.length:Int)-v5).toNat,1,((((E0.Abilities[v5.toNat]?).map λx=>x.Effects.length).getD 0:Nat)-v6).toNat,1000000,0)
def ZgN{a0:List an}{a1:an}(oa0:(SzL 176 bR) a0)(oa1:bR a1):Tot (HL a0 a1) (λr=>True):=by
 apply Tot.rn ZgM R6
 .dsimp only[HK,LT.den];exact tL ⟨oa0,oa1,cl⟩ BX
 intro s hs;cases s with
 |L0 v0 E0 v5=>
  obtain⟨ov0,O0,cv5⟩:=hs;dsimp only[ux,Z9s,LT.den];apply tD<;>intro h1
  .exact PY
  exact tR ab
 |L1 v0 E0 v5 v6=>
  obtain⟨ov0,O0,cv5,cv6,bd4,i0⟩:=hs;dsimp only[ux,Z9t,LT.den];have lx_0:E0.Abilities.length*640<=140737488351232:=O0.2.2.1;refine Tot.ix λx1 h1=>?_;have oh1:cz x1:=O0.2.2.2 x1 h1.1;have mh1:((E0.Abilities[v5.toNat]?).map λx=>x.Effects.length).getD 0=x1.Effects.length:=by rw[h1.2];rfl
  have q1:=oh1.2.2.2.2.1.1;apply tD<;>intro h2
  .refine Tot.ix λx2 h3=>?_;have oh3:cP x2:=oh1.2.2.2.2.1.2 x2 h3.1;apply tE<;>intro h4
   .refine tB (ZgL ov0 (SzS.t oh3.2.2.1)) λx3 h5=>?_;apply tO<;>intro h6
    .exact tR ab
    exact Qk
   exact Qk
  have q2:=wr (v5+1);exact tL ⟨ov0,O0,cl⟩ BX
abbrev ZgO(a0:List an)(r:Int×Int):Prop:=(r.2=0->∀c,c∈a0->c.Abilities.length<=8)/\(r.2=0->∀c,c∈a0->ic c)
def ZgP(a0:List an):qi->Prop
 |.L0 v0 v4=>(v0=a0)/\((SzL 176 bR) v0)/\(0<=v4)/\(∀(k:Nat) c,(k:Int)<v4->v0[k]?=some c->c.Abilities.length<=8)/\(∀(k:Nat) x,(k:Int)<v4->v0[k]?=some x->ic x)
def Z4c:qi->M6
 |.L0 v0 v4=>(1,((v0.length:Int)-v4).toNat,1000000,0,0,0)
def ZgQ{a0:List an}(oa0:(SzL 176 bR) a0):Tot (HO a0) (ZgO a0):=by
 apply Tot.rn (ZgP a0) Z4c
 .dsimp only[HN,LT.den];apply tD<;>intro h1
  .exact sy
  exact tL ⟨rfl,oa0,cl,tk49,tk77⟩ SA
 rintro⟨v0,v4⟩ ⟨al0,ov0,cv4,i0,i1⟩;have lb_v0:=ov0.1;subst al0;dsimp only[Z7u,HM,LT.den];apply tD<;>intro h1
 .refine Tot.ix λx1 h2=>?_;have oh2:bR x1:=ov0.2 x1 h2.1;have mh2:=h2.2;refine tB (ZgH oh2) λx2 h3=>?_;have eh3_0:=h3.1;have eh3_1:=h3.2;apply tO<;>intro h4
  .exact sy
  have h4_0:=eh3_0 h4;refine tB (ZgJ ov0 (SzS.t oh2.1)) λx3 h5=>?_;apply tD<;>intro h6
  .exact sy
  refine tB (ZgN ov0 oh2) λx4 h7=>?_;apply tO<;>intro h8
  .exact sy
  have q1:=wr (v4+1);exact tL ⟨rfl,ov0,cl,tk49,tk77⟩ SA
 exact sy
def gS{a0:Int}{a1:Int}{a2:Int}:Tot (HR a0 a1 a2) (λr=>(r=true↔(a1<=a0/\a0<=a2))):=by
 apply tZ;dsimp only[HP,LT.den];apply tD<;>intro h1
 .exact tR aP
 exact tR aP
def ZgR:qj->Prop
 |.L0 E0 v3=>(0<=v3)/\True
def PP:qj->M6
 |.L0 E0 v3=>(1,(6-v3).toNat,1000000,0,0,0)
def ZgS{a0:A6 Int}:Tot (HU a0) (λr=>True):=by
 apply Tot.rn ZgR PP
 .dsimp only[HT,LT.den];exact PO
 rintro⟨E0,v3⟩ ⟨cv3,_⟩;dsimp only[Z7v,HS,LT.den];apply tD<;>intro h1
 .refine tB (tI O Cw) λx1 h2=>?_;apply tD<;>intro h3
  .exact tR ab
  refine tB (tI O Cw) λx2 h4=>?_;apply tD<;>intro h5
  .exact tR ab
  have q1:=wr (v3+1);exact PO
 exact tR ab
def ZgT(a0:ao)(a1:Int):qk->Prop
 |.L0 v1 E0 v5=>(E0=a0)/\(v1=a1)/\(Z8 E0)/\(0<=v5)/\(NoId E0.Objects v1 v5)
def Z4d:qk->M6
 |.L0 v1 E0 v5=>(1,((E0.Objects.length:Int)-v5).toNat,1000000,0,0,0)
def ZgU{a0:ao}{a1:Int}(oa0:Z8 a0):Tot (HX a0 a1) (λr=>(r<(a0.Objects.length:Int))/\(r=ixO a0.Objects a1)):=by
 apply Tot.rn (ZgT a0 a1) Z4d
 .dsimp only[HW,LT.den];exact tL ⟨rfl,rfl,oa0,cl,tk65⟩ SB
 rintro⟨v1,E0,v5⟩ ⟨al0,al1,O0,cv5,i0⟩;subst al0;subst al1;dsimp only[Z7w,HV,LT.den];have q1:=O0.2.1.1;apply tD<;>intro h1
 .refine Tot.ix λx1 h2=>?_;have mh2:=h2.2;apply tE<;>intro h3
  .exact QK
  have q2:=wr (v5+1);exact tL ⟨rfl,rfl,O0,cl,tk65⟩ SB
 exact QK
def ZgV{a0:ao}{a1:Int}(oa0:Z8 a0):Tot (H1 a0 a1) (λr=>(r=fdV a0.Objects a1)):=by
 apply tZ;dsimp only[HY,LT.den];refine tB (ZgU oa0) λx1 h1=>?_;have eh1_0:=h1.1;have eh1_1:=h1.2;apply tD<;>intro h2
 .exact Qo
 refine Tot.ix λx2 h3=>?_;have mh3:=h3.2;exact Qo
def SD{a0:ao}{a1:Int}(oa0:Z8 a0):Tot (H4 a0 a1) (λr=>True):=by apply tZ;dsimp only[H2,LT.den];exact tB (ZgV oa0) λx1 h1=>tR trivial
def ZgW:ql->Prop
 |.L0 v0 v1 v5 v6=>((SzL 8 (λ_=>True)) v0)/\(0<=v6)
def Z4e:ql->M6
 |.L0 v0 v1 v5 v6=>(1,((v0.length:Int)-v6).toNat,1000000,0,0,0)
def Z1f{a0:List Int}{a1:Int}(oa0:(SzL 8 (λ_=>True)) a0):Tot (H8 a0 a1) (λr=>True):=by
 apply Tot.rn ZgW Z4e
 .dsimp only[H7,LT.den];exact tL ⟨oa0,cl⟩ PI
 rintro⟨v0,v1,v5,v6⟩ ⟨ov0,cv6⟩;have lb_v0:=ov0.1;dsimp only[Z7x,H6,LT.den];apply tD<;>intro h1
 .refine Tot.ix λx1 h2=>?_;apply tE<;>intro h3
  .have q1:=wr (v5+1);have q2:=wr (v6+1);exact PH
  have q1:=wr (v6+1);exact PH
 exact tR ab
def ZgX:qm->Prop
 |.L0 v1 v2 v3 E0 v9=>((SzL 8 (λ_=>True)) v1)/\(Z8 E0)/\(0<=v9)
def Z8x:qm->M6
 |.L0 v1 v2 v3 E0 v9=>(1,((v1.length:Int)-v9).toNat,1000000,0,0,0)
def sK{a0:ao}{a1:List Int}{a2:Int}{a3:Int}(oa0:Z8 a0)(oa1:(SzL 8 (λ_=>True)) a1):Tot (Ib a0 a1 a2 a3) (λr=>True):=by
 apply Tot.rn ZgX Z8x
 .dsimp only[Ia,LT.den];exact tL ⟨oa1,oa0,cl⟩ Qj
 rintro⟨v1,v2,v3,E0,v9⟩ ⟨ov1,O0,cv9⟩;have lb_v1:=ov1.1;dsimp only[yX,H9,LT.den];apply tD<;>intro h1
 .refine Tot.ix λx1 h2=>tB (SD O0) λx2 h3=>?_;apply tO<;>intro h4
  .exact tR ab
  apply tN<;>intro h5
  .exact tR ab
  apply tD<;>intro h6
  .apply tN<;>intro h7
   .exact tR ab
   refine tB (Z1f ov1) λx3 h8=>?_;apply tN<;>intro h9
   .exact tR ab
   exact Qi
  refine tB (Z1f ov1) λx3 h7=>?_;apply tN<;>intro h8
  .exact tR ab
  exact Qi
 exact tR ab
def ZgY:qo->Prop
 |.L0 E0 v3=>(Z8 E0)/\(0<=v3)
def SE:qo->M6
 |.L0 E0 v3=>(1,((E0.Players.length:Int)-v3).toNat,1000000,0,0,0)
def ZgZ{a0:ao}(oa0:Z8 a0):Tot (Ie a0) (λr=>True):=by
 apply Tot.rn ZgY SE
 .dsimp only[Ic,LT.den];have q1:=oa0.1.1;refine tB (gS) λx1 h1=>?_;apply tO<;>intro h2
  .exact tR ab
  exact tL ⟨oa0,cl⟩ SF
 rintro⟨E0,v3⟩ ⟨O0,cv3⟩;dsimp only[yY,Z9u,LT.den];have q1:=O0.1.1;apply tD<;>intro h1
 .refine Tot.ix λx1 h2=>?_;have oh2:oO x1:=O0.1.2 x1 h2.1;refine tB (gS) λx2 h3=>?_;apply tO<;>intro h4
  .exact tR ab
  refine tB (gS) λx3 h5=>?_;apply tO<;>intro h6
  .exact tR ab
  refine tB (gS) λx4 h7=>?_;apply tO<;>intro h8
  .exact tR ab
  refine tB (ZgS) λx5 h9=>?_;apply tO<;>intro h10
  .exact tR ab
  refine tB (sK O0 oh2.1) λx6 h11=>?_;apply tO<;>intro h12
  .exact tR ab
  refine tB (sK O0 oh2.2.1) λx7 h13=>?_;apply tO<;>intro h14
  .exact tR ab
  refine tB (sK O0 oh2.2.2) λx8 h15=>?_;apply tO<;>intro h16
  .exact tR ab
  have q2:=wr (v3+1);exact tL ⟨O0,cl⟩ SF
 refine tB (sK O0 O0.2.2.1) λx1 h2=>?_;apply tF<;>intro h3
 .exact tB (sK O0 O0.2.2.2.1) λx2 h4=>tR trivial
 exact tR ab
def mM{a0:ao}{a1:Int}(oa0:Z8 a0):Tot (Ih a0 a1) (λr=>(r=true↔(0<=a1/\a1<(a0.Players.length:Int)))):=by apply tZ;dsimp only[If,LT.den];have q1:=oa0.1.1;have q2:=wr ((a0.Players.length:Int)-1);exact tB (gS) λx1 h1=>tR aP
def Zg0:Z25->Prop
 |.L0 E0 v3=>(0<=v3)/\True
def PK:Z25->M6
 |.L0 E0 v3=>(1,(3-v3).toNat,1000000,0,0,0)
def Zg1{a0:A3 Int}:Tot (Ik a0) (λr=>True):=by
 apply Tot.rn Zg0 PK
 .dsimp only[Ij,LT.den];exact PJ
 rintro⟨E0,v3⟩ ⟨cv3,_⟩;dsimp only[yZ,Ii,LT.den];apply tD<;>intro h1
 .refine tB (tI O (by have e:(A3.list E0).length=3:=rfl;omega)) λx1 h2=>?_;apply tD<;>intro h3
  .exact tR ab
  refine tB (tI O (by have e:(A3.list E0).length=3:=rfl;omega)) λx2 h4=>?_;apply tD<;>intro h5
  .exact tR ab
  have q1:=wr (v3+1);exact PJ
 exact tR ab
def Zg2{a0:aj}:Tot (Io a0) (λr=>True):=by apply tZ;dsimp only[Il,LT.den];exact tR ab
def Zg3{a0:aj}:Tot (Ir a0) (λr=>True):=by apply tZ;dsimp only[Ip,LT.den];exact tR ab
def Zg4{a0:aj}{a1:Int}{a2:Int}:Tot (Iu a0 a1 a2) (λr=>(r=true->1<=a0.Id)):=by
 apply tZ;dsimp only[Is,LT.den];apply tD<;>intro h1
 .exact bP
 apply tD<;>intro h2
 .exact bP
 apply tD<;>intro h3
 .exact bP
 apply tD<;>intro h4
 .exact bP
 apply tD<;>intro h5
 .exact bP
 apply tD<;>intro h6
 .exact bP
 apply tD<;>intro h7
 .exact bP
 apply tD<;>intro h8
 .exact bP
 apply tD<;>intro h9
 .exact bP
 apply tD<;>intro h10
 .exact bP
 apply tD<;>intro h11
 .exact bP
 apply tD<;>intro h12
 .exact bP
 apply tD<;>intro h13
 .exact bP
 apply tD<;>intro h14
 .exact bP
 apply tD<;>intro h15
 .exact bP
 apply tD<;>intro h16
 .exact bP
 apply tD<;>intro h17
 .exact bP
 refine tB (Zg1) λx1 h18=>?_;apply tO<;>intro h19
 .exact bP
 apply tD<;>intro h20
 .exact bP
 apply tD<;>intro h21
 .exact bP
 apply tD<;>intro h22
 .exact bP
 apply tD<;>intro h23
 .exact bP
 apply tE<;>intro h24
 .exact wD
 refine tB (Zg2) λx2 h25=>?_;apply tF<;>intro h26
 .refine tB (Zg3) λx3 h27=>?_;apply tF<;>intro h28
  .apply tO<;>intro h29
   .apply tO<;>intro h30
    .exact wD
    exact bP
   exact bP
  exact bP
 exact bP
def Zg5:qp->Prop
 |.L0 v1 E0 v5 v6=>(Z8 E0)/\(0<=v6)
def Z1g:qp->M6
 |.L0 v1 E0 v5 v6=>(1,((E0.Stack.length:Int)-v6).toNat,1000000,0,0,0)
def Zg6{a0:ao}{a1:Int}(oa0:Z8 a0):Tot (Ix a0 a1) (λr=>True):=by
 apply Tot.rn Zg5 Z1g
 .dsimp only[Iw,LT.den];exact tL ⟨oa0,cl⟩ PU
 rintro⟨v1,E0,v5,v6⟩ ⟨O0,cv6⟩;dsimp only[Z26,Iv,LT.den];have q1:=O0.2.2.2.2.1.1;apply tD<;>intro h1
 .refine Tot.ix λx1 h2=>?_;apply tE<;>intro h3
  .apply tE<;>intro h4
   .have q2:=wr (v5+1);have q3:=wr (v6+1);exact PT
   exact Qh
  exact Qh
 exact tR ab
def sL{a0:List Int}(oa0:(SzL 8 (λ_=>True)) a0):Tot (IA a0) (λr=>((SzL 8 (λ_=>True)) r)):=by
 apply tZ;have lb_a0:=oa0.1;dsimp only[Iy,LT.den];refine Tot.ap λx1 h1=>?_;have lh1:x1.length=([]:List Int).length+a0.length:=by rw[h1,bk]
 try simp only[bw,bT,aM]at lh1
 exact tR SzL.tr
def Zg7{a0:ao}{a1:Int}{a2:Int}(oa0:Z8 a0):Tot (za a0 a1 a2) (λr=>((SzL 8 (λ_=>True)) r)):=by
 apply tZ;dsimp only[IB,LT.den];apply tE<;>intro h1
 .exact tB (sL oa0.2.2.1) λx1 h2=>tR h2
 apply tE<;>intro h2
 .exact tB (sL oa0.2.2.2.1) λx1 h3=>tR h3
 apply tD<;>intro h3
 .exact tR SzL.nil
 apply tD<;>intro h4
 .exact tR SzL.nil
 apply tE<;>intro h5
 .refine Tot.ix λx1 h6=>?_;have oh6:oO x1:=oa0.1.2 x1 h6.1;exact tB (sL oh6.2.1) λx2 h7=>tR h7
 apply tE<;>intro h6
 .refine Tot.ix λx1 h7=>?_;have oh7:oO x1:=oa0.1.2 x1 h7.1;exact tB (sL oh7.1) λx2 h8=>tR h8
 apply tE<;>intro h7
 .refine Tot.ix λx1 h8=>?_;have oh8:oO x1:=oa0.1.2 x1 h8.1;exact tB (sL oh8.2.2) λx2 h9=>tR h9
 exact tR SzL.nil
def SG{a0:ao}{a1:aj}(oa0:Z8 a0):Tot (IF a0 a1) (λr=>True):=by
 apply tZ;dsimp only[ID,LT.den];apply tE<;>intro h1
 .exact tB (Zg6 oa0) λx1 h2=>tR trivial
 exact tB (Zg7 oa0) λx1 h2=>tB (Z1f h2) λx2 h3=>tR trivial
def Zg8(a0:List an)(a1:ao):qt->Prop
 |.L0 v0 E0 v5=>(v0=a0)/\(E0=a1)/\((SzL 176 bR) v0)/\(Z8 E0)/\(0<=v5)/\(Cons E0.Objects v5)
def SH:qt->M6
 |.L0 v0 E0 v5=>(1,((E0.Objects.length:Int)-v5).toNat,1000000,0,0,0)
def w8{a0:List an}{a1:ao}(oa0:(SzL 176 bR) a0)(oa1:Z8 a1):Tot (IJ a0 a1) (λr=>(r=true->Ids a1.Objects)/\(r=true->bU a1.Objects)):=by
 apply Tot.rn (Zg8 a0 a1) SH
 .dsimp only[II,LT.den];have q1:=oa1.2.1.1;apply tD<;>intro h1
  .exact Z6s
  exact tL ⟨rfl,rfl,oa0,oa1,cl,tk16⟩ Ra
 rintro⟨v0,E0,v5⟩ ⟨al0,al1,ov0,O0,cv5,i0⟩;subst al0;subst al1;dsimp only[zd,Z9v,LT.den];have q1:=O0.2.1.1;apply tD<;>intro h1
 .refine Tot.ix λx1 h2=>?_;have mh2:=h2.2;refine tB (Zg4) λx2 h3=>?_;have eh3_0:=h3;apply tO<;>intro h4
  .exact Z6s
  have h4_0:=eh3_0 h4;apply tD<;>intro h5
  .exact Z6s
  apply tD<;>intro h6
  .exact Z6s
  apply tD<;>intro h7
  .have q2:=wr (v5-1);refine Tot.ix λx3 h8=>?_;have mh8:=h8.2;apply tD<;>intro h9
   .exact Z6s
   refine tB (SG O0) λx4 h10=>?_;apply tO<;>intro h11
   .exact Z6s
   have q3:=wr (v5+1);exact Q9
  refine tB (SG O0) λx3 h8=>?_;apply tO<;>intro h9
  .exact Z6s
  have q2:=wr (v5+1);exact Q9
 exact Z6s
def Zg9:qu->Prop
 |.L0 v0 v1 v5=>((SzL 176 bC) v0)/\((SzL 176 bC) v1)/\(0<=v5)/\(v0.length=v1.length)
def SI:qu->M6
 |.L0 v0 v1 v5=>(1,((v0.length:Int)-v5).toNat,1000000,0,0,0)
def Z4f{a0:List af}{a1:List af}(oa0:(SzL 176 bC) a0)(oa1:(SzL 176 bC) a1):Tot (IK a0 a1) (λr=>True):=by
 apply Tot.rn Zg9 SI
 .dsimp only[Z9w,LT.den];apply tN<;>intro h1
  .exact tR ab
  exact tL ⟨oa0,oa1,cs⟩ SJ
 rintro⟨v0,v1,v5⟩ ⟨ov0,ov1,cv5,i0⟩;have lb_v0:=ov0.1;dsimp only[ze,Z5v,LT.den];apply tD<;>intro h1
 .refine Tot.ix λx1 h2=>Tot.ix λx2 h3=>?_;apply tO<;>intro h4
  .exact tR ab
  have q1:=wr (v5+1);exact tL ⟨ov0,ov1,cs⟩ SJ
 exact tR ab
def Zha{a0:aZ}{a1:aZ}(oa0:cP a0)(oa1:cP a1):Tot (IN a0 a1) (λr=>True):=by
 apply tZ;dsimp only[IL,LT.den];apply tE<;>intro h1
 .apply tF<;>intro h2
  .apply tF<;>intro h3
   .apply tE<;>intro h4
    .apply tE<;>intro h5
     .apply tF<;>intro h6
      .apply tF<;>intro h7
       .apply tF<;>intro h8
        .exact tB (Z4f oa0.2.2.2.2 oa1.2.2.2.2) λx1 h9=>tR trivial
        exact tR ab
       exact tR ab
      exact tR ab
     exact tR ab
    exact tR ab
   exact tR ab
  exact tR ab
 exact tR ab
def Zhb:qv->Prop
 |.L0 v0 v1 v5=>((SzL 560 cP) v0)/\((SzL 560 cP) v1)/\(0<=v5)/\(v0.length=v1.length)
def SK:qv->M6
 |.L0 v0 v1 v5=>(1,((v0.length:Int)-v5).toNat,1000000,0,0,0)
def Zhc{a0:List aZ}{a1:List aZ}(oa0:(SzL 560 cP) a0)(oa1:(SzL 560 cP) a1):Tot (IP a0 a1) (λr=>True):=by
 apply Tot.rn Zhb SK
 .dsimp only[Z9x,LT.den];apply tN<;>intro h1
  .exact tR ab
  exact tL ⟨oa0,oa1,cs⟩ SL
 rintro⟨v0,v1,v5⟩ ⟨ov0,ov1,cv5,i0⟩;have lb_v0:=ov0.1;dsimp only[zf,Z5x,LT.den];apply tD<;>intro h1
 .refine Tot.ix λx1 h2=>?_;have oh2:cP x1:=ov0.2 x1 h2.1;refine Tot.ix λx2 h3=>?_;have oh3:cP x2:=ov1.2 x2 h3.1;refine tB (Zha oh2 oh3) λx3 h4=>?_;apply tO<;>intro h5
  .exact tR ab
  have q1:=wr (v5+1);exact tL ⟨ov0,ov1,cs⟩ SL
 exact tR ab
def Zhd:qx->Prop
 |.L0 E0 E1 v5=>(cz E0)/\(cz E1)/\(0<=v5)/\(E0.Specs.length=E1.Specs.length)
def Z8y:qx->M6
 |.L0 E0 E1 v5=>(1,((E0.Specs.length:Int)-v5).toNat,1000000,0,0,0)
def Zhe{a0:ar}{a1:ar}(oa0:cz a0)(oa1:cz a1):Tot (IS a0 a1) (λr=>True):=by
 apply Tot.rn Zhd Z8y
 .dsimp only[IR,LT.den];have q1:=oa0.2.2.2.1.1;apply tN<;>intro h1
  .exact tR ab
  exact tL ⟨oa0,oa1,cs⟩ SM
 rintro⟨E0,E1,v5⟩ ⟨O0,O1,cv5,i0⟩;dsimp only[zg,IQ,LT.den];have q1:=O0.2.2.2.1.1;apply tD<;>intro h1
 .refine Tot.ix λx1 h2=>Tot.ix λx2 h3=>?_;apply tO<;>intro h4
  .exact tR ab
  have q2:=wr (v5+1);exact tL ⟨O0,O1,cs⟩ SM
 apply tE<;>intro h2
 .apply tF<;>intro h3
  .refine tB (Z4f O0.2.1 O1.2.1) λx1 h4=>?_;apply tF<;>intro h5
   .apply tF<;>intro h6
    .apply tF<;>intro h7
     .apply tF<;>intro h8
      .apply tF<;>intro h9
       .refine tB (Zhc O0.2.2.2.2.1 O1.2.2.2.2.1) λx2 h10=>?_;apply tF<;>intro h11
        .exact tR ab
        exact tR ab
       exact tR ab
      exact tR ab
     exact tR ab
    exact tR ab
   exact tR ab
  exact tR ab
 exact tR ab
def Zhf{a0:ao}{a1:gE}(oa0:Z8 a0)(oa1:wY a1):Tot (IV a0 a1) (λr=>True):=by
 apply tZ;dsimp only[IT,LT.den];have q1:=wr (a0.NextId-1);refine tB (gS) λx1 h1=>?_;apply tO<;>intro h2
 .exact tR ab
 refine tB (gS) λx2 h3=>?_;apply tO<;>intro h4
 .exact tR ab
 apply tD<;>intro h5
 .exact tR ab
 refine tB (mM oa0) λx3 h6=>?_;apply tO<;>intro h7
 .exact tR ab
 refine tB (SD oa0) λx4 h8=>?_;apply tE<;>intro h9
 .refine tB (Zhe oa1.1 ⟨SzS.nil,SzL.nil,SzS.nil,SzL.nil,SzL.nil,SzS.nil⟩) λx5 h10=>?_;apply tE<;>intro h11
  .apply tF<;>intro h12
   .apply tE<;>intro h13
    .apply tF<;>intro h14
     .exact tR ab
     exact tB (Z2a oa1.1) λx6 h15=>tR trivial
    exact tR ab
   exact tR ab
  exact tR ab
 apply tE<;>intro h10
 .apply tO<;>intro h11
  .exact tB (Z2a oa1.1) λx5 h12=>tR trivial
  exact tR ab
 exact tR ab
def Zhg:Z27->Prop
 |.L0 v0 v3=>((SzL 8 (λ_=>True)) v0)/\(0<=v3)/\(1<=v3)
def SN:Z27->M6
 |.L0 v0 v3=>(1,((v0.length:Int)-v3).toNat,1000000,0,0,0)
def Zhh{a0:List Int}(oa0:(SzL 8 (λ_=>True)) a0):Tot (IY a0) (λr=>True):=by
 apply Tot.rn Zhg SN
 .dsimp only[IX,LT.den];exact tL ⟨oa0,cs⟩ SO
 rintro⟨v0,v3⟩ ⟨ov0,cv3,i0⟩;have lb_v0:=ov0.1;dsimp only[zh,IW,LT.den];apply tD<;>intro h1
 .have q1:=wr (v3-1);refine Tot.ix λx1 h2=>Tot.ix λx2 h3=>?_;apply tD<;>intro h4
  .exact tR ab
  have q2:=wr (v3+1);exact tL ⟨ov0,cs⟩ SO
 exact tR ab
def Zhi(a0:ao):kJ->Prop
 |.L0 E0 v3=>(E0=a0)/\(Z8 E0)/\(0<=v3)/\(E0.Conts.length<=64)
 |.L1 E0 v3 v4=>(E0=a0)/\(Z8 E0)/\(0<=v4)/\(0<=v3)/\(v3<(E0.Stack.length:Int))/\(E0.Conts.length<=64)
 |.L2 E0 v5=>(E0=a0)/\(Z8 E0)/\(0<=v5)/\(E0.Conts.length<=64)
 |.L3 E0 v7=>(E0=a0)/\(Z8 E0)/\(0<=v7)/\(E0.Conts.length<=64)
def Z4g:kJ->M6
 |.L0 E0 v3=>(5,((E0.Stack.length:Int)-v3).toNat,1000000,0,0,0)
 |.L1 E0 v3 v4=>(5,((E0.Stack.length:Int)-v3).toNat,1,(v3-v4).toNat,1000000,0)
 |.L2 E0 v5=>(3,((E0.Waiting.length:Int)-v5).toNat,1000000,0,0,0)
 |.L3 E0 v7=>(1,((E0.Conts.length:Int)-v7).toNat,1000000,0,0,0)
def w9{a0:ao}(oa0:Z8 a0):Tot (I4 a0) (λr=>(r=true->a0.Conts.length<=64)):=by
 apply Tot.rn (Zhi a0) Z4g
 .dsimp only[I3,LT.den];have q1:=oa0.2.2.2.2.1.1;apply tD<;>intro h1
  .exact dQ
  apply tD<;>intro h2
  .exact dQ
  have q2:=oa0.2.2.2.2.2.2.1.1;apply tD<;>intro h3
  .exact dQ
  exact tL ⟨rfl,oa0,cs⟩ PX
 intro s hs;cases s with
 |L0 E0 v3=>
  obtain⟨al0,O0,cv3,i0⟩:=hs;subst al0;dsimp only[nJ,IZ,LT.den];have q1:=O0.2.2.2.2.1.1;apply tD<;>intro h1
  .refine Tot.ix λx1 h2=>?_;have oh2:wY x1:=O0.2.2.2.2.1.2 x1 h2.1;refine tB (Zhf O0 oh2) λx2 h3=>?_;apply tO<;>intro h4
   .exact dQ
   exact mF
  exact mF
 |L1 E0 v3 v4=>
  obtain⟨al0,O0,cv4,cv3,bd4,i0⟩:=hs;subst al0;dsimp only[nJ,I0,LT.den];have lx_0:E0.Stack.length*824<=140737488351232:=O0.2.2.2.2.1.1;apply tD<;>intro h1
  .refine Tot.ix λx1 h2=>Tot.ix λx2 h3=>?_;apply tE<;>intro h4
   .exact dQ
   have q1:=wr (v4+1);exact mF
  have q1:=wr (v3+1);exact mF
 |L2 E0 v5=>
  obtain⟨al0,O0,cv5,i0⟩:=hs;subst al0;dsimp only[nJ,I1,LT.den];have q1:=O0.2.2.2.2.2.1.1;apply tD<;>intro h1
  .refine Tot.ix λx1 h2=>?_;have oh2:CB x1:=O0.2.2.2.2.2.1.2 x1 h2.1;refine tB (mM O0) λx2 h3=>?_;apply tO<;>intro h4
   .exact dQ
   apply tN<;>intro h5
   .exact dQ
   refine tB (Z2a oh2) λx3 h6=>?_;apply tO<;>intro h7
   .exact dQ
   have q2:=wr (v5+1);exact mF
  exact mF
 |L3 E0 v7=>
  obtain⟨al0,O0,cv7,i0⟩:=hs;subst al0;dsimp only[nJ,I2,LT.den];have q1:=O0.2.2.2.2.2.2.1.1;apply tD<;>intro h1
  .refine Tot.ix λx1 h2=>?_;have oh2:n6 x1:=O0.2.2.2.2.2.2.1.2 x1 h2.1;refine tB (mM O0) λx2 h3=>?_;apply tO<;>intro h4
   .exact dQ
   apply tD<;>intro h5
   .exact dQ
   refine tB (gS) λx3 h6=>?_;apply tO<;>intro h7
   .exact dQ
   refine tB (Zhh oh2.1) λx4 h8=>?_;apply tO<;>intro h9
   .exact dQ
   refine tB (CH oh2.2) λx5 h10=>?_;apply tF<;>intro h11
   .exact dQ
   have q2:=wr (v7+1);exact mF
  exact dQ
abbrev Zhj(a0:List an)(a1:ao)(r:Bool):Prop:=(r=true->a1.Objects.length<=2048/\a1.Conts.length<=64)/\(r=true->bU a1.Objects)
def Zhk(a0:List an)(a1:ao):Z28->Prop
 |.L0 v0 E0 v5=>(v0=a0)/\(E0=a1)/\((SzL 176 bR) v0)/\(Z8 E0)/\(0<=v5)/\(E0.Objects.length<=2048)
def SP:Z28->M6
 |.L0 v0 E0 v5=>(1,((E0.Extra.length:Int)-v5).toNat,1000000,0,0,0)
def Zhl{a0:List an}{a1:ao}(oa0:(SzL 176 bR) a0)(oa1:Z8 a1):Tot (I7 a0 a1) (Zhj a0 a1):=by
 apply Tot.rn (Zhk a0 a1) SP
 .dsimp only[I6,LT.den];refine tB (gS) λx1 h1=>?_;apply tO<;>intro h2
  .exact ff
  refine tB (gS) λx2 h3=>?_;apply tO<;>intro h4
  .exact ff
  refine tB (gS) λx3 h5=>?_;apply tO<;>intro h6
  .exact ff
  refine tB (gS) λx4 h7=>?_;apply tO<;>intro h8
  .exact ff
  have q1:=oa1.2.1.1;apply tD<;>intro h9
  .exact ff
  refine tB (ZgZ oa1) λx5 h10=>?_;apply tO<;>intro h11
  .exact ff
  refine tB (mM oa1) λx6 h12=>?_;apply tO<;>intro h13
  .exact ff
  refine tB (mM oa1) λx7 h14=>?_;have eh14_0:=h14;apply tO<;>intro h15
  .exact ff
  refine tB (gS) λx8 h16=>?_;apply tO<;>intro h17
  .exact ff
  apply tD<;>intro h18
  .exact ff
  refine tB (gS) λx9 h19=>?_;apply tO<;>intro h20
  .exact ff
  exact tL ⟨rfl,rfl,oa0,oa1,cs⟩ SQ
 rintro⟨v0,E0,v5⟩ ⟨al0,al1,ov0,O0,cv5,i0⟩;subst al0;subst al1;dsimp only[zj,I5,LT.den];have q1:=O0.2.2.2.2.2.2.2.1;apply tD<;>intro h1
 .refine Tot.ix λx1 h2=>tB (mM O0) λx2 h3=>?_;apply tO<;>intro h4
  .exact ff
  have q2:=wr (v5+1);exact tL ⟨rfl,rfl,ov0,O0,cs⟩ SQ
 apply tE<;>intro h2
 .refine tB (mM O0) λx1 h3=>?_;apply tO<;>intro h4
  .exact ff
  apply tN<;>intro h5
  .apply tN<;>intro h6
   .exact ff
   refine tB (w8 ov0 O0) λx2 h7=>?_;have eh7_0:=h7.1;have eh7_1:=h7.2;apply tF<;>intro h8
   .have h8_1:=eh7_1 h8;exact tB (w9 O0) λx3 h9=>tR ⟨tk99,sx⟩
   exact ff
  refine tB (w8 ov0 O0) λx2 h6=>?_;have eh6_0:=h6.1;have eh6_1:=h6.2;apply tF<;>intro h7
  .have h7_1:=eh6_1 h7;exact tB (w9 O0) λx3 h8=>tR ⟨tk99,sx⟩
  exact ff
 apply tN<;>intro h3
 .apply tN<;>intro h4
  .exact ff
  refine tB (w8 ov0 O0) λx1 h5=>?_;have eh5_0:=h5.1;have eh5_1:=h5.2;apply tF<;>intro h6
  .have h6_1:=eh5_1 h6;exact tB (w9 O0) λx2 h7=>tR ⟨tk99,sx⟩
  exact ff
 refine tB (w8 ov0 O0) λx1 h4=>?_;have eh4_0:=h4.1;have eh4_1:=h4.2;apply tF<;>intro h5
 .have h5_1:=eh4_1 h5;exact tB (w9 O0) λx2 h6=>tR ⟨tk99,sx⟩
 exact ff
def ZbD{a0:List an}{a1:ao}(oa0:(SzL 176 bR) a0)(oa1:Z8 a1):Tot (Ja a0 a1) (λr=>(r=true->a1.Objects.length<=2048/\a1.Conts.length<=64/\∀c,c∈a0->c.Abilities.length<=8)/\(r=true->bU a1.Objects)/\(r=true->∀c,c∈a0->ic c)):=by
 apply tZ;dsimp only[I8,LT.den];refine tB (ZgQ oa0) λx1 h1=>?_;apply tE<;>intro h2
 .refine tB (Zhl oa0 oa1) λx2 h3=>?_;have eh3_1:=h3.2;exact QT
 exact QT
def Zhm(a0:aK):lR->Prop
 |.L0 E0 v6 v7=>(E0=a0)/\(0<=v7)/\(v6=E0.Color)/\(∀(k:Nat) x,(k:Int)<v7->(A5.list E0.Color)[k]?=some x->0<=x/\x<=9)
def QS:lR->M6
 |.L0 E0 v6 v7=>(1,(5-v7).toNat,1000000,0,0,0)
def Zhn{a0:aK}:Tot (uA a0) (λr=>(r=Z0p a0)):=by
 apply Tot.rn (Zhm a0) QS
 .dsimp only[zk,LT.den];exact QR
 rintro⟨E0,v6,v7⟩ ⟨al0,cv7,i0,i1⟩;subst al0;dsimp only[nL,nK,LT.den];apply tD<;>intro h1
 .refine tB (tI O (by have e:(A5.list v6).length=5:=rfl;omega)) λx1 h2=>?_;have mh2:=h2.2;rw[i0]at mh2;apply tD<;>intro h3
  .exact oK
  apply tD<;>intro h4
  .exact oK
  have q1:=wr (v7+1);exact QR
 apply tD<;>intro h2
 .apply tD<;>intro h3
  .apply tD<;>intro h4
   .exact oK
   exact oK
  exact oK
 exact oK
def Zho(a0:aK):qz->Prop
 |.L0 v3 v16 v17=>(0<=v17)/\(v17<=5)/\(v16=a0.Color)/\(Z0p a0=true)/\(v3=coP v16 v17)
def Q8:qz->M6
 |.L0 v3 v16 v17=>(1,(5-v17).toNat,1000000,0,0,0)
def Zhp{a0:aK}:Tot (Jf a0) (λr=>(r=coV a0)):=by
 apply Tot.rn (Zho a0) Q8
 .dsimp only[Je,LT.den];refine tB (Zhn) λx1 h1=>?_;apply tO<;>intro h2
  .exact B5
  apply tF<;>intro h3
  .exact B5
  exact Q5
 rintro⟨v3,v16,v17⟩ ⟨cv17,i0,i1,i2,i3⟩;dsimp only[zl,Z9y,LT.den];apply tD<;>intro h1
 .refine tB (tI O (by have e:(A5.list v16).length=5:=rfl;omega)) λx1 h2=>?_;have mh2:=h2.2;apply tD<;>intro h3
  .refine tB (tK Cu) λx2 h4=>?_;exact Rb
  exact Rb
 exact B5
def CM{a0:List (List UInt8)}(oa0:(SzL 16 SzT) a0):Tot (uC a0) (λr=>((SzL 16 SzT) r)/\(r=a0)):=by
 unfold uC;split
 .apply tZ;have lb_a0:=oa0.1;dsimp only[zm,LT.den];refine Tot.ap λx1 h1=>?_;have lh1:x1.length=([]:List (List UInt8)).length+a0.length:=by rw[h1,bk]
  try simp only[bw,bT,aM]at lh1
  exact tR ⟨SzL.app (k:=16) h1 lo (λ_ h=>by cases h) oa0.2,mH⟩
 apply tZ;dsimp only[uB,LT.den];exact mG
def oT{a0:List af}(oa0:(SzL 176 bC) a0):Tot (qA a0) (λr=>((SzL 176 bC) r)/\(r=a0)):=by
 unfold qA;split
 .apply tZ;have lb_a0:=oa0.1;dsimp only[zo,LT.den];refine Tot.ap λx1 h1=>?_;have lh1:x1.length=([]:List af).length+a0.length:=by rw[h1,bk]
  try simp only[bw,bT,aM]at lh1
  exact tR ⟨SzL.app (k:=176) h1 lo (λ_ h=>by cases h) oa0.2,mH⟩
 apply tZ;dsimp only[uD,LT.den];exact mG
def SR{a0:List ck}(oa0:(SzL 144 lf) a0):Tot (qC a0) (λr=>((SzL 144 lf) r)/\(r=a0)):=by
 unfold qC;split
 .apply tZ;have lb_a0:=oa0.1;dsimp only[zp,LT.den];refine Tot.ap λx1 h1=>?_;have lh1:x1.length=([]:List ck).length+a0.length:=by rw[h1,bk]
  try simp only[bw,bT,aM]at lh1
  exact tR ⟨SzL.app (k:=144) h1 lo (λ_ h=>by cases h) oa0.2,mH⟩
 apply tZ;dsimp only[uE,LT.den];exact mG
def SS{a0:List aZ}(oa0:(SzL 560 cP) a0):Tot (uG a0) (λr=>((SzL 560 cP) r)/\(r=a0)):=by
 unfold uG;split
 .apply tZ;have lb_a0:=oa0.1;dsimp only[zq,LT.den];refine Tot.ap λx1 h1=>?_;have lh1:x1.length=([]:List aZ).length+a0.length:=by rw[h1,bk]
  try simp only[bw,bT,aM]at lh1
  exact tR ⟨SzL.app (k:=560) h1 lo (λ_ h=>by cases h) oa0.2,mH⟩
 apply tZ;dsimp only[uF,LT.den];exact mG
def Zhq(a0:ar):qD->Prop
 |.L0 E0 E1 v18 v19=>(cz E0)/\(cz E1)/\(0<=v19)/\(v18=(a0.Effects.length:Int))/\(v18=(E0.Effects.length:Int))/\(E0=a0)
def SU:qD->M6
 |.L0 E0 E1 v18 v19=>(1,(v18-v19).toNat,1000000,0,0,0)
def Zhr{a0:ar}(oa0:cz a0):Tot (zt a0) (λr=>(cz r)/\(r=a0)):=by
 apply Tot.rn (Zhq a0) SU
 .dsimp only[Jk,LT.den];refine tB (oT oa0.2.1) λx1 h1=>?_;have eh1_1:=h1.2;refine tB (SR oa0.2.2.2.1) λx2 h2=>?_;have eh2_1:=h2.2;refine tB (SS oa0.2.2.2.2.1) λx3 h3=>?_;have eh3_1:=h3.2;exact tL ⟨⟨oa0.1,h1.1,oa0.2.2.1,h2.1,h3.1,oa0.2.2.2.2.2⟩,⟨SzS.nil,SzL.nil,SzS.nil,SzL.nil,SzL.nil,SzS.nil⟩,cl,bO,bO,tk71⟩ SV
 rintro⟨E0,E1,v18,v19⟩ ⟨O0,O1,cv19,i0,i1,i2⟩;dsimp only[zr,Jj,LT.den];have lq:=O0.2.2.2.2.1.1;apply tD<;>intro h1
 .refine Tot.ix λx1 h2=>?_;have oh2:cP x1:=O0.2.2.2.2.1.2 x1 h2.1;have mh2:=h2.2;refine tB (oT oh2.2.2.2.2) λx2 h3=>?_;have eh3_1:=h3.2;refine tB (Tot.set O O) λx3 h4=>?_;have vh4:=h4.2.2;have q1:=wr (v19+1);exact tL ⟨⟨O0.1,O0.2.1,O0.2.2.1,O0.2.2.2.1,⟨lo,λe he=>(h4.2.1 e he).elim (λw=>by rw[w];exact⟨oh2.1,oh2.2.1,oh2.2.2.1,oh2.2.2.2.1,h3.1⟩) (O0.2.2.2.2.1.2 e)⟩,O0.2.2.2.2.2⟩,O1,cl,bO,bO,tk71⟩ SV
 exact tR ⟨O0,V⟩
def Zhs(a0:an):qE->Prop
 |.L0 E0 E1 v32 v33 v34=>(Z0 E0)/\(Z0 E1)/\((SzL 640 cz) v32)/\(0<=v34)/\(v33=(v32.length:Int))/\(E1.Abilities.length<=v34.toNat)/\(v34<=v33)/\(v32=a0.Abilities)/\(E1={ prV a0 with Abilities:=a0.Abilities.take v34.toNat })
def SW:qE->M6
 |.L0 E0 E1 v32 v33 v34=>(1,(v33-v34).toNat,1000000,0,0,0)
def Zht{a0:an}(oa0:bR a0):Tot (Jl a0) (λr=>(Z0 r)/\(r=prV a0)):=by
 apply Tot.rn (Zhs a0) SW
 .dsimp only[Z9z,LT.den];refine tB (Zhp) λx1 h1=>tB (CM oa0.2.1) λx2 h2=>?_;have eh2_1:=h2.2;have q1:=oa0.2.2.1;exact tL ⟨⟨SzS.nil,SzL.nil,SzL.nil⟩,⟨oa0.1,h2.1,SzL.nil⟩,oa0.2.2,cl,cl,cl,cl,Z6,tk29⟩ SX
 rintro⟨E0,E1,v32,v33,v34⟩ ⟨O0,O1,ov32,cv34,i0,i1,i2,i3,i4⟩;have lb_v32:=ov32.1;dsimp only[zu,Z5y,LT.den];apply tD<;>intro h1
 .refine Tot.ix λx1 h2=>?_;have oh2:cz x1:=ov32.2 x1 h2.1;have mh2:=h2.2;refine tB (Zhr oh2) λx2 h3=>?_;have eh3_1:=h3.2;have q1:=O1.2.2.1;refine Tot.ap λx3 h4=>?_;have lh4:=b7 h4;have q2:=wr (v34+1);exact tL ⟨O0,⟨O1.1,O1.2.1,SzL.app (k:=640) h4 lo O1.2.2.2 (me1 h3.1)⟩,ov32,cl,cl,cl,cl,Z6,tk29⟩ SX
 exact tR ⟨O1,Kh⟩
def sM(a0:List an)(a1:aj):nM->Prop
 |.L0 v0 E0 E1 v5=>(v0=a0)/\(E0=a1)/\((SzL 176 bR) v0)/\(Z0 E1)/\(v5=if E0.Copy<0 then E0.Card else E0.Copy)
 |.L1 E0 E1 E2=>(E0=a1)/\(Z0 E1)/\(Z0 E2)/\(E2=fS a0 (if E0.Copy<0 then E0.Card else E0.Copy))
def CN:nM->M6
 |.L0 v0 E0 E1 v5=>(0,0,0,0,0,0)
 |.L1 E0 E1 E2=>(0,0,0,0,0,0)
def Cb{a0:List an}{a1:aj}{E0:aj}{E1:ae}{E2:ae}(h:(sM a0 a1) (.L1 E0 E1 E2)):Tot (nN E0 E1 E2).den (Nx (sM a0 a1) CN (0,0,0,0,0,0) (λr=>(Z0 r)/\(r=baV a0 a1))):=by
 obtain⟨al0,O1,O2,i0⟩:=h;subst al0;dsimp only[nN,LT.den];apply tE<;>intro h1
 .exact B2
 apply tE<;>intro h2
 .exact B2
 exact B2
def P5{a0:List an}{a1:aj}{v0:List an}{E0:aj}{E1:ae}{v5:Int}(h:(sM a0 a1) (.L0 v0 E0 E1 v5)):Tot (qF v0 E0 E1 v5).den (Nx (sM a0 a1) CN (0,0,0,0,0,0) (λr=>(Z0 r)/\(r=baV a0 a1))):=by
 obtain⟨al0,al1,ov0,O1,i0⟩:=h;subst al0;subst al1;dsimp only[qF,LT.den];apply tD<;>intro h1
 .apply tD<;>intro h2
  .refine Tot.ix λx1 h3=>?_;have oh3:bR x1:=ov0.2 x1 h3.1;have mh3:=h3.2;refine tB (Zht oh3) λx2 h4=>?_;have eh4_1:=h4.2;exact tJ (Cb ⟨rfl,O1,h4.1,tk42⟩)
  exact QX
 exact QX
def SY{a0:List an}{a1:aj}(oa0:(SzL 176 bR) a0):Tot (zv a0 a1) (λr=>(Z0 r)/\(r=baV a0 a1)):=by
 apply Tot.rn (sM a0 a1) CN
 .dsimp only[Jm,LT.den];apply tD<;>intro h1
  .exact P4
  exact P4
 intro s hs;cases s with
 |L0 _ _ _ _=>exact P5 hs
 |L1 _ _ _=>exact Cb hs
def Zhu{a0:List Int}(oa0:(SzL 8 (λ_=>True)) a0):Tot (qG a0) (λr=>((SzL 8 (λ_=>True)) r)/\(r=a0)):=by
 unfold qG;split
 .apply tZ;have lb_a0:=oa0.1;dsimp only[zw,LT.den];refine Tot.ap λx1 h1=>?_;have lh1:x1.length=([]:List Int).length+a0.length:=by rw[h1,bk]
  exact QM
 apply tZ;dsimp only[uH,LT.den];exact mG
end Go.PW
