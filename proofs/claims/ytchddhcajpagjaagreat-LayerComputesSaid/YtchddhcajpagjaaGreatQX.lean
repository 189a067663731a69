import Derived.Test.YtchddhcajpagjaaGreatQE
import Derived.Test.YtchddhcajpagjaaGreatPwYi
import Derived.Test.YtchddhcajpagjaaGreatQDc
import Derived.Test.YtchddhcajpagjaaGreatQU
set_option linter.all false
set_option maxRecDepth 100000
namespace Go.PW
variable{p:Prop}
def oh(h:p:=by exact tR Ay):=h
def sJ(h:p:=by exact tR (by unfold inB;grind)):=h
def mF(h:p:=by exact tR (by unfold fe;grind)):=h
def bS(h:p:=by exact tR (by intro hr;cases hr)):=h
def mG(h:p:=by exact tJ (Z7c trivial)):=h
def oO(h:p:=by exact tR dI):=h
def wY(h:p:=by exact tJ (QW ⟨ov0,cs⟩)):=h
def Af(h:p:=by exact tR (by unfold clV minI maxI;grind)):=h
def Cq(h:p:=by exact tJ (QX ⟨oa0,ae⟩)):=h
def Cr(h:p:=by exact tJ (QY ⟨oa0,ae⟩)):=h
def gr(h:p:=by exact tR (by first|rfl|(unfold stV;grind))):=h
def wZ(h:p:=by exact tJ (QZ ⟨O0,ae⟩)):=h
def w4(h:p:=by exact tJ (Q0 ⟨O0,ae⟩)):=h
def Ct(h:p:=by exact tJ (Q1 ⟨O0,ae⟩)):=h
def MC(h:p:=by exact tR ⟨oa0,gO⟩):=h
def Q2(h:p:=by exact tR ⟨h1.1,gO⟩):=h
def w5(h:p:=by exact tR (by intro hr;first|omega|(cases hr;done))):=h
def vp(h:p:=by exact tJ (Z43 ⟨rfl,aQ,aQ⟩)):=h
def Ah(h:p:=by exact tJ (Z41 ⟨rfl,aQ,aQ⟩)):=h
def LC(h:p:=by exact tJ (Z42 ⟨rfl,aQ,aQ⟩)):=h
def Q3(h:p:=by exact tJ (Q4 ⟨rfl,rfl,oa0,aQ⟩)):=h
def Q5(h:p:=by exact tL ⟨cl,cl⟩ (by unfold Q6 lt6;dsimp only;omega)):=h
def Q7(h:p:=by exact tL ⟨cl,cl⟩ (by unfold Q8 lt6;dsimp only;omega)):=h
def Q9(h:p:=by exact tL ⟨ov0,cl⟩ Ra):=h
def Cu(h:p:=by exact tL ⟨cl,cs⟩ (by unfold Rb lt6;dsimp only;omega)):=h
def Rc(h:p:=by
 apply tE<;>intro h1
 .exact tR ae
 exact tR ae):=h
def Cv(h:p:=by
 apply tD<;>intro h4
 .exact tR ae
 exact tR ae):=h
def Cw(h:p:=by
 apply tD<;>intro h1
 .exact tR ae
 exact tR ae):=h
def Cx(h:p:=by exact tL ⟨cl,cs⟩ (by unfold Re lt6;dsimp only;omega)):=h
def oP(h:p:=by exact tL ⟨cl,cs⟩ Rf):=h
def Rg(h:p:=by
 apply tF<;>intro h2
 .exact tR ae
 exact tR ae):=h
def Rh(h:p:=by exact tL ⟨ov0,cl⟩ Ri):=h
def Rj(h:p:=by exact tL ⟨cl,ae⟩ (by unfold Rk lt6;dsimp only;omega)):=h
def Rl(h:p:=by exact tL ⟨cl,cl⟩ (by unfold Z69 lt6;dsimp only;omega)):=h
def Rm(h:p:=by exact tL ⟨cl,ae⟩ (by unfold Rn lt6;dsimp only;omega)):=h
def Ro(h:p:=by exact tL ⟨cl,ae⟩ (by unfold Rp lt6;dsimp only;omega)):=h
def Rq(h:p:=by exact tL ⟨ov0,ov2,cs⟩ Rr):=h
def Rs(h:p:=by exact tL ⟨O0,cl⟩ Rt):=h
def gA(h:p:=by exact tR (by obtain⟨k1,k2,k3,k4⟩:=a0;unfold amV;grind[ZaN,usV])):=h
def dR(h:p:=by exact tR Cy):=h
def j8(h:p:=by exact tR ⟨⟨oa0.1,oa0.2.1,oa0.2.2⟩,gO⟩):=h
def mH(h:p:=by exact tL ⟨rfl,O0,cs⟩ Ru):=h
def kj(h:p:=by exact tR ⟨⟨h1.1.1,h1.1.2.1,h1.1.2.2⟩,gO⟩):=h
def Rv(h:p:=by exact tL ⟨ov0,O0,cs⟩ Cz):=h
def km(h:p:=by exact tL ⟨O0,ov6,ov7,cs⟩ sK):=h
def Rw(h:p:=by simp only[bm,bw,eU,jy];omega):=h
def Rx(h:p:=by have q1:=wr (v3+1);exact Q9):=h
def w6(h:p:=by exact tJ (Z4v ⟨rfl,aF,aQ,aQ⟩)):=h
def CA(h:p:=by exact tJ (Z4t ⟨rfl,aF,aQ,aQ⟩)):=h
def Ry(h:p:=by have q2:=wr (v4+1);exact Cu):=h
def Rz(h:p:=by exact tJ (Z4u ⟨rfl,aF,aQ,aQ⟩)):=h
def RE(h:p:=by exact tJ (RF ⟨rfl,rfl,oa0,⟨SzS.nil,SzL.nil,SzL.nil⟩,aQ⟩)):=h
def RG(h:p:=by exact tJ (RH ⟨rfl,oa0,cl,RJ⟩)):=h
def RK(h:p:=by have q2:=wr (v4+1);exact Cx):=h
def Li(h:p:=by exact tR ⟨ov5,(by exact ZqD V aF O)⟩):=h
def RM(h:p:=by have q1:=wr (v4+1);exact tL ⟨ov0,cs⟩ RN):=h
def RO(h:p:=by have q1:=wr (v7+1);exact Rm):=h
def RP(h:p:=by have q2:=wr (v6+1);exact tL ⟨ov0,ov1,cs⟩ RQ):=h
def AJ(h:p:=by exact tL ⟨rfl,rfl,O0,O1,cs⟩ N7):=h
def RR(h:p:=by have q1:=wr (v5+1);exact tL ⟨ov0,ov1,cl⟩ RS):=h
def RT(h:p:=by have q2:=wr (v8+1);exact Rq):=h
def RU(h:p:=by have q2:=wr (v6+1);exact Rs):=h
def RW(h:p:=by have q1:=wr (v9+1);exact tL ⟨ov1,O0,cl⟩ RX):=h
def AI(h:p:=by exact tL ⟨rfl,rfl,O0,O1,cs⟩ N2):=h
def RY(h:p:=by have q2:=wr (v6+1);exact Rv):=h
def mI(h:p:=by exact tR ⟨SzL.nil,mJ⟩):=h
def RZ(h:p:=by exact tJ (Z66 ⟨O0,O1,V,V,aQ,aQ⟩)):=h
def R1(h:p:=by exact tL ⟨rfl,O0,cl,(by first|assumption|omega)⟩ R2):=h
def w7(h:p:=by exact tR tk83):=h
def di(h:p:=by exact tR bg):=h
def Nm(h:p:=by
 apply tD<;>intro h1
 .exact Tot.ix λx1 h2=>tR (by unfold stp;grind)
 exact tR (by unfold stp;grind)):=h
def CB(h:p:=by
 apply tE<;>intro h4
 .exact tR ae
 apply tE<;>intro h5
 .exact tR ae
 exact tR ae):=h
def w8(h:p:=by have q1:=wr (5+v0);have q2:=wr ((IntKind.wrap .i64 (5+v0))-11);exact gr):=h
def La(h:p:=by exact tJ (K6 ⟨rfl,rfl,oa0,⟨SzS.nil,SzL.nil,SzL.nil⟩,bR,aQ⟩)):=h
def oQ(h:p:=by exact tR (by first|with_reducible exact ZrI V O|(rw[ZrJ V O];grind))):=h
def LO(h:p:=by exact tR (by first|exact an_y V (bq_y V V)|exact an_e V O)):=h
def R3(h:p:=by exact tR (by first|exact ZaP V V|exact ZaQ V V V)):=h
def CC(h:p:=by exact tL ⟨rfl,O0,cl,cl,RJ⟩ (by unfold Z7d lt6;dsimp only;omega)):=h
def R4(h:p:=by exact tJ (R5 ⟨rfl,O0,aF,V,V,aQ,aQ⟩)):=h
def R6(h:p:=by exact tJ (R7 ⟨rfl,O0,aF,V,V,aQ,aQ⟩)):=h
def R8(h:p:=by exact tJ (R9 ⟨rfl,O0,aF,V,V,aQ,aQ⟩)):=h
def Sa(h:p:=by exact tJ (Sb ⟨rfl,O0,aF,V,V,aQ,aQ⟩)):=h
def Sc(h:p:=by exact tJ (Se ⟨rfl,oa0,aF,CD,aQ,aQ⟩)):=h
def Sf(h:p:=by exact tJ (Sh ⟨rfl,oa0,aF,CD,aQ,aQ⟩)):=h
def Si(h:p:=by exact tR (by first|exact ZjN V V V aQ|exact ZjO V O)):=h
def Sj(h:p:=by exact tR (by first|exact bl_y V V V V|exact bl_e V O)):=h
def Sk(h:p:=by
 refine tB (ko oa1) λx1 h2=>?_;have eh2_0:=h2.1;apply tF<;>intro h3
 .exact tR ae
 exact tR ae):=h
def AK(h:p:=by exact tR (by first|exact λ_=>rfl|exact sa_n V V V V|exact sa_l O)):=h
def Sl(h:p:=by exact tJ (Z7g ⟨rfl,O0,O1,O2,aF,V,aQ,aQ⟩)):=h
def MJ(h:p:=by exact tR (by first|exact an_y V (dq_y V V V)|exact an_e V O)):=h
def Sm(h:p:=by
 refine tB (ko O0) λx2 h4=>?_;have eh4_0:=h4.1;apply tF<;>intro h5
 .exact tR ae
 exact tR ae):=h
def KT(h:p:=by exact tR (by first|with_reducible exact Sn V rfl V O O|with_reducible exact So aQ)):=h
def Sp(h:p:=by exact tR ⟨(by first|exact li_n V V|exact li_y V V),cl,dI⟩):=h
def oR(h:p:=by exact tJ (Z67 ⟨⟨oa0.1,oa0.2⟩,⟨SzS.nil,SzS.nil⟩,aF,aF,aQ⟩)):=h
def Sq(h:p:=by exact tR ⟨oc1,aF,(by first|exact fx_y V V aQ|exact fx_n V O)⟩):=h
def eO(h:p:=by exact tR ⟨Cy,(by first|(intro hr;exact absurd hr bF)|(intro _;assumption))⟩):=h
def CE(h:p:=by exact tR ⟨⟨O2.1,O2.2.1,O2.2.2⟩,tk92⟩):=h
def z8(h:p:=by exact tR ⟨⟨O2.1,O2.2.1,O2.2.2⟩,cl,tk92⟩):=h
def Sr(h:p:=by exact tR ⟨cl,tk56⟩):=h
def Ss(h:p:=by exact tR tk54):=h
def n9(h:p:=by exact tR (by first|exact eq_y V V O|exact eq_n V V V|(simp;intro e;subst e;omega))):=h
def oS(h:p:=by exact tJ (Z7h ⟨rfl,oa0,⟨SzS.nil,SzS.nil⟩,⟨SzS.nil,SzS.nil⟩,aF,aF,aQ⟩)):=h
def LV(h:p:=by exact tR ⟨cl,cl,tk56⟩):=h
def Su(h:p:=by
 try simp only[bw,bW,aN]at lh1
 exact tR ⟨SzL.tr,mJ⟩):=h
def CF(h:p:=by exact tR ⟨ov7,(by first|exact ZrK V V O O|exact ZrL V O|exact ZrM V O)⟩):=h
def CG(h:p:=by exact tR ⟨⟨O2.1,O2.2⟩,tk59⟩):=h
def Ma(h:p:=by exact tR tk46):=h
def Sv(h:p:=by exact tR ⟨cl,cl,(by first|exact(ar bF).trans (Sw V O)|exact(aw O).trans (Sx V V O aQ))⟩):=h
def fh(h:p:=by exact tR ⟨tk96,sL⟩):=h
def CH(h:p:=by exact tR (by first|with_reducible exact Sn V V V O O|with_reducible exact ZrN V|with_reducible exact So aQ)):=h
def Sy(h:p:=by exact tR ⟨cl,cl,tk46⟩):=h
def CI(h:p:=by exact tR (by first|exact ld_y V V V V V V|exact ld_a V V|exact ld_b V V)):=h
def Ai(h:p:=by exact tR (by first|exact yr_c V V V V V|exact yr_b V V V|exact yr_a V V)):=h
def dM(h:p:=by exact tR Z4h):=h
def CJ(h:p:=by exact tL ⟨O0,ov6,SzL.app (k:=16) h6 lo ov7.2 (me1 tk83),cs⟩ sK):=h
def Sz(h:p:=by exact tL ⟨rfl,cl,aF,(by first|(intro k x hk;omega)|exact mq V V O ⟨by omega,by omega⟩ O)⟩ (by unfold SA lt6;dsimp only;omega)):=h
def CK(h:p:=by exact tR ⟨⟨O0.1,O0.2⟩,tk43⟩):=h
def CL(h:p:=by exact tR ⟨h1.1,tk36⟩):=h
def Z63(h:p:=by exact tR ⟨(by first|(intro hr;exact absurd hr bF)|exact λ_=>ZaS (v:=v5) V O),(by first|(intro hr;exact absurd hr bF)|exact λ_=>ZrC (v:=v5) V O)⟩):=h
def SB(h:p:=by exact tR ⟨SD,(by first|assumption|(intro hr;exact absurd hr bF)|(intro hr;grind)),SD⟩):=h
def CM(h:p:=by exact tR (by first|exact yo_c V V V V V V|exact yo_b V V V V|exact yo_a V V)):=h
def M8(h:p:=by exact tL ⟨rfl,rfl,ov0,ov1,ov7,cl,V,V,cl,(by first|exact RB_0 V O|exact ZjG V V O aQ)⟩ om):=h
def SE(h:p:=by have eh9_1:=h9.2;exact tR ⟨h9.1,tk36⟩):=h
def SF(h:p:=by
 apply tF<;>intro h2
 .exact w7
 exact w7):=h
def sM(h:p:=by exact tR ⟨(by first|(intro hr;exact absurd hr bF)|(intro _ c hc;obtain⟨k,hk⟩:=List.mem_iff_getElem?.1 hc;exact i0 k c aQ hk)),(by first|(intro hr;exact absurd hr bF)|(intro _;exact ZrO V O))⟩):=h
def SG(h:p:=by exact tJ (CN ⟨rfl,O1,⟨SzS.nil,SzL.nil,SzL.nil⟩,tk42⟩)):=h
def K7(h:p:=by exact tJ (Z1w ⟨rfl,O1,⟨SzS.nil,SzL.nil,SzL.nil⟩,cl,tk42⟩)):=h
def Ap(h:p:=by exact tR ⟨SzL.app (k:=16) h1 lo (λ_ h=>by cases h) oa0.2,tk32⟩):=h
def vr(h:p:=by exact tR (by first|exact ar_d V V V V V V V|exact ar_c V V V|exact ar_b V V|exact ar_a V V)):=h
def CO(h:p:=by exact tR ⟨tk83,tk52⟩):=h
def rR(h:p:=by have q1:=wr (v9+1);exact tL ⟨rfl,ov1,ov7,cl,cl,V,tk48⟩ Np):=h
def SH(h:p:=by
 apply tD<;>intro h4
 .apply tD<;>intro h5
  .exact gA
  exact gA
 exact gA):=h
def w9(h:p:=by exact tR (by first|exact ac_d V V V V V V V V|exact ac_c V V V V|exact ac_b V V|exact ac_a V V)):=h
def Mz(h:p:=by exact tJ (Z18 ⟨rfl,rfl,ov1,O0,O1,ov5,cl,cl,cl,bR,aQ,aQ,bR,(by first|assumption|exact Sx V V O V|(rw[<- Sw V O];omega))⟩)):=h
def MM(h:p:=by have q2:=wr (v5+1);exact tL ⟨rfl,rfl,O0,cl,tk31⟩ MH):=h
def SI(h:p:=by exact tL ⟨rfl,rfl,ov0,cl,cl,cl,cl,tk40⟩ tk86):=h
def SJ(h:p:=by
 apply tE<;>intro h6
 .exact eO
 exact eO):=h
def Lf(h:p:=by have q2:=wr (v6+1);exact tL ⟨rfl,rfl,ov0,O0,ov5,cl,cl,cl,bR,tk35,cl⟩ ma):=h
def SK(h:p:=by exact tL ⟨rfl,O0,O1,cl,cl,cl,cl,tk67,cl,O,(by first|exact ZrP (SL V O)|exact ZrQ V O O O)⟩ Z65):=h
def SM(h:p:=by exact tL ⟨rfl,O0,O1,cl,cl,cl,cl,cl,cl,tk67,cl,cl,cl,cl,O,(by first|exact MK_0 V|exact SN V O O O)⟩ Z65):=h
def SO(h:p:=by exact tL ⟨cl,cl,aF,bR,(by first|with_reducible exact SP _|with_reducible exact ZrR V V O O V O|with_reducible exact SQ V V O O O O)⟩ (by unfold SR lt6;dsimp only;omega)):=h
def SS(h:p:=by exact tL ⟨rfl,rfl,ov0,O0,cl,tk16⟩ SU):=h
def Na(h:p:=by exact tL ⟨rfl,rfl,ov0,ov1,ov7,cl,cl,cl,V,V,cl,Nc⟩ om):=h
def SV(h:p:=by have q1:=wr (v17+1);exact SO):=h
def SW(h:p:=by have q1:=wr (v15+1);exact tL ⟨rfl,rfl,ov0,O0,ov5,ov13,cl,cl,cl,bR,tk35,aF,cs⟩ mK):=h
def KI(h:p:=by exact tR ⟨ov6,oc0,cl,cl,cl,cl,cl,cl,bB,cz,cz,(by first|exact sg_e V V V|exact absurd (ZrS V V (AF V) V) id)⟩):=h
def Nd(h:p:=by have q1:=wr (v10+1);exact Na):=h
def sN(h:p:=by have q1:=wr (v16+1);exact tL ⟨rfl,ov1,ov14,cl,V,cl,cl,V,SX,V,tk48⟩ SY):=h
def At(h:p:=by exact tR tk8):=h
def M0(h:p:=by have q1:=wr (v4+1);exact tL ⟨rfl,ov0,ov3,cl,cl,cl,tk13⟩ Av):=h
def xa(h:p:=by exact tR tk5):=h
def z6(h:p:=by exact tL ⟨rfl,cl,cl,(by first|with_reducible exact SP _|with_reducible exact ZrT V V O O V V O O|with_reducible exact SQ V V O O O O),(by first|with_reducible exact ZrU O V O O|rfl),bR⟩ (by unfold KQ lt6;dsimp only;omega)):=h
def Nw(h:p:=by exact tL ⟨rfl,rfl,rfl,ov1,O0,ov7,ov8,cl,cl,cl,cl,cl,cl,cl,jf,V,cl,cl,tk58,AD,(by first|exact ZlL V|exact ZlZ V O O O O)⟩ rS):=h
def SZ(h:p:=by have q1:=wr (v8+1);exact tL ⟨rfl,ov3,ov6,cl,cl,cl,cl,tk87,tk13⟩ CP):=h
def CQ(h:p:=by have q1:=wr (v20+1);exact tL ⟨rfl,rfl,O1,ov18,cl,cl,cl,cl,cl,cl,cl,bB,V,cl,cl,cl,aF,V,tk33⟩ S0):=h
def Mu(h:p:=by have q2:=wr (v9+1);exact tL ⟨rfl,rfl,rfl,O0,SzL.tr,O1,cl,cl,cl,cl,cl,cl,cl,cl,cl,cl,cl,V,tk7⟩ An):=h
def Ni(h:p:=by exact tL ⟨rfl,ov1,ov5,ov6,cl,cl,cl,V,vy,jJ,cl,cl,cl,V,(by first|exact ZlQ|exact ZlT V V V V V V V V V V O O O|exact ZlU V V V V V V O O|exact ZlV V V V V V O O|exact ZlW V V O O O)⟩ vz):=h
def S1(h:p:=by have q1:=wr (v25+1);exact tL ⟨rfl,rfl,O1,ov8,ov23,cl,cl,cl,cl,cl,cl,cl,bB,V,cl,cl,cl,cl,cl,V,aF,tk9⟩ CR):=h
def vB(h:p:=by have q1:=wr (v9+1);exact Ni):=h
def S2(h:p:=by exact tL ⟨rfl,ov7,cl,cP,cl,cl,cl,cl,cl,cl,bB,V,cl,tk88,tk67,cl,V,(by first|assumption|exact mp_e V O),jf,(by first|exact ZrV V|exact ZrW V O V O O)⟩ mL):=h
def S3(h:p:=by exact tL ⟨oc0,ov10,cl,cl,cl,cl,cl,cl,cl,bB,cz,cz,cl,cl,aF,tk10,aF,aF,aF⟩ CS):=h
def S4(h:p:=by exact tL ⟨rfl,ov7,cl,cP,cl,cl,cl,cl,cl,cl,bB,V,cl,tk88,tk67,cl,V,V,(by first|exact mp_0|exact mp_y V V V O O V V V|exact mp_n V V O O V V),jf⟩ mL):=h
def rH(h:p:=by have q1:=wr (v7+1);exact tL ⟨rfl,rfl,O0,ov5,O1,cl,cl,cl,cl,cl,cl,cl,cl,cl,cl,cl,tk1,V,aQ,od⟩ Ak):=h
def Al(h:p:=by have q1:=wr (v7+1);exact tL ⟨rfl,rfl,O0,SzL.tr,O1,cl,cl,cl,cl,cl,cl,cl,cl,cl,cl,cl,tk1,V,aQ,od⟩ Ak):=h
def S5(h:p:=by have q1:=wr (v44+1);exact S4):=h
def S6(h:p:=by exact tL ⟨rfl,O0,O1,cl,cl,cl,cl,cl,cl,cl,cl,tk67,cl,cl,cl,cl,cl,cl,cl,tk0⟩ Z65):=h
def S7(h:p:=by have q1:=wr (v57+1);exact S6):=h
def sO(h:p:=by have q1:=wr (v44+1);exact tL ⟨O1,ov7,ov42,cl,cl,cl,cl,cl,cl,cl,bB,V,cl,cl,cl,cl,tk80,tk3,V,V,aF,aQ,od⟩ CT):=h
def CU(h:p:=by have q1:=wr (v44+1);exact tL ⟨O1,SzL.tr,ov42,cl,cl,cl,cl,cl,cl,cl,bB,V,cl,cl,cl,cl,tk80,tk3,V,V,aF,aQ,od⟩ CT):=h
def S8(h:p:=by have q1:=wr (v82+1);exact tL ⟨rfl,ov7,O1,cl,cl,cl,cP,cl,cl,cl,cl,cl,cl,bB,V,cl,tk88,tk67,cl,cl,V,cl,cl,dI,cl,cl,cl,cl,cl,cl,bB,V,jf,CV,V,cP,tk2⟩ mL):=h
def tk0(h:p:=by first|assumption|exact S9 V V V V O (wm_y (m':=v9) (i':=v10) V V V V V O O O O O O O O V V) V O|exact Ta V (wm_b (m':=v9) V V V O V O O O V) V O|exact Ta V (wm_a (m':=v9) (i':=v10) V V V O O O O O O V) V O):=h
def tk1(h:p:=by first|exact xb|exact CW V V V O V (by first|exact hr_c V V V V|exact(hr_m V V V V V O).trans V) rfl|exact CX V V V O (by first|exact hr_n V V V|exact(hr_m V V V V V O).trans V|exact hr_z V|(exfalso;grind))):=h
def tk2(h:p:=by first|assumption|exact ZrX V V V V V V V O O (CY V V V) V V V V V|exact Tb V V V O O (CY V V V) (.inl V)|exact Tb V V V O O (CY V V V) (.inr V)):=h
def tk3(h:p:=by first|exact xb|exact CW V V V O V (by first|exact ht_c V V V V|exact(ht_m V V V V O).trans V) rfl|exact CX V V V O (by first|exact ht_n V V V|exact(ht_m V V V V O).trans V|exact ht_z V|(exfalso;grind))):=h
def tk4(h:p:=by first|exact gb_0 V|exact gb_y V V O V (iN V).symm V V V O V V|exact gb_m V O V V V O V|exact gb_n V O V V V O (.inr ⟨ V,(iN V).symm,V⟩)):=h
def tk5(h:p:=by first|exact de_y V V V V V V V V|exact de_e V O V V (by first|exact de_1 V|exact de_2 V V|exact de_3 V V V V|exact de_4 V V V V V)):=h
def tk6(h:p:=by first|(simp;done)|exact Br V V V (cu_y V V V V V V) O O|exact Br V V V (cu_n V (.inl V)) O O|exact Br V V V (cu_n V (.inr V)) O O):=h
def tk7(h:p:=by first|exact nr_0|exact nr_n V V V O V V|exact nr_y V V V V O V V (nu_y V V V V V)|exact nr_y V V V V O V V (nu_k V)):=h
def tk8(h:p:=by first|exact ZlK V|exact nd_c V V V V V V V V V V V V|exact nd_b V V V V V V|exact nd_a V V V V V):=h
def tk9(h:p:=by first|exact nu_0 V rfl|exact vR V V V O (by assumption:_/\_/\_).2.2 (nu_y V V V V V)|exact r9 V V V O (nu_s V V)|exact r9 V V V O (nu_k V)):=h
def tk10(h:p:=by first|exact Bs|exact ct_y V V V V V V V V O O V V|exact ct_n V V V O O (.inl V)|exact ct_n V V V O O (.inr V)):=h
def tk11(h:p:=by first|exact ZrY V|exact dr_y V V V V O O V V V|exact Tc V V O O V (.inl V)|exact Tc V V O O V (.inr V)):=h
def tk12(h:p:=by first|assumption|exact S9 V V V V O (ZrZ V V V V) V O|exact SN V O O O|exact ZsA V V V|exact ZsB V):=h
def tk13(h:p:=by first|rfl|exact el_y' V V V O V V V V|exact el_n V V V O (.inl O)|exact el_n' V V V O V V):=h
def tk14(h:p:=by first|exact ZpY V|exact QI V V V O O O rfl|exact QI V V V O O O (by subst_vars;rfl)|exact ZpX V V O O O):=h
def tk15(h:p:=by first|exact ga_0 V|exact ga_y V V V V (iN V).symm V V V O V|exact ga_n V O V V V O V):=h
def tk16(h:p:=by first|exact ZaR|exact Fh (v:=v5) V V O O (ZaT (v:=v5) V O V) O|exact Fh (v:=v5) V V O O (λy hv _=>absurd hv O) O):=h
def tk17(h:p:=by first|exact ZsC V|exact tr_y V V V V V V O O V V|exact ZsD V V O O V V):=h
def tk18(h:p:=by first|rfl|exact AU V V V V ((by assumption:rdB _ _ _ = !_).trans (by simp[*])) O|exact AV V V V ((by assumption:rdB _ _ _ = !_).trans (by simp[*])) O):=h
def tk19(h:p:=by first|rfl|exact AU V V V V ((OX V O V).trans V) O|exact ZlX V V V O O O O):=h
def tk20(h:p:=by first|assumption|exact QQ|exact ZqO V V O O V|exact QR V V O O O|(rw[show IntKind.wrap .i64 (v18+1)=v18+1 by omega];assumption)):=h
def tk21(h:p:=by first|exact mr_0|exact mr_y V V V V V O O V V|exact mr_n V V V O V V):=h
def tk22(h:p:=by first|exact ZjQ V V O|exact ZjK (v:=v0) (i:=v5) (j:=v6) V aQ V aQ O O|exact ZjL (j:=v6) V V aQ O):=h
def tk23(h:p:=by first|exact af_h V V V|exact af_n V V V V|exact af_l V O V V V V V):=h
def tk24(h:p:=by first|exact ra_e V V V V V V V V V V O O O|exact ra_n V V):=h
def tk25(h:p:=by first|with_reducible exact pr_0 V V|with_reducible exact pr_0' V V|with_reducible exact Td V V O O V V):=h
def tk26(h:p:=by first|exact fr_h V V V|exact fr_n V V V V|exact fr_l V O V V V):=h
def tk27(h:p:=by first|rfl|exact cs_y V V V O V V O|exact cs_n V V V O V V):=h
def tk28(h:p:=by first|exact ZqC aQ|exact QL V V V O O rfl|exact QL V V V O O (by subst_vars;rfl)):=h
def tk29(h:p:=by first|with_reducible exact pr_0 V V|with_reducible exact Td V (by rw[<- (by assumption:v32=a0.Abilities)];assumption) O O V V):=h
def tk30(h:p:=by first|exact sg_0 V V O V V|exact sg_y V V V V V V V):=h
def tk31(h:p:=by first|rfl|exact an_n V V V O (dq_b V V)|exact an_n V V V O (dq_a V)):=h
def tk32(h:p:=by first|exact Te aQ aQ|exact ln_r V V V V V V V V V V):=h
def tk33(h:p:=by first|rfl|exact dp_n V V V O (by first|exact dp_c V V|exact dp_b V V|exact dp_a V)):=h
def Z4h(h:p:=by first|(rw[ZsE (by first|(simp only[inB];simp;omega)|grind)];done)|exact ZsF aQ|(rw[ZsG CD aQ];unfold mdK;(try unfold inB at *);grind)):=h
def tk35(h:p:=by first|exact ZpZ|exact ZqA V V O O O|exact ZqB V V V O O O O):=h
def tk36(h:p:=by first|exact Te V aQ|exact ln_p V V V (by first|exact .inl ⟨by omega,rfl⟩|exact .inr ⟨by omega,rfl⟩) aQ aQ aQ):=h
def tk37(h:p:=by first|(intro k y hk;omega)|exact mq V V V V O|exact mq V V V aQ O):=h
def tk38(h:p:=by first|exact xb|exact CW V V V O V aQ rfl|exact CX V V V O aQ):=h
def tk39(h:p:=by first|rfl|(exact AU V V V V aQ O)|(exact AV V V V aQ O)):=h
def tk40(h:p:=by first|exact ZrD O|exact ZrE V V O O O|exact ZrF V V O O O|assumption):=h
def tk41(h:p:=by first|exact sr_0 V V O rfl V|exact sr_y V V V V V V):=h
def tk42(h:p:=by rw[<- (by assumption:v5=if E0.Copy<0 then E0.Card else E0.Copy)];first|exact(sP O).symm|(rw[CZ V O];assumption)):=h
def tk43(h:p:=by subst_vars;first|exact ur_1 (m:=a0) aQ|exact ur_2 (m:=a0) aQ|exact ur_3 (m:=a0) aQ|exact ur_4 (m:=a0) aQ|exact ur_5 (m:=a0) aQ):=h
def tk44(h:p:=by first|exact sl_n V V V V V V|exact sl_0 V V V O):=h
def tk45(h:p:=by first|with_reducible exact ZsH V V|with_reducible exact ZsI V V O O V V):=h
def tk46(h:p:=by first|exact Tf V V V|(subst_vars;exact Tf V V V)|exact ZsJ V O):=h
def tk47(h:p:=by first|assumption|exact ZlN V V V V V V V V O O):=h
def tk48(h:p:=by first|rfl|exact nx_y V V V O O|exact nx_n V V V O O):=h
def tk49(h:p:=by first|(intro k c hk;omega)|(intro k c hk hc;rcases Z2d (v:=v4) V O hk hc V with h|h;(exact i0 k c h hc);(rw[h];assumption))):=h
def tk50(h:p:=by first|assumption|exact cp_e V V V V|exact cp_n V V V V):=h
def tk51(h:p:=by first|exact ZjP V V|exact ZjM (v:=v0) (i:=v5) (j:=v6) V V V O O):=h
def tk52(h:p:=by first|(refine⟨λ_=>by omega,λ_=>rfl⟩)|(have w := ‹_∈A3.list _›;simp only[A3.list,cm,sb,vU]at w;grind)|grind):=h
def tk53(h:p:=by first|assumption|with_reducible exact lc_1 V V V V V V|(exfalso;grind)):=h
def tk54(h:p:=by first|exact cg_c V V V V|exact cg_b V V|exact cg_a V):=h
def tk55(h:p:=by first|assumption|exact se|exact QO V V O O|exact ZqG V V):=h
def tk56(h:p:=by first|exact Ff V V V (by first|assumption|grind)|exact yp V O):=h
def tk57(h:p:=by first|(intro k x hk;omega)|(intro k x hk hx;rcases Z2d (v:=v5) V aQ hk hx V with h|h<;>grind)):=h
def tk58(h:p:=by first|assumption|(intro y hy;exact absurd hy sb)|exact ZjS V V V|grind):=h
def tk59(h:p:=by subst_vars;first|exact us_1 aQ|exact us_2 aQ|exact us_3 aQ|exact us_4 aQ|exact us_5 aQ):=h
def tk60(h:p:=by first|exact ZrG V O V O V|exact ZrH V O):=h
def tk61(h:p:=by first|(intro k x hk;omega)|exact ZsK V V V V O O):=h
def tk62(h:p:=by first|exact tr_0 rfl|assumption|exact ZsL V V V O O O):=h
def tk63(h:p:=by first|exact dr_0 rfl|assumption|exact ZsM V V V O O O):=h
def tk64(h:p:=by first|rfl|assumption|exact cp_0 V V|exact cp_c V V V):=h
def tk65(h:p:=by first|exact ZaI|exact ZaJ V V V (by first|assumption|grind) O):=h
def tk66(h:p:=by first|exact QP|assumption|exact sub_app' (d:=v16) V V V V):=h
def tk67(h:p:=by first|assumption|exact ZqL V O|exact ZqJ V V V):=h
def tk68(h:p:=by first|(simp;done)|exact Cp V V V V O O):=h
def tk69(h:p:=by first|rfl|exact an_n V V V O (bq_n V V)):=h
def tk70(h:p:=by first|with_reducible exact ZsN V V V V|(subst_vars;rfl)):=h
def tk71(h:p:=by first|(intro k y hk;omega)|exact mq V V V aQ O):=h
def tk72(h:p:=by first|(intro k x hk;omega)|exact mq V V V aQ O):=h
def tk73(h:p:=by first|assumption|exact ZmB V V O|exact O7 V O):=h
def bB(h:p:=by first|assumption|exact QM|exact QN (by assumption:(_:Int)=_/\∀y:List Int,y∈_->y=[]).2):=h
def tk75(h:p:=by first|assumption|exact QQ|exact QR V V O O O):=h
def tk76(h:p:=by first|(intro k x hk;omega)|exact mq V V O aQ O):=h
def tk77(h:p:=by first|(simp;done)|exact Cp V V V rfl O O):=h
def tk78(h:p:=by first|rfl|exact bl_n V V O O V V):=h
def tk79(h:p:=by first|exact Tg|exact Th V V O V O):=h
def tk80(h:p:=by first|assumption|exact se|exact QO V V O O):=h
def tk81(h:p:=by first|(simp;done)|exact ZsO V V V O O):=h
def bg(h:p:=by unfold SzN;first|omega|(simp only[bm,bw,bW];omega)):=h
def tk83(h:p:=by unfold SzT;first|omega|(simp only[bm,bw,bW];omega)):=h
def tk84(h:p:=by first|exact Tg|exact Th V V O aQ O):=h
def tk85(h:p:=by first|exact ZsP V|exact ZsQ V V V):=h
def tk86(h:p:=by unfold Ti lt6;dsimp only;omega):=h
def tk87(h:p:=by first|exact QP|assumption|exact ZqH V V V):=h
def tk88(h:p:=by first|assumption|exact ZqS|exact ZqT V V V):=h
def tk89(h:p:=by intro m hm;simp only[cm,sb,vU]at hm;subst hm;exact ZsR _):=h
def tk90(h:p:=by first|assumption|(rw[ar V];assumption)|(rw[aw V])):=h
def tk91(h:p:=by first|assumption|exact ZmA V V|exact nd_z V):=h
def tk92(h:p:=by first|exact ba_c V rfl O|exact ba_o V rfl O):=h
def tk93(h:p:=by first|assumption|exact nd_f V V|exact nd_z V):=h
def tk94(h:p:=by unfold Tj lt6;dsimp only;omega):=h
def cd(h:p:=by first|(simp only[bm,bw,bW];omega)|omega):=h
def tk96(h:p:=by first|(intro hr;exact absurd hr bF)|(intro hr;exact⟨by omega,by grind⟩)):=h
def tk97(h:p:=by unfold Tk lt6;dsimp only;omega):=h
def tk98(h:p:=by first|assumption|exact se|exact(QS V V).2):=h
def tk99(h:p:=by unfold Tl lt6;dsimp only;omega):=h
def KL(h:p:=by first|assumption|exact wr_n V V O O):=h
def Nu(h:p:=by first|exact ZlP|exact ZlO V V V):=h
def NR(h:p:=by first|assumption|exact rr_n V V O O):=h
def sL(h:p:=by first|(intro hr;exact absurd hr bF)|(intro _;assumption)|assumption):=h
def Tm(h:p:=by unfold Tp lt6;dsimp only;omega):=h
def SX(h:p:=by first|assumption|exact ZqI V V|(left;omega)):=h
def mJ(h:p:=by first|rfl|assumption|(simpa using(by assumption:_=[]++a0))|grind):=h
def C0(h:p:=by first|omega|exact(QS V V).1|(simp;done)):=h
def xc(h:p:=by first|omega|(have:=(by assumption:ML _ _ _) _ V;omega)):=h
def KF(h:p:=by first|assumption|exact vX V O V):=h
def Tq(h:p:=by unfold Tr lt6;dsimp only;omega):=h
def NK(h:p:=by first|assumption|exact bs_l V V O):=h
def Ts(h:p:=by first|(intro hr;exact absurd hr vV)|(intro _;omega)):=h
def od(h:p:=by first|assumption|exact(gS V).trans V):=h
def Le(h:p:=by first|omega|(rw[(by assumption:E0.Objects=_)];omega)):=h
def SD(h:p:=by first|(intro hr;exact absurd hr bF)|(intro hr;grind)):=h
def Cy(h:p:=by first|(intro hr;exact absurd hr bF)|(intro _;omega)):=h
def CV(h:p:=by first|assumption|(rw[<- (by assumption:_=b0)];assumption)):=h
def AD(h:p:=by first|assumption|exact vX V O rfl):=h
def cP(h:p:=by first|assumption|exact ZsS V V):=h
def mL(h:p:=by unfold Tt lt6;dsimp only;omega):=h
def xd(h:p:=by first|assumption|exact fa_m V V):=h
def Z64(h:p:=by first|assumption|exact ap_s V V):=h
def NJ(h:p:=by first|assumption|exact rp_L V V):=h
def CT(h:p:=by unfold Tu lt6;dsimp only;omega):=h
def C1(h:p:=by first|omega|exact shl_ne' O O|decide):=h
def C2(h:p:=by first|assumption|exact ZqQ V O):=h
def S0(h:p:=by unfold Tv lt6;dsimp only;omega):=h
def CR(h:p:=by unfold Tw lt6;dsimp only;omega):=h
def KH(h:p:=by first|assumption|exact ZqR V O):=h
def KV(h:p:=by have e:(A5.list E0.Color).length=5:=rfl;omega):=h
def Lx(h:p:=by exact ZsT V V V):=h
def CS(h:p:=by unfold Tx lt6;dsimp only;omega):=h
def oT(h:p:=by unfold Ty lt6;dsimp only;omega):=h
def n5(h:p:=by unfold KB lt6;dsimp only;omega):=h
def Tz(h:p:=by unfold TA lt6;dsimp only;omega):=h
def TB(h:p:=by unfold TC lt6;dsimp only;omega):=h
def K5(h:p:=by exact ZsU V (by first|omega|grind)):=h
def TD(h:p:=by first|omega|(rw[(by assumption:v13=_)];omega)):=h
def C3(h:p:=by have e:(A6.list E0).length=6:=rfl;omega):=h
def vC(h:p:=by first|rfl|assumption|exact cr_L V):=h
def jf(h:p:=by first|assumption|exact AF V):=h
def jJ(h:p:=by first|assumption|exact TE V):=h
def CP(h:p:=by unfold TF lt6;dsimp only;omega):=h
def vy(h:p:=by first|assumption|exact ZlY V):=h
def vj(h:p:=by have e:(A3.list a0).length=3:=rfl;omega):=h
def mK(h:p:=by unfold Z7e lt6;dsimp only;omega):=h
def Z65(h:p:=by unfold Z7j lt6;dsimp only;omega):=h
def C4(h:p:=by unfold Z7k lt6;dsimp only;omega):=h
def Ar(h:p:=by unfold Z7l lt6;dsimp only;omega):=h
def Av(h:p:=by unfold Z7n lt6;dsimp only;omega):=h
def Cz(h:p:=by unfold TG lt6;dsimp only;omega):=h
def vm(h:p:=by unfold Ly lt6;dsimp only;omega):=h
def Ak(h:p:=by unfold Ml lt6;dsimp only;omega):=h
def An(h:p:=by unfold Mr lt6;dsimp only;omega):=h
def vx(h:p:=by unfold MN lt6;dsimp only;omega):=h
def om(h:p:=by unfold M4 lt6;dsimp only;omega):=h
def AE(h:p:=by unfold NA lt6;dsimp only;omega):=h
def xe(h:p:=by unfold TH lt6;dsimp only;omega):=h
def ma(h:p:=by unfold Lb lt6;dsimp only;omega):=h
def ou(h:p:=by unfold NF lt6;dsimp only;omega):=h
def vz(h:p:=by unfold Nf lt6;dsimp only;omega):=h
def sK(h:p:=by unfold lf lt6;dsimp only;omega):=h
def rS(h:p:=by unfold Nr lt6;dsimp only;omega):=h
def cz(h:p:=by first|rfl|assumption|grind):=h
def C5(h:p:=by first|rfl|(subst_vars;rfl)):=h
def gO(h:p:=by subst_vars;unfold apV;grind):=h
def C6(h:p:=by intro _ _;unfold wtP;grind):=h
def bR(h:p:=by first|assumption|grind):=h
def aF(h:p:=by first|rfl|assumption):=h
def dI(h:p:=by first|omega|grind):=h
def dS(h:p:=by first|assumption):=h
abbrev fJ(x:aK):Prop:=(SzL 16 SzT) x.Subs
def ZsV{x:aK}(h:Z8n x):fJ x:=(eM h.2.2 (λ_ h=>ZsW h))
abbrev db(x:al):Prop:=SzS x.Sub
def lg{x:al}(h:jG x):db x:=(xf h.2.2.2.2.2.2.2.1)
abbrev Z7(x:af):Prop:=SzS x.Sub/\db x.Filter
def Z06{x:af}(h:qZ x):Z7 x:=⟨xf h.2.2.2.1,lg h.2.2.2.2⟩
abbrev xg(x:fH):Prop:=db x.Filter
def ZsX{x:fH}(h:zN x):xg x:=(lg h.2.2)
abbrev jK(x:cj):Prop:=db x.Filter
def ZsY{x:cj}(h:Z8o x):jK x:=(lg h.2.2)
abbrev sQ(x:fU):Prop:=db x.Filter
def ZsZ{x:fU}(h:zO x):sQ x:=(lg h.2.2)
abbrev Z07(x:dU):Prop:=db x.Filter
def ZtA{x:dU}(h:Z0x x):Z07 x:=(lg h.2.2.2)
abbrev cD(x:aX):Prop:=sQ x.Ref/\Z07 x.Amount/\SzS x.Card/\db x.Filter/\(SzL 176 Z7) x.Mods
def ZtB{x:aX}(h:Z0y x):cD x:=⟨ZsZ h.2.1,ZtA h.2.2.1,xf h.2.2.2.2.2.1,lg h.2.2.2.2.2.2.1,eM h.2.2.2.2.2.2.2.2 (λ_ h=>(Z06 h))⟩
abbrev kp(x:dq):Prop:=db x.Filter
def ZtC{x:dq}(h:zP x):kp x:=(lg h.2.2.1)
abbrev Z1(x:an):Prop:=db x.Filter/\(SzL 176 Z7) x.Mods/\xg x.Trigger/\(SzL 144 jK) x.Specs/\(SzL 560 cD) x.Effects/\kp x.Replace
def C7{x:an}(h:q9 x):Z1 x:=⟨lg h.2.1,eM h.2.2.1 (λ_ h=>(Z06 h)),ZsX h.2.2.2.2.2.1,eM h.2.2.2.2.2.2.2.1 (λ_ h=>(ZsY h)),eM h.2.2.2.2.2.2.2.2.1 (λ_ h=>(ZtB h)),ZtC h.2.2.2.2.2.2.2.2.2⟩
abbrev bQ(x:aq):Prop:=SzS x.Name/\fJ x.Line/\(SzL 640 Z1) x.Abilities
def ZoU{x:aq}(h:Kp x):bQ x:=⟨xf h.1,ZsV h.2.2.2.2.1,eM h.2.2.2.2.2.2.2.2 (λ_ h=>(C7 h))⟩
abbrev oU(x:hY):Prop:=(SzL 8 (λ_=>True)) x.Library/\(SzL 8 (λ_=>True)) x.Hand/\(SzL 8 (λ_=>True)) x.Graveyard
def ZtD{x:hY}(h:Z0z x):oU x:=⟨eM h.2.2.2.2.2.2.1 (λ_ _=>trivial),eM h.2.2.2.2.2.2.2.1 (λ_ _=>trivial),eM h.2.2.2.2.2.2.2.2 (λ_ _=>trivial)⟩
abbrev xh(x:gI):Prop:=Z1 x.Ability/\(SzL 16 (λ_=>True)) x.Targets
def ZtE{x:gI}(h:Z8p x):xh x:=⟨C7 h.2.2.2.2.2.2.1,eM h.2.2.2.2.2.2.2.1 (λ_ _=>trivial)⟩
abbrev C8(x:iG):Prop:=Z1 x.Ability
def ZtF{x:iG}(h:zQ x):C8 x:=(C7 h.2.2.1)
abbrev n8(x:du):Prop:=(SzL 8 (λ_=>True)) x.Objects/\(SzL 176 Z7) x.Mods
def ZtG{x:du}(h:Z8q x):n8 x:=⟨eM h.2.2.2.2.1 (λ_ _=>trivial),eM h.2.2.2.2.2 (λ_ h=>(Z06 h))⟩
abbrev Z8(x:av):Prop:=(SzL 152 oU) x.Players/\(SzL 128 (λ_=>True)) x.Objects/\(SzL 8 (λ_=>True)) x.Battlefield/\(SzL 8 (λ_=>True)) x.Exile/\(SzL 824 xh) x.Stack/\(SzL 768 C8) x.Waiting/\(SzL 80 n8) x.Conts/\(SzL 8 (λ_=>True)) x.Extra
def ZoV{x:av}(h:Ks x):Z8 x:=⟨eM h.1 (λ_ h=>(ZtD h)),eM h.2.1 (λ_ _=>trivial),eM h.2.2.1 (λ_ _=>trivial),eM h.2.2.2.1 (λ_ _=>trivial),eM h.2.2.2.2.1 (λ_ h=>(ZtE h)),eM h.2.2.2.2.2.1 (λ_ h=>(ZtF h)),eM h.2.2.2.2.2.2.1 (λ_ h=>(ZtG h)),eM h.2.2.2.2.2.2.2.2.2.2.2.2.2.2.2.2.1 (λ_ _=>trivial)⟩
abbrev gq(x:Z2):Prop:=(SzL 8 (λ_=>True)) x.Objects/\db x.Filter/\(SzL 176 Z7) x.Mods
abbrev fI(x:bd):Prop:=(SzL 8 (λ_=>True)) x.Objects/\db x.Filter/\(SzL 176 Z7) x.Mods
abbrev bl(x:ab):Prop:=SzS x.Name/\fJ x.Line/\(SzL 640 Z1) x.Abilities
abbrev ct(x:ak):Prop:=Z8 x.s/\(SzL 224 gq) x.forces/\(SzL 176 bl) x.traits/\(SzL 1 (λ_=>True)) x.dropped/\(SzL 1 (λ_=>True)) x.done/\(SzL 24 (SzL 8 (λ_=>True))) x.hits
abbrev cX(x:au):Prop:=Z8 x.S/\(SzL 176 bl) x.All/\(SzL 224 fI) x.L/\(SzL 1 (λ_=>True)) x.Begun/\(SzL 24 (SzL 8 (λ_=>True))) x.Sets/\(SzL 1 (λ_=>True)) x.Blank
abbrev Z08(x:bP):Prop:=(SzL 8 (λ_=>True)) x.hits/\(SzL 8 (λ_=>True)) x.numbers
def TI{a0:Int}:Tot (uA a0) (λr=>True):=by apply tZ;dsimp only[yG,LT.den];exact Cw
def C9:jV->Prop
 |.L0 v0 v3=>(SzT v0)/\(0<=v3)
 |.L1 v0 v3=>(SzT v0)/\(0<=v3)/\(v3<(v0.length:Int))/\(0<=v3)/\(v3<v0.length)
def xi:jV->M6
 |.L0 v0 v3=>(1,((v0.length:Int)-v3).toNat,1000000,0,0,0)
 |.L1 v0 v3=>(1,((v0.length:Int)-v3).toNat,0,0,0,0)
def QW{v0:List UInt8}{v3:Int}(h:C9 (.L1 v0 v3)):Tot (jW v0 v3).den (Nx C9 xi (1,((v0.length:Int)-v3).toNat,0,0,0,0) (λr=>True)):=by
 obtain⟨ov0,cv3,bd2,i0,i1⟩:=h;have lb_v0:v0.length<=562949953421312:=ov0;dsimp only[jW,LT.den];apply tD<;>intro h1
 .refine Tot.ix λx1 h2=>?_;apply tE<;>intro h3
  .have q1:=wr (v3-1);refine Tot.ix λx2 h4=>?_;apply tE<;>intro h5
   .exact tR ae
   have q2:=wr (v3+1);exact Q9
  exact Rx
 exact Rx
def TJ{a0:List UInt8}(oa0:SzT a0):Tot (uB a0) (λr=>True):=by
 apply Tot.rn C9 xi
 .have lb_a0:a0.length<=562949953421312:=oa0;dsimp only[yH,LT.den];apply tD<;>intro h1
  .exact tR ae
  apply tD<;>intro h2
  .exact tR ae
  refine Tot.ix λx1 h3=>tB (TI) λx2 h4=>?_;apply tO<;>intro h5
  .exact tR ae
  have q1:=wr ((a0.length:Int)-1);refine Tot.ix λx3 h6=>?_;apply tE<;>intro h7
  .exact tR ae
  exact tL ⟨oa0,cl⟩ Ra
 intro s hs;cases s with
 |L0 v0 v3=>
  obtain⟨ov0,cv3⟩:=hs;dsimp only[nv,nu,LT.den,xi];apply tD<;>intro h1
  .refine Tot.ix λx1 h2=>tB (TI) λx2 h3=>?_;apply tO<;>intro h4
   .refine Tot.ix λx3 h5=>?_;apply tD<;>intro h6
    .refine Tot.ix λx4 h7=>?_;apply tN<;>intro h8
     .exact tR ae
     exact wY
    refine Tot.ix λx4 h7=>?_;apply tD<;>intro h8
    .refine Tot.ix λx5 h9=>?_;apply tN<;>intro h10
     .exact tR ae
     exact wY
    exact wY
   exact wY
  exact tR ae
 |L1 _ _=>exact QW hs
def Z09(n m:Int):Bool:=decide (n>=0)&&decide (n<=m)
def sR(c:aJ):Bool:=Z09 c.Generic 99&&(Z09 c.X 2&&c.Color.list.all λn=>Z09 n 9)
def ZtH(c:aJ):Z9l c=some (sR c):=by
 unfold Z9l LF.run;dsimp only[yJ,LT.den];have hl:bZ jA.step (.L0 c 0)=some (c.Color.list.all λn=>Z09 n 9):=by
  have:=Z24 (st:=λi=>jX.L0 c (i:Int)) (step:=jA.step) (bad:=false) c.Color.list (λn=>Z09 n 9) (λi x hx=>by
   have hi:=(aL.1 hx).1;have hi:i<5:=hi;show(nw _ _).den=_;dsimp only[nw,LT.den];rw[bh O,gz hx,fg O O];simp only[aD,bf];unfold Z09;by_cases h1:x<0
   .rw [bh h1,bn (show ¬x>=0 by omega)];rfl
   rw[bn h1,bh (show x>=0 by omega)];by_cases h2:x>9
   .rw [bh h2,bn (show ¬x<=9 by omega)];rfl
   rw[bn h2,bh (show x<=9 by omega)];rfl)
  rw[show(jX.L0 c 0) = .L0 c ((0:Nat):Int)from rfl,this];have he:bZ jA.step (.L0 c ((c.Color.list.length:Nat):Int))=some true:=Qq
  rw[he];cases c.Color.list.all λn=>Z09 n 9<;>rfl
 refine(cF λ_=>cF λ_=>cF λ_=>cF λ_=>(show Option.bind (some (Sum.inl (jX.L0 c 0))) (dh jA.step)=some (c.Color.list.all λn=>Z09 n 9)from hl)).trans ?_;congr 1;unfold sR Z09;rw[ka];simp only[aO,dA,oG,gW,mA,sB,oL];constructor
 .rintro ⟨h1,h2,h3,h4,h5⟩;exact⟨⟨h1,h2⟩,⟨h3,h4⟩,h5⟩
 rintro⟨⟨h1,h2⟩,⟨h3,h4⟩,h5⟩;exact⟨h1,h2,h3,h4,h5⟩
def Z2n(a0:aJ):Tot (Z9l a0) (λr=>(r=true->a0.X<=2)/\(r=true->∀n,n∈A5.list a0.Color->n<=9)/\(r=Z01 a0)):=by
 refine⟨_,ZtH a0,λh=>?_,λh n hn=>?_,?_⟩
 .simp only[sR,Z09,aO,gW]at h;exact h.2.1.2
 .simp only[sR,Z09,aO,gW,bO]at h;exact(h.2.2 n hn).2
 unfold sR Z09 Z01;rw[ka];simp only[aO,gW,bO,mA];exact⟨λ⟨⟨h1,h2⟩,⟨h3,h4⟩,h5⟩=>⟨h1,h2,h3,h4,h5⟩,λ⟨h1,h2,h3,h4,h5⟩=>⟨⟨h1,h2⟩,⟨h3,h4⟩,h5⟩⟩
def ZtI:Tot (uC) (λr=>((SzL 16 SzN) r)/\(r.length=6)):=by apply tZ;dsimp only[Z5n,LT.den];have q1:(SzL 16 SzN) ([([99,114,101,97,116,117,114,101]:List UInt8),([105,110,115,116,97,110,116]:List UInt8),([114,105,116,117,97,108]:List UInt8),([114,101,108,105,99]:List UInt8),([99,104,97,114,109]:List UInt8),([108,97,110,100]:List UInt8)]:List (List UInt8)):=⟨by simp only[bw,bW];omega,mem_cons' bg (mem_cons' bg (mem_cons' bg (mem_cons' bg (mem_cons' bg (mem_cons' bg (λ_ h=>by cases h))))))⟩;have lq1:([([99,114,101,97,116,117,114,101]:List UInt8),([105,110,115,116,97,110,116]:List UInt8),([114,105,116,117,97,108]:List UInt8),([114,101,108,105,99]:List UInt8),([99,104,97,114,109]:List UInt8),([108,97,110,100]:List UInt8)]:List (List UInt8)).length=6:=rfl;exact tR ⟨q1,cl⟩
def vv(a0:List UInt8)(oa0:SzT a0):Tot (Z5p a0) (λr=>r=ga a0):=⟨_,TL a0,rfl⟩
def ZtJ:pJ->Prop
 |.L0 v0 v1 v5=>(0<=v5)/\(v1<=100)
def Q8:pJ->M6
 |.L0 v0 v1 v5=>(1,(v1-v5).toNat,1000000,0,0,0)
def Z8w{a0:Int}{a1:Int}(h0:a1<=100):Tot (FM a0 a1) (λr=>True):=by
 apply Tot.rn ZtJ Q8
 .dsimp only[FL,LT.den];exact Q7
 rintro⟨v0,v1,v5⟩ ⟨cv5,i0⟩;dsimp only[yM,FK,LT.den];apply tD<;>intro h1
 .have q1:=wr (v5+1);exact Q7
 exact tR ae
def ZtK(a0:aK):Z29->Prop
 |.L0 E0 v3=>(E0=a0)/\(fJ E0)/\(0<=v3)/\(1<=E0.Types/\E0.Types<=63)
def TM:Z29->M6
 |.L0 E0 v3=>(1,((E0.Subs.length:Int)-v3).toNat,1000000,0,0,0)
def ZtL{a0:aK}(oa0:fJ a0):Tot (FP a0) (λr=>(r=true->1<=a0.Types/\a0.Types<=63)):=by
 apply Tot.rn (ZtK a0) TM
 .dsimp only[FO,LT.den];apply tD<;>intro h1
  .exact dR
  apply tD<;>intro h2
  .exact dR
  apply tD<;>intro h3
  .exact dR
  apply tD<;>intro h4
  .exact dR
  apply tD<;>intro h5
  .exact dR
  exact tL ⟨rfl,oa0,cl,(by first|assumption|omega)⟩ R2
 rintro⟨E0,v3⟩ ⟨al0,O0,cv3,i0⟩;subst al0;dsimp only[yO,FN,LT.den];have q1:=O0.1;apply tD<;>intro h1
 .refine Tot.ix λx1 h2=>?_;have oh2:SzT x1:=O0.2 x1 h2.1;refine tB (vv x1 oh2) λx2 h3=>?_;apply tO<;>intro h4
  .exact dR
  apply tD<;>intro h5
  .have q2:=wr (v3-1);refine Tot.ix λx3 h6=>?_;apply tO<;>intro h7
   .exact dR
   have q3:=wr (v3+1);exact R1
  have q2:=wr (v3+1);exact R1
 apply tE<;>intro h2
 .exact dR
 apply tE<;>intro h3
 .exact dR
 refine tB (Z8w cl) λx1 h4=>?_;apply tO<;>intro h5
 .exact tB (Z8w cl) λx2 h6=>tR Cy
 exact dR
def TN{a0:Int}:Tot (FT a0) (λr=>True):=by apply tZ;dsimp only[FQ,LT.den];exact Cw
def ZtM{a0:aq}(oa0:bQ a0):Tot (FV a0) (λr=>True):=by apply tZ;dsimp only[Z9m,LT.den];exact tR ae
def ZtN:pK->Prop
 |.L0 v0 v1 v7=>(0<=v7)/\True
def Rn:pK->M6
 |.L0 v0 v1 v7=>(1,(6-v7).toNat,1000000,0,0,0)
def TO{a0:Int}{a1:Int}{a2:Int}:Tot (Z5q a0 a1 a2) (λr=>True):=by
 apply Tot.rn ZtN Rn
 .dsimp only[Z7z,LT.den];apply tD<;>intro h1
  .exact tR ae
  apply tD<;>intro h2
  .exact tR ae
  apply tD<;>intro h3
  .exact tR ae
  apply tD<;>intro h4
  .exact tR ae
  exact Rm
 rintro⟨v0,v1,v7⟩ ⟨cv7,_⟩;dsimp only[ny,nx,LT.den];apply tD<;>intro h1
 .apply tE<;>intro h2
  .apply tE<;>intro h3
   .exact tR ae
   exact RO
  exact RO
 exact tR ae
def Z1a{a0:ah}:Tot (Z5r a0) (λr=>(r=true->0<=a0.Kind/\a0.Kind<=3)):=by
 apply tZ;dsimp only[Z70,LT.den];apply tD<;>intro h1
 .exact bS
 apply tD<;>intro h2
 .exact bS
 apply tD<;>intro h3
 .exact bS
 apply tD<;>intro h4
 .exact bS
 apply tN<;>intro h5
 .exact w5
 exact w5
abbrev TP(a0:al)(r:Bool):Prop:=(r=true->0<=a0.Zone/\a0.Zone<=5/\0<=a0.Who/\a0.Who<=2/\0<=a0.Self/\a0.Self<=2/\0<=a0.Tap/\a0.Tap<=2/\0<=a0.Power.Kind/\a0.Power.Kind<=3/\0<=a0.Tough.Kind/\a0.Tough.Kind<=3/\0<=a0.Value.Kind/\a0.Value.Kind<=3)
def Da(a0:al):Z3b->Prop
 |.L0 E0=>(E0=a0)/\(db E0)/\(0<=E0.Zone/\E0.Zone<=5/\0<=E0.Who/\E0.Who<=2/\0<=E0.Self/\E0.Self<=2/\0<=E0.Tap/\E0.Tap<=2)
def TQ:Z3b->M6
 |.L0 E0=>(0,0,0,0,0,0)
def Z1b{a0:al}{E0:al}(h:(Da a0) (.L0 E0)):Tot (lI E0).den (Nx (Da a0) TQ (0,0,0,0,0,0) (TP a0)):=by
 obtain⟨al0,O0,i0⟩:=h;subst al0;dsimp only[lI,LT.den];refine tB (Z1a) λx1 h1=>?_;have eh1_0:=h1;apply tF<;>intro h2
 .have h2_0:=eh1_0 h2;refine tB (Z1a) λx2 h3=>?_;have eh3_0:=h3;apply tF<;>intro h4
  .have h4_0:=eh3_0 h4;refine tB (Z1a) λx3 h5=>?_;have eh5_0:=h5;exact tR (by intro hr;have:=eh5_0 hr;first|omega|(cases hr;done))
  exact bS
 exact bS
def ZtO{a0:al}(oa0:db a0):Tot (pL a0) (TP a0):=by
 apply Tot.rn (Da a0) TQ
 .dsimp only[yP,LT.den];apply tD<;>intro h1
  .exact bS
  apply tD<;>intro h2
  .exact bS
  apply tD<;>intro h3
  .exact bS
  apply tD<;>intro h4
  .exact bS
  apply tD<;>intro h5
  .exact bS
  apply tD<;>intro h6
  .exact bS
  apply tD<;>intro h7
  .exact bS
  apply tD<;>intro h8
  .exact bS
  refine tB (TO) λx1 h9=>?_;apply tO<;>intro h10
  .exact bS
  refine tB (TO) λx2 h11=>?_;apply tO<;>intro h12
  .exact bS
  apply tO<;>intro h13
  .refine tB (vv a0.Sub (SzS.t oa0)) λx3 h14=>?_;apply tO<;>intro h15
   .exact bS
   apply tD<;>intro h16
   .exact bS
   apply tD<;>intro h17
   .exact bS
   exact tJ (Z1b ⟨rfl,oa0,cl⟩)
  apply tD<;>intro h14
  .exact bS
  apply tD<;>intro h15
  .exact bS
  exact tJ (Z1b ⟨rfl,oa0,cl⟩)
 intro s hs;cases s with
 |L0 _=>exact Z1b hs
def ko{a0:al}(oa0:db a0):Tot (pL a0) (λr=>(r=true->0<=a0.Zone/\a0.Zone<=5/\0<=a0.Who/\a0.Who<=2/\0<=a0.Self/\a0.Self<=2/\0<=a0.Tap/\a0.Tap<=2/\0<=a0.Power.Kind/\a0.Power.Kind<=3/\0<=a0.Tough.Kind/\a0.Tough.Kind<=3/\0<=a0.Value.Kind/\a0.Value.Kind<=3)/\(r=Z00 a0)):=(Tot.we (ZtO oa0)).mono λr h=>⟨h.1,cA (h.2.symm.trans (QC a0))⟩
abbrev Z1c(a0:af)(r:af):Prop:=(Z7 r)/\(Z9 (ax r) (ax oV)=dD a0)
def sS(a0:af):nz->Prop
 |.L0 E0 E1 v7 v8=>(Z7 E0)/\(Z7 E1)/\(v7=a0.Kind)/\(E0={ a0 with Kind:=0 })/\(v8=true↔v7=2\/v7=3\/v7=6\/v7=7\/v7=8\/v7=9)
 |.L1 E0 E1 v7 v16=>(Z7 E0)/\(Z7 E1)/\(v7=a0.Kind)/\(E0={ a0 with Kind:=0 })/\(¬(v7=2\/v7=3\/v7=6\/v7=7\/v7=8\/v7=9))/\(v16=true↔v7=4\/v7=5)
def Z8x:nz->M6
 |.L0 E0 E1 v7 v8=>(0,0,0,0,0,0)
 |.L1 E0 E1 v7 v16=>(0,0,0,0,0,0)
def Z66{a0:af}{E0:af}{E1:af}{v7:Int}{v16:Bool}(h:(sS a0) (.L1 E0 E1 v7 v16)):Tot (pM E0 E1 v7 v16).den (Nx (sS a0) Z8x (0,0,0,0,0,0) (Z1c a0)):=by
 obtain⟨O0,O1,i0,i1,i2,i3⟩:=h;dsimp only[pM,LT.den];apply tF<;>intro h1
 .exact tR ⟨⟨SzS.nil,O0.2⟩,tk43⟩
 apply tE<;>intro h2
 .exact tR ⟨⟨O0.1,SzS.nil⟩,tk43⟩
 apply tE<;>intro h3
 .exact CK
 apply tE<;>intro h4
 .exact CK
 exact tR ⟨O0,tk43⟩
def Z67{a0:af}{E0:af}{E1:af}{v7:Int}{v8:Bool}(h:(sS a0) (.L0 E0 E1 v7 v8)):Tot (jY E0 E1 v7 v8).den (Nx (sS a0) Z8x (0,0,0,0,0,0) (Z1c a0)):=by
 obtain⟨O0,O1,i0,i1,i2⟩:=h;dsimp only[jY,LT.den];apply tF<;>intro h1
 .exact CK
 apply tE<;>intro h2
 .exact RZ
 exact RZ
def ZtP{a0:af}(oa0:Z7 a0):Tot (F1 a0) (Z1c a0):=by
 apply Tot.rn (sS a0) Z8x
 .dsimp only[FZ,LT.den];apply tE<;>intro h1
  .exact oR
  apply tE<;>intro h2
  .exact oR
  apply tE<;>intro h3
  .exact oR
  apply tE<;>intro h4
  .exact oR
  apply tE<;>intro h5
  .exact oR
  exact oR
 intro s hs;cases s with
 |L0 _ _ _ _=>exact Z67 hs
 |L1 _ _ _ _=>exact Z66 hs
def ZtQ{a0:Int}:Tot (F4 a0) (λr=>(r=(inB a0 1 63&&decide (aR .and .i64 a0 6=0)))):=by
 apply tZ;dsimp only[F2,LT.den];apply tD<;>intro h1
 .apply tD<;>intro h2
  .exact sJ
  exact sJ
 exact sJ
def mM(a0:af):lJ->Prop
 |.L0 E0 v18 v19=>(E0=a0)/\(Z7 E0)/\(v18=E0.Kind)/\(inB E0.Kind 1 14=true)/\(dD E0=true)/\(v19=true↔E0.Kind=2\/E0.Kind=3)
 |.L1 E0 v18 v25=>(E0=a0)/\(Z7 E0)/\(v18=E0.Kind)/\(inB E0.Kind 1 14=true)/\(dD E0=true)/\(v25=true↔E0.Kind=4\/E0.Kind=5)/\(¬(E0.Kind=2\/E0.Kind=3))
 |.L2 E0 v18 v51=>(E0=a0)/\(Z7 E0)/\(v18=E0.Kind)/\(inB E0.Kind 1 14=true)/\(dD E0=true)/\(v51=true↔E0.Kind=8\/E0.Kind=9)/\(¬(2<=E0.Kind/\E0.Kind<=7))
def Z68:lJ->M6
 |.L0 E0 v18 v19=>(0,0,0,0,0,0)
 |.L1 E0 v18 v25=>(0,0,0,0,0,0)
 |.L2 E0 v18 v51=>(0,0,0,0,0,0)
def R5{a0:af}{E0:af}{v18:Int}{v51:Bool}(h:(mM a0) (.L2 E0 v18 v51)):Tot (pN E0 v18 v51).den (Nx (mM a0) Z68 (0,0,0,0,0,0) (λr=>(r=mdV a0))):=by
 obtain⟨al0,O0,i0,i1,i2,i3,i4⟩:=h;subst al0;dsimp only[pN,LT.den];apply tF<;>intro h1
 .apply tD<;>intro h2
  .exact dM
  exact dM
 apply tE<;>intro h2
 .exact tB (ko O0.2) λx1 h3=>tR Z4h
 apply tE<;>intro h3
 .apply tD<;>intro h4
  .apply tD<;>intro h5
   .apply tD<;>intro h6
    .exact dM
    exact dM
   exact dM
  exact dM
 apply tE<;>intro h4
 .apply tD<;>intro h5
  .apply tD<;>intro h6
   .apply tD<;>intro h7
    .exact dM
    exact dM
   exact dM
  exact dM
 exact dM
def Sb{a0:af}{E0:af}{v18:Int}{v25:Bool}(h:(mM a0) (.L1 E0 v18 v25)):Tot (pO E0 v18 v25).den (Nx (mM a0) Z68 (0,0,0,0,0,0) (λr=>(r=mdV a0))):=by
 obtain⟨al0,O0,i0,i1,i2,i3,i4⟩:=h;subst al0;dsimp only[pO,LT.den];apply tF<;>intro h1
 .exact tB (vv E0.Sub (SzS.t O0.1)) λx1 h2=>tR Z4h
 apply tE<;>intro h2
 .apply tD<;>intro h3
  .exact dM
  exact dM
 apply tE<;>intro h3
 .apply tD<;>intro h4
  .exact dM
  exact dM
 apply tE<;>intro h4
 .exact R4
 exact R4
def Sh{a0:af}{E0:af}{v18:Int}{v19:Bool}(h:(mM a0) (.L0 E0 v18 v19)):Tot (pP E0 v18 v19).den (Nx (mM a0) Z68 (0,0,0,0,0,0) (λr=>(r=mdV a0))):=by
 obtain⟨al0,O0,i0,i1,i2,i3⟩:=h;subst al0;dsimp only[pP,LT.den];apply tF<;>intro h1
 .exact tB (ZtQ) λx1 h2=>tR Z4h
 apply tE<;>intro h2
 .exact Sa
 exact Sa
def Aq{a0:af}(oa0:Z7 a0):Tot (F7 a0) (λr=>(r=mdV a0)):=by
 apply Tot.rn (mM a0) Z68
 .dsimp only[F5,LT.den];apply tD<;>intro h1
  .exact dM
  apply tD<;>intro h2
  .exact dM
  refine tB (ZtP oa0) λx1 h3=>?_;apply tO<;>intro h4
  .exact dM
  apply tE<;>intro h5
  .exact Sf
  exact Sf
 intro s hs;cases s with
 |L0 _ _ _=>exact Sh hs
 |L1 _ _ _=>exact Sb hs
 |L2 _ _ _=>exact R5 hs
def ZtR:pQ->Prop
 |.L0 v0 v1 v2 v7 v8=>((SzL 16 SzN) v0)/\(SzN v2)/\(0<=v8)/\(v7.length<=200*v8.toNat)/\(v0.length<=100)/\(v8<=v0.length)
def Z1d:pQ->M6
 |.L0 v0 v1 v2 v7 v8=>(1,((v0.length:Int)-v8).toNat,1000000,0,0,0)
def ZtS{a0:List (List UInt8)}{a1:Int}{a2:List UInt8}(oa0:(SzL 16 SzN) a0)(oa2:SzN a2)(h0:a0.length<=100):Tot (Ga a0 a1 a2) (λr=>(SzT r)/\(r.length<=20000)):=by
 apply Tot.rn ZtR Z1d
 .dsimp only[F9,LT.den];exact tL ⟨oa0,oa2,cs⟩ Rr
 rintro⟨v0,v1,v2,v7,v8⟩ ⟨ov0,ov2,cv8,i0,i1,i2⟩;have lb_v2:v2.length<=100:=ov2;dsimp only[Z3c,F8,LT.den];apply tD<;>intro h1
 .refine tB (Z8w cl) λx1 h2=>?_;apply tF<;>intro h3
  .apply tO<;>intro h4
   .refine tB (tK cd) λx2 h5=>Tot.ix λx3 h6=>?_;have oh6:SzN x3:=ov0.2 x3 h6.1;have q1:x3.length<=100:=oh6;refine tB (tK cd) λx4 h7=>?_;exact RT
   refine Tot.ix λx2 h5=>?_;have oh5:SzN x2:=ov0.2 x2 h5.1;have q1:x2.length<=100:=oh5;refine tB (tK cd) λx3 h6=>?_;exact RT
  have q1:=wr (v8+1);exact Rq
 exact tR ⟨tk83,cl⟩
def Db{a0:Int}:Tot (Gb a0) (λr=>(SzT r)/\(r.length<=20000)):=by
 apply tZ;dsimp only[Z5s,LT.den];apply tD<;>intro h1
 .exact tR ⟨SzT.nil,cl⟩
 apply tD<;>intro h2
 .exact tR ⟨SzT.nil,cl⟩
 refine tB (ZtI) λx1 h3=>tB (ZtS h3.1 bg cl) λx2 h4=>?_;have eh4_1:=h4.2;exact tR ⟨h4.1,cl⟩
def ZtT{a0:Int}:Tot (Ge a0) (λr=>True):=by apply tZ;dsimp only[Gc,LT.den];exact Cw
def xk{a0:Int}:Tot (Gh a0) (λr=>(SzN r)):=by
 apply tZ;dsimp only[Gf,LT.den];apply tE<;>intro h1
 .exact di
 apply tE<;>intro h2
 .exact di
 apply tE<;>intro h3
 .exact di
 apply tE<;>intro h4
 .exact di
 apply tE<;>intro h5
 .exact di
 exact tR (SzN.nil)
def ZtU:pR->Prop
 |.L0 v0 v3 v4=>(0<=v4)/\(v3.length<=200*v4.toNat)/\(v4<=5)
def Rb:pR->M6
 |.L0 v0 v3 v4=>(1,(5-v4).toNat,1000000,0,0,0)
def TR{a0:Int}:Tot (Gk a0) (λr=>(SzT r)):=by
 apply Tot.rn ZtU Rb
 .dsimp only[Gj,LT.den];refine tB (ZtT) λx1 h1=>?_;apply tO<;>intro h2
  .exact tR (SzT.nil)
  apply tE<;>intro h3
  .exact w7
  exact Cu
 rintro⟨v0,v3,v4⟩ ⟨cv4,i0,i1⟩;dsimp only[yU,Gi,LT.den];apply tD<;>intro h1
 .refine tB (tK C1) λx1 h2=>tB (tK C1) λx2 h3=>?_;apply tE<;>intro h4
  .apply tO<;>intro h5
   .refine tB (tK cd) λx3 h6=>tB (xk) λx4 h7=>?_;have q1:x4.length<=100:=h7;refine tB (tK cd) λx5 h8=>?_;exact Ry
   refine tB (xk) λx3 h6=>?_;have q1:x3.length<=100:=h6;refine tB (tK cd) λx4 h7=>?_;exact Ry
  have q1:=wr (v4+1);exact Cu
 exact w7
def ZtV:Tot (yV) (λr=>((SzL 16 SzN) r)/\(r.length=17)):=by apply tZ;dsimp only[Gm,LT.den];have q1:(SzL 16 SzN) ([([102,108,121,105,110,103]:List UInt8),([114,101,97,99,104]:List UInt8),([104,97,115,116,101]:List UInt8),([118,105,103,105,108,97,110,116]:List UInt8),([116,114,97,109,112,108,101]:List UInt8),([102,105,114,115,116,45,115,116,114,105,107,101]:List UInt8),([100,111,117,98,108,101,45,115,116,114,105,107,101]:List UInt8),([100,101,97,100,108,121]:List UInt8),([108,105,102,101,108,105,110,107]:List UInt8),([109,101,110,97,99,101]:List UInt8),([100,101,102,101,110,100,101,114]:List UInt8),([119,97,114,100,101,100]:List UInt8),([115,116,117,114,100,121]:List UInt8),([101,108,117,115,105,118,101]:List UInt8),([110,111,45,97,116,116,97,99,107]:List UInt8),([110,111,45,98,108,111,99,107]:List UInt8),([109,117,115,116,45,97,116,116,97,99,107]:List UInt8)]:List (List UInt8)):=⟨by simp only[bw,bW];omega,mem_cons' bg (mem_cons' bg (mem_cons' bg (mem_cons' bg (mem_cons' bg (mem_cons' bg (mem_cons' bg (mem_cons' bg (mem_cons' bg (mem_cons' bg (mem_cons' bg (mem_cons' bg (mem_cons' bg (mem_cons' bg (mem_cons' bg (mem_cons' bg (mem_cons' bg (λ_ h=>by cases h)))))))))))))))))⟩;have lq1:([([102,108,121,105,110,103]:List UInt8),([114,101,97,99,104]:List UInt8),([104,97,115,116,101]:List UInt8),([118,105,103,105,108,97,110,116]:List UInt8),([116,114,97,109,112,108,101]:List UInt8),([102,105,114,115,116,45,115,116,114,105,107,101]:List UInt8),([100,111,117,98,108,101,45,115,116,114,105,107,101]:List UInt8),([100,101,97,100,108,121]:List UInt8),([108,105,102,101,108,105,110,107]:List UInt8),([109,101,110,97,99,101]:List UInt8),([100,101,102,101,110,100,101,114]:List UInt8),([119,97,114,100,101,100]:List UInt8),([115,116,117,114,100,121]:List UInt8),([101,108,117,115,105,118,101]:List UInt8),([110,111,45,97,116,116,97,99,107]:List UInt8),([110,111,45,98,108,111,99,107]:List UInt8),([109,117,115,116,45,97,116,116,97,99,107]:List UInt8)]:List (List UInt8)).length=17:=rfl;exact tR ⟨q1,cl⟩
def Z4i{a0:Int}:Tot (Gr a0) (λr=>(SzN r)):=by
 apply tZ;dsimp only[Gp,LT.den];apply tD<;>intro h1
 .exact tR (SzN.nil)
 apply tD<;>intro h2
 .exact tR (SzN.nil)
 refine tB (ZtV) λx1 h3=>Tot.ix λx2 h4=>?_;have oh4:SzN x2:=h3.1.2 x2 h4.1;exact tR oh4
def ZtW:pS->Prop
 |.L0 v0 v3 v4=>(0<=v4)/\(v3.length<=200*v4.toNat)/\(v4<=17)
def Re:pS->M6
 |.L0 v0 v3 v4=>(1,(17-v4).toNat,1000000,0,0,0)
def TT{a0:Int}:Tot (Gv a0) (λr=>(SzT r)):=by
 apply Tot.rn ZtW Re
 .dsimp only[Gu,LT.den];refine tB (TN) λx1 h1=>?_;apply tO<;>intro h2
  .exact tR (SzT.nil)
  exact Cx
 rintro⟨v0,v3,v4⟩ ⟨cv4,i0,i1⟩;dsimp only[yW,Gt,LT.den];apply tD<;>intro h1
 .apply tE<;>intro h2
  .apply tO<;>intro h3
   .refine tB (tK cd) λx1 h4=>tB (Z4i) λx2 h5=>?_;have q1:x2.length<=100:=h5;refine tB (tK cd) λx3 h6=>?_;exact RK
   refine tB (Z4i) λx1 h4=>?_;have q1:x1.length<=100:=h4;refine tB (tK cd) λx2 h5=>?_;exact RK
  have q1:=wr (v4+1);exact Cx
 exact SF
def ZtX:Tot (Z0b) (λr=>((SzL 16 SzN) r)/\(r.length=6)):=by apply tZ;dsimp only[Z5u,LT.den];have q1:(SzL 16 SzN) ([([]:List UInt8),([105,110,45,104,97,110,100]:List UInt8),([105,110,45,108,105,98,114,97,114,121]:List UInt8),([105,110,45,103,114,97,118,101,121,97,114,100]:List UInt8),([105,110,45,101,120,105,108,101]:List UInt8),([111,110,45,115,116,97,99,107]:List UInt8)]:List (List UInt8)):=⟨by simp only[bw,bW];omega,mem_cons' (SzN.nil) (mem_cons' bg (mem_cons' bg (mem_cons' bg (mem_cons' bg (mem_cons' bg (λ_ h=>by cases h))))))⟩;have lq1:([([]:List UInt8),([105,110,45,104,97,110,100]:List UInt8),([105,110,45,108,105,98,114,97,114,121]:List UInt8),([105,110,45,103,114,97,118,101,121,97,114,100]:List UInt8),([105,110,45,101,120,105,108,101]:List UInt8),([111,110,45,115,116,97,99,107]:List UInt8)]:List (List UInt8)).length=6:=rfl;exact tR ⟨q1,cl⟩
def ZtY:Tot (Z3d) (λr=>((SzL 16 SzN) r)/\(r.length=3)):=by apply tZ;dsimp only[Z9o,LT.den];have q1:(SzL 16 SzN) ([([]:List UInt8),([121,111,117,114,115]:List UInt8),([116,104,101,105,114,115]:List UInt8)]:List (List UInt8)):=⟨by simp only[bw,bW];omega,mem_cons' (SzN.nil) (mem_cons' bg (mem_cons' bg (λ_ h=>by cases h)))⟩;have lq1:([([]:List UInt8),([121,111,117,114,115]:List UInt8),([116,104,101,105,114,115]:List UInt8)]:List (List UInt8)).length=3:=rfl;exact tR ⟨q1,cl⟩
def ZtZ:Tot (Z0c) (λr=>((SzL 16 SzN) r)/\(r.length=3)):=by apply tZ;dsimp only[Z5w,LT.den];have q1:(SzL 16 SzN) ([([]:List UInt8),([115,101,108,102]:List UInt8),([111,116,104,101,114]:List UInt8)]:List (List UInt8)):=⟨by simp only[bw,bW];omega,mem_cons' (SzN.nil) (mem_cons' bg (mem_cons' bg (λ_ h=>by cases h)))⟩;have lq1:([([]:List UInt8),([115,101,108,102]:List UInt8),([111,116,104,101,114]:List UInt8)]:List (List UInt8)).length=3:=rfl;exact tR ⟨q1,cl⟩
def ZuA:Tot (Z3e) (λr=>((SzL 16 SzN) r)/\(r.length=3)):=by apply tZ;dsimp only[Z9q,LT.den];have q1:(SzL 16 SzN) ([([]:List UInt8),([116,97,112,112,101,100]:List UInt8),([117,110,116,97,112,112,101,100]:List UInt8)]:List (List UInt8)):=⟨by simp only[bw,bW];omega,mem_cons' (SzN.nil) (mem_cons' bg (mem_cons' bg (λ_ h=>by cases h)))⟩;have lq1:([([]:List UInt8),([116,97,112,112,101,100]:List UInt8),([117,110,116,97,112,112,101,100]:List UInt8)]:List (List UInt8)).length=3:=rfl;exact tR ⟨q1,cl⟩
def ZuB:pT->Prop
 |.L0 v0 v1 v5=>(0<=v5)/\(v1<=100)
def Q6:pT->M6
 |.L0 v0 v1 v5=>(1,(v1-v5).toNat,1000000,0,0,0)
def sU{a0:Int}{a1:Int}(h0:a1<=100):Tot (Gz a0 a1) (λr=>True):=by
 apply Tot.rn ZuB Q6
 .dsimp only[Gy,LT.den];exact Q5
 rintro⟨v0,v1,v5⟩ ⟨cv5,i0⟩;dsimp only[yX,Gx,LT.den];apply tD<;>intro h1
 .have q1:=wr (v5+1);exact Q5
 exact tR ae
def ZuC:pV->Prop
 |.L0 v0 v3 v4=>(0<=v4)/\(v0<=100)
def Z69:pV->M6
 |.L0 v0 v3 v4=>(1,(v0-v4).toNat,1000000,0,0,0)
def Z4j{a0:Int}(h0:a0<=100):Tot (GA a0) (λr=>(SzT r)/\(r.length<=20000)):=by
 apply Tot.rn ZuC Z69
 .dsimp only[Z9s,LT.den];exact Rl
 rintro⟨v0,v3,v4⟩ ⟨cv4,i0⟩;dsimp only[yY,Z5y,LT.den];apply tD<;>intro h1
 .have q1:=wr (v3*2);have q2:=wr (v4+1);exact Rl
 refine tB (Db) λx1 h2=>?_;have eh2_1:=h2.2;exact tR ⟨h2.1,cl⟩
def ZuD:Tot (yZ) (λr=>((SzL 16 SzN) r)/\(r.length=4)):=by apply tZ;dsimp only[GB,LT.den];have q1:(SzL 16 SzN) ([([]:List UInt8),([62,61]:List UInt8),([60,61]:List UInt8),([61]:List UInt8)]:List (List UInt8)):=⟨by simp only[bw,bW];omega,mem_cons' (SzN.nil) (mem_cons' bg (mem_cons' bg (mem_cons' bg (λ_ h=>by cases h))))⟩;have lq1:([([]:List UInt8),([62,61]:List UInt8),([60,61]:List UInt8),([61]:List UInt8)]:List (List UInt8)).length=4:=rfl;exact tR ⟨q1,cl⟩
def TU{n:Int}(h0:0<=n)(h1:n<18446744073709551616):eu .u64 n 10=n/10:=by
 unfold eu;rw[Int.tdiv_eq_ediv_of_nonneg h0];have h2:0<=n/10:=a8
 have h3:n/10<18446744073709551616:=a8
 simp only[IntKind.wrap,IntKind.bits,IntKind.signed,xl,eT,ft];exact Dc h2 h3
def Z7a:∀(k:Nat) (n:Int) (s:List UInt8),k<=20->0<=n->n<10 ^ k->n<18446744073709551616->s.length+k<=40->Tot (bZ uF.step (.L0 n s)) λr=>SzN r/\r.length<=40
 |0,n,s,_,h0,h1,_,hs=>by
  have:n=0:=a8
  subst this;refine Tot.stop (r:=s) ?_ ⟨show s.length<=100 by omega,by omega⟩;show(lK _ _).den=_;dsimp only[lK,LT.den];rfl
 |k+1,n,s,hk,h0,h1,h2,hs=>by
  by_cases hn:n>0
  .obtain⟨d,hd,hl⟩:=Tot.str (xs:=[IntKind.wrap .u8 (IntKind.wrap .u64 (48+(Int.tmod n 10)))]) ay tk89;simp only[bw,bW]at hl;have e:uF.step (.L0 n s)=some (.inl (.L0 (n/10) (d++s))):=by
    show(lK _ _).den=_;dsimp only[lK,LT.den];rw[bh hn,aD,hd,bf,bh (show d.length+s.length<=9223372036854775807 by omega),TU h0 h2];rfl
   obtain⟨r,hr,hp⟩:=Z7a k (n/10) (d++s) O O (by rw[Int.pow_succ]at h1;have:n/10<10 ^ k:=Int.ediv_lt_of_lt_mul bF h1;exact this) O (by rw[bm];omega);exact⟨r,by rw[jN e];exact hr,hp⟩
  refine Tot.stop (r:=s) ?_ ⟨show s.length<=100 by omega,by omega⟩;show(lK _ _).den=_;dsimp only[lK,LT.den];rw[bn hn];rfl
def TV(a0:Int)(h0:0<=a0)(h1:a0<18446744073709551616):Tot (za a0) (λr=>(SzN r)/\(r.length<=40)):=by unfold za LF.run;dsimp only[GD,LT.den];obtain⟨d,hd,hl⟩:=Tot.str (xs:=[IntKind.wrap .u8 (IntKind.wrap .u64 (48+(Int.tmod a0 10)))]) ay tk89;simp only[bw,bW]at hl;rw[hd,bf,bf,kf,TU h0 h1];exact Z7a 20 (a0/10) d O O O O O
def oW{a0:Int}:Tot (GH a0) (λr=>(SzN r)):=by
 apply tZ;dsimp only[GF,LT.den];apply tD<;>intro h1
 .have q1:0<=IntKind.wrap .u64 (0-(IntKind.wrap .u64 a0))/\IntKind.wrap .u64 (0-(IntKind.wrap .u64 a0))<18446744073709551616:=TW _;exact tB (TV (IntKind.wrap .u64 (0-(IntKind.wrap .u64 a0))) cl cl) λx1 h2=>tB (tK cd) λx2 h3=>tR bg
 have q1:0<=IntKind.wrap .u64 a0/\IntKind.wrap .u64 a0<18446744073709551616:=TW _;exact tB (TV (IntKind.wrap .u64 a0) cl cl) λx1 h2=>tR h2.1
def Dd{a0:List UInt8}{a1:ah}(oa0:SzN a0)(h0:0<=a1.Kind)(h1:a1.Kind<=3):Tot (GI a0 a1) (λr=>(SzT r)):=by
 apply tZ;have lb_a0:a0.length<=100:=oa0;dsimp only[Z50,LT.den];apply tE<;>intro h1
 .exact tR (SzT.nil)
 refine tB (ZuD) λx1 h2=>Tot.ix λx2 h3=>?_;have oh3:SzN x2:=h2.1.2 x2 h3.1;have q1:x2.length<=100:=oh3;refine tB (tK cd) λx3 h4=>tB (oW) λx4 h5=>?_;have q2:x4.length<=100:=h5;exact tB (tK cd) λx5 h6=>tR tk83
def ZuE:pW->Prop
 |.L0 v0 v1 v5 v6=>((SzL 16 SzT) v0)/\(SzN v1)/\(0<=v6)/\(v5.length<=1125899906842624*v6.toNat)/\(v0.length<=100)/\(v6<=v0.length)
def Z8y:pW->M6
 |.L0 v0 v1 v5 v6=>(1,((v0.length:Int)-v6).toNat,1000000,0,0,0)
def ZuF{a0:List (List UInt8)}{a1:List UInt8}(oa0:(SzL 16 SzT) a0)(oa1:SzN a1)(h0:a0.length<=100):Tot (GM a0 a1) (λr=>(r.length<=144115188075855872)):=by
 apply Tot.rn ZuE Z8y
 .dsimp only[GL,LT.den];exact tL ⟨oa0,oa1,cs⟩ RQ
 rintro⟨v0,v1,v5,v6⟩ ⟨ov0,ov1,cv6,i0,i1,i2⟩;have lb_v1:v1.length<=100:=ov1;dsimp only[ze,GJ,LT.den];apply tD<;>intro h1
 .apply tD<;>intro h2
  .refine tB (tK cd) λx1 h3=>Tot.ix λx2 h4=>?_;have oh4:SzT x2:=ov0.2 x2 h4.1;have q1:x2.length<=562949953421312:=oh4;refine tB (tK cd) λx3 h5=>?_;exact RP
  refine Tot.ix λx1 h3=>?_;have oh3:SzT x1:=ov0.2 x1 h3.1;have q1:x1.length<=562949953421312:=oh3;refine tB (tK cd) λx2 h4=>?_;exact RP
 exact tR cl
def mO{b0:List (List UInt8)}{a1:List UInt8}(ob0:(SzL 16 SzT) b0)(oa1:SzT a1)(h0:b0.length<=1000):Tot (GN b0 a1) (λr=>((SzL 16 SzT) r)/\(r.length<=b0.length+1)):=by
 apply tZ;dsimp only[Z9t,LT.den];apply tF<;>intro h1
 .exact tR ⟨ob0,cl⟩
 refine Tot.ap λx1 h2=>?_;have lh2:=ca h2;exact tR ⟨SzL.app (k:=16) h2 lo ob0.2 (me1 oa1),cl⟩
def Z4k:jB->Prop
 |.L0 E0 v6 v7 v8=>(db E0)/\((SzL 16 SzN) v6)/\((SzL 16 SzT) v7)/\(0<=v8)/\(v7.length<=3+v8.toNat)/\(v8<=6)/\(v6.length=3)/\(0<=E0.Tap/\E0.Tap<=2/\0<=E0.Power.Kind/\E0.Power.Kind<=3/\0<=E0.Tough.Kind/\E0.Tough.Kind<=3/\0<=E0.Value.Kind/\E0.Value.Kind<=3)
 |.L1 E0 v6 v7 v9=>(db E0)/\((SzL 16 SzN) v6)/\((SzL 16 SzT) v7)/\(0<=v9)/\(v7.length<=9+v9.toNat)/\(v9<=6)/\(v6.length=3)/\(0<=E0.Tap/\E0.Tap<=2/\0<=E0.Power.Kind/\E0.Power.Kind<=3/\0<=E0.Tough.Kind/\E0.Tough.Kind<=3/\0<=E0.Value.Kind/\E0.Value.Kind<=3)
 |.L2 E0 v6 v7 v10=>(db E0)/\((SzL 16 SzN) v6)/\((SzL 16 SzT) v7)/\(0<=v10)/\(v7.length<=15+v10.toNat)/\(v10<=5)/\(v6.length=3)/\(0<=E0.Tap/\E0.Tap<=2/\0<=E0.Power.Kind/\E0.Power.Kind<=3/\0<=E0.Tough.Kind/\E0.Tough.Kind<=3/\0<=E0.Value.Kind/\E0.Value.Kind<=3)
 |.L3 E0 v6 v7 v11=>(db E0)/\((SzL 16 SzN) v6)/\((SzL 16 SzT) v7)/\(0<=v11)/\(v7.length<=20+v11.toNat)/\(v11<=5)/\(v6.length=3)/\(0<=E0.Tap/\E0.Tap<=2/\0<=E0.Power.Kind/\E0.Power.Kind<=3/\0<=E0.Tough.Kind/\E0.Tough.Kind<=3/\0<=E0.Value.Kind/\E0.Value.Kind<=3)
 |.L4 E0 v6 v7=>(db E0)/\((SzL 16 SzN) v6)/\((SzL 16 SzT) v7)/\(v7.length<=26)/\(v6.length=3)/\(0<=E0.Tap/\E0.Tap<=2/\0<=E0.Power.Kind/\E0.Power.Kind<=3/\0<=E0.Tough.Kind/\E0.Tough.Kind<=3/\0<=E0.Value.Kind/\E0.Value.Kind<=3)
 |.L5 E0 v6 v7 v12=>(db E0)/\((SzL 16 SzN) v6)/\((SzL 16 SzT) v7)/\(0<=v12)/\(v7.length<=26+v12.toNat)/\(v12<=17)/\(v6.length=3)/\(0<=E0.Tap/\E0.Tap<=2/\0<=E0.Power.Kind/\E0.Power.Kind<=3/\0<=E0.Tough.Kind/\E0.Tough.Kind<=3/\0<=E0.Value.Kind/\E0.Value.Kind<=3)
def lf:jB->M6
 |.L0 E0 v6 v7 v8=>(9,(6-v8).toNat,1000000,0,0,0)
 |.L1 E0 v6 v7 v9=>(7,(6-v9).toNat,1000000,0,0,0)
 |.L2 E0 v6 v7 v10=>(5,(5-v10).toNat,1000000,0,0,0)
 |.L3 E0 v6 v7 v11=>(3,(5-v11).toNat,1000000,0,0,0)
 |.L4 E0 v6 v7=>(2,0,0,0,0,0)
 |.L5 E0 v6 v7 v12=>(1,(17-v12).toNat,1000000,0,0,0)
def De{E0:al}{v6:List (List UInt8)}{v7:List (List UInt8)}(h:Z4k (.L4 E0 v6 v7)):Tot (pX E0 v6 v7).den (Nx Z4k lf (2,0,0,0,0,0) (λr=>(r.length<=144115188075855872))):=by obtain⟨O0,ov6,ov7,i0,i1,i2⟩:=h;dsimp only[pX,LT.den];exact km
def ZuG{a0:al}(oa0:db a0):Tot (GU a0) (λr=>(r.length<=144115188075855872)):=by
 apply Tot.rn Z4k lf
 .dsimp only[GT,LT.den];refine tB (ko oa0) λx1 h1=>?_;have eh1_0:=h1.1;apply tO<;>intro h2
  .exact tR cl
  have h2_0:=eh1_0 h2;refine tB (ZtX) λx2 h3=>tB (ZtY) λx3 h4=>tB (ZtZ) λx4 h5=>tB (ZuA) λx5 h6=>?_;have eh6_1:=h6.2;refine Tot.ix λx6 h7=>?_;have oh7:SzN x6:=h3.1.2 x6 h7.1;refine tB (mO SzL.nil (SzN.t oh7) cl) λx7 h8=>?_;have eh8_1:=h8.2;try simp only[bW,bw,aN]at eh8_1
  refine Tot.ix λx8 h9=>?_;have oh9:SzN x8:=h4.1.2 x8 h9.1;refine tB (mO h8.1 (SzN.t oh9) cl) λx9 h10=>Tot.ix λx10 h11=>?_;have oh11:SzN x10:=h5.1.2 x10 h11.1;exact tB (mO h10.1 (SzN.t oh11) cl) λx11 h12=>tL ⟨oa0,h6.1,h12.1,cs⟩ sK
 intro s hs;cases s with
 |L0 E0 v6 v7 v8=>
  obtain⟨O0,ov6,ov7,cv8,i0,i1,i2,i3⟩:=hs;have lb_v7:=ov7.1;dsimp only[lM,GO,LT.den,lf];apply tD<;>intro h1
  .refine tB (sU cl) λx1 h2=>?_;apply tF<;>intro h3
   .refine tB (Z4j cl) λx2 h4=>Tot.ap λx3 h5=>?_;have lh5:=ca h5;have q1:=wr (v8+1);exact tL ⟨O0,ov6,SzL.app (k:=16) h5 lo ov7.2 (me1 h4.1),cs⟩ sK
   have q1:=wr (v8+1);exact km
  exact km
 |L1 E0 v6 v7 v9=>
  obtain⟨O0,ov6,ov7,cv9,i0,i1,i2,i3⟩:=hs;have lb_v7:=ov7.1;dsimp only[lM,GP,LT.den,lf];apply tD<;>intro h1
  .refine tB (sU cl) λx1 h2=>?_;apply tF<;>intro h3
   .refine tB (Z4j cl) λx2 h4=>?_;have q1:x2.length<=562949953421312:=h4.1;refine tB (tK cd) λx3 h5=>?_;have q2:=ov7.1;refine Tot.ap λx4 h6=>?_;have lh6:=ca h6;have q3:=wr (v9+1);exact CJ
   have q1:=wr (v9+1);exact km
  exact km
 |L2 E0 v6 v7 v10=>
  obtain⟨O0,ov6,ov7,cv10,i0,i1,i2,i3⟩:=hs;have lb_v7:=ov7.1;dsimp only[lM,GQ,LT.den,lf];apply tD<;>intro h1
  .refine tB (sU cl) λx1 h2=>?_;apply tF<;>intro h3
   .refine tB (xk) λx2 h4=>Tot.ap λx3 h5=>?_;have lh5:=ca h5;have q1:=wr (v10+1);exact tL ⟨O0,ov6,SzL.app (k:=16) h5 lo ov7.2 (me1 (SzN.t h4)),cs⟩ sK
   have q1:=wr (v10+1);exact km
  exact km
 |L3 E0 v6 v7 v11=>
  obtain⟨O0,ov6,ov7,cv11,i0,i1,i2,i3⟩:=hs;have lb_v7:=ov7.1;dsimp only[lM,GR,LT.den,lf];apply tD<;>intro h1
  .refine tB (sU cl) λx1 h2=>?_;apply tF<;>intro h3
   .refine tB (xk) λx2 h4=>?_;have q1:x2.length<=100:=h4;refine tB (tK cd) λx3 h5=>?_;have q2:=ov7.1;refine Tot.ap λx4 h6=>?_;have lh6:=ca h6;have q3:=wr (v11+1);exact CJ
   have q1:=wr (v11+1);exact km
  apply tO<;>intro h2
  .have q1:E0.Sub.length<=281474976710656:=O0;refine tB (tK cd) λx1 h3=>Tot.ap λx2 h4=>?_;have lh4:=ca h4;exact tJ (De ⟨O0,ov6,SzL.app (k:=16) h4 lo ov7.2 (me1 tk83),cs⟩)
  exact tJ (De ⟨O0,ov6,ov7,cs⟩)
 |L4 _ _ _=>exact De hs
 |L5 E0 v6 v7 v12=>
  obtain⟨O0,ov6,ov7,cv12,i0,i1,i2,i3⟩:=hs;have lb_v7:=ov7.1;dsimp only[lM,GS,LT.den,lf];apply tD<;>intro h1
  .refine tB (sU cl) λx1 h2=>?_;apply tF<;>intro h3
   .refine tB (Z4i) λx2 h4=>?_;have q1:x2.length<=100:=h4;refine tB (tK cd) λx3 h5=>?_;have q2:=ov7.1;refine Tot.ap λx4 h6=>?_;have lh6:=ca h6;have q3:=wr (v12+1);exact CJ
   have q1:=wr (v12+1);exact km
  refine Tot.ix λx1 h2=>?_;have oh2:SzN x1:=ov6.2 x1 h2.1;refine tB (mO ov7 (SzN.t oh2) cl) λx2 h3=>tB (Dd bg cl cl) λx3 h4=>tB (mO h3.1 h4 cl) λx4 h5=>tB (Dd bg cl cl) λx5 h6=>tB (mO h5.1 h6 cl) λx6 h7=>tB (Dd bg cl cl) λx7 h8=>tB (mO h7.1 h8 cl) λx8 h9=>?_;apply tE<;>intro h10
  .exact tR cl
  exact tB (ZuF h9.1 bg cl) λx9 h11=>tR cl
def TX{a0:af}(oa0:Z7 a0):Tot (GX a0) (λr=>(r.length<=288230376151711744)):=by
 apply tZ;dsimp only[GV,LT.den];refine tB (Aq oa0) λx1 h1=>?_;apply tO<;>intro h2
 .exact tR cl
 apply tE<;>intro h3
 .exact tR cl
 apply tE<;>intro h4
 .exact tB (Db) λx2 h5=>tB (tK cd) λx3 h6=>tR cl
 apply tE<;>intro h5
 .exact tB (Db) λx2 h6=>tB (tK cd) λx3 h7=>tR cl
 apply tE<;>intro h6
 .have q1:a0.Sub.length<=281474976710656:=oa0.1;exact tB (tK cd) λx2 h7=>tR cl
 apply tE<;>intro h7
 .have q1:a0.Sub.length<=281474976710656:=oa0.1;exact tB (tK cd) λx2 h8=>tR cl
 apply tE<;>intro h8
 .refine tB (TR) λx2 h9=>?_;have q1:x2.length<=562949953421312:=h9;exact tB (tK cd) λx3 h10=>tR cl
 apply tE<;>intro h9
 .refine tB (TR) λx2 h10=>?_;have q1:x2.length<=562949953421312:=h10;exact tB (tK cd) λx3 h11=>tR cl
 apply tE<;>intro h10
 .refine tB (TT) λx2 h11=>?_;have q1:x2.length<=562949953421312:=h11;exact tB (tK cd) λx3 h12=>tR cl
 apply tE<;>intro h11
 .refine tB (TT) λx2 h12=>?_;have q1:x2.length<=562949953421312:=h12;exact tB (tK cd) λx3 h13=>tR cl
 apply tE<;>intro h12
 .exact tR cl
 apply tE<;>intro h13
 .exact tB (ZuG oa0.2) λx2 h14=>tB (tK cd) λx3 h15=>tB (tK cd) λx4 h16=>tR cl
 apply tE<;>intro h14
 .refine tB (oW) λx2 h15=>?_;have q1:x2.length<=100:=h15;refine tB (tK cd) λx3 h16=>tB (tK cd) λx4 h17=>tB (oW) λx5 h18=>?_;have q2:x5.length<=100:=h18;exact tB (tK cd) λx6 h19=>tR cl
 apply tE<;>intro h15
 .refine tB (oW) λx2 h16=>?_;have q1:x2.length<=100:=h16;refine tB (tK cd) λx3 h17=>tB (tK cd) λx4 h18=>tB (oW) λx5 h19=>?_;have q2:x5.length<=100:=h19;exact tB (tK cd) λx6 h20=>tR cl
 exact tR cl
def ZuH:pY->Prop
 |.L0 v0 v3 v4=>((SzL 176 Z7) v0)/\(0<=v4)/\(v3.length<=576460752303423488*v4.toNat)/\(v0.length<=6)/\(v4<=v0.length)
def TY:pY->M6
 |.L0 v0 v3 v4=>(1,((v0.length:Int)-v4).toNat,1000000,0,0,0)
def Df{a0:List af}(oa0:(SzL 176 Z7) a0):Tot (GZ a0) (λr=>(r.length<=4611686018427387904)):=by
 apply Tot.rn ZuH TY
 .have lb_a0:=oa0.1;dsimp only[Z9v,LT.den];apply tE<;>intro h1
  .exact tR cl
  apply tD<;>intro h2
  .exact tR cl
  exact tL ⟨oa0,cs⟩ RN
 rintro⟨v0,v3,v4⟩ ⟨ov0,cv4,i0,i1,i2⟩;dsimp only[zf,Z52,LT.den];apply tD<;>intro h1
 .refine Tot.ix λx1 h2=>?_;have oh2:Z7 x1:=ov0.2 x1 h2.1;refine tB (Aq oh2) λx2 h3=>?_;apply tO<;>intro h4
  .exact tR cl
  apply tD<;>intro h5
  .refine tB (tK cd) λx3 h6=>tB (TX oh2) λx4 h7=>tB (tK cd) λx5 h8=>?_;exact RM
  refine tB (TX oh2) λx3 h6=>tB (tK cd) λx4 h7=>?_;exact RM
 exact tR cl
def ZuI{a0:iE}:Tot (G2 a0) (λr=>True):=by
 apply tZ;dsimp only[G0,LT.den];refine tB (Z2n a0.Mana) λx1 h1=>?_;have eh1_0:=h1.1;have eh1_1:=h1.2.1;apply tF<;>intro h2
 .apply tE<;>intro h3
  .exact Cv
  exact tR ae
 exact tR ae
def TZ{a0:Int}:Tot (G5 a0) (λr=>(SzN r)):=by
 apply tZ;dsimp only[G3,LT.den];apply tE<;>intro h1
 .exact di
 apply tE<;>intro h2
 .exact di
 apply tE<;>intro h3
 .exact di
 apply tE<;>intro h4
 .exact di
 apply tE<;>intro h5
 .exact di
 apply tE<;>intro h6
 .exact di
 apply tE<;>intro h7
 .exact di
 apply tE<;>intro h8
 .exact di
 apply tE<;>intro h9
 .exact di
 apply tE<;>intro h10
 .exact di
 apply tE<;>intro h11
 .exact di
 apply tE<;>intro h12
 .exact di
 apply tE<;>intro h13
 .exact di
 apply tE<;>intro h14
 .exact di
 exact tR (SzN.nil)
def T0{a0:Int}:Tot (G9 a0) (λr=>True):=by
 apply tZ;dsimp only[G7,LT.den];apply tE<;>intro h1
 .exact tR ae
 apply tE<;>intro h2
 .exact tR ae
 apply tE<;>intro h3
 .exact tR ae
 exact CB
def ZuJ{a0:Int}:Tot (Hb a0) (λr=>True):=by
 apply tZ;dsimp only[Z53,LT.den];refine tB (TZ) λx1 h1=>?_;apply tO<;>intro h2
 .refine tB (T0) λx2 h3=>?_;apply tO<;>intro h4
  .exact tR ae
  exact tR ae
 exact tR ae
def Dg:Z3g->Prop
 |.L0 E0=>(xg E0)/\True
def T4:Z3g->M6
 |.L0 E0=>(0,0,0,0,0,0)
def Z1e{E0:fH}(h:Dg (.L0 E0)):Tot (pZ E0).den (Nx Dg T4 (0,0,0,0,0,0) (λr=>True)):=by
 obtain⟨O0,_⟩:=h;dsimp only[pZ,LT.den];refine tB (ZuJ) λx1 h1=>?_;apply tO<;>intro h2
 .exact tR ae
 apply tE<;>intro h3
 .exact Sm
 exact Sm
def ZuK{a0:fH}(oa0:xg a0):Tot (He a0) (λr=>True):=by
 apply Tot.rn Dg T4
 .dsimp only[Hc,LT.den];refine tB (TZ) λx1 h1=>?_;apply tF<;>intro h2
  .exact tR ae
  apply tD<;>intro h3
  .exact tR ae
  apply tD<;>intro h4
  .exact tR ae
  refine tB (T0) λx2 h5=>?_;apply tO<;>intro h6
  .apply tN<;>intro h7
   .exact tR ae
   exact tJ (Z1e ⟨oa0,ae⟩)
  exact tJ (Z1e ⟨oa0,ae⟩)
 intro s hs;cases s with
 |L0 _=>exact Z1e hs
def Z1f{a0:al}(oa0:db a0):Tot (Hh a0) (λr=>True):=by apply tZ;dsimp only[Hf,LT.den];refine tB (ko oa0) λx1 h1=>?_;have eh1_0:=h1.1;exact Rg
def ZuL{a0:dq}(oa0:kp a0):Tot (Hk a0) (λr=>True):=by
 apply tZ;dsimp only[Hi,LT.den];apply tN<;>intro h1
 .exact tR ae
 refine tB (Z1f oa0) λx1 h2=>?_;apply tO<;>intro h3
 .exact tR ae
 apply tE<;>intro h4
 .apply tE<;>intro h5
  .apply tE<;>intro h6
   .apply tE<;>intro h7
    .exact tR ae
    apply tE<;>intro h8
    .exact tR ae
    exact tR ae
   exact tR ae
  exact tR ae
 apply tE<;>intro h5
 .apply tE<;>intro h6
  .apply tE<;>intro h7
   .exact tR ae
   exact tR ae
  exact tR ae
 apply tE<;>intro h6
 .apply tE<;>intro h7
  .apply tD<;>intro h8
   .apply tD<;>intro h9
    .apply tD<;>intro h10
     .exact tR ae
     exact tR ae
    exact tR ae
   exact tR ae
  exact tR ae
 exact tR ae
def ZuM{a0:dq}(oa0:kp a0):Tot (Hn a0) (λr=>True):=by
 apply tZ;dsimp only[Hl,LT.den];apply tN<;>intro h1
 .exact tR ae
 apply tN<;>intro h2
 .exact tR ae
 apply tE<;>intro h3
 .exact Cv
 apply tE<;>intro h4
 .apply tD<;>intro h5
  .exact tR ae
  exact tR ae
 exact tR ae
def oX:lN->Prop
 |.L0 E0 v3 v4=>(kp E0)/\True
 |.L1 E0 v3=>(kp E0)/\True
 |.L2 E0 v3 v4 v109=>(kp E0)/\True
def Z7b:lN->M6
 |.L0 E0 v3 v4=>(0,0,0,0,0,0)
 |.L1 E0 v3=>(0,0,0,0,0,0)
 |.L2 E0 v3 v4 v109=>(0,0,0,0,0,0)
def Q1{E0:dq}{v3:Bool}{v4:Bool}{v109:Bool}(h:(kp E0)/\True):Tot (nC E0 v3 v4 v109).den (Nx oX Z7b (0,0,0,0,0,0) (λr=>True)):=by
 obtain⟨O0,_⟩:=h;dsimp only[nC,LT.den];apply tF<;>intro h1
 .apply tF<;>intro h2
  .apply tD<;>intro h3
   .exact Cv
   exact tR ae
  exact tR ae
 exact tR ae
def QZ{E0:dq}{v3:Bool}(h:oX (.L1 E0 v3)):Tot (lO E0 v3).den (Nx oX Z7b (0,0,0,0,0,0) (λr=>True)):=by
 obtain⟨O0,_⟩:=h;dsimp only[lO,LT.den];apply tE<;>intro h1
 .refine tB (Z1f O0) λx1 h2=>?_;apply tF<;>intro h3
  .exact tR ae
  exact CB
 apply tE<;>intro h2
 .exact tR ae
 apply tE<;>intro h3
 .exact tR ae
 exact tR ae
def QX{E0:dq}{v3:Bool}{v4:Bool}(h:oX (.L0 E0 v3 v4)):Tot (nD E0 v3 v4).den (Nx oX Z7b (0,0,0,0,0,0) (λr=>True)):=by
 obtain⟨O0,_⟩:=h;dsimp only[nD,LT.den];apply tE<;>intro h1
 .apply tN<;>intro h2
  .apply tN<;>intro h3
   .apply tN<;>intro h4
    .apply tN<;>intro h5
     .exact tR ae
     exact wZ
    exact wZ
   exact wZ
  exact wZ
 apply tE<;>intro h2
 .apply tF<;>intro h3
  .apply tE<;>intro h4
   .exact tB (Z1f O0) λx1 h5=>tR trivial
   exact tR ae
  exact tR ae
 apply tE<;>intro h3
 .apply tE<;>intro h4
  .apply tD<;>intro h5
   .apply tD<;>intro h6
    .exact tR ae
    exact tR ae
   exact tR ae
  apply tE<;>intro h5
  .apply tD<;>intro h6
   .apply tD<;>intro h7
    .exact tR ae
    exact tR ae
   exact tR ae
  exact tR ae
 apply tE<;>intro h4
 .exact Ct
 apply tE<;>intro h5
 .exact Ct
 exact Ct
def ZuN{a0:dq}(oa0:kp a0):Tot (Hq a0) (λr=>True):=by
 apply Tot.rn oX Z7b
 .dsimp only[Ho,LT.den];apply tE<;>intro h1
  .exact tB (ZuL oa0) λx1 h2=>tR trivial
  refine tB (ZuM oa0) λx1 h2=>?_;apply tO<;>intro h3
  .exact tR ae
  apply tE<;>intro h4
  .exact Cq
  apply tE<;>intro h5
  .exact Cq
  exact Cq
 intro s hs;cases s with
 |L0 _ _ _=>exact QX hs
 |L1 _ _=>exact QZ hs
 |L2 _ _ _ _=>exact Q1 hs
def ZuO{a0:cj}(oa0:jK a0):Tot (Ht a0) (λr=>True):=by
 apply tZ;dsimp only[Hr,LT.den];apply tO<;>intro h1
 .exact Rg
 refine tB (ko oa0) λx1 h2=>?_;have eh2_0:=h2.1;apply tF<;>intro h3
 .exact CB
 exact tR ae
def ZuP:p3->Prop
 |.L0 v0 v3=>((SzL 144 jK) v0)/\(0<=v3)
def Z4l:p3->M6
 |.L0 v0 v3=>(1,((v0.length:Int)-v3).toNat,1000000,0,0,0)
def ZuQ{a0:List cj}(oa0:(SzL 144 jK) a0):Tot (Hw a0) (λr=>True):=by
 apply Tot.rn ZuP Z4l
 .dsimp only[Hv,LT.den];exact tL ⟨oa0,cl⟩ T5
 rintro⟨v0,v3⟩ ⟨ov0,cv3⟩;have lb_v0:=ov0.1;dsimp only[Z72,Hu,LT.den];apply tD<;>intro h1
 .refine Tot.ix λx1 h2=>?_;have oh2:jK x1:=ov0.2 x1 h2.1;refine tB (ZuO oh2) λx2 h3=>?_;apply tO<;>intro h4
  .exact tR ae
  have q1:=wr (v3+1);exact tL ⟨ov0,cl⟩ T5
 exact tR ae
def ZuR{a0:Int}:Tot (Hz a0) (λr=>(SzN r)):=by
 apply tZ;dsimp only[Hx,LT.den];apply tD<;>intro h1
 .exact tR (SzN.nil)
 apply tD<;>intro h2
 .exact tR (SzN.nil)
 have q1:(SzL 16 SzN) ([([100,97,109,97,103,101]:List UInt8),([100,101,115,116,114,111,121]:List UInt8),([109,111,118,101]:List UInt8),([100,114,97,119]:List UInt8),([100,105,115,99,97,114,100]:List UInt8),([103,97,105,110]:List UInt8),([108,111,115,101]:List UInt8),([116,97,112]:List UInt8),([117,110,116,97,112]:List UInt8),([112,117,116]:List UInt8),([116,97,107,101]:List UInt8),([99,114,101,97,116,101]:List UInt8),([109,111,100]:List UInt8),([109,97,110,97]:List UInt8),([99,111,117,110,116,101,114]:List UInt8),([99,111,112,121]:List UInt8),([98,101,99,111,109,101]:List UInt8),([115,97,99,114,105,102,105,99,101]:List UInt8),([109,105,108,108]:List UInt8),([115,99,114,121]:List UInt8),([115,101,97,114,99,104]:List UInt8),([115,104,105,101,108,100]:List UInt8),([116,117,114,110]:List UInt8),([119,105,110]:List UInt8),([100,101,102,101,97,116]:List UInt8),([118,101,110,111,109]:List UInt8)]:List (List UInt8)):=⟨by simp only[bw,bW];omega,mem_cons' bg (mem_cons' bg (mem_cons' bg (mem_cons' bg (mem_cons' bg (mem_cons' bg (mem_cons' bg (mem_cons' bg (mem_cons' bg (mem_cons' bg (mem_cons' bg (mem_cons' bg (mem_cons' bg (mem_cons' bg (mem_cons' bg (mem_cons' bg (mem_cons' bg (mem_cons' bg (mem_cons' bg (mem_cons' bg (mem_cons' bg (mem_cons' bg (mem_cons' bg (mem_cons' bg (mem_cons' bg (mem_cons' bg (λ_ h=>by cases h))))))))))))))))))))))))))⟩;have lq1:([([100,97,109,97,103,101]:List UInt8),([100,101,115,116,114,111,121]:List UInt8),([109,111,118,101]:List UInt8),([100,114,97,119]:List UInt8),([100,105,115,99,97,114,100]:List UInt8),([103,97,105,110]:List UInt8),([108,111,115,101]:List UInt8),([116,97,112]:List UInt8),([117,110,116,97,112]:List UInt8),([112,117,116]:List UInt8),([116,97,107,101]:List UInt8),([99,114,101,97,116,101]:List UInt8),([109,111,100]:List UInt8),([109,97,110,97]:List UInt8),([99,111,117,110,116,101,114]:List UInt8),([99,111,112,121]:List UInt8),([98,101,99,111,109,101]:List UInt8),([115,97,99,114,105,102,105,99,101]:List UInt8),([109,105,108,108]:List UInt8),([115,99,114,121]:List UInt8),([115,101,97,114,99,104]:List UInt8),([115,104,105,101,108,100]:List UInt8),([116,117,114,110]:List UInt8),([119,105,110]:List UInt8),([100,101,102,101,97,116]:List UInt8),([118,101,110,111,109]:List UInt8)]:List (List UInt8)).length=26:=rfl;have q2:=wr (a0-1);refine Tot.ix λx1 h3=>?_;have oh3:SzN x1:=q1.2 x1 h3.1;exact tR oh3
def Z4m:nE->Prop
 |.L0 v3 v4=>True
 |.L1 v3 v14=>True
def Z8z:nE->M6
 |.L0 v3 v4=>(0,0,0,0,0,0)
 |.L1 v3 v14=>(0,0,0,0,0,0)
def Dh{v3:Int}{v14:Bool}(h:True):Tot (p4 v3 v14).den (Nx Z4m Z8z (0,0,0,0,0,0) (λr=>(SzN r))):=by
 dsimp only[p4,LT.den];apply tF<;>intro h1
 .exact di
 apply tE<;>intro h2
 .exact di
 apply tE<;>intro h3
 .exact di
 apply tE<;>intro h4
 .exact di
 apply tE<;>intro h5
 .exact di
 apply tE<;>intro h6
 .exact di
 apply tE<;>intro h7
 .exact di
 apply tE<;>intro h8
 .exact tR (SzN.nil)
 apply tE<;>intro h9
 .exact tR (SzN.nil)
 exact di
def Z7c{v3:Int}{v4:Bool}(h:True):Tot (jC v3 v4).den (Nx Z4m Z8z (0,0,0,0,0,0) (λr=>(SzN r))):=by
 dsimp only[jC,LT.den];apply tF<;>intro h1
 .exact di
 apply tE<;>intro h2
 .exact di
 apply tE<;>intro h3
 .exact tJ (Dh trivial)
 exact tJ (Dh trivial)
def ZuS{a0:Int}:Tot (HC a0) (λr=>(SzN r)):=by
 apply Tot.rn Z4m Z8z
 .dsimp only[HA,LT.den];apply tE<;>intro h1
  .exact mG
  apply tE<;>intro h2
  .exact mG
  apply tE<;>intro h3
  .exact mG
  apply tE<;>intro h4
  .exact mG
  apply tE<;>intro h5
  .exact mG
  apply tE<;>intro h6
  .exact mG
  exact mG
 intro s hs;cases s with
 |L0 _ _=>exact Z7c hs
 |L1 _ _=>exact Dh hs
def ZuT:p5->Prop
 |.L0 v1 v5 v6=>(SzT v5)/\(0<=v6)
def Z80:p5->M6
 |.L0 v1 v5 v6=>(1,((v5.length:Int)-v6).toNat,1000000,0,0,0)
def lj{a0:Int}{a1:Int}:Tot (HF a0 a1) (λr=>True):=by
 apply Tot.rn ZuT Z80
 .dsimp only[HE,LT.den];exact tB (ZuS) λx1 h1=>tL ⟨SzN.t h1,cl⟩ T6
 rintro⟨v1,v5,v6⟩ ⟨ov5,cv6⟩;have lb_v5:v5.length<=562949953421312:=ov5;dsimp only[zh,HD,LT.den];apply tD<;>intro h1
 .refine Tot.ix λx1 h2=>?_;apply tE<;>intro h3
  .exact tR ae
  have q1:=wr (v6+1);exact tL ⟨ov5,cl⟩ T6
 exact tR ae
def ZuU{a0:Int}:Tot (HG a0) (λr=>True):=by apply tZ;dsimp only[Z9w,LT.den];exact Rc
def sV:nF->Prop
 |.L0 v1 E0=>(sQ E0)/\True
 |.L1 E0=>(sQ E0)/\True
def Di:nF->M6
 |.L0 v1 E0=>(0,0,0,0,0,0)
 |.L1 E0=>(0,0,0,0,0,0)
def Z1g{E0:fU}(h:sV (.L1 E0)):Tot (p6 E0).den (Nx sV Di (0,0,0,0,0,0) (λr=>True)):=by
 obtain⟨O0,_⟩:=h;dsimp only[p6,LT.den];apply tE<;>intro h1
 .exact tB (ko O0) λx1 h2=>tR trivial
 exact tR ae
def Z1h{v1:Int}{E0:fU}(h:sV (.L0 v1 E0)):Tot (p7 v1 E0).den (Nx sV Di (0,0,0,0,0,0) (λr=>True)):=by
 obtain⟨O0,_⟩:=h;dsimp only[p7,LT.den];apply tD<;>intro h1
 .exact tR ae
 apply tD<;>intro h2
 .exact tR ae
 refine tB (ZuU) λx1 h3=>?_;apply tF<;>intro h4
 .apply tD<;>intro h5
  .exact tR ae
  apply tD<;>intro h6
  .exact tR ae
  exact tJ (Z1g ⟨O0,ae⟩)
 apply tN<;>intro h5
 .exact tR ae
 exact tJ (Z1g ⟨O0,ae⟩)
def ZuV{a0:fU}{a1:Int}(oa0:sQ a0):Tot (HK a0 a1) (λr=>True):=by
 apply Tot.rn sV Di
 .dsimp only[HH,LT.den];apply tD<;>intro h1
  .exact tJ (Z1h ⟨oa0,ae⟩)
  exact tJ (Z1h ⟨oa0,ae⟩)
 intro s hs;cases s with
 |L0 _ _=>exact Z1h hs
 |L1 _=>exact Z1g hs
def T7{a0:Int}:Tot (HN a0) (λr=>(SzT r)/\(r=[]↔¬(0<=a0/\a0<=2))):=by
 apply tZ;dsimp only[HL,LT.den];apply tE<;>intro h1
 .exact CO
 apply tE<;>intro h2
 .exact CO
 apply tE<;>intro h3
 .exact CO
 exact tR ⟨SzT.nil,tk52⟩
def ZuW{a0:dU}(oa0:Z07 a0):Tot (HR a0) (λr=>(r=amV a0)):=by
 apply tZ;dsimp only[HP,LT.den];apply tE<;>intro h1
 .apply tD<;>intro h2
  .exact gA
  apply tD<;>intro h3
  .exact gA
  exact SH
 apply tE<;>intro h2
 .apply tD<;>intro h3
  .exact gA
  apply tD<;>intro h4
  .exact gA
  refine tB (ko oa0) λx1 h5=>?_;have eh5_0:=h5.1;have eh5_1:=h5.2;apply tO<;>intro h6
  .exact gA
  have h6_0:=eh5_0 h6;apply tD<;>intro h7
  .apply tD<;>intro h8
   .exact gA
   exact gA
  exact gA
 apply tE<;>intro h3
 .refine tB (T7) λx1 h4=>?_;have eh4_1:=h4.2;apply tF<;>intro h5
  .exact gA
  apply tD<;>intro h6
  .apply tD<;>intro h7
   .exact gA
   exact gA
  exact gA
 exact SH
def ZuX{a0:List af}(oa0:(SzL 176 Z7) a0):Tot (HU a0) (λr=>True):=by apply tZ;dsimp only[HS,LT.den];exact tB (Df oa0) λx1 h1=>tR trivial
def ZuY:p8->Prop
 |.L0 E0 E1 E2 v4=>(0<=v4)/\True
def Z81:p8->M6
 |.L0 E0 E1 E2 v4=>(1,(5-v4).toNat,1000000,0,0,0)
def ZuZ{a0:A6 Int}:Tot (HX a0) (λr=>True):=by
 apply Tot.rn ZuY Z81
 .dsimp only[HW,LT.den];exact tB (tI O (by have e:(A6.list a0).length=6:=rfl;omega)) λx1 h1=>tL ⟨cl,ae⟩ T8
 rintro⟨E0,E1,E2,v4⟩ ⟨cv4,_⟩;dsimp only[zj,HV,LT.den];apply tD<;>intro h1
 .have q1:=wr (v4+1);exact tB (tI O C3) λx1 h2=>tB (tI O (by have e:(A5.list E2.Color).length=5:=rfl;omega)) λx2 h3=>tB (Tot.setA5 O O) λx3 h4=>tL ⟨cl,ae⟩ T8
 exact tR ae
def ZvA:lP->Prop
 |.L0 E0 v3 v4=>(0<=v4)/\(E0.X<=2)/\(∀n,n∈A5.list E0.Color->n<=9)/\(v3.length<=v4.toNat)/\(v4<=2)
 |.L1 E0 v3 v5=>(0<=v5)/\(v3.length<=200+200*v5.toNat)/\(∀n,n∈A5.list E0.Color->n<=9)/\(v5<=5)
 |.L2 E0 v3 v5 v6=>(0<=v5)/\(0<=v6)/\(v5<5)/\(v3.length<=200+200*v5.toNat+v6.toNat)/\(∀n,n∈A5.list E0.Color->n<=9)/\(v5<5)/\(v6<=9)
def Z82:lP->M6
 |.L0 E0 v3 v4=>(3,(E0.X-v4).toNat,1000000,0,0,0)
 |.L1 E0 v3 v5=>(1,(5-v5).toNat,1000000,0,0,0)
 |.L2 E0 v3 v5 v6=>(1,(5-v5).toNat,1,(9-v6).toNat,1000000,0)
def ZvB{a0:aJ}:Tot (H3 a0) (λr=>(SzT r)):=by
 apply Tot.rn ZvA Z82
 .dsimp only[H2,LT.den];refine tB (Z2n a0) λx1 h1=>?_;have eh1_0:=h1.1;have eh1_1:=h1.2.1;apply tO<;>intro h2
  .exact tR (SzT.nil)
  have h2_0:=eh1_0 h2;have h2_1:=eh1_1 h2;exact oP
 intro s hs;cases s with
 |L0 E0 v3 v4=>
  obtain⟨cv4,i0,i1,i2,i3⟩:=hs;dsimp only[p9,HY,LT.den];apply tD<;>intro h1
  .refine tB (tK cd) λx1 h2=>?_;have q1:=wr (v4+1);exact oP
  apply tN<;>intro h2
  .refine tB (oW) λx1 h3=>?_;have q1:x1.length<=100:=h3;exact tB (tK cd) λx2 h4=>tL ⟨cl,cs⟩ Rf
  exact oP
 |L1 E0 v3 v5=>
  obtain⟨cv5,i0,i1,i2⟩:=hs;dsimp only[p9,H0,LT.den];apply tD<;>intro h1
  .exact oP
  exact SF
 |L2 E0 v3 v5 v6=>
  obtain⟨cv5,cv6,bd2,i0,i1,i2,i3⟩:=hs;dsimp only[p9,H1,LT.den];refine tB (tI O KV) λx1 h1=>?_;have ph1:=i1 x1 h1.1;apply tD<;>intro h2
  .have q1:=wr (v5+1);refine tB (Tot.slice O O (by first|omega|(simp only[bw,bW];omega))) λx2 h3=>tB (tK cd) λx3 h4=>?_;have q2:=wr (v6+1);exact oP
  have q1:=wr (v5+1);exact oP
def ZvC{a0:A6 Int}:Tot (H4 a0) (λr=>(SzT r)):=by apply tZ;dsimp only[Z9y,LT.den];exact tB (ZuZ) λx1 h1=>tB (ZvB) λx2 h2=>tR h2
def ZvD{a0:Int}{a1:al}(oa1:db a1):Tot (H7 a0 a1) (λr=>True):=by
 apply tZ;dsimp only[H5,LT.den];apply tE<;>intro h1
 .exact Sk
 exact Sk
def jk:iF->Prop
 |.L0 E0 v5=>(cD E0)/\True
 |.L1 E0 v5 v6=>(cD E0)/\True
 |.L2 E0 v5 v6 v7=>(cD E0)/\True
 |.L3 E0 v5 v6 v7 v8=>(cD E0)/\True
 |.L4 E0 v5 v6 v7 v8 v9=>(cD E0)/\True
 |.L5 E0 v5 v6 v7 v8 v9 v10=>(cD E0)/\True
 |.L6 E0 v5 v6 v7 v8 v9 v10 v11=>(cD E0)/\True
 |.L7 v5 v6 v7 v8 v9 v10 v11 v12=>True
def kq:iF->M6
 |.L0 E0 v5=>(0,0,0,0,0,0)
 |.L1 E0 v5 v6=>(0,0,0,0,0,0)
 |.L2 E0 v5 v6 v7=>(0,0,0,0,0,0)
 |.L3 E0 v5 v6 v7 v8=>(0,0,0,0,0,0)
 |.L4 E0 v5 v6 v7 v8 v9=>(0,0,0,0,0,0)
 |.L5 E0 v5 v6 v7 v8 v9 v10=>(0,0,0,0,0,0)
 |.L6 E0 v5 v6 v7 v8 v9 v10 v11=>(0,0,0,0,0,0)
 |.L7 v5 v6 v7 v8 v9 v10 v11 v12=>(0,0,0,0,0,0)
def Z1i{v5:Bool}{v6:Bool}{v7:Bool}{v8:Bool}{v9:Bool}{v10:Bool}{v11:Bool}{v12:Bool}(h:True):Tot (qa v5 v6 v7 v8 v9 v10 v11 v12).den (Nx jk kq (0,0,0,0,0,0) (λr=>True)):=by
 dsimp only[qa,LT.den];apply tF<;>intro h1
 .apply tF<;>intro h2
  .apply tF<;>intro h3
   .apply tF<;>intro h4
    .apply tF<;>intro h5
     .apply tF<;>intro h6
      .apply tF<;>intro h7
       .exact tR ae
       exact tR ae
      exact tR ae
     exact tR ae
    exact tR ae
   exact tR ae
  exact tR ae
 exact tR ae
def xm{E0:aX}{v5:Bool}{v6:Bool}{v7:Bool}{v8:Bool}{v9:Bool}{v10:Bool}{v11:Bool}(h:(cD E0)/\True):Tot (nG E0 v5 v6 v7 v8 v9 v10 v11).den (Nx jk kq (0,0,0,0,0,0) (λr=>True)):=by
 obtain⟨O0,_⟩:=h;dsimp only[nG,LT.den];refine tB (lj) λx1 h1=>?_;apply tF<;>intro h2
 .exact tB (ZvD O0.2.2.2.1) λx2 h3=>tJ (Z1i trivial)
 exact tJ (Z1i trivial)
def Z1j{E0:aX}{v5:Bool}{v6:Bool}{v7:Bool}{v8:Bool}{v9:Bool}{v10:Bool}(h:(cD E0)/\True):Tot (qb E0 v5 v6 v7 v8 v9 v10).den (Nx jk kq (0,0,0,0,0,0) (λr=>True)):=by
 obtain⟨O0,_⟩:=h;dsimp only[qb,LT.den];refine tB (lj) λx1 h1=>?_;apply tF<;>intro h2
 .apply tO<;>intro h3
  .exact tB (ZvC) λx2 h4=>tJ (xm ⟨O0,ae⟩)
  exact tJ (xm ⟨O0,ae⟩)
 exact tJ (xm ⟨O0,ae⟩)
def Z1k{E0:aX}{v5:Bool}{v6:Bool}{v7:Bool}{v8:Bool}{v9:Bool}(h:(cD E0)/\True):Tot (qc E0 v5 v6 v7 v8 v9).den (Nx jk kq (0,0,0,0,0,0) (λr=>True)):=by
 obtain⟨O0,_⟩:=h;dsimp only[qc,LT.den];refine tB (lj) λx1 h1=>?_;apply tF<;>intro h2
 .exact tB (ZuX O0.2.2.2.2) λx2 h3=>tJ (Z1j ⟨O0,ae⟩)
 exact tJ (Z1j ⟨O0,ae⟩)
def Z1l{E0:aX}{v5:Bool}{v6:Bool}{v7:Bool}{v8:Bool}(h:(cD E0)/\True):Tot (qd E0 v5 v6 v7 v8).den (Nx jk kq (0,0,0,0,0,0) (λr=>True)):=by
 obtain⟨O0,_⟩:=h;dsimp only[qd,LT.den];refine tB (lj) λx1 h1=>?_;apply tF<;>intro h2
 .exact tB (ZuW O0.2.1) λx2 h3=>tJ (Z1k ⟨O0,ae⟩)
 exact tJ (Z1k ⟨O0,ae⟩)
def xn{E0:aX}{v5:Bool}{v6:Bool}{v7:Bool}(h:(cD E0)/\True):Tot (nH E0 v5 v6 v7).den (Nx jk kq (0,0,0,0,0,0) (λr=>True)):=by
 obtain⟨O0,_⟩:=h;dsimp only[nH,LT.den];refine tB (lj) λx1 h1=>?_;apply tF<;>intro h2
 .exact tB (TJ (SzS.t O0.2.2.1)) λx2 h3=>tJ (Z1l ⟨O0,ae⟩)
 exact tJ (Z1l ⟨O0,ae⟩)
def Q0{E0:aX}{v5:Bool}{v6:Bool}(h:jk (.L1 E0 v5 v6)):Tot (lQ E0 v5 v6).den (Nx jk kq (0,0,0,0,0,0) (λr=>True)):=by
 obtain⟨O0,_⟩:=h;dsimp only[lQ,LT.den];apply tE<;>intro h1
 .exact tJ (xn ⟨O0,ae⟩)
 refine tB (lj) λx1 h2=>?_;apply tF<;>intro h3
 .exact tB (T7) λx2 h4=>tJ (xn ⟨O0,ae⟩)
 exact tJ (xn ⟨O0,ae⟩)
def Z1m{E0:aX}{v5:Bool}(h:jk (.L0 E0 v5)):Tot (qe E0 v5).den (Nx jk kq (0,0,0,0,0,0) (λr=>True)):=by
 obtain⟨O0,_⟩:=h;dsimp only[qe,LT.den];apply tE<;>intro h1
 .exact w4
 refine tB (lj) λx1 h2=>?_;apply tF<;>intro h3
 .apply tD<;>intro h4
  .exact w4
  exact w4
 exact w4
def ZvE{a0:aX}{a1:Int}(oa0:cD a0):Tot (Ia a0 a1) (λr=>True):=by
 apply Tot.rn jk kq
 .dsimp only[H8,LT.den];refine tB (ZuR) λx1 h1=>?_;apply tF<;>intro h2
  .exact tR ae
  refine tB (lj) λx2 h3=>?_;apply tF<;>intro h4
  .exact tB (ZuV oa0.1) λx3 h5=>tJ (Z1m ⟨oa0,ae⟩)
  exact tJ (Z1m ⟨oa0,ae⟩)
 intro s hs;cases s with
 |L0 _ _=>exact Z1m hs
 |L1 _ _ _=>exact Q0 hs
 |L2 _ _ _ _=>exact xn hs
 |L3 _ _ _ _ _=>exact Z1l hs
 |L4 _ _ _ _ _ _=>exact Z1k hs
 |L5 _ _ _ _ _ _ _=>exact Z1j hs
 |L6 _ _ _ _ _ _ _ _=>exact xm hs
 |L7 _ _ _ _ _ _ _ _=>exact Z1i hs
def ZvF:qf->Prop
 |.L0 v0 v1 v5=>((SzL 560 cD) v0)/\(0<=v5)
def T9:qf->M6
 |.L0 v0 v1 v5=>(1,((v0.length:Int)-v5).toNat,1000000,0,0,0)
def ZvG{a0:List aX}{a1:Int}(oa0:(SzL 560 cD) a0):Tot (Ic a0 a1) (λr=>True):=by
 apply Tot.rn ZvF T9
 .dsimp only[Ib,LT.den];exact tL ⟨oa0,cl⟩ Ua
 rintro⟨v0,v1,v5⟩ ⟨ov0,cv5⟩;have lb_v0:=ov0.1;dsimp only[Z0d,Z90,LT.den];apply tD<;>intro h1
 .refine Tot.ix λx1 h2=>?_;have oh2:cD x1:=ov0.2 x1 h2.1;refine tB (ZvE oh2) λx2 h3=>?_;apply tO<;>intro h4
  .exact tR ae
  have q1:=wr (v5+1);exact tL ⟨ov0,cl⟩ Ua
 apply tD<;>intro h2
 .exact tR ae
 exact tR ae
def jl:jZ->Prop
 |.L0 E0 v3=>(Z1 E0)/\True
 |.L1 E0 v3=>(Z1 E0)/\True
 |.L2 E0 v3=>(Z1 E0)/\True
 |.L3 E0 v3=>(Z1 E0)/\True
 |.L4 E0 v3=>(Z1 E0)/\True
def oY:jZ->M6
 |.L0 E0 v3=>(0,0,0,0,0,0)
 |.L1 E0 v3=>(0,0,0,0,0,0)
 |.L2 E0 v3=>(0,0,0,0,0,0)
 |.L3 E0 v3=>(0,0,0,0,0,0)
 |.L4 E0 v3=>(0,0,0,0,0,0)
def Z1n{E0:an}{v3:Bool}(h:jl (.L4 E0 v3)):Tot (qg E0 v3).den (Nx jl oY (0,0,0,0,0,0) (λr=>True)):=by
 obtain⟨O0,_⟩:=h;dsimp only[qg,LT.den];apply tF<;>intro h1
 .refine tB (ZuQ O0.2.2.2.1) λx1 h2=>?_;apply tF<;>intro h3
  .exact tB (ZvG O0.2.2.2.2.1) λx2 h4=>tR trivial
  exact tR ae
 apply tE<;>intro h2
 .exact tR ae
 exact tR ae
def Z1o{E0:an}{v3:Bool}(h:jl (.L3 E0 v3)):Tot (qh E0 v3).den (Nx jl oY (0,0,0,0,0,0) (λr=>True)):=by
 obtain⟨O0,_⟩:=h;dsimp only[qh,LT.den];apply tE<;>intro h1
 .refine tB (ZuN O0.2.2.2.2.2) λx1 h2=>?_;apply tO<;>intro h3
  .exact tR ae
  exact tJ (Z1n ⟨O0,ae⟩)
 apply tO<;>intro h2
 .exact tR ae
 exact tJ (Z1n ⟨O0,ae⟩)
def Z1p{E0:an}{v3:Bool}(h:jl (.L2 E0 v3)):Tot (qi E0 v3).den (Nx jl oY (0,0,0,0,0,0) (λr=>True)):=by
 obtain⟨O0,_⟩:=h;dsimp only[qi,LT.den];apply tE<;>intro h1
 .refine tB (ZuK O0.2.2.1) λx1 h2=>?_;apply tO<;>intro h3
  .exact tR ae
  exact tJ (Z1o ⟨O0,ae⟩)
 apply tO<;>intro h2
 .exact tR ae
 apply tF<;>intro h3
 .exact tR ae
 exact tJ (Z1o ⟨O0,ae⟩)
def Z1q{E0:an}{v3:Bool}(h:jl (.L1 E0 v3)):Tot (qj E0 v3).den (Nx jl oY (0,0,0,0,0,0) (λr=>True)):=by
 obtain⟨O0,_⟩:=h;dsimp only[qj,LT.den];apply tE<;>intro h1
 .refine tB (ZuI) λx1 h2=>?_;apply tO<;>intro h3
  .exact tR ae
  exact tJ (Z1p ⟨O0,ae⟩)
 apply tO<;>intro h2
 .exact tR ae
 apply tF<;>intro h3
 .exact tR ae
 exact tJ (Z1p ⟨O0,ae⟩)
def QY{E0:an}{v3:Bool}(h:jl (.L0 E0 v3)):Tot (nI E0 v3).den (Nx jl oY (0,0,0,0,0,0) (λr=>True)):=by
 obtain⟨O0,_⟩:=h;dsimp only[nI,LT.den];apply tE<;>intro h1
 .refine tB (ko O0.1) λx1 h2=>?_;have eh2_0:=h2.1;apply tO<;>intro h3
  .exact tR ae
  apply tN<;>intro h4
  .exact tR ae
  refine tB (Df O0.2.1) λx2 h5=>?_;apply tF<;>intro h6
  .exact tR ae
  exact tJ (Z1q ⟨O0,ae⟩)
 apply tO<;>intro h2
 .exact tR ae
 apply tD<;>intro h3
 .exact tR ae
 exact tJ (Z1q ⟨O0,ae⟩)
def Z2o{a0:an}(oa0:Z1 a0):Tot (Ig a0) (λr=>True):=by
 apply Tot.rn jl oY
 .dsimp only[Ie,LT.den];apply tD<;>intro h1
  .exact tR ae
  apply tD<;>intro h2
  .exact tR ae
  apply tE<;>intro h3
  .exact Cr
  apply tE<;>intro h4
  .exact Cr
  exact Cr
 intro s hs;cases s with
 |L0 _ _=>exact QY hs
 |L1 _ _=>exact Z1q hs
 |L2 _ _=>exact Z1p hs
 |L3 _ _=>exact Z1o hs
 |L4 _ _=>exact Z1n hs
def ZvH{a0:aq}(oa0:bQ a0):Tot (Ij a0) (λr=>True):=by apply tZ;dsimp only[Ih,LT.den];exact Rc
def Dj(a0:aq):nJ->Prop
 |.L0 E0=>(E0=a0)/\(bQ E0)/\(E0.Abilities.length<=8)/\(ik E0)
 |.L1 E0 v3 v4=>(E0=a0)/\(bQ E0)/\(0<=v4)/\(E0.Abilities.length<=8)/\(ik E0)
def Z7d:nJ->M6
 |.L0 E0=>(2,0,0,0,0,0)
 |.L1 E0 v3 v4=>(1,((E0.Abilities.length:Int)-v4).toNat,1000000,0,0,0)
def RH{a0:aq}{E0:aq}(h:(Dj a0) (.L0 E0)):Tot (qk E0).den (Nx (Dj a0) Z7d (2,0,0,0,0,0) (λr=>(r=true->a0.Abilities.length<=8)/\(r=true->ik a0))):=by obtain⟨al0,O0,i0,i1⟩:=h;subst al0;dsimp only[qk,LT.den];exact CC
def ZvI{a0:aq}(oa0:bQ a0):Tot (Im a0) (λr=>(r=true->a0.Abilities.length<=8)/\(r=true->ik a0)):=by
 apply Tot.rn (Dj a0) Z7d
 .dsimp only[Il,LT.den];refine tB (TJ (SzS.t oa0.1)) λx1 h1=>?_;apply tO<;>intro h2
  .exact eO
  refine tB (Z2n a0.Cost) λx2 h3=>?_;have eh3_0:=h3.1;have eh3_1:=h3.2.1;apply tO<;>intro h4
  .exact eO
  refine tB (ZtL oa0.2.1) λx3 h5=>?_;have eh5_0:=h5;apply tO<;>intro h6
  .exact eO
  refine tB (TN) λx4 h7=>?_;apply tO<;>intro h8
  .exact eO
  apply tD<;>intro h9
  .exact eO
  apply tD<;>intro h10
  .exact eO
  apply tD<;>intro h11
  .exact eO
  apply tD<;>intro h12
  .exact eO
  apply tD<;>intro h13
  .exact eO
  apply tD<;>intro h14
  .exact eO
  refine tB (ZtM oa0) λx5 h15=>?_;apply tO<;>intro h16
  .apply tN<;>intro h17
   .exact eO
   apply tN<;>intro h18
   .exact eO
   have q1:=oa0.2.2.1;apply tD<;>intro h19
   .exact eO
   exact RG
  have q1:=oa0.2.2.1;apply tD<;>intro h17
  .exact eO
  exact RG
 intro s hs;cases s with
 |L0 _=>exact RH hs
 |L1 E0 v3 v4=>
  obtain⟨al0,O0,cv4,i0,i1⟩:=hs;subst al0;dsimp only[zk,Ik,LT.den,Z7d];apply tD<;>intro h1
  .refine Tot.ix λx1 h2=>?_;have oh2:Z1 x1:=O0.2.2.2 x1 h2.1;refine tB (Z2o oh2) λx2 h3=>?_;apply tO<;>intro h4
   .exact eO
   apply tE<;>intro h5
   .have q1:=wr (v3+1);have q2:=wr (v4+1);exact CC
   have q1:=wr (v4+1);exact CC
  refine tB (ZvH O0) λx1 h2=>?_;apply tF<;>intro h3
  .apply tO<;>intro h4
   .apply tE<;>intro h5
    .exact SJ
    exact eO
   exact eO
  apply tE<;>intro h4
  .apply tO<;>intro h5
   .exact SJ
   exact eO
  exact eO
def ZvJ:ql->Prop
 |.L0 v0 v1 v5=>((SzL 176 bQ) v0)/\(SzT v1)/\(0<=v5)
def Z83:ql->M6
 |.L0 v0 v1 v5=>(1,((v0.length:Int)-v5).toNat,1000000,0,0,0)
def ZvK{a0:List aq}{a1:List UInt8}(oa0:(SzL 176 bQ) a0)(oa1:SzT a1):Tot (Iq a0 a1) (λr=>True):=by
 apply Tot.rn ZvJ Z83
 .dsimp only[Ip,LT.den];exact tL ⟨oa0,oa1,cl⟩ Ub
 rintro⟨v0,v1,v5⟩ ⟨ov0,ov1,cv5⟩;have lb_v0:=ov0.1;dsimp only[zl,Io,LT.den];apply tD<;>intro h1
 .refine Tot.ix λx1 h2=>?_;apply tF<;>intro h3
  .exact tR ae
  have q1:=wr (v5+1);exact tL ⟨ov0,ov1,cl⟩ Ub
 exact tR ae
def ZvL:qm->Prop
 |.L0 v0 v1 v5=>((SzL 176 bQ) v0)/\(SzT v1)/\(0<=v5)
def Z4n:qm->M6
 |.L0 v0 v1 v5=>(1,((v0.length:Int)-v5).toNat,1000000,0,0,0)
def ZvM{a0:List aq}{a1:List UInt8}(oa0:(SzL 176 bQ) a0)(oa1:SzT a1):Tot (It a0 a1) (λr=>True):=by
 apply Tot.rn ZvL Z4n
 .dsimp only[Is,LT.den];exact tL ⟨oa0,oa1,cl⟩ RS
 rintro⟨v0,v1,v5⟩ ⟨ov0,ov1,cv5⟩;have lb_v0:=ov0.1;dsimp only[Z73,Ir,LT.den];apply tD<;>intro h1
 .refine Tot.ix λx1 h2=>?_;apply tF<;>intro h3
  .apply tF<;>intro h4
   .exact tR ae
   exact RR
  exact RR
 exact tR ae
def ZvN:nK->Prop
 |.L0 v0 E0 v5=>((SzL 176 bQ) v0)/\(bQ E0)/\(0<=v5)
 |.L1 v0 E0 v5 v6=>((SzL 176 bQ) v0)/\(bQ E0)/\(0<=v5)/\(0<=v6)/\(v5<(E0.Abilities.length:Int))/\(v5<(E0.Abilities.length:Int))
def TG:nK->M6
 |.L0 v0 E0 v5=>(1,((E0.Abilities.length:Int)-v5).toNat,1000000,0,0,0)
 |.L1 v0 E0 v5 v6=>(1,((E0.Abilities.length:Int)-v5).toNat,1,((((E0.Abilities[v5.toNat]?).map λx=>x.Effects.length).getD 0:Nat)-v6).toNat,1000000,0)
def ZvO{a0:List aq}{a1:aq}(oa0:(SzL 176 bQ) a0)(oa1:bQ a1):Tot (Iv a0 a1) (λr=>True):=by
 apply Tot.rn ZvN TG
 .dsimp only[Iu,LT.den];exact tL ⟨oa0,oa1,cl⟩ Cz
 intro s hs;cases s with
 |L0 v0 E0 v5=>
  obtain⟨ov0,O0,cv5⟩:=hs;dsimp only[uG,Z91,LT.den];apply tD<;>intro h1
  .exact Rv
  exact tR ae
 |L1 v0 E0 v5 v6=>
  obtain⟨ov0,O0,cv5,cv6,bd4,i0⟩:=hs;dsimp only[uG,Z92,LT.den];have lx_0:E0.Abilities.length*640<=140737488351232:=O0.2.2.1;refine Tot.ix λx1 h1=>?_;have oh1:Z1 x1:=O0.2.2.2 x1 h1.1;have mh1:((E0.Abilities[v5.toNat]?).map λx=>x.Effects.length).getD 0=x1.Effects.length:=by rw[h1.2];rfl
  have q1:=oh1.2.2.2.2.1.1;apply tD<;>intro h2
  .refine Tot.ix λx2 h3=>?_;have oh3:cD x2:=oh1.2.2.2.2.1.2 x2 h3.1;apply tE<;>intro h4
   .refine tB (ZvM ov0 (SzS.t oh3.2.2.1)) λx3 h5=>?_;apply tO<;>intro h6
    .exact tR ae
    exact RY
   exact RY
  have q2:=wr (v5+1);exact tL ⟨ov0,O0,cl⟩ Cz
abbrev ZvP(a0:List aq)(r:Int×Int):Prop:=(r.2=0->∀c,c∈a0->c.Abilities.length<=8)/\(r.2=0->∀c,c∈a0->ik c)
def ZvQ(a0:List aq):qn->Prop
 |.L0 v0 v4=>(v0=a0)/\((SzL 176 bQ) v0)/\(0<=v4)/\(∀(k:Nat) c,(k:Int)<v4->v0[k]?=some c->c.Abilities.length<=8)/\(∀(k:Nat) x,(k:Int)<v4->v0[k]?=some x->ik x)
def Z4o:qn->M6
 |.L0 v0 v4=>(1,((v0.length:Int)-v4).toNat,1000000,0,0,0)
def ZvR{a0:List aq}(oa0:(SzL 176 bQ) a0):Tot (Iy a0) (ZvP a0):=by
 apply Tot.rn (ZvQ a0) Z4o
 .dsimp only[Ix,LT.den];apply tD<;>intro h1
  .exact sM
  exact tL ⟨rfl,oa0,cl,tk49,tk76⟩ Uc
 rintro⟨v0,v4⟩ ⟨al0,ov0,cv4,i0,i1⟩;have lb_v0:=ov0.1;subst al0;dsimp only[Z74,Iw,LT.den];apply tD<;>intro h1
 .refine Tot.ix λx1 h2=>?_;have oh2:bQ x1:=ov0.2 x1 h2.1;have mh2:=h2.2;refine tB (ZvI oh2) λx2 h3=>?_;have eh3_0:=h3.1;have eh3_1:=h3.2;apply tO<;>intro h4
  .exact sM
  have h4_0:=eh3_0 h4;refine tB (ZvK ov0 (SzS.t oh2.1)) λx3 h5=>?_;apply tD<;>intro h6
  .exact sM
  refine tB (ZvO ov0 oh2) λx4 h7=>?_;apply tO<;>intro h8
  .exact sM
  have q1:=wr (v4+1);exact tL ⟨rfl,ov0,cl,tk49,tk76⟩ Uc
 exact sM
def gX{a0:Int}{a1:Int}{a2:Int}:Tot (IB a0 a1 a2) (λr=>(r=true↔(a1<=a0/\a0<=a2))):=by
 apply tZ;dsimp only[Iz,LT.den];apply tD<;>intro h1
 .exact tR aQ
 exact tR aQ
def ZvS:qo->Prop
 |.L0 E0 v3=>(0<=v3)/\True
def Rp:qo->M6
 |.L0 E0 v3=>(1,(6-v3).toNat,1000000,0,0,0)
def ZvT{a0:A6 Int}:Tot (IE a0) (λr=>True):=by
 apply Tot.rn ZvS Rp
 .dsimp only[ID,LT.den];exact Ro
 rintro⟨E0,v3⟩ ⟨cv3,_⟩;dsimp only[Z75,IC,LT.den];apply tD<;>intro h1
 .refine tB (tI O C3) λx1 h2=>?_;apply tD<;>intro h3
  .exact tR ae
  refine tB (tI O C3) λx2 h4=>?_;apply tD<;>intro h5
  .exact tR ae
  have q1:=wr (v3+1);exact Ro
 exact tR ae
def ZvU(a0:av)(a1:Int):qp->Prop
 |.L0 v1 E0 v5=>(E0=a0)/\(v1=a1)/\(Z8 E0)/\(0<=v5)/\(NoId E0.Objects v1 v5)
def Z4p:qp->M6
 |.L0 v1 E0 v5=>(1,((E0.Objects.length:Int)-v5).toNat,1000000,0,0,0)
def ZvV{a0:av}{a1:Int}(oa0:Z8 a0):Tot (II a0 a1) (λr=>(r<(a0.Objects.length:Int))/\(r=ixO a0.Objects a1)):=by
 apply Tot.rn (ZvU a0 a1) Z4p
 .dsimp only[IG,LT.den];exact tL ⟨rfl,rfl,oa0,cl,tk65⟩ Ud
 rintro⟨v1,E0,v5⟩ ⟨al0,al1,O0,cv5,i0⟩;subst al0;subst al1;dsimp only[Z76,IF,LT.den];have q1:=O0.2.1.1;apply tD<;>intro h1
 .refine Tot.ix λx1 h2=>?_;have mh2:=h2.2;apply tE<;>intro h3
  .exact Sr
  have q2:=wr (v5+1);exact tL ⟨rfl,rfl,O0,cl,tk65⟩ Ud
 exact Sr
def ZvW{a0:av}{a1:Int}(oa0:Z8 a0):Tot (IL a0 a1) (λr=>(r=fdV a0.Objects a1)):=by
 apply tZ;dsimp only[IJ,LT.den];refine tB (ZvV oa0) λx1 h1=>?_;have eh1_0:=h1.1;have eh1_1:=h1.2;apply tD<;>intro h2
 .exact R3
 refine Tot.ix λx2 h3=>?_;have mh3:=h3.2;exact R3
def Ue{a0:av}{a1:Int}(oa0:Z8 a0):Tot (IP a0 a1) (λr=>True):=by apply tZ;dsimp only[IM,LT.den];exact tB (ZvW oa0) λx1 h1=>tR trivial
def ZvX:qq->Prop
 |.L0 v0 v1 v5 v6=>((SzL 8 (λ_=>True)) v0)/\(0<=v6)
def Z4q:qq->M6
 |.L0 v0 v1 v5 v6=>(1,((v0.length:Int)-v6).toNat,1000000,0,0,0)
def Z1r{a0:List Int}{a1:Int}(oa0:(SzL 8 (λ_=>True)) a0):Tot (IT a0 a1) (λr=>True):=by
 apply Tot.rn ZvX Z4q
 .dsimp only[IS,LT.den];exact tL ⟨oa0,cl⟩ Ri
 rintro⟨v0,v1,v5,v6⟩ ⟨ov0,cv6⟩;have lb_v0:=ov0.1;dsimp only[Z77,IR,LT.den];apply tD<;>intro h1
 .refine Tot.ix λx1 h2=>?_;apply tE<;>intro h3
  .have q1:=wr (v5+1);have q2:=wr (v6+1);exact Rh
  have q1:=wr (v6+1);exact Rh
 exact tR ae
def ZvY:qt->Prop
 |.L0 v1 v2 v3 E0 v9=>((SzL 8 (λ_=>True)) v1)/\(Z8 E0)/\(0<=v9)
def Z84:qt->M6
 |.L0 v1 v2 v3 E0 v9=>(1,((v1.length:Int)-v9).toNat,1000000,0,0,0)
def sW{a0:av}{a1:List Int}{a2:Int}{a3:Int}(oa0:Z8 a0)(oa1:(SzL 8 (λ_=>True)) a1):Tot (IW a0 a1 a2 a3) (λr=>True):=by
 apply Tot.rn ZvY Z84
 .dsimp only[IV,LT.den];exact tL ⟨oa1,oa0,cl⟩ RX
 rintro⟨v1,v2,v3,E0,v9⟩ ⟨ov1,O0,cv9⟩;have lb_v1:=ov1.1;dsimp only[zm,IU,LT.den];apply tD<;>intro h1
 .refine Tot.ix λx1 h2=>tB (Ue O0) λx2 h3=>?_;apply tO<;>intro h4
  .exact tR ae
  apply tN<;>intro h5
  .exact tR ae
  apply tD<;>intro h6
  .apply tN<;>intro h7
   .exact tR ae
   refine tB (Z1r ov1) λx3 h8=>?_;apply tN<;>intro h9
   .exact tR ae
   exact RW
  refine tB (Z1r ov1) λx3 h7=>?_;apply tN<;>intro h8
  .exact tR ae
  exact RW
 exact tR ae
def ZvZ:qv->Prop
 |.L0 E0 v3=>(Z8 E0)/\(0<=v3)
def Uf:qv->M6
 |.L0 E0 v3=>(1,((E0.Players.length:Int)-v3).toNat,1000000,0,0,0)
def ZwA{a0:av}(oa0:Z8 a0):Tot (IY a0) (λr=>True):=by
 apply Tot.rn ZvZ Uf
 .dsimp only[IX,LT.den];have q1:=oa0.1.1;refine tB (gX) λx1 h1=>?_;apply tO<;>intro h2
  .exact tR ae
  exact tL ⟨oa0,cl⟩ Ug
 rintro⟨E0,v3⟩ ⟨O0,cv3⟩;dsimp only[Z0e,Z93,LT.den];have q1:=O0.1.1;apply tD<;>intro h1
 .refine Tot.ix λx1 h2=>?_;have oh2:oU x1:=O0.1.2 x1 h2.1;refine tB (gX) λx2 h3=>?_;apply tO<;>intro h4
  .exact tR ae
  refine tB (gX) λx3 h5=>?_;apply tO<;>intro h6
  .exact tR ae
  refine tB (gX) λx4 h7=>?_;apply tO<;>intro h8
  .exact tR ae
  refine tB (ZvT) λx5 h9=>?_;apply tO<;>intro h10
  .exact tR ae
  refine tB (sW O0 oh2.1) λx6 h11=>?_;apply tO<;>intro h12
  .exact tR ae
  refine tB (sW O0 oh2.2.1) λx7 h13=>?_;apply tO<;>intro h14
  .exact tR ae
  refine tB (sW O0 oh2.2.2) λx8 h15=>?_;apply tO<;>intro h16
  .exact tR ae
  have q2:=wr (v3+1);exact tL ⟨O0,cl⟩ Ug
 refine tB (sW O0 O0.2.2.1) λx1 h2=>?_;apply tF<;>intro h3
 .exact tB (sW O0 O0.2.2.2.1) λx2 h4=>tR trivial
 exact tR ae
def mP{a0:av}{a1:Int}(oa0:Z8 a0):Tot (I1 a0 a1) (λr=>(r=true↔(0<=a1/\a1<(a0.Players.length:Int)))):=by apply tZ;dsimp only[IZ,LT.den];have q1:=oa0.1.1;have q2:=wr ((a0.Players.length:Int)-1);exact tB (gX) λx1 h1=>tR aQ
def ZwB:Z3j->Prop
 |.L0 E0 v3=>(0<=v3)/\True
def Rk:Z3j->M6
 |.L0 E0 v3=>(1,(3-v3).toNat,1000000,0,0,0)
def ZwC{a0:A3 Int}:Tot (I4 a0) (λr=>True):=by
 apply Tot.rn ZwB Rk
 .dsimp only[I3,LT.den];exact Rj
 rintro⟨E0,v3⟩ ⟨cv3,_⟩;dsimp only[zn,I2,LT.den];apply tD<;>intro h1
 .refine tB (tI O (by have e:(A3.list E0).length=3:=rfl;omega)) λx1 h2=>?_;apply tD<;>intro h3
  .exact tR ae
  refine tB (tI O (by have e:(A3.list E0).length=3:=rfl;omega)) λx2 h4=>?_;apply tD<;>intro h5
  .exact tR ae
  have q1:=wr (v3+1);exact Rj
 exact tR ae
def ZwD{a0:aj}:Tot (I7 a0) (λr=>True):=by apply tZ;dsimp only[I5,LT.den];exact tR ae
def ZwE{a0:aj}:Tot (Ja a0) (λr=>True):=by apply tZ;dsimp only[I8,LT.den];exact tR ae
def ZwF{a0:aj}{a1:Int}{a2:Int}:Tot (Jd a0 a1 a2) (λr=>(r=true->1<=a0.Id)):=by
 apply tZ;dsimp only[Jb,LT.den];apply tD<;>intro h1
 .exact bS
 apply tD<;>intro h2
 .exact bS
 apply tD<;>intro h3
 .exact bS
 apply tD<;>intro h4
 .exact bS
 apply tD<;>intro h5
 .exact bS
 apply tD<;>intro h6
 .exact bS
 apply tD<;>intro h7
 .exact bS
 apply tD<;>intro h8
 .exact bS
 apply tD<;>intro h9
 .exact bS
 apply tD<;>intro h10
 .exact bS
 apply tD<;>intro h11
 .exact bS
 apply tD<;>intro h12
 .exact bS
 apply tD<;>intro h13
 .exact bS
 apply tD<;>intro h14
 .exact bS
 apply tD<;>intro h15
 .exact bS
 apply tD<;>intro h16
 .exact bS
 apply tD<;>intro h17
 .exact bS
 refine tB (ZwC) λx1 h18=>?_;apply tO<;>intro h19
 .exact bS
 apply tD<;>intro h20
 .exact bS
 apply tD<;>intro h21
 .exact bS
 apply tD<;>intro h22
 .exact bS
 apply tD<;>intro h23
 .exact bS
 apply tE<;>intro h24
 .exact w5
 refine tB (ZwD) λx2 h25=>?_;apply tF<;>intro h26
 .refine tB (ZwE) λx3 h27=>?_;apply tF<;>intro h28
  .apply tO<;>intro h29
   .apply tO<;>intro h30
    .exact w5
    exact bS
   exact bS
  exact bS
 exact bS
def ZwG:qx->Prop
 |.L0 v1 E0 v5 v6=>(Z8 E0)/\(0<=v6)
def Z1s:qx->M6
 |.L0 v1 E0 v5 v6=>(1,((E0.Stack.length:Int)-v6).toNat,1000000,0,0,0)
def ZwH{a0:av}{a1:Int}(oa0:Z8 a0):Tot (Jg a0 a1) (λr=>True):=by
 apply Tot.rn ZwG Z1s
 .dsimp only[Jf,LT.den];exact tL ⟨oa0,cl⟩ Rt
 rintro⟨v1,E0,v5,v6⟩ ⟨O0,cv6⟩;dsimp only[Z3k,Je,LT.den];have q1:=O0.2.2.2.2.1.1;apply tD<;>intro h1
 .refine Tot.ix λx1 h2=>?_;apply tE<;>intro h3
  .apply tE<;>intro h4
   .have q2:=wr (v5+1);have q3:=wr (v6+1);exact Rs
   exact RU
  exact RU
 exact tR ae
def sX{a0:List Int}(oa0:(SzL 8 (λ_=>True)) a0):Tot (Jj a0) (λr=>((SzL 8 (λ_=>True)) r)):=by
 apply tZ;have lb_a0:=oa0.1;dsimp only[Jh,LT.den];refine Tot.ap λx1 h1=>?_;have lh1:x1.length=([]:List Int).length+a0.length:=by rw[h1,bm]
 try simp only[bw,bW,aN]at lh1
 exact tR SzL.tr
def ZwI{a0:av}{a1:Int}{a2:Int}(oa0:Z8 a0):Tot (zo a0 a1 a2) (λr=>((SzL 8 (λ_=>True)) r)):=by
 apply tZ;dsimp only[Jk,LT.den];apply tE<;>intro h1
 .exact tB (sX oa0.2.2.1) λx1 h2=>tR h2
 apply tE<;>intro h2
 .exact tB (sX oa0.2.2.2.1) λx1 h3=>tR h3
 apply tD<;>intro h3
 .exact tR SzL.nil
 apply tD<;>intro h4
 .exact tR SzL.nil
 apply tE<;>intro h5
 .refine Tot.ix λx1 h6=>?_;have oh6:oU x1:=oa0.1.2 x1 h6.1;exact tB (sX oh6.2.1) λx2 h7=>tR h7
 apply tE<;>intro h6
 .refine Tot.ix λx1 h7=>?_;have oh7:oU x1:=oa0.1.2 x1 h7.1;exact tB (sX oh7.1) λx2 h8=>tR h8
 apply tE<;>intro h7
 .refine Tot.ix λx1 h8=>?_;have oh8:oU x1:=oa0.1.2 x1 h8.1;exact tB (sX oh8.2.2) λx2 h9=>tR h9
 exact tR SzL.nil
def Uh{a0:av}{a1:aj}(oa0:Z8 a0):Tot (Jo a0 a1) (λr=>True):=by
 apply tZ;dsimp only[Jm,LT.den];apply tE<;>intro h1
 .exact tB (ZwH oa0) λx1 h2=>tR trivial
 exact tB (ZwI oa0) λx1 h2=>tB (Z1r h2) λx2 h3=>tR trivial
def ZwJ(a0:List aq)(a1:av):qz->Prop
 |.L0 v0 E0 v5=>(v0=a0)/\(E0=a1)/\((SzL 176 bQ) v0)/\(Z8 E0)/\(0<=v5)/\(Cons E0.Objects v5)
def Ui:qz->M6
 |.L0 v0 E0 v5=>(1,((E0.Objects.length:Int)-v5).toNat,1000000,0,0,0)
def xo{a0:List aq}{a1:av}(oa0:(SzL 176 bQ) a0)(oa1:Z8 a1):Tot (Jr a0 a1) (λr=>(r=true->Ids a1.Objects)/\(r=true->bU a1.Objects)):=by
 apply Tot.rn (ZwJ a0 a1) Ui
 .dsimp only[Jq,LT.den];have q1:=oa1.2.1.1;apply tD<;>intro h1
  .exact Z63
  exact tL ⟨rfl,rfl,oa0,oa1,cl,tk16⟩ SU
 rintro⟨v0,E0,v5⟩ ⟨al0,al1,ov0,O0,cv5,i0⟩;subst al0;subst al1;dsimp only[Z0f,Z94,LT.den];have q1:=O0.2.1.1;apply tD<;>intro h1
 .refine Tot.ix λx1 h2=>?_;have mh2:=h2.2;refine tB (ZwF) λx2 h3=>?_;have eh3_0:=h3;apply tO<;>intro h4
  .exact Z63
  have h4_0:=eh3_0 h4;apply tD<;>intro h5
  .exact Z63
  apply tD<;>intro h6
  .exact Z63
  apply tD<;>intro h7
  .have q2:=wr (v5-1);refine Tot.ix λx3 h8=>?_;have mh8:=h8.2;apply tD<;>intro h9
   .exact Z63
   refine tB (Uh O0) λx4 h10=>?_;apply tO<;>intro h11
   .exact Z63
   have q3:=wr (v5+1);exact SS
  refine tB (Uh O0) λx3 h8=>?_;apply tO<;>intro h9
  .exact Z63
  have q2:=wr (v5+1);exact SS
 exact Z63
def ZwK:qA->Prop
 |.L0 v0 v1 v5=>((SzL 176 Z7) v0)/\((SzL 176 Z7) v1)/\(0<=v5)/\(v0.length=v1.length)
def Uj:qA->M6
 |.L0 v0 v1 v5=>(1,((v0.length:Int)-v5).toNat,1000000,0,0,0)
def Z4r{a0:List af}{a1:List af}(oa0:(SzL 176 Z7) a0)(oa1:(SzL 176 Z7) a1):Tot (Js a0 a1) (λr=>True):=by
 apply Tot.rn ZwK Uj
 .dsimp only[Z95,LT.den];apply tN<;>intro h1
  .exact tR ae
  exact tL ⟨oa0,oa1,cs⟩ Uk
 rintro⟨v0,v1,v5⟩ ⟨ov0,ov1,cv5,i0⟩;have lb_v0:=ov0.1;dsimp only[zp,Z56,LT.den];apply tD<;>intro h1
 .refine Tot.ix λx1 h2=>Tot.ix λx2 h3=>?_;apply tO<;>intro h4
  .exact tR ae
  have q1:=wr (v5+1);exact tL ⟨ov0,ov1,cs⟩ Uk
 exact tR ae
def ZwL{a0:aX}{a1:aX}(oa0:cD a0)(oa1:cD a1):Tot (Jv a0 a1) (λr=>True):=by
 apply tZ;dsimp only[Jt,LT.den];apply tE<;>intro h1
 .apply tF<;>intro h2
  .apply tF<;>intro h3
   .apply tE<;>intro h4
    .apply tE<;>intro h5
     .apply tF<;>intro h6
      .apply tF<;>intro h7
       .apply tF<;>intro h8
        .exact tB (Z4r oa0.2.2.2.2 oa1.2.2.2.2) λx1 h9=>tR trivial
        exact tR ae
       exact tR ae
      exact tR ae
     exact tR ae
    exact tR ae
   exact tR ae
  exact tR ae
 exact tR ae
def ZwM:qB->Prop
 |.L0 v0 v1 v5=>((SzL 560 cD) v0)/\((SzL 560 cD) v1)/\(0<=v5)/\(v0.length=v1.length)
def Ul:qB->M6
 |.L0 v0 v1 v5=>(1,((v0.length:Int)-v5).toNat,1000000,0,0,0)
def ZwN{a0:List aX}{a1:List aX}(oa0:(SzL 560 cD) a0)(oa1:(SzL 560 cD) a1):Tot (Jw a0 a1) (λr=>True):=by
 apply Tot.rn ZwM Ul
 .dsimp only[Z96,LT.den];apply tN<;>intro h1
  .exact tR ae
  exact tL ⟨oa0,oa1,cs⟩ Um
 rintro⟨v0,v1,v5⟩ ⟨ov0,ov1,cv5,i0⟩;have lb_v0:=ov0.1;dsimp only[zq,Z58,LT.den];apply tD<;>intro h1
 .refine Tot.ix λx1 h2=>?_;have oh2:cD x1:=ov0.2 x1 h2.1;refine Tot.ix λx2 h3=>?_;have oh3:cD x2:=ov1.2 x2 h3.1;refine tB (ZwL oh2 oh3) λx3 h4=>?_;apply tO<;>intro h5
  .exact tR ae
  have q1:=wr (v5+1);exact tL ⟨ov0,ov1,cs⟩ Um
 exact tR ae
def ZwO:qC->Prop
 |.L0 E0 E1 v5=>(Z1 E0)/\(Z1 E1)/\(0<=v5)/\(E0.Specs.length=E1.Specs.length)
def Z85:qC->M6
 |.L0 E0 E1 v5=>(1,((E0.Specs.length:Int)-v5).toNat,1000000,0,0,0)
def ZwP{a0:an}{a1:an}(oa0:Z1 a0)(oa1:Z1 a1):Tot (Jz a0 a1) (λr=>True):=by
 apply Tot.rn ZwO Z85
 .dsimp only[Jy,LT.den];have q1:=oa0.2.2.2.1.1;apply tN<;>intro h1
  .exact tR ae
  exact tL ⟨oa0,oa1,cs⟩ Un
 rintro⟨E0,E1,v5⟩ ⟨O0,O1,cv5,i0⟩;dsimp only[zr,Jx,LT.den];have q1:=O0.2.2.2.1.1;apply tD<;>intro h1
 .refine Tot.ix λx1 h2=>Tot.ix λx2 h3=>?_;apply tO<;>intro h4
  .exact tR ae
  have q2:=wr (v5+1);exact tL ⟨O0,O1,cs⟩ Un
 apply tE<;>intro h2
 .apply tF<;>intro h3
  .refine tB (Z4r O0.2.1 O1.2.1) λx1 h4=>?_;apply tF<;>intro h5
   .apply tF<;>intro h6
    .apply tF<;>intro h7
     .apply tF<;>intro h8
      .apply tF<;>intro h9
       .refine tB (ZwN O0.2.2.2.2.1 O1.2.2.2.2.1) λx2 h10=>?_;apply tF<;>intro h11
        .exact tR ae
        exact tR ae
       exact tR ae
      exact tR ae
     exact tR ae
    exact tR ae
   exact tR ae
  exact tR ae
 exact tR ae
def ZwQ{a0:av}{a1:gI}(oa0:Z8 a0)(oa1:xh a1):Tot (JC a0 a1) (λr=>True):=by
 apply tZ;dsimp only[JA,LT.den];have q1:=wr (a0.NextId-1);refine tB (gX) λx1 h1=>?_;apply tO<;>intro h2
 .exact tR ae
 refine tB (gX) λx2 h3=>?_;apply tO<;>intro h4
 .exact tR ae
 apply tD<;>intro h5
 .exact tR ae
 refine tB (mP oa0) λx3 h6=>?_;apply tO<;>intro h7
 .exact tR ae
 refine tB (Ue oa0) λx4 h8=>?_;apply tE<;>intro h9
 .refine tB (ZwP oa1.1 ⟨SzS.nil,SzL.nil,SzS.nil,SzL.nil,SzL.nil,SzS.nil⟩) λx5 h10=>?_;apply tE<;>intro h11
  .apply tF<;>intro h12
   .apply tE<;>intro h13
    .apply tF<;>intro h14
     .exact tR ae
     exact tB (Z2o oa1.1) λx6 h15=>tR trivial
    exact tR ae
   exact tR ae
  exact tR ae
 apply tE<;>intro h10
 .apply tO<;>intro h11
  .exact tB (Z2o oa1.1) λx5 h12=>tR trivial
  exact tR ae
 exact tR ae
def ZwR:Z3l->Prop
 |.L0 v0 v3=>((SzL 8 (λ_=>True)) v0)/\(0<=v3)/\(1<=v3)
def Uo:Z3l->M6
 |.L0 v0 v3=>(1,((v0.length:Int)-v3).toNat,1000000,0,0,0)
def ZwS{a0:List Int}(oa0:(SzL 8 (λ_=>True)) a0):Tot (JF a0) (λr=>True):=by
 apply Tot.rn ZwR Uo
 .dsimp only[JE,LT.den];exact tL ⟨oa0,cs⟩ Up
 rintro⟨v0,v3⟩ ⟨ov0,cv3,i0⟩;have lb_v0:=ov0.1;dsimp only[zt,JD,LT.den];apply tD<;>intro h1
 .have q1:=wr (v3-1);refine Tot.ix λx1 h2=>Tot.ix λx2 h3=>?_;apply tD<;>intro h4
  .exact tR ae
  have q2:=wr (v3+1);exact tL ⟨ov0,cs⟩ Up
 exact tR ae
def ZwT(a0:av):kL->Prop
 |.L0 E0 v3=>(E0=a0)/\(Z8 E0)/\(0<=v3)/\(E0.Conts.length<=64)
 |.L1 E0 v3 v4=>(E0=a0)/\(Z8 E0)/\(0<=v4)/\(0<=v3)/\(v3<(E0.Stack.length:Int))/\(E0.Conts.length<=64)
 |.L2 E0 v5=>(E0=a0)/\(Z8 E0)/\(0<=v5)/\(E0.Conts.length<=64)
 |.L3 E0 v7=>(E0=a0)/\(Z8 E0)/\(0<=v7)/\(E0.Conts.length<=64)
def Z4s:kL->M6
 |.L0 E0 v3=>(5,((E0.Stack.length:Int)-v3).toNat,1000000,0,0,0)
 |.L1 E0 v3 v4=>(5,((E0.Stack.length:Int)-v3).toNat,1,(v3-v4).toNat,1000000,0)
 |.L2 E0 v5=>(3,((E0.Waiting.length:Int)-v5).toNat,1000000,0,0,0)
 |.L3 E0 v7=>(1,((E0.Conts.length:Int)-v7).toNat,1000000,0,0,0)
def xp{a0:av}(oa0:Z8 a0):Tot (JL a0) (λr=>(r=true->a0.Conts.length<=64)):=by
 apply Tot.rn (ZwT a0) Z4s
 .dsimp only[JK,LT.den];have q1:=oa0.2.2.2.2.1.1;apply tD<;>intro h1
  .exact dR
  apply tD<;>intro h2
  .exact dR
  have q2:=oa0.2.2.2.2.2.2.1.1;apply tD<;>intro h3
  .exact dR
  exact tL ⟨rfl,oa0,cs⟩ Ru
 intro s hs;cases s with
 |L0 E0 v3=>
  obtain⟨al0,O0,cv3,i0⟩:=hs;subst al0;dsimp only[nL,JG,LT.den];have q1:=O0.2.2.2.2.1.1;apply tD<;>intro h1
  .refine Tot.ix λx1 h2=>?_;have oh2:xh x1:=O0.2.2.2.2.1.2 x1 h2.1;refine tB (ZwQ O0 oh2) λx2 h3=>?_;apply tO<;>intro h4
   .exact dR
   exact mH
  exact mH
 |L1 E0 v3 v4=>
  obtain⟨al0,O0,cv4,cv3,bd4,i0⟩:=hs;subst al0;dsimp only[nL,JH,LT.den];have lx_0:E0.Stack.length*824<=140737488351232:=O0.2.2.2.2.1.1;apply tD<;>intro h1
  .refine Tot.ix λx1 h2=>Tot.ix λx2 h3=>?_;apply tE<;>intro h4
   .exact dR
   have q1:=wr (v4+1);exact mH
  have q1:=wr (v3+1);exact mH
 |L2 E0 v5=>
  obtain⟨al0,O0,cv5,i0⟩:=hs;subst al0;dsimp only[nL,JI,LT.den];have q1:=O0.2.2.2.2.2.1.1;apply tD<;>intro h1
  .refine Tot.ix λx1 h2=>?_;have oh2:C8 x1:=O0.2.2.2.2.2.1.2 x1 h2.1;refine tB (mP O0) λx2 h3=>?_;apply tO<;>intro h4
   .exact dR
   apply tN<;>intro h5
   .exact dR
   refine tB (Z2o oh2) λx3 h6=>?_;apply tO<;>intro h7
   .exact dR
   have q2:=wr (v5+1);exact mH
  exact mH
 |L3 E0 v7=>
  obtain⟨al0,O0,cv7,i0⟩:=hs;subst al0;dsimp only[nL,JJ,LT.den];have q1:=O0.2.2.2.2.2.2.1.1;apply tD<;>intro h1
  .refine Tot.ix λx1 h2=>?_;have oh2:n8 x1:=O0.2.2.2.2.2.2.1.2 x1 h2.1;refine tB (mP O0) λx2 h3=>?_;apply tO<;>intro h4
   .exact dR
   apply tD<;>intro h5
   .exact dR
   refine tB (gX) λx3 h6=>?_;apply tO<;>intro h7
   .exact dR
   refine tB (ZwS oh2.1) λx4 h8=>?_;apply tO<;>intro h9
   .exact dR
   refine tB (Df oh2.2) λx5 h10=>?_;apply tF<;>intro h11
   .exact dR
   have q2:=wr (v7+1);exact mH
  exact dR
abbrev ZwU(a0:List aq)(a1:av)(r:Bool):Prop:=(r=true->a1.Objects.length<=2048/\a1.Conts.length<=64)/\(r=true->bU a1.Objects)
def ZwV(a0:List aq)(a1:av):Z3m->Prop
 |.L0 v0 E0 v5=>(v0=a0)/\(E0=a1)/\((SzL 176 bQ) v0)/\(Z8 E0)/\(0<=v5)/\(E0.Objects.length<=2048)
def Uq:Z3m->M6
 |.L0 v0 E0 v5=>(1,((E0.Extra.length:Int)-v5).toNat,1000000,0,0,0)
def ZwW{a0:List aq}{a1:av}(oa0:(SzL 176 bQ) a0)(oa1:Z8 a1):Tot (JO a0 a1) (ZwU a0 a1):=by
 apply Tot.rn (ZwV a0 a1) Uq
 .dsimp only[JN,LT.den];refine tB (gX) λx1 h1=>?_;apply tO<;>intro h2
  .exact fh
  refine tB (gX) λx2 h3=>?_;apply tO<;>intro h4
  .exact fh
  refine tB (gX) λx3 h5=>?_;apply tO<;>intro h6
  .exact fh
  refine tB (gX) λx4 h7=>?_;apply tO<;>intro h8
  .exact fh
  have q1:=oa1.2.1.1;apply tD<;>intro h9
  .exact fh
  refine tB (ZwA oa1) λx5 h10=>?_;apply tO<;>intro h11
  .exact fh
  refine tB (mP oa1) λx6 h12=>?_;apply tO<;>intro h13
  .exact fh
  refine tB (mP oa1) λx7 h14=>?_;have eh14_0:=h14;apply tO<;>intro h15
  .exact fh
  refine tB (gX) λx8 h16=>?_;apply tO<;>intro h17
  .exact fh
  apply tD<;>intro h18
  .exact fh
  refine tB (gX) λx9 h19=>?_;apply tO<;>intro h20
  .exact fh
  exact tL ⟨rfl,rfl,oa0,oa1,cs⟩ Ur
 rintro⟨v0,E0,v5⟩ ⟨al0,al1,ov0,O0,cv5,i0⟩;subst al0;subst al1;dsimp only[zu,JM,LT.den];have q1:=O0.2.2.2.2.2.2.2.1;apply tD<;>intro h1
 .refine Tot.ix λx1 h2=>tB (mP O0) λx2 h3=>?_;apply tO<;>intro h4
  .exact fh
  have q2:=wr (v5+1);exact tL ⟨rfl,rfl,ov0,O0,cs⟩ Ur
 apply tE<;>intro h2
 .refine tB (mP O0) λx1 h3=>?_;apply tO<;>intro h4
  .exact fh
  apply tN<;>intro h5
  .apply tN<;>intro h6
   .exact fh
   refine tB (xo ov0 O0) λx2 h7=>?_;have eh7_0:=h7.1;have eh7_1:=h7.2;apply tF<;>intro h8
   .have h8_1:=eh7_1 h8;exact tB (xp O0) λx3 h9=>tR ⟨tk96,sL⟩
   exact fh
  refine tB (xo ov0 O0) λx2 h6=>?_;have eh6_0:=h6.1;have eh6_1:=h6.2;apply tF<;>intro h7
  .have h7_1:=eh6_1 h7;exact tB (xp O0) λx3 h8=>tR ⟨tk96,sL⟩
  exact fh
 apply tN<;>intro h3
 .apply tN<;>intro h4
  .exact fh
  refine tB (xo ov0 O0) λx1 h5=>?_;have eh5_0:=h5.1;have eh5_1:=h5.2;apply tF<;>intro h6
  .have h6_1:=eh5_1 h6;exact tB (xp O0) λx2 h7=>tR ⟨tk96,sL⟩
  exact fh
 refine tB (xo ov0 O0) λx1 h4=>?_;have eh4_0:=h4.1;have eh4_1:=h4.2;apply tF<;>intro h5
 .have h5_1:=eh4_1 h5;exact tB (xp O0) λx2 h6=>tR ⟨tk96,sL⟩
 exact fh
def ZiW{a0:List aq}{a1:av}(oa0:(SzL 176 bQ) a0)(oa1:Z8 a1):Tot (JR a0 a1) (λr=>(r=true->a1.Objects.length<=2048/\a1.Conts.length<=64/\∀c,c∈a0->c.Abilities.length<=8)/\(r=true->bU a1.Objects)/\(r=true->∀c,c∈a0->ik c)):=by
 apply tZ;dsimp only[JP,LT.den];refine tB (ZvR oa0) λx1 h1=>?_;apply tE<;>intro h2
 .refine tB (ZwW oa0 oa1) λx2 h3=>?_;have eh3_1:=h3.2;exact SB
 exact SB
def ZwX(a0:aJ):lS->Prop
 |.L0 E0 v6 v7=>(E0=a0)/\(0<=v7)/\(v6=E0.Color)/\(∀(k:Nat) x,(k:Int)<v7->(A5.list E0.Color)[k]?=some x->0<=x/\x<=9)
def SA:lS->M6
 |.L0 E0 v6 v7=>(1,(5-v7).toNat,1000000,0,0,0)
def ZwY{a0:aJ}:Tot (uJ a0) (λr=>(r=Z01 a0)):=by
 apply Tot.rn (ZwX a0) SA
 .dsimp only[zv,LT.den];exact Sz
 rintro⟨E0,v6,v7⟩ ⟨al0,cv7,i0,i1⟩;subst al0;dsimp only[nN,nM,LT.den];apply tD<;>intro h1
 .refine tB (tI O (by have e:(A5.list v6).length=5:=rfl;omega)) λx1 h2=>?_;have mh2:=h2.2;rw[i0]at mh2;apply tD<;>intro h3
  .exact oQ
  apply tD<;>intro h4
  .exact oQ
  have q1:=wr (v7+1);exact Sz
 apply tD<;>intro h2
 .apply tD<;>intro h3
  .apply tD<;>intro h4
   .exact oQ
   exact oQ
  exact oQ
 exact oQ
def ZwZ(a0:aJ):qE->Prop
 |.L0 v3 v16 v17=>(0<=v17)/\(v17<=5)/\(v16=a0.Color)/\(Z01 a0=true)/\(v3=coP v16 v17)
def SR:qE->M6
 |.L0 v3 v16 v17=>(1,(5-v17).toNat,1000000,0,0,0)
def ZxA{a0:aJ}:Tot (JW a0) (λr=>(r=coV a0)):=by
 apply Tot.rn (ZwZ a0) SR
 .dsimp only[JV,LT.den];refine tB (ZwY) λx1 h1=>?_;apply tO<;>intro h2
  .exact CH
  apply tF<;>intro h3
  .exact CH
  exact SO
 rintro⟨v3,v16,v17⟩ ⟨cv17,i0,i1,i2,i3⟩;dsimp only[Z0g,Z97,LT.den];apply tD<;>intro h1
 .refine tB (tI O (by have e:(A5.list v16).length=5:=rfl;omega)) λx1 h2=>?_;have mh2:=h2.2;apply tD<;>intro h3
  .refine tB (tK C1) λx2 h4=>?_;exact SV
  exact SV
 exact CH
def Dk{a0:List (List UInt8)}(oa0:(SzL 16 SzT) a0):Tot (uL a0) (λr=>((SzL 16 SzT) r)/\(r=a0)):=by
 unfold uL;split
 .apply tZ;have lb_a0:=oa0.1;dsimp only[zw,LT.den];refine Tot.ap λx1 h1=>?_;have lh1:x1.length=([]:List (List UInt8)).length+a0.length:=by rw[h1,bm]
  try simp only[bw,bW,aN]at lh1
  exact tR ⟨SzL.app (k:=16) h1 lo (λ_ h=>by cases h) oa0.2,mJ⟩
 apply tZ;dsimp only[uK,LT.den];exact mI
def oZ{a0:List af}(oa0:(SzL 176 Z7) a0):Tot (qF a0) (λr=>((SzL 176 Z7) r)/\(r=a0)):=by
 unfold qF;split
 .apply tZ;have lb_a0:=oa0.1;dsimp only[zy,LT.den];refine Tot.ap λx1 h1=>?_;have lh1:x1.length=([]:List af).length+a0.length:=by rw[h1,bm]
  try simp only[bw,bW,aN]at lh1
  exact tR ⟨SzL.app (k:=176) h1 lo (λ_ h=>by cases h) oa0.2,mJ⟩
 apply tZ;dsimp only[uM,LT.den];exact mI
def Us{a0:List cj}(oa0:(SzL 144 jK) a0):Tot (qH a0) (λr=>((SzL 144 jK) r)/\(r=a0)):=by
 unfold qH;split
 .apply tZ;have lb_a0:=oa0.1;dsimp only[zz,LT.den];refine Tot.ap λx1 h1=>?_;have lh1:x1.length=([]:List cj).length+a0.length:=by rw[h1,bm]
  try simp only[bw,bW,aN]at lh1
  exact tR ⟨SzL.app (k:=144) h1 lo (λ_ h=>by cases h) oa0.2,mJ⟩
 apply tZ;dsimp only[uN,LT.den];exact mI
def Ut{a0:List aX}(oa0:(SzL 560 cD) a0):Tot (uP a0) (λr=>((SzL 560 cD) r)/\(r=a0)):=by
 unfold uP;split
 .apply tZ;have lb_a0:=oa0.1;dsimp only[zA,LT.den];refine Tot.ap λx1 h1=>?_;have lh1:x1.length=([]:List aX).length+a0.length:=by rw[h1,bm]
  try simp only[bw,bW,aN]at lh1
  exact tR ⟨SzL.app (k:=560) h1 lo (λ_ h=>by cases h) oa0.2,mJ⟩
 apply tZ;dsimp only[uO,LT.den];exact mI
def ZxB(a0:an):qI->Prop
 |.L0 E0 E1 v18 v19=>(Z1 E0)/\(Z1 E1)/\(0<=v19)/\(v18=(a0.Effects.length:Int))/\(v18=(E0.Effects.length:Int))/\(E0=a0)
def Uu:qI->M6
 |.L0 E0 E1 v18 v19=>(1,(v18-v19).toNat,1000000,0,0,0)
def ZxC{a0:an}(oa0:Z1 a0):Tot (zC a0) (λr=>(Z1 r)/\(r=a0)):=by
 apply Tot.rn (ZxB a0) Uu
 .dsimp only[J1,LT.den];refine tB (oZ oa0.2.1) λx1 h1=>?_;have eh1_1:=h1.2;refine tB (Us oa0.2.2.2.1) λx2 h2=>?_;have eh2_1:=h2.2;refine tB (Ut oa0.2.2.2.2.1) λx3 h3=>?_;have eh3_1:=h3.2;exact tL ⟨⟨oa0.1,h1.1,oa0.2.2.1,h2.1,h3.1,oa0.2.2.2.2.2⟩,⟨SzS.nil,SzL.nil,SzS.nil,SzL.nil,SzL.nil,SzS.nil⟩,cl,bR,bR,tk70⟩ Uv
 rintro⟨E0,E1,v18,v19⟩ ⟨O0,O1,cv19,i0,i1,i2⟩;dsimp only[zB,J0,LT.den];have lq:=O0.2.2.2.2.1.1;apply tD<;>intro h1
 .refine Tot.ix λx1 h2=>?_;have oh2:cD x1:=O0.2.2.2.2.1.2 x1 h2.1;have mh2:=h2.2;refine tB (oZ oh2.2.2.2.2) λx2 h3=>?_;have eh3_1:=h3.2;refine tB (Tot.set O O) λx3 h4=>?_;have vh4:=h4.2.2;have q1:=wr (v19+1);exact tL ⟨⟨O0.1,O0.2.1,O0.2.2.1,O0.2.2.2.1,⟨lo,λe he=>(h4.2.1 e he).elim (λw=>by rw[w];exact⟨oh2.1,oh2.2.1,oh2.2.2.1,oh2.2.2.2.1,h3.1⟩) (O0.2.2.2.2.1.2 e)⟩,O0.2.2.2.2.2⟩,O1,cl,bR,bR,tk70⟩ Uv
 exact tR ⟨O0,V⟩
def ZxD(a0:aq):qJ->Prop
 |.L0 E0 E1 v32 v33 v34=>(bl E0)/\(bl E1)/\((SzL 640 Z1) v32)/\(0<=v34)/\(v33=(v32.length:Int))/\(E1.Abilities.length<=v34.toNat)/\(v34<=v33)/\(v32=a0.Abilities)/\(E1={ prV a0 with Abilities:=a0.Abilities.take v34.toNat })
def Uw:qJ->M6
 |.L0 E0 E1 v32 v33 v34=>(1,(v33-v34).toNat,1000000,0,0,0)
def ZxE{a0:aq}(oa0:bQ a0):Tot (J2 a0) (λr=>(bl r)/\(r=prV a0)):=by
 apply Tot.rn (ZxD a0) Uw
 .dsimp only[Z98,LT.den];refine tB (ZxA) λx1 h1=>tB (Dk oa0.2.1) λx2 h2=>?_;have eh2_1:=h2.2;have q1:=oa0.2.2.1;exact tL ⟨⟨SzS.nil,SzL.nil,SzL.nil⟩,⟨oa0.1,h2.1,SzL.nil⟩,oa0.2.2,cl,cl,cl,cl,aF,tk29⟩ Ux
 rintro⟨E0,E1,v32,v33,v34⟩ ⟨O0,O1,ov32,cv34,i0,i1,i2,i3,i4⟩;have lb_v32:=ov32.1;dsimp only[zD,Z59,LT.den];apply tD<;>intro h1
 .refine Tot.ix λx1 h2=>?_;have oh2:Z1 x1:=ov32.2 x1 h2.1;have mh2:=h2.2;refine tB (ZxC oh2) λx2 h3=>?_;have eh3_1:=h3.2;have q1:=O1.2.2.1;refine Tot.ap λx3 h4=>?_;have lh4:=ca h4;have q2:=wr (v34+1);exact tL ⟨O0,⟨O1.1,O1.2.1,SzL.app (k:=640) h4 lo O1.2.2.2 (me1 h3.1)⟩,ov32,cl,cl,cl,cl,aF,tk29⟩ Ux
 exact tR ⟨O1,K5⟩
def sY(a0:List aq)(a1:aj):nO->Prop
 |.L0 v0 E0 E1 v5=>(v0=a0)/\(E0=a1)/\((SzL 176 bQ) v0)/\(bl E1)/\(v5=if E0.Copy<0 then E0.Card else E0.Copy)
 |.L1 E0 E1 E2=>(E0=a1)/\(bl E1)/\(bl E2)/\(E2=fY a0 (if E0.Copy<0 then E0.Card else E0.Copy))
def Dl:nO->M6
 |.L0 v0 E0 E1 v5=>(0,0,0,0,0,0)
 |.L1 E0 E1 E2=>(0,0,0,0,0,0)
def CN{a0:List aq}{a1:aj}{E0:aj}{E1:ab}{E2:ab}(h:(sY a0 a1) (.L1 E0 E1 E2)):Tot (nP E0 E1 E2).den (Nx (sY a0 a1) Dl (0,0,0,0,0,0) (λr=>(bl r)/\(r=baV a0 a1))):=by
 obtain⟨al0,O1,O2,i0⟩:=h;subst al0;dsimp only[nP,LT.den];apply tE<;>intro h1
 .exact CE
 apply tE<;>intro h2
 .exact CE
 exact CE
def RF{a0:List aq}{a1:aj}{v0:List aq}{E0:aj}{E1:ab}{v5:Int}(h:(sY a0 a1) (.L0 v0 E0 E1 v5)):Tot (qK v0 E0 E1 v5).den (Nx (sY a0 a1) Dl (0,0,0,0,0,0) (λr=>(bl r)/\(r=baV a0 a1))):=by
 obtain⟨al0,al1,ov0,O1,i0⟩:=h;subst al0;subst al1;dsimp only[qK,LT.den];apply tD<;>intro h1
 .apply tD<;>intro h2
  .refine Tot.ix λx1 h3=>?_;have oh3:bQ x1:=ov0.2 x1 h3.1;have mh3:=h3.2;refine tB (ZxE oh3) λx2 h4=>?_;have eh4_1:=h4.2;exact tJ (CN ⟨rfl,O1,h4.1,tk42⟩)
  exact SG
 exact SG
def Uy{a0:List aq}{a1:aj}(oa0:(SzL 176 bQ) a0):Tot (zE a0 a1) (λr=>(bl r)/\(r=baV a0 a1)):=by
 apply Tot.rn (sY a0 a1) Dl
 .dsimp only[J3,LT.den];apply tD<;>intro h1
  .exact RE
  exact RE
 intro s hs;cases s with
 |L0 _ _ _ _=>exact RF hs
 |L1 _ _ _=>exact CN hs
def ZxF{a0:List Int}(oa0:(SzL 8 (λ_=>True)) a0):Tot (qL a0) (λr=>((SzL 8 (λ_=>True)) r)/\(r=a0)):=by
 unfold qL;split
 .apply tZ;have lb_a0:=oa0.1;dsimp only[zF,LT.den];refine Tot.ap λx1 h1=>?_;have lh1:x1.length=([]:List Int).length+a0.length:=by rw[h1,bm]
  exact Su
 apply tZ;dsimp only[uQ,LT.den];exact mI
end Go.PW
