import Derived.Test.YtdjfkajcchcdkaaGreatQE
import Derived.Test.YtdjfkajcchcdkaaGreatPwYi
import Derived.Test.YtdjfkajcchcdkaaGreatQDd
import Derived.Test.YtdjfkajcchcdkaaGreatQSi
set_option linter.all false
set_option maxRecDepth 100000
namespace Go.PW
variable{p:Prop}
def zf(h:p:=by have eh9_1:=h9.2;exact tR h9.1):=h
def bX(h:p:=by exact tR (by intro hr;cases hr)):=h
def mE(h:p:=by exact tJ (TF trivial)):=h
def yJ(h:p:=by exact tJ (Z89 trivial)):=h
def uf(h:p:=by exact tJ (Z9a trivial)):=h
def jG(h:p:=by exact tR ⟨h1.1,h1.2.1,h1.2.2⟩):=h
def m7(h:p:=by exact tR eN):=h
def wJ(h:p:=by exact tJ (TG ⟨ov0,cs⟩)):=h
def qz(h:p:=by exact tR (by unfold hidB;grind[fdZ])):=h
def za(h:p:=by exact tR ⟨O2.1,O2.2⟩):=h
def Cx(h:p:=by exact tR ⟨O0.1,O0.2⟩):=h
def Cy(h:p:=by exact tJ (TH ⟨oa0,aa⟩)):=h
def Cz(h:p:=by exact tJ (TI ⟨oa0,aa⟩)):=h
def pQ(h:p:=by exact tJ (Z0s ⟨oa1,oa4⟩)):=h
def ym(h:p:=by exact tJ (Z0n ⟨rfl,oa0,cl⟩)):=h
def wK(h:p:=by exact tJ (TJ ⟨O0,aa⟩)):=h
def CA(h:p:=by exact tJ (TL ⟨O0,aa⟩)):=h
def wN(h:p:=by exact tJ (TM ⟨O0,aa⟩)):=h
def CB(h:p:=by exact tJ (TN ⟨O0,aa⟩)):=h
def F6(h:p:=by exact tB (iX) λx3 h3=>tR trivial):=h
def TO(h:p:=by exact tJ (TP ⟨O0,O1⟩)):=h
def wP(h:p:=by exact tR (by intro hr;first|omega|(cases hr;done))):=h
def pP(h:p:=by exact tJ (Z0r ⟨O1,O2⟩)):=h
def uo(h:p:=by exact tJ (Z0q ⟨O1,O2⟩)):=h
def EL(h:p:=by exact tJ (Z59 ⟨rfl,O0,cl,dq⟩)):=h
def G9(h:p:=by exact tJ (G7 ⟨O0,O1,O2⟩)):=h
def TQ(h:p:=by exact tL ⟨ov0,cl⟩ Tj):=h
def TR(h:p:=by exact tL ⟨cl,cl⟩ (by unfold TT lt6;dsimp only;omega)):=h
def TU(h:p:=by exact tL ⟨cl,cl⟩ (by unfold TV lt6;dsimp only;omega)):=h
def wQ(h:p:=by
 apply tD<;>intro h4
 .exact tR aa
 exact tR aa):=h
def om(h:p:=by exact tL ⟨cl,cs⟩ SR):=h
def CC(h:p:=by
 apply tD<;>intro h2
 .exact tR aa
 exact tR aa):=h
def CD(h:p:=by exact tL ⟨cl,cs⟩ (by unfold TW lt6;dsimp only;omega)):=h
def uA(h:p:=by
 apply tD<;>intro h1
 .exact tR aa
 exact tR aa):=h
def TX(h:p:=by
 apply tE<;>intro h1
 .exact tR aa
 exact tR aa):=h
def Gl(h:p:=by
 apply tO<;>intro h4
 .exact tR aa
 exact tR aa):=h
def CE(h:p:=by exact tL ⟨cl,cs⟩ (by unfold TY lt6;dsimp only;omega)):=h
def TZ(h:p:=by exact tL ⟨ov0,cl⟩ Tg):=h
def T0(h:p:=by exact tL ⟨cl,aa⟩ (by unfold T4 lt6;dsimp only;omega)):=h
def T5(h:p:=by exact tL ⟨cl,cl⟩ (by unfold T6 lt6;dsimp only;omega)):=h
def T7(h:p:=by exact tL ⟨cl,aa⟩ (by unfold T8 lt6;dsimp only;omega)):=h
def T9(h:p:=by exact tL ⟨cl,aa⟩ (by unfold Ua lt6;dsimp only;omega)):=h
def Ub(h:p:=by exact tL ⟨O0,cl⟩ SH):=h
def Uc(h:p:=by exact tL ⟨ov0,ov1,cs⟩ SY):=h
def GP(h:p:=by exact tL ⟨cl,aa⟩ (by unfold GO lt6;dsimp only;omega)):=h
def CF(h:p:=by exact tL ⟨ov0,ov2,cs⟩ Ti):=h
def Ud(h:p:=by exact tL ⟨O0,cl⟩ Th):=h
def oo(h:p:=by exact tJ (Ue ⟨⟨oa0.1,oa0.2⟩,⟨SzS.nil,SzS.nil⟩⟩)):=h
def gk(h:p:=by exact tR (by obtain⟨k1,k2,k3,k4⟩:=a0;unfold amV;grind[ZfJ,usV])):=h
def CG(h:p:=by exact tL ⟨rfl,O0,cs⟩ (by unfold wU lt6;dsimp only;omega)):=h
def cT(h:p:=by exact tR (by first|(intro hr;exact absurd hr aS)|(intro _;omega))):=h
def mF(h:p:=by exact tL ⟨rfl,O0,cs⟩ Tf):=h
def Uf(h:p:=by exact tL ⟨ov0,O0,cs⟩ CH):=h
def jU(h:p:=by exact tL ⟨O0,ov6,ov7,cs⟩ sB):=h
def ze(h:p:=by simp only[bF,bT,fH,jk];omega):=h
def ud(h:p:=by have q1:=wr (5+v0);have q2:=wr ((IntKind.wrap .i64 (5+v0))-11);exact tR aa):=h
def Ug(h:p:=by have q1:=wr (v3+1);exact TQ):=h
def Uh(h:p:=by have q2:=wr (v4+1);exact CE):=h
def nv(h:p:=by exact tJ (G8 ⟨oa0,⟨SzS.nil,SzS.nil⟩,⟨SzS.nil,SzS.nil⟩⟩)):=h
def Ui(h:p:=by have q2:=wr (v4+1);exact CD):=h
def FT(h:p:=by exact tJ (FO ⟨rfl,rfl,oa0,⟨SzS.nil,SzL.nil,SzL.nil⟩,dq⟩)):=h
def nk(h:p:=by have q1:=wr (v38+1);exact tL ⟨ov36,cs⟩ GC):=h
def Uj(h:p:=by have q2:=wr (v4+1);exact tL ⟨ov0,cs⟩ S5):=h
def Uk(h:p:=by have q1:=wr (v7+1);exact T7):=h
def Ul(h:p:=by have q2:=wr (v5+1);exact tL ⟨ov0,ov1,cl⟩ Tb):=h
def Um(h:p:=by have q2:=wr (v6+1);exact Ud):=h
def Un(h:p:=by have q2:=wr (v9+1);exact tL ⟨ov1,O0,cl⟩ SN):=h
def Uo(h:p:=by have q2:=wr (v6+1);exact Uf):=h
def uW(h:p:=by exact tJ (Kk ⟨rfl,rfl,rfl,h5.2.1,ov2,O1,O2,ov12,ov18,cs⟩)):=h
def Z4v(h:p:=by exact tR ⟨SzL.nil,tk72⟩):=h
def GF(h:p:=by exact tB (tK tk84) λx2 h4=>tR trivial):=h
def Fu(h:p:=by exact tJ (Z87 ⟨rfl,rfl,ov1,O0,dq,cl,(by first|assumption|omega|grind)⟩)):=h
def wV(h:p:=by exact tR tk50):=h
def dh(h:p:=by exact tR bk):=h
def CI(h:p:=by
 apply tE<;>intro h4
 .exact tR aa
 apply tE<;>intro h5
 .exact tR aa
 exact tR aa):=h
def Gm(h:p:=by
 apply tE<;>intro h3
 .exact tR aa
 apply tE<;>intro h4
 .exact tR aa
 exact tR aa):=h
def Up(h:p:=by
 apply tD<;>intro h5
 .apply tD<;>intro h6
  .exact tR aa
  exact tR aa
 exact tR aa):=h
def Uq(h:p:=by
 apply tD<;>intro h6
 .apply tD<;>intro h7
  .exact tR aa
  exact tR aa
 exact tR aa):=h
def E6(h:p:=by
 try simp only[bT,cg,aM]at lh1
 exact tR ⟨SzL.tr,ct⟩):=h
def ng(h:p:=by exact tR (by first|with_reducible exact ZfY V O|(rw[ZfZ V O];grind))):=h
def Aj(h:p:=by exact tL ⟨O0,O1,cl,V,V⟩ KT):=h
def Ur(h:p:=by exact tR (by first|exact ZfK V V|exact TD V V V)):=h
def uF(h:p:=by exact tR (by first|exact ZcT V V V dq|exact ZcU V O)):=h
def ll(h:p:=by exact tJ (Z6a ⟨rfl,oa0,cl,cl,tk68⟩)):=h
def GD(h:p:=by
 apply tN<;>intro h6
 .exact tR aa
 exact nk):=h
def GA(h:p:=by exact tR ⟨(by first|exact li_n V V|exact li_y V V),cl,eN⟩):=h
def sC(h:p:=by exact tR (by first|(intro hr;exact absurd hr aS)|(intro _ c hc;obtain⟨k,hk⟩:=List.mem_iff_getElem?.1 hc;exact i0 k c dq hk))):=h
def yD(h:p:=by exact tR ⟨⟨O2.1,O2.2.1,O2.2.2⟩,(by first|exact ba_c V rfl O|exact ba_o V rfl O)⟩):=h
def Us(h:p:=by exact tR ⟨cl,tk27⟩):=h
def Ut(h:p:=by
 refine tB (jV oa1) λx1 h2=>?_;have eh2_0:=h2.1;have eh2_1:=h2.2;apply tF<;>intro h3
 .have h3_0:=eh2_0 h3;exact tR aa
 exact tR aa):=h
def uu(h:p:=by
 try simp only[bT,cg,aM]at lh1
 exact tR ⟨SzL.tr,tk72⟩):=h
def Uu(h:p:=by
 refine tB (jV O0) λx2 h4=>?_;have eh4_0:=h4.1;have eh4_1:=h4.2;apply tF<;>intro h5
 .have h5_0:=eh4_0 h5;exact tR aa
 exact tR aa):=h
def JU(h:p:=by exact tR ⟨tk27,dz⟩):=h
def Uv(h:p:=by
 apply tE<;>intro h6
 .exact cT
 exact cT):=h
def yv(h:p:=by exact tR (by first|with_reducible exact Zf0 V V V O O|with_reducible exact Zf1 V|with_reducible exact Zf2 dq)):=h
def KY(h:p:=by exact tL ⟨O0,O1,cl,V,V,cl,cl,(by first|assumption|exact Zf3 V O)⟩ tk99):=h
def Ho(h:p:=by have q1:=wr (v8+1);exact tL ⟨rfl,ov3,ov6,cl,cl,cl,cl,tk54⟩ zj):=h
def CJ(h:p:=by exact tL ⟨O0,ov6,SzL.app (k:=16) h6 lo ov7.2 (me1 tk50),cs⟩ sB):=h
def Fz(h:p:=by exact tL ⟨rfl,cl,dz,(by first|(intro k x hk;omega)|exact vh V V O ⟨by omega,by omega⟩ O)⟩ (by unfold Fx lt6;dsimp only;omega)):=h
def Kl(h:p:=by have q1:=ov12.1;refine Tot.ap λx1 h2=>?_;have lh2:=db h2;have q2:=wr (v20+1);exact tL ⟨rfl,rfl,rfl,oc0,ov2,O1,O2,SzL.tr,ov18,cs⟩ Ko):=h
def p9(h:p:=by have q1:=wr (v16+1);exact tL ⟨rfl,ov1,ov14,cl,V,cl,cl,V,tk71⟩ HV):=h
def Hv(h:p:=by exact tL ⟨rfl,O0,O1,cl,cl,cl,cl,tk34,cl⟩ kp):=h
def kN(h:p:=by exact tR ⟨(by first|(intro hr;exact absurd hr aS)|exact λ_=>Zf4 (v:=v5) V O),(by first|(intro hr;exact absurd hr aS)|exact λ_=>Zf5 (v:=v5) V O)⟩):=h
def gV(h:p:=by exact tR ⟨dq,tk14⟩):=h
def Hy(h:p:=by exact tL ⟨rfl,O0,O1,cl,cl,cl,cl,cl,cl,tk34,cs⟩ kp):=h
def JI(h:p:=by exact tR ⟨ov6,oc0,cl,cl,cl,cl,cl,cl,bK,cP,cP⟩):=h
def pj(h:p:=by exact tJ (Z3w ⟨rfl,oa0,cl,cl,tk68,tk45⟩)):=h
def yr(h:p:=by exact tR ⟨SzL.tr,tk98,tk20⟩):=h
def EW(h:p:=by exact tR ⟨SzL.nil,tk98,tk20⟩):=h
def pt(h:p:=by exact tJ (Z88 ⟨rfl,rfl,oa1,oa0,cl,tk68,tk45⟩)):=h
def HA(h:p:=by exact tL ⟨rfl,O0,O1,cl,cl,cl,cl,cl,cl,cl,cl,tk34,cs⟩ kp):=h
def Uw(h:p:=by
 apply tF<;>intro h2
 .exact wV
 exact wV):=h
def FP(h:p:=by exact tJ (Z1x ⟨rfl,O1,⟨SzS.nil,SzL.nil,SzL.nil⟩,tk18⟩)):=h
def HC(h:p:=by have q1:=wr (v57+1);exact HA):=h
def CK(h:p:=by exact tR ⟨tk50,tk24⟩):=h
def zq(h:p:=by have q1:=wr (v20+1);exact tL ⟨rfl,rfl,O1,ov18,cl,cl,cl,cl,cl,cl,cl,bK,V,cs⟩ tk86):=h
def Ux(h:p:=by
 apply tD<;>intro h4
 .apply tD<;>intro h5
  .exact gk
  exact gk
 exact gk):=h
def eQ(h:p:=by exact tR ⟨tk62,tk66,tk44⟩):=h
def H0(h:p:=by exact tL ⟨oc0,ov10,cl,cl,cl,cl,cl,cl,cl,bK,cP,cP,cl,cl⟩ tk88):=h
def Il(h:p:=by have q1:=wr (v25+1);exact tL ⟨rfl,rfl,O1,ov8,ov23,cl,cl,cl,cl,cl,cl,cl,bK,V,cl,cl,cl,cl,cl,V⟩ tk87):=h
def Gw(h:p:=by exact tL ⟨rfl,rfl,ov0,cl,cl,cl,cl,tk16⟩ tk51):=h
def yo(h:p:=by exact tR ⟨(by first|assumption|(right;omega)|(left;exact⟨rfl,by grind[List.mem_iff_getElem?]⟩)),(by first|(intro k y hk;omega)|assumption),(by first|(intro hr;exact absurd hr aS)|(intro hr;exfalso;omega)|assumption|(intro _;first|exact Zf6 V V|exact of_ieq' V V))⟩):=h
def Ft(h:p:=by refine tB (yt O0 ov1) λx1 h5=>?_;have eh5_0:=h5.1;have eh5_1:=h5.2.1;have eh5_2:=h5.2.2;exact gV):=h
def FE(h:p:=by exact tL ⟨cl,cl,dz,ct,(by first|with_reducible exact Zf7 _|with_reducible exact Zf8 V V O O V O|with_reducible exact Zf9 V V O O O O)⟩ (by unfold FA lt6;dsimp only;omega)):=h
def Uy(h:p:=by exact tL ⟨rfl,rfl,ov0,O0,cl,tk4⟩ Tk):=h
def FG(h:p:=by have q1:=wr (v17+1);exact FE):=h
def Ak(h:p:=by exact tL ⟨O0,O1,cl,V,V,cl,cl,cl,tk7⟩ tk99):=h
def FX(h:p:=by have q1:=wr (v15+1);exact tL ⟨rfl,rfl,ov0,O0,ov5,ov13,cl,cl,cl,ct,tk15,dz,cs⟩ lu):=h
def qd(h:p:=by have q1:=wr (v44+1);exact tL ⟨O1,ov7,ov42,cl,cl,cl,cl,cl,cl,cl,bK,V,cl,cl,cl,cl,tk48⟩ tk83):=h
def zu(h:p:=by have q2:=wr (v44+1);exact tL ⟨O1,SzL.tr,ov42,cl,cl,cl,cl,cl,cl,cl,bK,V,cl,cl,cl,cl,tk48⟩ tk83):=h
def Kd(h:p:=by have eh5_1:=h5.2;exact tR ⟨h5.1,tk1⟩):=h
def KX(h:p:=by have q3:=wr (v10+1);exact Ak):=h
def KW(h:p:=by have q4:=wr (v10+1);exact Ak):=h
def uE(h:p:=by exact tL ⟨rfl,ov7,cl,cl,cl,cl,cl,cl,cl,bK,V,cl,tk55,tk34,cl,V⟩ tk81):=h
def IG(h:p:=by have q1:=wr (v44+1);exact uE):=h
def Ki(h:p:=by exact tR ⟨h9.1,⟨ob0.1,ob0.2⟩,tk52,tk53,tk5⟩):=h
def tT(h:p:=by exact tR ⟨(by first|(intro hl;refine⟨λh=>absurd h aS,λh=>?_⟩;exfalso;have:=h _ V;omega)|(intro hl;refine⟨λ_ x hx=>?_,λ_=>rfl⟩;obtain⟨k,hk⟩:=List.mem_iff_getElem?.1 hx;have:=(aJ.1 hk).1;grind)|(intro hl;exfalso;omega)|grind),(by first|(intro h;exact absurd h aS)|(intro _ x hx;obtain⟨k,hk⟩:=List.mem_iff_getElem?.1 hx;have:=(aJ.1 hk).1;grind)),(by first|(intro hr;exact absurd hr aS)|(intro _;exact Zga V V O))⟩):=h
def ig(h:p:=by exact tR ⟨(by first|(intro hr;exact absurd hr aS)|(intro _;exact⟨by assumption,by assumption,by assumption,by grind⟩)),(by first|(intro hr;exact absurd hr aS)|(intro _;exact⟨by assumption,by assumption⟩)),(by first|(intro hr;exact absurd hr aS)|(intro hr;exact(Uz V hr O O O O O).1)),(by first|(intro hr;exact absurd hr aS)|(intro hr;exact(Uz V hr O O O O O).2)),(by first|(intro hr;exact absurd hr aS)|(intro _;grind))⟩):=h
def KB(h:p:=by exact tL ⟨rfl,rfl,oc0,ov1,O1,O2,O3,ov14,ov55,ov71,cl,cl,cl,V,V,cl,cl,tk43,V,V,cl,cl,cl,tk3⟩ tk97):=h
def IK(h:p:=by have q1:=wr (v82+1);exact tL ⟨rfl,ov7,O1,cl,cl,cl,cl,cl,cl,cl,cl,cl,bK,V,cl,tk55,tk34,cl,cl,V,cl,cl,eN,cl,cl,cl,cl,cl,cl,bK⟩ tk81):=h
def hH(h:p:=by exact tR tk0):=h
def Kz(h:p:=by exact tL ⟨rfl,rfl,oc0,ov1,O1,O2,O3,ov55,cl,V,V,cl,cl,tk43,tk57,tk17,cl,tk10⟩ tk97):=h
def KS(h:p:=by exact tB (uX) λx6 h9=>tR tk0):=h
def KP(h:p:=by exact tB (uX) λx2 h3=>tR tk0):=h
def KV(h:p:=by exact tB (uX) λx1 h3=>tR tk0):=h
def KQ(h:p:=by exact tB (uX) λx3 h5=>tR tk0):=h
def tk0(h:p:=by first|assumption|rfl|(exfalso;first|omega|exact lo_w V V|exact Zgb V V V V|exact Zgc V V V V V|exact Zgd V V V V V|exact Zge V V V V V V|exact Zgf V V V V V|exact Zgg V V V O V|exact Zgh V V V V V V V O O)):=h
def tk1(h:p:=by first|exact Jk V O|exact pu_full' O|exact pu_a V V V O V|exact pu_c V V V O V|exact pu_b V V V O|exact pu_d V V V O):=h
def tk2(h:p:=by first|exact WL V|exact D1 V V V O O O rfl|exact D1 V V V O O O tG|exact WK V V O O O):=h
def tk3(h:p:=by first|exact t2_0 V V rfl V V V V|exact Zgi V V V V V V V O|exact Zgj V V O):=h
def tk4(h:p:=by first|exact Zgk|exact UA (v:=v5) V V O O (Zgl (v:=v5) V O V) O|exact UA (v:=v5) V V O O (λy hv _=>absurd hv O) O):=h
def tk5(h:p:=by(try dsimp only);first|with_reducible assumption|with_reducible exact UB V V|with_reducible exact UC V V V|exact UB V V|exact UC V V V):=h
def tk6(h:p:=by first|assumption|exact UD|exact Zgm V V O O V|exact UE V V O O O|(rw[show IntKind.wrap .i64 (v18+1)=v18+1 by omega];assumption)):=h
def tk7(h:p:=by first|exact se_0|exact Zgn V V V V V V V V O O|exact Zgo V V V V O):=h
def tk8(h:p:=by first|exact ZcW V V O|exact ZcQ (v:=v0) (i:=v5) (j:=v6) V dq V dq O O|exact ZcR (j:=v6) V V dq O):=h
def tk9(h:p:=by first|rfl|(rw[<- ‹v19=dp a0.Players›]at *;first|exact ZcN V V V V dq O|exact ZcO V V V dq O)):=h
def tk10(h:p:=by first|exact t1_0 V|exact Zgp V V rfl V V V V V O|exact Zgq V O V O):=h
def tk11(h:p:=by first|rfl|exact ZfG V V V V wv O|exact ZfH V V V wv O):=h
def tk12(h:p:=by first|exact WQ dq|exact D5 V V V O O rfl|exact D5 V V V O O tG):=h
def tk13(h:p:=by first|with_reducible exact pr_0 V V|with_reducible exact Zgr V (by rw[<- (by assumption:v32=a0.Abilities)];assumption) O O V V):=h
def tk14(h:p:=by first|(intro hk;exfalso;omega)|(intro hk hr;exact absurd hr aS)|(intro hk;exact(k4 V V hk).elim)|(intro hk hr;exact Zgs V V hr O)):=h
def tk15(h:p:=by first|exact WM|exact WN V V O O O|exact WO V V V O O O O):=h
def tk16(h:p:=by first|exact Zgt O|exact Zgu V V O O O|exact Zgv V V O O O|assumption):=h
def tk17(h:p:=by first|assumption|exact Zgw V V V V V|exact Zgx V V V V):=h
def tk18(h:p:=by rw[<- (by assumption:v5=if E0.Copy<0 then E0.Card else E0.Copy)];first|exact(CL O).symm|(rw[UF V O];assumption)):=h
def tk19(h:p:=by first|(intro k c hk;omega)|(intro k c hk hc;rcases vg (v:=v4) V O hk hc V with h|h;(exact i0 k c h hc);(rw[h];assumption))):=h
def tk20(h:p:=by first|(intro hk;exfalso;omega)|(intro hk;exact(k4 V V hk).elim)|(intro hk;exact Zgy V V O)):=h
def tk21(h:p:=by first|exact ZcV V V|exact ZcS (v:=v0) (i:=v5) (j:=v6) V V V O O):=h
def tk22(h:p:=by first|with_reducible exact Zgz V V V V V V V|(subst_vars;rfl)):=h
def tk23(h:p:=by first|with_reducible exact st_3 V V V V V V V|(subst_vars;rfl)):=h
def tk24(h:p:=by first|(refine⟨λ_=>by omega,λ_=>rfl⟩)|(have w := ‹_∈A3.list _›;simp only[A3.list,cn,oZ,or_false]at w;grind)|grind):=h
def tk25(h:p:=by first|exact mt_0|exact ZgA V V V V V V V O):=h
def tk26(h:p:=by first|assumption|exact CM|exact UG V V O O|exact ZgB V V):=h
def tk27(h:p:=by first|exact Tz V V V wv|exact Cp V O):=h
def tk28(h:p:=by first|(intro k y hk;omega)|assumption|exact vh V V V ⟨by omega,by omega⟩ O):=h
def tk29(h:p:=by first|exact di_0|exact ZgC V V V V V O O):=h
def tk30(h:p:=by first|rfl|exact Wg V V V V V V O):=h
def tk31(h:p:=by first|exact ZgD V O V O V|exact ZgE V O):=h
def tk32(h:p:=by first|exact ZfA|exact ZfB V V V wv O):=h
def tk33(h:p:=by first|exact UH|assumption|exact sub_app' (d:=v16) V V V V):=h
def tk34(h:p:=by first|assumption|exact ZgF V O|exact ZgG V V V):=h
def tk35(h:p:=by first|with_reducible exact ZgH V V V V|(subst_vars;rfl)):=h
def tk36(h:p:=by first|with_reducible exact st_0 V V V V|(subst_vars;rfl)):=h
def tk37(h:p:=by first|with_reducible exact st_2 V V V V|(subst_vars;rfl)):=h
def tk38(h:p:=by first|(intro k y hk;omega)|exact vh V V V dq O):=h
def tk39(h:p:=by first|(intro k x hk;omega)|exact vh V V V dq O):=h
def tk40(h:p:=by first|exact ZgI V V|exact ZgJ V V V):=h
def bK(h:p:=by first|assumption|exact Iy|exact Iz (by assumption:(_:Int)=_/\∀y:List Int,y∈_->y=[]).2):=h
def tk42(h:p:=by first|assumption|exact UD|exact UE V V O O O):=h
def tk43(h:p:=by first|assumption|exact ZgK V V|exact sb_0 V V):=h
def tk44(h:p:=by first|(intro hr;exact absurd hr aS)|(intro hr;exact⟨by omega,by omega,by omega,by omega⟩)):=h
def tk45(h:p:=by first|assumption|(intro hb hk;first|(exfalso;omega)|(rw[hk]at hb;exact absurd hb aS))):=h
def tk46(h:p:=by first|rfl|exact ZfP V V V V rfl O):=h
def tk47(h:p:=by first|(rw[<- ZfL V];assumption)|(rw[<- ZfM V];unfold lgO;grind)):=h
def tk48(h:p:=by first|assumption|exact CM|exact UG V V O O):=h
def bk(h:p:=by unfold SzN;first|omega|(simp only[bF,bT,cg];omega)):=h
def tk50(h:p:=by unfold SzT;first|omega|(simp only[bF,bT,cg];omega)):=h
def tk51(h:p:=by unfold Gr lt6;dsimp only;omega):=h
def tk52(h:p:=by first|assumption|exact(ak_1 V V V V).1):=h
def tk53(h:p:=by first|assumption|exact(ak_1 V V V V).2):=h
def tk54(h:p:=by first|exact UH|assumption|exact ZgL V V V):=h
def tk55(h:p:=by first|assumption|exact ZgM|exact ZgN V V V):=h
def tk56(h:p:=by intro m hm;simp only[cn,oZ,or_false]at hm;subst hm;exact Zfd _):=h
def tk57(h:p:=by first|assumption|(rw[show(E1.Waiting.length:Int)=v24 from by omega];assumption)):=h
def tk58(h:p:=by unfold Jy lt6;dsimp only;omega):=h
def tk59(h:p:=by unfold JQ lt6;dsimp only;omega):=h
def tk60(h:p:=by first|assumption|exact ZfO V|(rw[<- ZfN V];grind)):=h
def cm(h:p:=by first|(simp only[bF,bT,cg];omega)|omega):=h
def tk62(h:p:=by first|(intro hr;exact absurd hr aS)|(intro hr;exact⟨by omega,by grind⟩)):=h
def tk63(h:p:=by unfold Gd lt6;dsimp only;omega):=h
def tk64(h:p:=by first|assumption|exact CM|exact(UI V V).2):=h
def tk65(h:p:=by unfold IP lt6;dsimp only;omega):=h
def tk66(h:p:=by first|(intro hr;exact absurd hr aS)|(intro _;assumption)|assumption):=h
def tk67(h:p:=by first|(intro hr;cases hr;done)|(intro _;dsimp only;omega)|(intro _;omega)):=h
def tk68(h:p:=by first|assumption|(intro hk;first|rfl|assumption|(exfalso;omega))|grind):=h
def tk69(h:p:=by unfold He lt6;dsimp only;omega):=h
def tk70(h:p:=by unfold J5 lt6;dsimp only;omega):=h
def tk71(h:p:=by first|assumption|exact ZgO V V|(left;omega)):=h
def tk72(h:p:=by first|rfl|assumption|(simpa using(by assumption:_=[]++a0))|grind):=h
def tk73(h:p:=by first|omega|exact(UI V V).1|(simp;done)):=h
def tk74(h:p:=by first|exact fs_0|exact ZgP V V O):=h
def tk75(h:p:=by first|omega|(have:=(by assumption:ML _ _ _) _ V;omega)):=h
def tk76(h:p:=by unfold HH lt6;dsimp only;omega):=h
def tk77(h:p:=by unfold J1 lt6;dsimp only;omega):=h
def tk78(h:p:=by first|exact ZfE O|exact ZfF V O):=h
def tk79(h:p:=by first|(intro hr;exact absurd hr Bool.false_ne_true)|(intro _;omega)):=h
def tk80(h:p:=by first|grind|(obtain⟨_,_,⟨_,_,_,_,_,_,_⟩,_,_⟩:=b0;grind)):=h
def tk81(h:p:=by unfold IB lt6;dsimp only;omega):=h
def tk82(h:p:=by unfold GL lt6;dsimp only;omega):=h
def tk83(h:p:=by unfold Ia lt6;dsimp only;omega):=h
def tk84(h:p:=by first|omega|exact shl_ne' O O|decide):=h
def tk85(h:p:=by first|assumption|exact ZgQ V O):=h
def tk86(h:p:=by unfold H1 lt6;dsimp only;omega):=h
def tk87(h:p:=by unfold Ig lt6;dsimp only;omega):=h
def tk88(h:p:=by unfold HX lt6;dsimp only;omega):=h
def tk89(h:p:=by unfold It lt6;dsimp only;omega):=h
def tk90(h:p:=by unfold JD lt6;dsimp only;omega):=h
def tk91(h:p:=by unfold GE lt6;dsimp only;omega):=h
def tk92(h:p:=by unfold EF lt6;dsimp only;omega):=h
def tk93(h:p:=by unfold GG lt6;dsimp only;omega):=h
def tk94(h:p:=by unfold GS lt6;dsimp only;omega):=h
def tk95(h:p:=by first|omega|(rw[(by assumption:v13=_)];omega)):=h
def tk96(h:p:=by have e:(A6.list E0).length=6:=rfl;omega):=h
def tk97(h:p:=by unfold Ks lt6;dsimp only;omega):=h
def tk98(h:p:=by first|(intro _;rfl)|(intro hk;exfalso;grind)):=h
def tk99(h:p:=by unfold Z0t lt6;dsimp only;omega):=h
def zj(h:p:=by unfold Z32 lt6;dsimp only;omega):=h
def j9(h:p:=by first|assumption|(subst_vars;rfl)|grind):=h
def yk(h:p:=by unfold Ex lt6;dsimp only;omega):=h
def tM(h:p:=by unfold tH lt6;dsimp only;omega):=h
def lu(h:p:=by unfold FU lt6;dsimp only;omega):=h
def kp(h:p:=by unfold Hr lt6;dsimp only;omega):=h
def zm(h:p:=by unfold HO lt6;dsimp only;omega):=h
def CH(h:p:=by unfold UJ lt6;dsimp only;omega):=h
def uy(h:p:=by unfold G0 lt6;dsimp only;omega):=h
def ka(h:p:=by unfold El lt6;dsimp only;omega):=h
def sB(h:p:=by unfold kO lt6;dsimp only;omega):=h
def cP(h:p:=by first|rfl|assumption|grind):=h
def yF(h:p:=by first|rfl|(subst_vars;rfl)):=h
def ct(h:p:=by first|assumption|grind):=h
def dz(h:p:=by first|rfl|assumption):=h
def eN(h:p:=by first|omega|grind):=h
def dX(h:p:=by first|assumption):=h
abbrev kj(x:cf):Prop:=(SzL 16 SzT) x.Subs
def ZgR{x:cf}(h:zS x):kj x:=(dF h.2.2 (λ_ h=>Zfe h))
abbrev cG(x:aj):Prop:=SzS x.Sub
def kP{x:aj}(h:jc x):cG x:=(wg h.2.2.2.2.2.2.2.1)
abbrev Z5(x:ai):Prop:=SzS x.Sub/\cG x.Filter
def Z4w{x:ai}(h:qo x):Z5 x:=⟨wg h.2.2.2.1,kP h.2.2.2.2⟩
abbrev wW(x:eW):Prop:=cG x.Filter
def ZgS{x:eW}(h:Z1n x):wW x:=(kP h.2.2)
abbrev fP(x:bo):Prop:=cG x.Filter
def ZgT{x:bo}(h:zT x):fP x:=(kP h.2.2)
abbrev sD(x:fa):Prop:=cG x.Filter
def ZgU{x:fa}(h:zU x):sD x:=(kP h.2.2)
abbrev Z4x(x:dO):Prop:=cG x.Filter
def ZgV{x:dO}(h:Z4p x):Z4x x:=(kP h.2.2.2)
abbrev cY(x:bh):Prop:=sD x.Ref/\Z4x x.Amount/\SzS x.Card/\cG x.Filter/\(SzL 176 Z5) x.Mods
def ZgW{x:bh}(h:Z4q x):cY x:=⟨ZgU h.2.1,ZgV h.2.2.1,wg h.2.2.2.2.2.1,kP h.2.2.2.2.2.2.1,dF h.2.2.2.2.2.2.2.2 (λ_ h=>(Z4w h))⟩
abbrev jW(x:dn):Prop:=cG x.Filter
def ZgX{x:dn}(h:Z1o x):jW x:=(kP h.2.2.1)
abbrev cV(x:an):Prop:=cG x.Filter/\(SzL 176 Z5) x.Mods/\wW x.Trigger/\(SzL 144 fP) x.Specs/\(SzL 560 cY) x.Effects/\jW x.Replace
def CN{x:an}(h:qp x):cV x:=⟨kP h.2.1,dF h.2.2.1 (λ_ h=>(Z4w h)),ZgS h.2.2.2.2.2.1,dF h.2.2.2.2.2.2.2.1 (λ_ h=>(ZgT h)),dF h.2.2.2.2.2.2.2.2.1 (λ_ h=>(ZgW h)),ZgX h.2.2.2.2.2.2.2.2.2⟩
abbrev ca(x:aw):Prop:=SzS x.Name/\kj x.Line/\(SzL 640 cV) x.Abilities
def Jq{x:aw}(h:Jt x):ca x:=⟨wg h.1,ZgR h.2.2.2.2.1,dF h.2.2.2.2.2.2.2.2 (λ_ h=>(CN h))⟩
abbrev fK(x:bC):Prop:=(SzL 8 (λ_=>True)) x.Library/\(SzL 8 (λ_=>True)) x.Hand/\(SzL 8 (λ_=>True)) x.Graveyard
def ZgY{x:bC}(h:Z4r x):fK x:=⟨dF h.2.2.2.2.2.2.1 (λ_ _=>trivial),dF h.2.2.2.2.2.2.2.1 (λ_ _=>trivial),dF h.2.2.2.2.2.2.2.2 (λ_ _=>trivial)⟩
abbrev eX(x:Z1):Prop:=cV x.Ability/\(SzL 16 (λ_=>True)) x.Targets
def ZgZ{x:Z1}(h:zV x):eX x:=⟨CN h.2.2.2.2.2.2.1,dF h.2.2.2.2.2.2.2.1 (λ_ _=>trivial)⟩
abbrev iv(x:Z2):Prop:=cV x.Ability
def Zg0{x:Z2}(h:Z1p x):iv x:=(CN h.2.2.1)
abbrev iu(x:ck):Prop:=(SzL 8 (λ_=>True)) x.Objects/\(SzL 176 Z5) x.Mods
def Zg1{x:ck}(h:zW x):iu x:=⟨dF h.2.2.2.2.1 (λ_ _=>trivial),dF h.2.2.2.2.2 (λ_ h=>(Z4w h))⟩
abbrev aR(x:ab):Prop:=(SzL 152 fK) x.Players/\(SzL 128 (λ_=>True)) x.Objects/\(SzL 8 (λ_=>True)) x.Battlefield/\(SzL 8 (λ_=>True)) x.Exile/\(SzL 824 eX) x.Stack/\(SzL 768 iv) x.Waiting/\(SzL 80 iu) x.Conts/\(SzL 8 (λ_=>True)) x.Extra
def Jr{x:ab}(h:Jw x):aR x:=⟨dF h.1 (λ_ h=>(ZgY h)),dF h.2.1 (λ_ _=>trivial),dF h.2.2.1 (λ_ _=>trivial),dF h.2.2.2.1 (λ_ _=>trivial),dF h.2.2.2.2.1 (λ_ h=>(ZgZ h)),dF h.2.2.2.2.2.1 (λ_ h=>(Zg0 h)),dF h.2.2.2.2.2.2.1 (λ_ h=>(Zg1 h)),dF h.2.2.2.2.2.2.2.2.2.2.2.2.2.2.2.2.1 (λ_ _=>trivial)⟩
abbrev fp(x:Z3):Prop:=(SzL 24 (λ_=>True)) x.Options
abbrev fv(x:bm):Prop:=(SzL 24 (SzL 8 (λ_=>True))) x.answers/\fp x.pending
abbrev gY(x:bV):Prop:=(SzL 16 (λ_=>True)) x.Targets
abbrev Z0(x:ah):Prop:=SzS x.Name/\kj x.Line/\(SzL 640 cV) x.Abilities
abbrev fq(x:cU):Prop:=(SzL 8 (λ_=>True)) x.Objects/\cG x.Filter/\(SzL 176 Z5) x.Mods
abbrev cu(x:aB):Prop:=aR x.s/\(SzL 224 fq) x.forces/\(SzL 176 Z0) x.traits/\(SzL 1 (λ_=>True)) x.dropped/\(SzL 1 (λ_=>True)) x.done/\(SzL 24 (SzL 8 (λ_=>True))) x.hits
abbrev Z4y(x:dA):Prop:=(SzL 8 (λ_=>True)) x.hits/\(SzL 8 (λ_=>True)) x.numbers
def UK{a0:Int}:Tot (sV a0) (λr=>True):=by apply tZ;dsimp only[xy,LT.den];exact uA
def CO:jv->Prop
 |.L0 v0 v3=>(SzT v0)/\(0<=v3)
 |.L1 v0 v3=>(SzT v0)/\(0<=v3)/\(v3<(v0.length:Int))/\(0<=v3)/\(v3<v0.length)
def Z3t:jv->M6
 |.L0 v0 v3=>(1,((v0.length:Int)-v3).toNat,1000000,0,0,0)
 |.L1 v0 v3=>(1,((v0.length:Int)-v3).toNat,0,0,0,0)
def TG{v0:List UInt8}{v3:Int}(h:CO (.L1 v0 v3)):Tot (ju v0 v3).den (Nx CO Z3t (1,((v0.length:Int)-v3).toNat,0,0,0,0) (λr=>True)):=by
 obtain⟨ov0,cv3,bd2,i0,i1⟩:=h;have lb_v0:v0.length<=562949953421312:=ov0;dsimp only[ju,LT.den];apply tD<;>intro h1
 .refine Tot.ix λx1 h2=>?_;apply tE<;>intro h3
  .have q1:=wr (v3-1);refine Tot.ix λx2 h4=>?_;apply tE<;>intro h5
   .exact tR aa
   have q2:=wr (v3+1);exact TQ
  exact Ug
 exact Ug
def CP{a0:List UInt8}(oa0:SzT a0):Tot (sX a0) (λr=>True):=by
 apply Tot.rn CO Z3t
 .have lb_a0:a0.length<=562949953421312:=oa0;dsimp only[xz,LT.den];have q1:a0.length<=562949953421312:=oa0;apply tD<;>intro h1
  .exact tR aa
  apply tD<;>intro h2
  .exact tR aa
  refine Tot.ix λx1 h3=>tB (UK) λx2 h4=>?_;apply tO<;>intro h5
  .exact tR aa
  have q2:=wr ((a0.length:Int)-1);refine Tot.ix λx3 h6=>?_;apply tE<;>intro h7
  .exact tR aa
  exact tL ⟨oa0,cl⟩ Tj
 intro s hs;cases s with
 |L0 v0 v3=>
  obtain⟨ov0,cv3⟩:=hs;have lb_v0:v0.length<=562949953421312:=ov0;dsimp only[Z04,mU,LT.den,Z3t];have q1:v0.length<=562949953421312:=ov0;apply tD<;>intro h1
  .refine Tot.ix λx1 h2=>tB (UK) λx2 h3=>?_;apply tO<;>intro h4
   .refine Tot.ix λx3 h5=>?_;apply tD<;>intro h6
    .refine Tot.ix λx4 h7=>?_;apply tN<;>intro h8
     .exact tR aa
     exact wJ
    refine Tot.ix λx4 h7=>?_;apply tD<;>intro h8
    .refine Tot.ix λx5 h9=>?_;apply tN<;>intro h10
     .exact tR aa
     exact wJ
    exact wJ
   exact wJ
  exact tR aa
 |L1 _ _=>exact TG hs
def Z4z(n m:Int):Bool:=decide (n>=0)&&decide (n<=m)
def sE(c:Z4):Bool:=Z4z c.Generic 99&&(Z4z c.X 2&&c.Color.list.all λn=>Z4z n 9)
def Zg2(c:Z4):nV c=some (sE c):=by
 unfold nV LF.run;dsimp only[Bb,LT.den];have hl:cd jm.step (.L0 c 0)=some (c.Color.list.all λn=>Z4z n 9):=by
  have:=Z66 (st:=λi=>jR.L0 c (i:Int)) (step:=jm.step) (bad:=false) c.Color.list (λn=>Z4z n 9) (λi x hx=>by
   have hi:=(aJ.1 hx).1;have hi:i<5:=hi;show(nU _ _).den=_;dsimp only[nU,LT.den];rw[bB O,gp hx,eu O O];simp only[av,bp];unfold Z4z;by_cases h1:x<0
   .rw [bB h1,bO (show ¬x>=0 by omega)];rfl
   rw[bO h1,bB (show x>=0 by omega)];by_cases h2:x>9
   .rw [bB h2,bO (show ¬x<=9 by omega)];rfl
   rw[bO h2,bB (show x<=9 by omega)];rfl)
  rw[show(jR.L0 c 0) = .L0 c ((0:Nat):Int)from rfl,this];have he:cd jm.step (.L0 c ((c.Color.list.length:Nat):Int))=some true:=Sl
  rw[he];cases c.Color.list.all λn=>Z4z n 9<;>rfl
 refine(cN λ_=>cN λ_=>cN λ_=>cN λ_=>(show Option.bind (some (Sum.inl (jR.L0 c 0))) (dD jm.step)=some (c.Color.list.all λn=>Z4z n 9)from hl)).trans ?_;congr 1;unfold sE Z4z;rw[kX];simp only[aL,dv,oL,eI,k9,oM,mT];constructor
 .rintro ⟨h1,h2,h3,h4,h5⟩;exact⟨⟨h1,h2⟩,⟨h3,h4⟩,h5⟩
 rintro⟨⟨h1,h2⟩,⟨h3,h4⟩,h5⟩;exact⟨h1,h2,h3,h4,h5⟩
def CQ(a0:Z4):Tot (nV a0) (λr=>(r=true->a0.X<=2)/\(r=true->∀n,n∈A5.list a0.Color->n<=9)/\(r=Z8o a0)):=by
 refine⟨_,Zg2 a0,λh=>?_,λh n hn=>?_,?_⟩
 .simp only[sE,Z4z,aL,eI]at h;exact h.2.1.2
 .simp only[sE,Z4z,aL,eI,bU]at h;exact(h.2.2 n hn).2
 unfold sE Z4z Z8o;rw[kX];simp only[aL,eI,bU,k9];exact⟨λ⟨⟨h1,h2⟩,⟨h3,h4⟩,h5⟩=>⟨h1,h2,h3,h4,h5⟩,λ⟨h1,h2,h3,h4,h5⟩=>⟨⟨h1,h2⟩,⟨h3,h4⟩,h5⟩⟩
def Zg3:Tot (s6) (λr=>((SzL 16 SzN) r)/\(r.length=2)):=by apply tZ;dsimp only[Z68,LT.den];have q1:(SzL 16 SzN) ([([98,97,115,105,99]:List UInt8),([117,110,105,113,117,101]:List UInt8)]:List (List UInt8)):=⟨by simp only[bT,cg];omega,mem_cons' bk (mem_cons' bk (λ_ h=>by cases h))⟩;have lq1:([([98,97,115,105,99]:List UInt8),([117,110,105,113,117,101]:List UInt8)]:List (List UInt8)).length=2:=rfl;exact tR ⟨q1,cl⟩
def Zg4:ru->Prop
 |.L0 v0 v1 v5=>((SzL 16 SzT) v0)/\(SzT v1)/\(0<=v5)
def Z8r:ru->M6
 |.L0 v0 v1 v5=>(1,((v0.length:Int)-v5).toNat,1000000,0,0,0)
def UL{a0:List (List UInt8)}{a1:List UInt8}(oa0:(SzL 16 SzT) a0)(oa1:SzT a1):Tot (Z90 a0 a1) (λr=>True):=by
 apply Tot.rn Zg4 Z8r
 .have lb_a0:=oa0.1;have lb_a1:a1.length<=562949953421312:=oa1;dsimp only[xF,LT.den];exact tL ⟨oa0,oa1,cl⟩ Td
 rintro⟨v0,v1,v5⟩ ⟨ov0,ov1,cv5⟩;have lb_v0:=ov0.1;have lb_v1:v1.length<=562949953421312:=ov1;dsimp only[Z2a,mV,LT.den];have q1:=ov0.1;apply tD<;>intro h1
 .refine Tot.ix λx1 h2=>?_;have oh2:SzT x1:=ov0.2 x1 h2.1;apply tF<;>intro h3
  .exact tR aa
  have q2:=wr (v5+1);exact tL ⟨ov0,ov1,cl⟩ Td
 exact tR aa
def Z57:Tot (s7) (λr=>((SzL 16 SzN) r)/\(r.length=6)):=by apply tZ;dsimp only[Z91,LT.den];have q1:(SzL 16 SzN) ([([99,114,101,97,116,117,114,101]:List UInt8),([105,110,115,116,97,110,116]:List UInt8),([114,105,116,117,97,108]:List UInt8),([114,101,108,105,99]:List UInt8),([99,104,97,114,109]:List UInt8),([108,97,110,100]:List UInt8)]:List (List UInt8)):=⟨by simp only[bT,cg];omega,mem_cons' bk (mem_cons' bk (mem_cons' bk (mem_cons' bk (mem_cons' bk (mem_cons' bk (λ_ h=>by cases h))))))⟩;have lq1:([([99,114,101,97,116,117,114,101]:List UInt8),([105,110,115,116,97,110,116]:List UInt8),([114,105,116,117,97,108]:List UInt8),([114,101,108,105,99]:List UInt8),([99,104,97,114,109]:List UInt8),([108,97,110,100]:List UInt8)]:List (List UInt8)).length=6:=rfl;exact tR ⟨q1,cl⟩
def Z40{a0:List UInt8}(oa0:SzT a0):Tot (Z93 a0) (λr=>True):=by
 apply tZ;have lb_a0:a0.length<=562949953421312:=oa0;dsimp only[xG,LT.den];refine tB (CP oa0) λx1 h1=>?_;apply tF<;>intro h2
 .refine tB (Zg3) λx2 h3=>?_;have eh3_1:=h3.2;refine tB (UL (SzL.nt h3.1) oa0) λx3 h4=>?_;apply tD<;>intro h5
  .refine tB (Z57) λx4 h6=>?_;have eh6_1:=h6.2;exact tB (UL (SzL.nt h6.1) oa0) λx5 h7=>tR trivial
  exact tR aa
 exact tR aa
def Zg5:Z2t->Prop
 |.L0 v0 v1 v5=>(0<=v5)/\(v1<=100)
def TV:Z2t->M6
 |.L0 v0 v1 v5=>(1,(v1-v5).toNat,1000000,0,0,0)
def CR{a0:Int}{a1:Int}(h0:a1<=100):Tot (Nf a0 a1) (λr=>True):=by
 apply Tot.rn Zg5 TV
 .dsimp only[Nd,LT.den];exact TU
 rintro⟨v0,v1,v5⟩ ⟨cv5,i0⟩;dsimp only[Bc,Nc,LT.den];apply tD<;>intro h1
 .have q1:=wr (v5+1);exact TU
 exact tR aa
def Zg6:Z7d->Prop
 |.L0 E0 v3=>(kj E0)/\(0<=v3)
def SI:Z7d->M6
 |.L0 E0 v3=>(1,((E0.Subs.length:Int)-v3).toNat,1000000,0,0,0)
def Zg7{a0:cf}(oa0:kj a0):Tot (Ni a0) (λr=>True):=by
 apply Tot.rn Zg6 SI
 .dsimp only[Nh,LT.den];apply tD<;>intro h1
  .exact tR aa
  apply tD<;>intro h2
  .exact tR aa
  apply tD<;>intro h3
  .exact tR aa
  apply tD<;>intro h4
  .exact tR aa
  have q1:=oa0.1;apply tD<;>intro h5
  .exact tR aa
  exact tL ⟨oa0,cl⟩ SH
 rintro⟨E0,v3⟩ ⟨O0,cv3⟩;dsimp only[Be,Ng,LT.den];have q1:=O0.1;apply tD<;>intro h1
 .refine Tot.ix λx1 h2=>?_;have oh2:SzT x1:=O0.2 x1 h2.1;refine tB (Z40 oh2) λx2 h3=>?_;apply tO<;>intro h4
  .exact tR aa
  apply tD<;>intro h5
  .have q2:=wr (v3-1);refine Tot.ix λx3 h6=>?_;have oh6:SzT x3:=O0.2 x3 h6.1;apply tO<;>intro h7
   .exact tR aa
   have q3:=wr (v3+1);exact Ub
  have q2:=wr (v3+1);exact Ub
 apply tE<;>intro h2
 .exact tR aa
 apply tE<;>intro h3
 .exact tR aa
 refine tB (CR cl) λx1 h4=>?_;apply tO<;>intro h5
 .exact tB (CR cl) λx2 h6=>tR trivial
 exact tR aa
def UM{a0:Int}:Tot (Nl a0) (λr=>True):=by apply tZ;dsimp only[Nj,LT.den];exact uA
def Zg8{a0:aw}(oa0:ca a0):Tot (Np a0) (λr=>True):=by apply tZ;dsimp only[Nn,LT.den];exact tR aa
def Zg9:rv->Prop
 |.L0 v0 v1 v7=>(0<=v7)/\True
def T8:rv->M6
 |.L0 v0 v1 v7=>(1,(6-v7).toNat,1000000,0,0,0)
def UN{a0:Int}{a1:Int}{a2:Int}:Tot (Z94 a0 a1 a2) (λr=>True):=by
 apply Tot.rn Zg9 T8
 .dsimp only[xN,LT.den];apply tD<;>intro h1
  .exact tR aa
  apply tD<;>intro h2
  .exact tR aa
  apply tD<;>intro h3
  .exact tR aa
  apply tD<;>intro h4
  .exact tR aa
  exact T7
 rintro⟨v0,v1,v7⟩ ⟨cv7,_⟩;dsimp only[mX,mY,LT.den];apply tD<;>intro h1
 .apply tE<;>intro h2
  .apply tE<;>intro h3
   .exact tR aa
   exact Uk
  exact Uk
 exact tR aa
def Z41{a0:ae}:Tot (Z95 a0) (λr=>(r=true->0<=a0.Kind/\a0.Kind<=3)):=by
 apply tZ;dsimp only[xM,LT.den];apply tD<;>intro h1
 .exact bX
 apply tD<;>intro h2
 .exact bX
 apply tD<;>intro h3
 .exact bX
 apply tD<;>intro h4
 .exact bX
 apply tN<;>intro h5
 .exact wP
 exact wP
abbrev UO(a0:aj)(r:Bool):Prop:=(r=true->0<=a0.Zone/\a0.Zone<=5/\0<=a0.Who/\a0.Who<=2/\0<=a0.Self/\a0.Self<=2/\0<=a0.Tap/\a0.Tap<=2/\0<=a0.Power.Kind/\a0.Power.Kind<=3/\0<=a0.Tough.Kind/\a0.Tough.Kind<=3/\0<=a0.Value.Kind/\a0.Value.Kind<=3)
def CS(a0:aj):Z7f->Prop
 |.L0 E0=>(E0=a0)/\(cG E0)/\(0<=E0.Zone/\E0.Zone<=5/\0<=E0.Who/\E0.Who<=2/\0<=E0.Self/\E0.Self<=2/\0<=E0.Tap/\E0.Tap<=2)
def UP:Z7f->M6
 |.L0 E0=>(0,0,0,0,0,0)
def Z42{a0:aj}{E0:aj}(h:(CS a0) (.L0 E0)):Tot (ld E0).den (Nx (CS a0) UP (0,0,0,0,0,0) (UO a0)):=by
 obtain⟨al0,O0,i0⟩:=h;subst al0;dsimp only[ld,LT.den];refine tB (Z41) λx1 h1=>?_;have eh1_0:=h1;apply tF<;>intro h2
 .have h2_0:=eh1_0 h2;refine tB (Z41) λx2 h3=>?_;have eh3_0:=h3;apply tF<;>intro h4
  .have h4_0:=eh3_0 h4;refine tB (Z41) λx3 h5=>?_;have eh5_0:=h5;exact tR (by intro hr;have:=eh5_0 hr;first|omega|(cases hr;done))
  exact bX
 exact bX
def Zha{a0:aj}(oa0:cG a0):Tot (oN a0) (UO a0):=by
 apply Tot.rn (CS a0) UP
 .dsimp only[xP,LT.den];apply tD<;>intro h1
  .exact bX
  apply tD<;>intro h2
  .exact bX
  apply tD<;>intro h3
  .exact bX
  apply tD<;>intro h4
  .exact bX
  apply tD<;>intro h5
  .exact bX
  apply tD<;>intro h6
  .exact bX
  apply tD<;>intro h7
  .exact bX
  apply tD<;>intro h8
  .exact bX
  refine tB (UN) λx1 h9=>?_;apply tO<;>intro h10
  .exact bX
  refine tB (UN) λx2 h11=>?_;apply tO<;>intro h12
  .exact bX
  apply tO<;>intro h13
  .refine tB (Z40 (SzS.t oa0)) λx3 h14=>?_;apply tO<;>intro h15
   .exact bX
   apply tD<;>intro h16
   .exact bX
   apply tD<;>intro h17
   .exact bX
   exact tJ (Z42 ⟨rfl,oa0,cl⟩)
  apply tD<;>intro h14
  .exact bX
  apply tD<;>intro h15
  .exact bX
  exact tJ (Z42 ⟨rfl,oa0,cl⟩)
 intro s hs;cases s with
 |L0 _=>exact Z42 hs
def jV{a0:aj}(oa0:cG a0):Tot (oN a0) (λr=>(r=true->0<=a0.Zone/\a0.Zone<=5/\0<=a0.Who/\a0.Who<=2/\0<=a0.Self/\a0.Self<=2/\0<=a0.Tap/\a0.Tap<=2/\0<=a0.Power.Kind/\a0.Power.Kind<=3/\0<=a0.Tough.Kind/\a0.Tough.Kind<=3/\0<=a0.Value.Kind/\a0.Value.Kind<=3)/\(r=filV a0)):=(Tot.we (Zha oa0)).mono λr h=>⟨h.1,c9 (h.2.symm.trans (WJ a0))⟩
def sF:nW->Prop
 |.L0 E0 E1 v7 v8=>(Z5 E0)/\(Z5 E1)
 |.L1 E0 E1 v7 v16=>(Z5 E0)/\(Z5 E1)
def CT:nW->M6
 |.L0 E0 E1 v7 v8=>(0,0,0,0,0,0)
 |.L1 E0 E1 v7 v16=>(0,0,0,0,0,0)
def TP{E0:ai}{E1:ai}{v7:Int}{v16:Bool}(h:sF (.L1 E0 E1 v7 v16)):Tot (ry E0 E1 v7 v16).den (Nx sF CT (0,0,0,0,0,0) (λr=>(Z5 r))):=by
 obtain⟨O0,O1⟩:=h;dsimp only[ry,LT.den];apply tF<;>intro h1
 .exact tR ⟨SzS.nil,O0.2⟩
 apply tE<;>intro h2
 .exact tR ⟨O0.1,SzS.nil⟩
 apply tE<;>intro h3
 .exact Cx
 apply tE<;>intro h4
 .exact Cx
 exact tR O0
def Ue{E0:ai}{E1:ai}{v7:Int}{v8:Bool}(h:sF (.L0 E0 E1 v7 v8)):Tot (jS E0 E1 v7 v8).den (Nx sF CT (0,0,0,0,0,0) (λr=>(Z5 r))):=by
 obtain⟨O0,O1⟩:=h;dsimp only[jS,LT.den];apply tF<;>intro h1
 .exact Cx
 apply tE<;>intro h2
 .exact TO
 exact TO
def Zhb{a0:ai}(oa0:Z5 a0):Tot (Nu a0) (λr=>(Z5 r)):=by
 apply Tot.rn sF CT
 .dsimp only[Ns,LT.den];apply tE<;>intro h1
  .exact oo
  apply tE<;>intro h2
  .exact oo
  apply tE<;>intro h3
  .exact oo
  apply tE<;>intro h4
  .exact oo
  apply tE<;>intro h5
  .exact oo
  exact oo
 intro s hs;cases s with
 |L0 _ _ _ _=>exact Ue hs
 |L1 _ _ _ _=>exact TP hs
def Zhc{a0:Int}:Tot (Ny a0) (λr=>True):=by
 apply tZ;dsimp only[Nv,LT.den];apply tD<;>intro h1
 .exact CC
 exact tR aa
def Z6q:ma->Prop
 |.L0 E0 v18 v19=>(Z5 E0)/\True
 |.L1 E0 v18 v25=>(Z5 E0)/\True
 |.L2 E0 v18 v51=>(Z5 E0)/\True
def wX:ma->M6
 |.L0 E0 v18 v19=>(0,0,0,0,0,0)
 |.L1 E0 v18 v25=>(0,0,0,0,0,0)
 |.L2 E0 v18 v51=>(0,0,0,0,0,0)
def Z43{E0:ai}{v18:Int}{v51:Bool}(h:(Z5 E0)/\True):Tot (Z2u E0 v18 v51).den (Nx Z6q wX (0,0,0,0,0,0) (λr=>True)):=by
 obtain⟨O0,_⟩:=h;dsimp only[Z2u,LT.den];apply tF<;>intro h1
 .exact CC
 apply tE<;>intro h2
 .refine tB (jV O0.2) λx1 h3=>?_;have eh3_0:=h3.1;have eh3_1:=h3.2;exact tR aa
 apply tE<;>intro h3
 .apply tD<;>intro h4
  .exact Up
  exact tR aa
 apply tE<;>intro h4
 .apply tD<;>intro h5
  .exact Uq
  exact tR aa
 exact tR aa
def Z44{E0:ai}{v18:Int}{v25:Bool}(h:(Z5 E0)/\True):Tot (Z2v E0 v18 v25).den (Nx Z6q wX (0,0,0,0,0,0) (λr=>True)):=by
 obtain⟨O0,_⟩:=h;dsimp only[Z2v,LT.den];apply tF<;>intro h1
 .exact tB (Z40 (SzS.t O0.1)) λx1 h2=>tR trivial
 apply tE<;>intro h2
 .apply tD<;>intro h3
  .exact tR aa
  exact tR aa
 apply tE<;>intro h3
 .exact wQ
 apply tE<;>intro h4
 .exact tJ (Z43 ⟨O0,aa⟩)
 exact tJ (Z43 ⟨O0,aa⟩)
def Z45{E0:ai}{v18:Int}{v19:Bool}(h:(Z5 E0)/\True):Tot (Z2w E0 v18 v19).den (Nx Z6q wX (0,0,0,0,0,0) (λr=>True)):=by
 obtain⟨O0,_⟩:=h;dsimp only[Z2w,LT.den];apply tF<;>intro h1
 .exact tB (Zhc) λx1 h2=>tR trivial
 apply tE<;>intro h2
 .exact tJ (Z44 ⟨O0,aa⟩)
 exact tJ (Z44 ⟨O0,aa⟩)
def UQ{a0:ai}(oa0:Z5 a0):Tot (NB a0) (λr=>True):=by
 apply Tot.rn Z6q wX
 .dsimp only[Nz,LT.den];apply tD<;>intro h1
  .exact tR aa
  apply tD<;>intro h2
  .exact tR aa
  refine tB (Zhb oa0) λx1 h3=>?_;apply tO<;>intro h4
  .exact tR aa
  apply tE<;>intro h5
  .exact tJ (Z45 ⟨oa0,aa⟩)
  exact tJ (Z45 ⟨oa0,aa⟩)
 intro s hs;cases s with
 |L0 _ _ _=>exact Z45 hs
 |L1 _ _ _=>exact Z44 hs
 |L2 _ _ _=>exact Z43 hs
def Zhd:rz->Prop
 |.L0 v0 v1 v2 v7 v8=>((SzL 16 SzN) v0)/\(SzN v2)/\(0<=v8)/\(v7.length<=200*v8.toNat)/\(v0.length<=100)/\(v8<=v0.length)
def Z46:rz->M6
 |.L0 v0 v1 v2 v7 v8=>(1,((v0.length:Int)-v8).toNat,1000000,0,0,0)
def Zhe{a0:List (List UInt8)}{a1:Int}{a2:List UInt8}(oa0:(SzL 16 SzN) a0)(oa2:SzN a2)(h0:a0.length<=100):Tot (NG a0 a1 a2) (λr=>(SzT r)/\(r.length<=20000)):=by
 apply Tot.rn Zhd Z46
 .have lb_a0:=oa0.1;have lb_a2:a2.length<=100:=oa2;dsimp only[NF,LT.den];exact tL ⟨oa0,oa2,cs⟩ Ti
 rintro⟨v0,v1,v2,v7,v8⟩ ⟨ov0,ov2,cv8,i0,i1,i2⟩;have lb_v0:=ov0.1;have lb_v2:v2.length<=100:=ov2;dsimp only[Z7g,ND,LT.den];have q1:=(SzL.nt ov0).1;apply tD<;>intro h1
 .refine tB (CR cl) λx1 h2=>?_;apply tF<;>intro h3
  .apply tO<;>intro h4
   .have q2:v2.length<=100:=ov2;refine tB (tK cm) λx2 h5=>Tot.ix λx3 h6=>?_;have oh6:SzN x3:=ov0.2 x3 h6.1;have q3:x3.length<=100:=oh6;refine tB (tK cm) λx4 h7=>?_;have q4:=wr (v8+1);exact CF
   refine Tot.ix λx2 h5=>?_;have oh5:SzN x2:=ov0.2 x2 h5.1;have q2:x2.length<=100:=oh5;refine tB (tK cm) λx3 h6=>?_;have q3:=wr (v8+1);exact CF
  have q2:=wr (v8+1);exact CF
 exact tR ⟨tk50,cl⟩
def CU{a0:Int}:Tot (NH a0) (λr=>(SzT r)/\(r.length<=20000)):=by
 apply tZ;dsimp only[Z96,LT.den];apply tD<;>intro h1
 .exact tR ⟨SzT.nil,cl⟩
 apply tD<;>intro h2
 .exact tR ⟨SzT.nil,cl⟩
 refine tB (Z57) λx1 h3=>?_;have eh3_1:=h3.2;refine tB (Zhe h3.1 bk cl) λx2 h4=>?_;have eh4_1:=h4.2;exact tR ⟨h4.1,cl⟩
def Zhf{a0:Int}:Tot (NK a0) (λr=>True):=by apply tZ;dsimp only[NI,LT.den];exact uA
def wY{a0:Int}:Tot (NN a0) (λr=>(SzN r)):=by
 apply tZ;dsimp only[NL,LT.den];apply tE<;>intro h1
 .exact dh
 apply tE<;>intro h2
 .exact dh
 apply tE<;>intro h3
 .exact dh
 apply tE<;>intro h4
 .exact dh
 apply tE<;>intro h5
 .exact dh
 exact tR (SzN.nil)
def Zhg:rA->Prop
 |.L0 v0 v3 v4=>(0<=v4)/\(v3.length<=200*v4.toNat)/\(v4<=5)
def TW:rA->M6
 |.L0 v0 v3 v4=>(1,(5-v4).toNat,1000000,0,0,0)
def UR{a0:Int}:Tot (NQ a0) (λr=>(SzT r)):=by
 apply Tot.rn Zhg TW
 .dsimp only[NP,LT.den];refine tB (Zhf) λx1 h1=>?_;apply tO<;>intro h2
  .exact tR (SzT.nil)
  apply tE<;>intro h3
  .exact wV
  exact CD
 rintro⟨v0,v3,v4⟩ ⟨cv4,i0,i1⟩;dsimp only[Bg,NO,LT.den];apply tD<;>intro h1
 .refine tB (tK tk84) λx1 h2=>tB (tK tk84) λx2 h3=>?_;apply tE<;>intro h4
  .apply tO<;>intro h5
   .refine tB (tK cm) λx3 h6=>tB (wY) λx4 h7=>?_;have q1:x4.length<=100:=h7;refine tB (tK cm) λx5 h8=>?_;exact Ui
   refine tB (wY) λx3 h6=>?_;have q1:x3.length<=100:=h6;refine tB (tK cm) λx4 h7=>?_;exact Ui
  have q1:=wr (v4+1);exact CD
 exact wV
def Zhh:Tot (Bh) (λr=>((SzL 16 SzN) r)/\(r.length=17)):=by apply tZ;dsimp only[NS,LT.den];have q1:(SzL 16 SzN) ([([102,108,121,105,110,103]:List UInt8),([114,101,97,99,104]:List UInt8),([104,97,115,116,101]:List UInt8),([118,105,103,105,108,97,110,116]:List UInt8),([116,114,97,109,112,108,101]:List UInt8),([102,105,114,115,116,45,115,116,114,105,107,101]:List UInt8),([100,111,117,98,108,101,45,115,116,114,105,107,101]:List UInt8),([100,101,97,100,108,121]:List UInt8),([108,105,102,101,108,105,110,107]:List UInt8),([109,101,110,97,99,101]:List UInt8),([100,101,102,101,110,100,101,114]:List UInt8),([119,97,114,100,101,100]:List UInt8),([115,116,117,114,100,121]:List UInt8),([101,108,117,115,105,118,101]:List UInt8),([110,111,45,97,116,116,97,99,107]:List UInt8),([110,111,45,98,108,111,99,107]:List UInt8),([109,117,115,116,45,97,116,116,97,99,107]:List UInt8)]:List (List UInt8)):=⟨by simp only[bT,cg];omega,mem_cons' bk (mem_cons' bk (mem_cons' bk (mem_cons' bk (mem_cons' bk (mem_cons' bk (mem_cons' bk (mem_cons' bk (mem_cons' bk (mem_cons' bk (mem_cons' bk (mem_cons' bk (mem_cons' bk (mem_cons' bk (mem_cons' bk (mem_cons' bk (mem_cons' bk (λ_ h=>by cases h)))))))))))))))))⟩;have lq1:([([102,108,121,105,110,103]:List UInt8),([114,101,97,99,104]:List UInt8),([104,97,115,116,101]:List UInt8),([118,105,103,105,108,97,110,116]:List UInt8),([116,114,97,109,112,108,101]:List UInt8),([102,105,114,115,116,45,115,116,114,105,107,101]:List UInt8),([100,111,117,98,108,101,45,115,116,114,105,107,101]:List UInt8),([100,101,97,100,108,121]:List UInt8),([108,105,102,101,108,105,110,107]:List UInt8),([109,101,110,97,99,101]:List UInt8),([100,101,102,101,110,100,101,114]:List UInt8),([119,97,114,100,101,100]:List UInt8),([115,116,117,114,100,121]:List UInt8),([101,108,117,115,105,118,101]:List UInt8),([110,111,45,97,116,116,97,99,107]:List UInt8),([110,111,45,98,108,111,99,107]:List UInt8),([109,117,115,116,45,97,116,116,97,99,107]:List UInt8)]:List (List UInt8)).length=17:=rfl;exact tR ⟨q1,cl⟩
def Z8s{a0:Int}:Tot (NW a0) (λr=>(SzN r)):=by
 apply tZ;dsimp only[NU,LT.den];apply tD<;>intro h1
 .exact tR (SzN.nil)
 apply tD<;>intro h2
 .exact tR (SzN.nil)
 refine tB (Zhh) λx1 h3=>?_;have eh3_1:=h3.2;refine Tot.ix λx2 h4=>?_;have oh4:SzN x2:=h3.1.2 x2 h4.1;exact tR oh4
def Zhi:rB->Prop
 |.L0 v0 v3 v4=>(0<=v4)/\(v3.length<=200*v4.toNat)/\(v4<=17)
def TY:rB->M6
 |.L0 v0 v3 v4=>(1,(17-v4).toNat,1000000,0,0,0)
def US{a0:Int}:Tot (NZ a0) (λr=>(SzT r)):=by
 apply Tot.rn Zhi TY
 .dsimp only[NY,LT.den];refine tB (UM) λx1 h1=>?_;apply tO<;>intro h2
  .exact tR (SzT.nil)
  exact CE
 rintro⟨v0,v3,v4⟩ ⟨cv4,i0,i1⟩;dsimp only[Bj,NX,LT.den];apply tD<;>intro h1
 .apply tE<;>intro h2
  .apply tO<;>intro h3
   .refine tB (tK cm) λx1 h4=>tB (Z8s) λx2 h5=>?_;have q1:x2.length<=100:=h5;refine tB (tK cm) λx3 h6=>?_;exact Uh
   refine tB (Z8s) λx1 h4=>?_;have q1:x1.length<=100:=h4;refine tB (tK cm) λx2 h5=>?_;exact Uh
  have q1:=wr (v4+1);exact CE
 exact Uw
def Zhj:Tot (Z4c) (λr=>((SzL 16 SzN) r)/\(r.length=6)):=by apply tZ;dsimp only[Z98,LT.den];have q1:(SzL 16 SzN) ([([]:List UInt8),([105,110,45,104,97,110,100]:List UInt8),([105,110,45,108,105,98,114,97,114,121]:List UInt8),([105,110,45,103,114,97,118,101,121,97,114,100]:List UInt8),([105,110,45,101,120,105,108,101]:List UInt8),([111,110,45,115,116,97,99,107]:List UInt8)]:List (List UInt8)):=⟨by simp only[bT,cg];omega,mem_cons' (SzN.nil) (mem_cons' bk (mem_cons' bk (mem_cons' bk (mem_cons' bk (mem_cons' bk (λ_ h=>by cases h))))))⟩;have lq1:([([]:List UInt8),([105,110,45,104,97,110,100]:List UInt8),([105,110,45,108,105,98,114,97,114,121]:List UInt8),([105,110,45,103,114,97,118,101,121,97,114,100]:List UInt8),([105,110,45,101,120,105,108,101]:List UInt8),([111,110,45,115,116,97,99,107]:List UInt8)]:List (List UInt8)).length=6:=rfl;exact tR ⟨q1,cl⟩
def Zhk:Tot (Z7h) (λr=>((SzL 16 SzN) r)/\(r.length=3)):=by apply tZ;dsimp only[N1,LT.den];have q1:(SzL 16 SzN) ([([]:List UInt8),([121,111,117,114,115]:List UInt8),([116,104,101,105,114,115]:List UInt8)]:List (List UInt8)):=⟨by simp only[bT,cg];omega,mem_cons' (SzN.nil) (mem_cons' bk (mem_cons' bk (λ_ h=>by cases h)))⟩;have lq1:([([]:List UInt8),([121,111,117,114,115]:List UInt8),([116,104,101,105,114,115]:List UInt8)]:List (List UInt8)).length=3:=rfl;exact tR ⟨q1,cl⟩
def Zhl:Tot (Z4d) (λr=>((SzL 16 SzN) r)/\(r.length=3)):=by apply tZ;dsimp only[N3,LT.den];have q1:(SzL 16 SzN) ([([]:List UInt8),([115,101,108,102]:List UInt8),([111,116,104,101,114]:List UInt8)]:List (List UInt8)):=⟨by simp only[bT,cg];omega,mem_cons' (SzN.nil) (mem_cons' bk (mem_cons' bk (λ_ h=>by cases h)))⟩;have lq1:([([]:List UInt8),([115,101,108,102]:List UInt8),([111,116,104,101,114]:List UInt8)]:List (List UInt8)).length=3:=rfl;exact tR ⟨q1,cl⟩
def Zhm:Tot (Z7i) (λr=>((SzL 16 SzN) r)/\(r.length=3)):=by apply tZ;dsimp only[N5,LT.den];have q1:(SzL 16 SzN) ([([]:List UInt8),([116,97,112,112,101,100]:List UInt8),([117,110,116,97,112,112,101,100]:List UInt8)]:List (List UInt8)):=⟨by simp only[bT,cg];omega,mem_cons' (SzN.nil) (mem_cons' bk (mem_cons' bk (λ_ h=>by cases h)))⟩;have lq1:([([]:List UInt8),([116,97,112,112,101,100]:List UInt8),([117,110,116,97,112,112,101,100]:List UInt8)]:List (List UInt8)).length=3:=rfl;exact tR ⟨q1,cl⟩
def Zhn:Z2x->Prop
 |.L0 v0 v1 v5=>(0<=v5)/\(v1<=100)
def TT:Z2x->M6
 |.L0 v0 v1 v5=>(1,(v1-v5).toNat,1000000,0,0,0)
def sG{a0:Int}{a1:Int}(h0:a1<=100):Tot (N9 a0 a1) (λr=>True):=by
 apply Tot.rn Zhn TT
 .dsimp only[N8,LT.den];exact TR
 rintro⟨v0,v1,v5⟩ ⟨cv5,i0⟩;dsimp only[Bk,N7,LT.den];apply tD<;>intro h1
 .have q1:=wr (v5+1);exact TR
 exact tR aa
def Zho:rD->Prop
 |.L0 v0 v3 v4=>(0<=v4)/\(v0<=100)
def T6:rD->M6
 |.L0 v0 v3 v4=>(1,(v0-v4).toNat,1000000,0,0,0)
def Z8t{a0:Int}(h0:a0<=100):Tot (Oc a0) (λr=>(SzT r)/\(r.length<=20000)):=by
 apply Tot.rn Zho T6
 .dsimp only[Ob,LT.den];exact T5
 rintro⟨v0,v3,v4⟩ ⟨cv4,i0⟩;dsimp only[Z05,Oa,LT.den];apply tD<;>intro h1
 .have q1:=wr (v3*2);have q2:=wr (v4+1);exact T5
 refine tB (CU) λx1 h2=>?_;have eh2_1:=h2.2;exact tR ⟨h2.1,cl⟩
def Zhp:Tot (Bl) (λr=>((SzL 16 SzN) r)/\(r.length=4)):=by apply tZ;dsimp only[Oe,LT.den];have q1:(SzL 16 SzN) ([([]:List UInt8),([62,61]:List UInt8),([60,61]:List UInt8),([61]:List UInt8)]:List (List UInt8)):=⟨by simp only[bT,cg];omega,mem_cons' (SzN.nil) (mem_cons' bk (mem_cons' bk (mem_cons' bk (λ_ h=>by cases h))))⟩;have lq1:([([]:List UInt8),([62,61]:List UInt8),([60,61]:List UInt8),([61]:List UInt8)]:List (List UInt8)).length=4:=rfl;exact tR ⟨q1,cl⟩
def UT{n:Int}(h0:0<=n)(h1:n<18446744073709551616):fM .u64 n 10=n/10:=by
 unfold fM;rw[Int.tdiv_eq_ediv_of_nonneg h0];have h2:0<=n/10:=bg
 have h3:n/10<18446744073709551616:=bg
 simp only[IntKind.wrap,IntKind.bits,IntKind.signed,wc,fb,fy];exact ra h2 h3
def UU:∀(k:Nat) (n:Int) (s:List UInt8),k<=20->0<=n->n<10 ^ k->n<18446744073709551616->s.length+k<=40->Tot (cd vH.step (.L0 n s)) λr=>SzN r/\r.length<=40
 |0,n,s,_,h0,h1,_,hs=>by
  have:n=0:=bg
  subst this;refine Tot.stop (r:=s) ?_ ⟨show s.length<=100 by omega,by omega⟩;show(mb _ _).den=_;dsimp only[mb,LT.den];rfl
 |k+1,n,s,hk,h0,h1,h2,hs=>by
  by_cases hn:n>0
  .obtain⟨d,hd,hl⟩:=Tot.str (xs:=[IntKind.wrap .u8 (IntKind.wrap .u64 (48+(Int.tmod n 10)))]) al tk56;simp only[bT,cg]at hl;have e:vH.step (.L0 n s)=some (.inl (.L0 (n/10) (d++s))):=by
    show(mb _ _).den=_;dsimp only[mb,LT.den];rw[bB hn,av,hd,bp,bB (show d.length+s.length<=9223372036854775807 by omega),UT h0 h2];rfl
   obtain⟨r,hr,hp⟩:=UU k (n/10) (d++s) O O (by rw[Int.pow_succ]at h1;have:n/10<10 ^ k:=Int.ediv_lt_of_lt_mul aS h1;exact this) O (by rw[bF];omega);exact⟨r,by rw[iQ e];exact hr,hp⟩
  refine Tot.stop (r:=s) ?_ ⟨show s.length<=100 by omega,by omega⟩;show(mb _ _).den=_;dsimp only[mb,LT.den];rw[bO hn];rfl
def UV(a0:Int)(h0:0<=a0)(h1:a0<18446744073709551616):Tot (Bm a0) (λr=>(SzN r)/\(r.length<=40)):=by unfold Bm LF.run;dsimp only[Og,LT.den];obtain⟨d,hd,hl⟩:=Tot.str (xs:=[IntKind.wrap .u8 (IntKind.wrap .u64 (48+(Int.tmod a0 10)))]) al tk56;simp only[bT,cg]at hl;rw[hd,bp,bp,jt,UT h0 h1];exact UU 20 (a0/10) d O O O O O
def oq{a0:Int}:Tot (Ol a0) (λr=>(SzN r)):=by
 apply tZ;dsimp only[Oi,LT.den];apply tD<;>intro h1
 .have q1:0<=IntKind.wrap .u64 a0/\IntKind.wrap .u64 a0<18446744073709551616:=ug _;have q2:0<=IntKind.wrap .u64 (0-(IntKind.wrap .u64 a0))/\IntKind.wrap .u64 (0-(IntKind.wrap .u64 a0))<18446744073709551616:=ug _;refine tB (UV (IntKind.wrap .u64 (0-(IntKind.wrap .u64 a0))) cl cl) λx1 h2=>?_;have eh2_1:=h2.2;have q3:x1.length<=100:=h2.1;exact tB (tK cm) λx2 h3=>tR bk
 have q1:0<=IntKind.wrap .u64 a0/\IntKind.wrap .u64 a0<18446744073709551616:=ug _;refine tB (UV (IntKind.wrap .u64 a0) cl cl) λx1 h2=>?_;have eh2_1:=h2.2;exact tR h2.1
def CV{a0:List UInt8}{a1:ae}(oa0:SzN a0)(h0:0<=a1.Kind)(h1:a1.Kind<=3):Tot (Oq a0 a1) (λr=>(SzT r)):=by
 apply tZ;have lb_a0:a0.length<=100:=oa0;dsimp only[Om,LT.den];apply tE<;>intro h1
 .exact tR (SzT.nil)
 refine tB (Zhp) λx1 h2=>?_;have eh2_1:=h2.2;refine Tot.ix λx2 h3=>?_;have oh3:SzN x2:=h2.1.2 x2 h3.1;have q1:a0.length<=100:=oa0;have q2:x2.length<=100:=oh3;refine tB (tK cm) λx3 h4=>tB (oq) λx4 h5=>?_;have q3:x4.length<=100:=h5;exact tB (tK cm) λx5 h6=>tR tk50
def Zhq:rE->Prop
 |.L0 v0 v1 v5 v6=>((SzL 16 SzT) v0)/\(SzN v1)/\(0<=v6)/\(v5.length<=1125899906842624*v6.toNat)/\(v0.length<=100)/\(v6<=v0.length)
def SZ:rE->M6
 |.L0 v0 v1 v5 v6=>(1,((v0.length:Int)-v6).toNat,1000000,0,0,0)
def Zhr{a0:List (List UInt8)}{a1:List UInt8}(oa0:(SzL 16 SzT) a0)(oa1:SzN a1)(h0:a0.length<=100):Tot (Ov a0 a1) (λr=>(r.length<=144115188075855872)):=by
 apply Tot.rn Zhq SZ
 .have lb_a0:=oa0.1;have lb_a1:a1.length<=100:=oa1;dsimp only[Ou,LT.den];exact tL ⟨oa0,oa1,cs⟩ SY
 rintro⟨v0,v1,v5,v6⟩ ⟨ov0,ov1,cv6,i0,i1,i2⟩;have lb_v0:=ov0.1;have lb_v1:v1.length<=100:=ov1;dsimp only[Bo,Ot,LT.den];have q1:=ov0.1;apply tD<;>intro h1
 .apply tD<;>intro h2
  .have q2:v1.length<=100:=ov1;refine tB (tK cm) λx1 h3=>Tot.ix λx2 h4=>?_;have oh4:SzT x2:=ov0.2 x2 h4.1;have q3:x2.length<=562949953421312:=oh4;refine tB (tK cm) λx3 h5=>?_;have q4:=wr (v6+1);exact Uc
  refine Tot.ix λx1 h3=>?_;have oh3:SzT x1:=ov0.2 x1 h3.1;have q2:x1.length<=562949953421312:=oh3;refine tB (tK cm) λx2 h4=>?_;have q3:=wr (v6+1);exact Uc
 exact tR cl
def mG{b0:List (List UInt8)}{a1:List UInt8}(ob0:(SzL 16 SzT) b0)(oa1:SzT a1)(h0:b0.length<=1000):Tot (Oy b0 a1) (λr=>((SzL 16 SzT) r)/\(r.length<=b0.length+1)):=by
 apply tZ;have lb_b0:=ob0.1;have lb_a1:a1.length<=562949953421312:=oa1;dsimp only[Ow,LT.den];apply tF<;>intro h1
 .exact tR ⟨ob0,cl⟩
 have q1:=ob0.1;refine Tot.ap λx1 h2=>?_;have lh2:=db h2;exact tR ⟨SzL.app (k:=16) h2 lo ob0.2 (me1 oa1),cl⟩
def Z8u:jo->Prop
 |.L0 E0 v6 v7 v8=>(cG E0)/\((SzL 16 SzN) v6)/\((SzL 16 SzT) v7)/\(0<=v8)/\(v7.length<=3+v8.toNat)/\(v8<=6)/\(v6.length=3)/\(0<=E0.Tap/\E0.Tap<=2/\0<=E0.Power.Kind/\E0.Power.Kind<=3/\0<=E0.Tough.Kind/\E0.Tough.Kind<=3/\0<=E0.Value.Kind/\E0.Value.Kind<=3)
 |.L1 E0 v6 v7 v9=>(cG E0)/\((SzL 16 SzN) v6)/\((SzL 16 SzT) v7)/\(0<=v9)/\(v7.length<=9+v9.toNat)/\(v9<=6)/\(v6.length=3)/\(0<=E0.Tap/\E0.Tap<=2/\0<=E0.Power.Kind/\E0.Power.Kind<=3/\0<=E0.Tough.Kind/\E0.Tough.Kind<=3/\0<=E0.Value.Kind/\E0.Value.Kind<=3)
 |.L2 E0 v6 v7 v10=>(cG E0)/\((SzL 16 SzN) v6)/\((SzL 16 SzT) v7)/\(0<=v10)/\(v7.length<=15+v10.toNat)/\(v10<=5)/\(v6.length=3)/\(0<=E0.Tap/\E0.Tap<=2/\0<=E0.Power.Kind/\E0.Power.Kind<=3/\0<=E0.Tough.Kind/\E0.Tough.Kind<=3/\0<=E0.Value.Kind/\E0.Value.Kind<=3)
 |.L3 E0 v6 v7 v11=>(cG E0)/\((SzL 16 SzN) v6)/\((SzL 16 SzT) v7)/\(0<=v11)/\(v7.length<=20+v11.toNat)/\(v11<=5)/\(v6.length=3)/\(0<=E0.Tap/\E0.Tap<=2/\0<=E0.Power.Kind/\E0.Power.Kind<=3/\0<=E0.Tough.Kind/\E0.Tough.Kind<=3/\0<=E0.Value.Kind/\E0.Value.Kind<=3)
 |.L4 E0 v6 v7=>(cG E0)/\((SzL 16 SzN) v6)/\((SzL 16 SzT) v7)/\(v7.length<=26)/\(v6.length=3)/\(0<=E0.Tap/\E0.Tap<=2/\0<=E0.Power.Kind/\E0.Power.Kind<=3/\0<=E0.Tough.Kind/\E0.Tough.Kind<=3/\0<=E0.Value.Kind/\E0.Value.Kind<=3)
 |.L5 E0 v6 v7 v12=>(cG E0)/\((SzL 16 SzN) v6)/\((SzL 16 SzT) v7)/\(0<=v12)/\(v7.length<=26+v12.toNat)/\(v12<=17)/\(v6.length=3)/\(0<=E0.Tap/\E0.Tap<=2/\0<=E0.Power.Kind/\E0.Power.Kind<=3/\0<=E0.Tough.Kind/\E0.Tough.Kind<=3/\0<=E0.Value.Kind/\E0.Value.Kind<=3)
def kO:jo->M6
 |.L0 E0 v6 v7 v8=>(9,(6-v8).toNat,1000000,0,0,0)
 |.L1 E0 v6 v7 v9=>(7,(6-v9).toNat,1000000,0,0,0)
 |.L2 E0 v6 v7 v10=>(5,(5-v10).toNat,1000000,0,0,0)
 |.L3 E0 v6 v7 v11=>(3,(5-v11).toNat,1000000,0,0,0)
 |.L4 E0 v6 v7=>(2,0,0,0,0,0)
 |.L5 E0 v6 v7 v12=>(1,(17-v12).toNat,1000000,0,0,0)
def CW{E0:aj}{v6:List (List UInt8)}{v7:List (List UInt8)}(h:Z8u (.L4 E0 v6 v7)):Tot (rF E0 v6 v7).den (Nx Z8u kO (2,0,0,0,0,0) (λr=>(r.length<=144115188075855872))):=by obtain⟨O0,ov6,ov7,i0,i1,i2⟩:=h;have lb_v6:=ov6.1;have lb_v7:=ov7.1;dsimp only[rF,LT.den];exact jU
def Zhs{a0:aj}(oa0:cG a0):Tot (OG a0) (λr=>(r.length<=144115188075855872)):=by
 apply Tot.rn Z8u kO
 .dsimp only[OF,LT.den];refine tB (jV oa0) λx1 h1=>?_;have eh1_0:=h1.1;have eh1_1:=h1.2;apply tO<;>intro h2
  .exact tR cl
  have h2_0:=eh1_0 h2;refine tB (Zhj) λx2 h3=>?_;have eh3_1:=h3.2;refine tB (Zhk) λx3 h4=>?_;have eh4_1:=h4.2;refine tB (Zhl) λx4 h5=>?_;have eh5_1:=h5.2;refine tB (Zhm) λx5 h6=>?_;have eh6_1:=h6.2;refine Tot.ix λx6 h7=>?_;have oh7:SzN x6:=h3.1.2 x6 h7.1;refine tB (mG SzL.nil (SzN.t oh7) cl) λx7 h8=>?_;have eh8_1:=h8.2;try simp only[cg,bT,aM]at eh8_1
  refine Tot.ix λx8 h9=>?_;have oh9:SzN x8:=h4.1.2 x8 h9.1;refine tB (mG h8.1 (SzN.t oh9) cl) λx9 h10=>?_;have eh10_1:=h10.2;refine Tot.ix λx10 h11=>?_;have oh11:SzN x10:=h5.1.2 x10 h11.1;refine tB (mG h10.1 (SzN.t oh11) cl) λx11 h12=>?_;have eh12_1:=h12.2;exact tL ⟨oa0,h6.1,h12.1,cs⟩ sB
 intro s hs;cases s with
 |L0 E0 v6 v7 v8=>
  obtain⟨O0,ov6,ov7,cv8,i0,i1,i2,i3⟩:=hs;have lb_v6:=ov6.1;have lb_v7:=ov7.1;dsimp only[me,Oz,LT.den,kO];apply tD<;>intro h1
  .refine tB (sG cl) λx1 h2=>?_;apply tF<;>intro h3
   .refine tB (Z8t cl) λx2 h4=>?_;have eh4_1:=h4.2;have q1:=ov7.1;refine Tot.ap λx3 h5=>?_;have lh5:=db h5;have q2:=wr (v8+1);exact tL ⟨O0,ov6,SzL.app (k:=16) h5 lo ov7.2 (me1 h4.1),cs⟩ sB
   have q1:=wr (v8+1);exact jU
  exact jU
 |L1 E0 v6 v7 v9=>
  obtain⟨O0,ov6,ov7,cv9,i0,i1,i2,i3⟩:=hs;have lb_v6:=ov6.1;have lb_v7:=ov7.1;dsimp only[me,OA,LT.den,kO];apply tD<;>intro h1
  .refine tB (sG cl) λx1 h2=>?_;apply tF<;>intro h3
   .refine tB (Z8t cl) λx2 h4=>?_;have eh4_1:=h4.2;have q1:x2.length<=562949953421312:=h4.1;refine tB (tK cm) λx3 h5=>?_;have q2:=ov7.1;refine Tot.ap λx4 h6=>?_;have lh6:=db h6;have q3:=wr (v9+1);exact CJ
   have q1:=wr (v9+1);exact jU
  exact jU
 |L2 E0 v6 v7 v10=>
  obtain⟨O0,ov6,ov7,cv10,i0,i1,i2,i3⟩:=hs;have lb_v6:=ov6.1;have lb_v7:=ov7.1;dsimp only[me,OB,LT.den,kO];apply tD<;>intro h1
  .refine tB (sG cl) λx1 h2=>?_;apply tF<;>intro h3
   .refine tB (wY) λx2 h4=>?_;have q1:=ov7.1;refine Tot.ap λx3 h5=>?_;have lh5:=db h5;have q2:=wr (v10+1);exact tL ⟨O0,ov6,SzL.app (k:=16) h5 lo ov7.2 (me1 (SzN.t h4)),cs⟩ sB
   have q1:=wr (v10+1);exact jU
  exact jU
 |L3 E0 v6 v7 v11=>
  obtain⟨O0,ov6,ov7,cv11,i0,i1,i2,i3⟩:=hs;have lb_v6:=ov6.1;have lb_v7:=ov7.1;dsimp only[me,OC,LT.den,kO];apply tD<;>intro h1
  .refine tB (sG cl) λx1 h2=>?_;apply tF<;>intro h3
   .refine tB (wY) λx2 h4=>?_;have q1:x2.length<=100:=h4;refine tB (tK cm) λx3 h5=>?_;have q2:=ov7.1;refine Tot.ap λx4 h6=>?_;have lh6:=db h6;have q3:=wr (v11+1);exact CJ
   have q1:=wr (v11+1);exact jU
  apply tO<;>intro h2
  .have q1:E0.Sub.length<=281474976710656:=O0;refine tB (tK cm) λx1 h3=>?_;have q2:=ov7.1;refine Tot.ap λx2 h4=>?_;have lh4:=db h4;exact tJ (CW ⟨O0,ov6,SzL.app (k:=16) h4 lo ov7.2 (me1 tk50),cs⟩)
  exact tJ (CW ⟨O0,ov6,ov7,cs⟩)
 |L4 _ _ _=>exact CW hs
 |L5 E0 v6 v7 v12=>
  obtain⟨O0,ov6,ov7,cv12,i0,i1,i2,i3⟩:=hs;have lb_v6:=ov6.1;have lb_v7:=ov7.1;dsimp only[me,OE,LT.den,kO];apply tD<;>intro h1
  .refine tB (sG cl) λx1 h2=>?_;apply tF<;>intro h3
   .refine tB (Z8s) λx2 h4=>?_;have q1:x2.length<=100:=h4;refine tB (tK cm) λx3 h5=>?_;have q2:=ov7.1;refine Tot.ap λx4 h6=>?_;have lh6:=db h6;have q3:=wr (v12+1);exact CJ
   have q1:=wr (v12+1);exact jU
  refine Tot.ix λx1 h2=>?_;have oh2:SzN x1:=ov6.2 x1 h2.1;refine tB (mG ov7 (SzN.t oh2) cl) λx2 h3=>?_;have eh3_1:=h3.2;refine tB (CV bk cl cl) λx3 h4=>tB (mG h3.1 h4 cl) λx4 h5=>?_;have eh5_1:=h5.2;refine tB (CV bk cl cl) λx5 h6=>tB (mG h5.1 h6 cl) λx6 h7=>?_;have eh7_1:=h7.2;refine tB (CV bk cl cl) λx7 h8=>tB (mG h7.1 h8 cl) λx8 h9=>?_;have eh9_1:=h9.2;apply tE<;>intro h10
  .exact tR cl
  exact tB (Zhr h9.1 bk cl) λx9 h11=>tR cl
def UW{a0:ai}(oa0:Z5 a0):Tot (OJ a0) (λr=>(r.length<=288230376151711744)):=by
 apply tZ;dsimp only[OH,LT.den];refine tB (UQ oa0) λx1 h1=>?_;apply tO<;>intro h2
 .exact tR cl
 apply tE<;>intro h3
 .exact tR cl
 apply tE<;>intro h4
 .refine tB (CU) λx2 h5=>?_;have eh5_1:=h5.2;have q1:x2.length<=562949953421312:=h5.1;exact tB (tK cm) λx3 h6=>tR cl
 apply tE<;>intro h5
 .refine tB (CU) λx2 h6=>?_;have eh6_1:=h6.2;have q1:x2.length<=562949953421312:=h6.1;exact tB (tK cm) λx3 h7=>tR cl
 apply tE<;>intro h6
 .have q1:a0.Sub.length<=281474976710656:=oa0.1;exact tB (tK cm) λx2 h7=>tR cl
 apply tE<;>intro h7
 .have q1:a0.Sub.length<=281474976710656:=oa0.1;exact tB (tK cm) λx2 h8=>tR cl
 apply tE<;>intro h8
 .refine tB (UR) λx2 h9=>?_;have q1:x2.length<=562949953421312:=h9;exact tB (tK cm) λx3 h10=>tR cl
 apply tE<;>intro h9
 .refine tB (UR) λx2 h10=>?_;have q1:x2.length<=562949953421312:=h10;exact tB (tK cm) λx3 h11=>tR cl
 apply tE<;>intro h10
 .refine tB (US) λx2 h11=>?_;have q1:x2.length<=562949953421312:=h11;exact tB (tK cm) λx3 h12=>tR cl
 apply tE<;>intro h11
 .refine tB (US) λx2 h12=>?_;have q1:x2.length<=562949953421312:=h12;exact tB (tK cm) λx3 h13=>tR cl
 apply tE<;>intro h12
 .exact tR cl
 apply tE<;>intro h13
 .exact tB (Zhs oa0.2) λx2 h14=>tB (tK cm) λx3 h15=>tB (tK cm) λx4 h16=>tR cl
 apply tE<;>intro h14
 .refine tB (oq) λx2 h15=>?_;have q1:x2.length<=100:=h15;refine tB (tK cm) λx3 h16=>tB (tK cm) λx4 h17=>tB (oq) λx5 h18=>?_;have q2:x5.length<=100:=h18;exact tB (tK cm) λx6 h19=>tR cl
 apply tE<;>intro h15
 .refine tB (oq) λx2 h16=>?_;have q1:x2.length<=100:=h16;refine tB (tK cm) λx3 h17=>tB (tK cm) λx4 h18=>tB (oq) λx5 h19=>?_;have q2:x5.length<=100:=h19;exact tB (tK cm) λx6 h20=>tR cl
 exact tR cl
def Zht:rG->Prop
 |.L0 v0 v3 v4=>((SzL 176 Z5) v0)/\(0<=v4)/\(v3.length<=576460752303423488*v4.toNat)/\(v0.length<=6)/\(v4<=v0.length)
def S6:rG->M6
 |.L0 v0 v3 v4=>(1,((v0.length:Int)-v4).toNat,1000000,0,0,0)
def CX{a0:List ai}(oa0:(SzL 176 Z5) a0):Tot (OO a0) (λr=>(r.length<=4611686018427387904)):=by
 apply Tot.rn Zht S6
 .have lb_a0:=oa0.1;dsimp only[ON,LT.den];have q1:=oa0.1;apply tE<;>intro h1
  .exact tR cl
  apply tD<;>intro h2
  .exact tR cl
  exact tL ⟨oa0,cs⟩ S5
 rintro⟨v0,v3,v4⟩ ⟨ov0,cv4,i0,i1,i2⟩;have lb_v0:=ov0.1;dsimp only[Z06,OM,LT.den];have q1:=ov0.1;apply tD<;>intro h1
 .refine Tot.ix λx1 h2=>?_;have oh2:Z5 x1:=ov0.2 x1 h2.1;refine tB (UQ oh2) λx2 h3=>?_;apply tO<;>intro h4
  .exact tR cl
  apply tD<;>intro h5
  .refine tB (tK cm) λx3 h6=>tB (UW oh2) λx4 h7=>tB (tK cm) λx5 h8=>?_;exact Uj
  refine tB (UW oh2) λx3 h6=>tB (tK cm) λx4 h7=>?_;exact Uj
 exact tR cl
def Zhu{a0:gM}:Tot (OR a0) (λr=>True):=by
 apply tZ;dsimp only[OP,LT.den];refine tB (CQ a0.Mana) λx1 h1=>?_;have eh1_0:=h1.1;have eh1_1:=h1.2.1;have eh1_2:=h1.2.2;apply tF<;>intro h2
 .have h2_0:=eh1_0 h2;have h2_1:=eh1_1 h2;apply tE<;>intro h3
  .exact wQ
  exact tR aa
 exact tR aa
def UX{a0:Int}:Tot (OU a0) (λr=>(SzN r)):=by
 apply tZ;dsimp only[OS,LT.den];apply tE<;>intro h1
 .exact dh
 apply tE<;>intro h2
 .exact dh
 apply tE<;>intro h3
 .exact dh
 apply tE<;>intro h4
 .exact dh
 apply tE<;>intro h5
 .exact dh
 apply tE<;>intro h6
 .exact dh
 apply tE<;>intro h7
 .exact dh
 apply tE<;>intro h8
 .exact dh
 apply tE<;>intro h9
 .exact dh
 apply tE<;>intro h10
 .exact dh
 apply tE<;>intro h11
 .exact dh
 apply tE<;>intro h12
 .exact dh
 apply tE<;>intro h13
 .exact dh
 apply tE<;>intro h14
 .exact dh
 exact tR (SzN.nil)
def UY{a0:Int}:Tot (OY a0) (λr=>True):=by
 apply tZ;dsimp only[OW,LT.den];apply tE<;>intro h1
 .exact tR aa
 apply tE<;>intro h2
 .exact tR aa
 apply tE<;>intro h3
 .exact tR aa
 exact CI
def Zhv{a0:Int}:Tot (O6 a0) (λr=>True):=by
 apply tZ;dsimp only[O4,LT.den];refine tB (UX) λx1 h1=>?_;apply tO<;>intro h2
 .refine tB (UY) λx2 h3=>?_;exact Gl
 exact tR aa
def CY:Z7k->Prop
 |.L0 E0=>(wW E0)/\True
def UZ:Z7k->M6
 |.L0 E0=>(0,0,0,0,0,0)
def Z47{E0:eW}(h:CY (.L0 E0)):Tot (Z2y E0).den (Nx CY UZ (0,0,0,0,0,0) (λr=>True)):=by
 obtain⟨O0,_⟩:=h;dsimp only[Z2y,LT.den];refine tB (Zhv) λx1 h1=>?_;apply tO<;>intro h2
 .exact tR aa
 apply tE<;>intro h3
 .exact Uu
 exact Uu
def Zhw{a0:eW}(oa0:wW a0):Tot (O9 a0) (λr=>True):=by
 apply Tot.rn CY UZ
 .dsimp only[O7,LT.den];refine tB (UX) λx1 h1=>?_;apply tF<;>intro h2
  .exact tR aa
  apply tD<;>intro h3
  .exact tR aa
  apply tD<;>intro h4
  .exact tR aa
  refine tB (UY) λx2 h5=>?_;apply tO<;>intro h6
  .apply tN<;>intro h7
   .exact tR aa
   exact tJ (Z47 ⟨oa0,aa⟩)
  exact tJ (Z47 ⟨oa0,aa⟩)
 intro s hs;cases s with
 |L0 _=>exact Z47 hs
def Z48{a0:aj}(oa0:cG a0):Tot (Pc a0) (λr=>True):=by
 apply tZ;dsimp only[Pa,LT.den];refine tB (jV oa0) λx1 h1=>?_;have eh1_0:=h1.1;have eh1_1:=h1.2;apply tF<;>intro h2
 .have h2_0:=eh1_0 h2;exact tR aa
 exact tR aa
def Zhx{a0:dn}(oa0:jW a0):Tot (Pf a0) (λr=>True):=by
 apply tZ;dsimp only[Pd,LT.den];apply tN<;>intro h1
 .exact tR aa
 refine tB (Z48 oa0) λx1 h2=>?_;apply tO<;>intro h3
 .exact tR aa
 apply tE<;>intro h4
 .apply tE<;>intro h5
  .apply tE<;>intro h6
   .apply tE<;>intro h7
    .exact tR aa
    apply tE<;>intro h8
    .exact tR aa
    exact tR aa
   exact tR aa
  exact tR aa
 apply tE<;>intro h5
 .apply tE<;>intro h6
  .apply tE<;>intro h7
   .exact tR aa
   exact tR aa
  exact tR aa
 apply tE<;>intro h6
 .apply tE<;>intro h7
  .apply tD<;>intro h8
   .apply tD<;>intro h9
    .apply tD<;>intro h10
     .exact tR aa
     exact tR aa
    exact tR aa
   exact tR aa
  exact tR aa
 exact tR aa
def Zhy{a0:dn}(oa0:jW a0):Tot (Pi a0) (λr=>True):=by
 apply tZ;dsimp only[Pg,LT.den];apply tN<;>intro h1
 .exact tR aa
 apply tN<;>intro h2
 .exact tR aa
 apply tE<;>intro h3
 .exact wQ
 apply tE<;>intro h4
 .apply tD<;>intro h5
  .exact tR aa
  exact tR aa
 exact tR aa
def ot:mf->Prop
 |.L0 E0 v3 v4=>(jW E0)/\True
 |.L1 E0 v3=>(jW E0)/\True
 |.L2 E0 v3 v4 v109=>(jW E0)/\True
def wZ:mf->M6
 |.L0 E0 v3 v4=>(0,0,0,0,0,0)
 |.L1 E0 v3=>(0,0,0,0,0,0)
 |.L2 E0 v3 v4 v109=>(0,0,0,0,0,0)
def TL{E0:dn}{v3:Bool}{v4:Bool}{v109:Bool}(h:(jW E0)/\True):Tot (nY E0 v3 v4 v109).den (Nx ot wZ (0,0,0,0,0,0) (λr=>True)):=by
 obtain⟨O0,_⟩:=h;dsimp only[nY,LT.den];apply tF<;>intro h1
 .apply tF<;>intro h2
  .apply tD<;>intro h3
   .exact wQ
   exact tR aa
  exact tR aa
 exact tR aa
def TM{E0:dn}{v3:Bool}(h:ot (.L1 E0 v3)):Tot (mg E0 v3).den (Nx ot wZ (0,0,0,0,0,0) (λr=>True)):=by
 obtain⟨O0,_⟩:=h;dsimp only[mg,LT.den];apply tE<;>intro h1
 .refine tB (Z48 O0) λx1 h2=>?_;apply tF<;>intro h3
  .exact tR aa
  exact CI
 apply tE<;>intro h2
 .exact tR aa
 apply tE<;>intro h3
 .exact tR aa
 exact tR aa
def TI{E0:dn}{v3:Bool}{v4:Bool}(h:ot (.L0 E0 v3 v4)):Tot (nZ E0 v3 v4).den (Nx ot wZ (0,0,0,0,0,0) (λr=>True)):=by
 obtain⟨O0,_⟩:=h;dsimp only[nZ,LT.den];apply tE<;>intro h1
 .apply tN<;>intro h2
  .apply tN<;>intro h3
   .apply tN<;>intro h4
    .apply tN<;>intro h5
     .exact tR aa
     exact wN
    exact wN
   exact wN
  exact wN
 apply tE<;>intro h2
 .apply tF<;>intro h3
  .apply tE<;>intro h4
   .exact tB (Z48 O0) λx1 h5=>tR trivial
   exact tR aa
  exact tR aa
 apply tE<;>intro h3
 .apply tE<;>intro h4
  .exact Up
  apply tE<;>intro h5
  .exact Uq
  exact tR aa
 apply tE<;>intro h4
 .exact CA
 apply tE<;>intro h5
 .exact CA
 exact CA
def Zhz{a0:dn}(oa0:jW a0):Tot (Pl a0) (λr=>True):=by
 apply Tot.rn ot wZ
 .dsimp only[Pj,LT.den];apply tE<;>intro h1
  .exact tB (Zhx oa0) λx1 h2=>tR trivial
  refine tB (Zhy oa0) λx1 h2=>?_;apply tO<;>intro h3
  .exact tR aa
  apply tE<;>intro h4
  .exact Cz
  apply tE<;>intro h5
  .exact Cz
  exact Cz
 intro s hs;cases s with
 |L0 _ _ _=>exact TI hs
 |L1 _ _=>exact TM hs
 |L2 _ _ _ _=>exact TL hs
def ZhA{a0:bo}(oa0:fP a0):Tot (Po a0) (λr=>True):=by
 apply tZ;dsimp only[Pm,LT.den];apply tO<;>intro h1
 .apply tF<;>intro h2
  .exact tR aa
  exact tR aa
 refine tB (jV oa0) λx1 h2=>?_;have eh2_0:=h2.1;have eh2_1:=h2.2;apply tF<;>intro h3
 .have h3_0:=eh2_0 h3;exact CI
 exact tR aa
def ZhB:rH->Prop
 |.L0 v0 v3=>((SzL 144 fP) v0)/\(0<=v3)
def Z8v:rH->M6
 |.L0 v0 v3=>(1,((v0.length:Int)-v3).toNat,1000000,0,0,0)
def ZhC{a0:List bo}(oa0:(SzL 144 fP) a0):Tot (Pr a0) (λr=>True):=by
 apply Tot.rn ZhB Z8v
 .have lb_a0:=oa0.1;dsimp only[Pq,LT.den];exact tL ⟨oa0,cl⟩ Tc
 rintro⟨v0,v3⟩ ⟨ov0,cv3⟩;have lb_v0:=ov0.1;dsimp only[Bq,Pp,LT.den];have q1:=ov0.1;apply tD<;>intro h1
 .refine Tot.ix λx1 h2=>?_;have oh2:fP x1:=ov0.2 x1 h2.1;refine tB (ZhA oh2) λx2 h3=>?_;apply tO<;>intro h4
  .exact tR aa
  have q2:=wr (v3+1);exact tL ⟨ov0,cl⟩ Tc
 exact tR aa
def ZhD{a0:Int}:Tot (Pu a0) (λr=>(SzN r)):=by
 apply tZ;dsimp only[Ps,LT.den];apply tD<;>intro h1
 .exact tR (SzN.nil)
 apply tD<;>intro h2
 .exact tR (SzN.nil)
 have q1:(SzL 16 SzN) ([([100,97,109,97,103,101]:List UInt8),([100,101,115,116,114,111,121]:List UInt8),([109,111,118,101]:List UInt8),([100,114,97,119]:List UInt8),([100,105,115,99,97,114,100]:List UInt8),([103,97,105,110]:List UInt8),([108,111,115,101]:List UInt8),([116,97,112]:List UInt8),([117,110,116,97,112]:List UInt8),([112,117,116]:List UInt8),([116,97,107,101]:List UInt8),([99,114,101,97,116,101]:List UInt8),([109,111,100]:List UInt8),([109,97,110,97]:List UInt8),([99,111,117,110,116,101,114]:List UInt8),([99,111,112,121]:List UInt8),([98,101,99,111,109,101]:List UInt8),([115,97,99,114,105,102,105,99,101]:List UInt8),([109,105,108,108]:List UInt8),([115,99,114,121]:List UInt8),([115,101,97,114,99,104]:List UInt8),([115,104,105,101,108,100]:List UInt8),([116,117,114,110]:List UInt8),([119,105,110]:List UInt8),([100,101,102,101,97,116]:List UInt8),([118,101,110,111,109]:List UInt8)]:List (List UInt8)):=⟨by simp only[bT,cg];omega,mem_cons' bk (mem_cons' bk (mem_cons' bk (mem_cons' bk (mem_cons' bk (mem_cons' bk (mem_cons' bk (mem_cons' bk (mem_cons' bk (mem_cons' bk (mem_cons' bk (mem_cons' bk (mem_cons' bk (mem_cons' bk (mem_cons' bk (mem_cons' bk (mem_cons' bk (mem_cons' bk (mem_cons' bk (mem_cons' bk (mem_cons' bk (mem_cons' bk (mem_cons' bk (mem_cons' bk (mem_cons' bk (mem_cons' bk (λ_ h=>by cases h))))))))))))))))))))))))))⟩;have lq1:([([100,97,109,97,103,101]:List UInt8),([100,101,115,116,114,111,121]:List UInt8),([109,111,118,101]:List UInt8),([100,114,97,119]:List UInt8),([100,105,115,99,97,114,100]:List UInt8),([103,97,105,110]:List UInt8),([108,111,115,101]:List UInt8),([116,97,112]:List UInt8),([117,110,116,97,112]:List UInt8),([112,117,116]:List UInt8),([116,97,107,101]:List UInt8),([99,114,101,97,116,101]:List UInt8),([109,111,100]:List UInt8),([109,97,110,97]:List UInt8),([99,111,117,110,116,101,114]:List UInt8),([99,111,112,121]:List UInt8),([98,101,99,111,109,101]:List UInt8),([115,97,99,114,105,102,105,99,101]:List UInt8),([109,105,108,108]:List UInt8),([115,99,114,121]:List UInt8),([115,101,97,114,99,104]:List UInt8),([115,104,105,101,108,100]:List UInt8),([116,117,114,110]:List UInt8),([119,105,110]:List UInt8),([100,101,102,101,97,116]:List UInt8),([118,101,110,111,109]:List UInt8)]:List (List UInt8)).length=26:=rfl;have q2:=wr (a0-1);refine Tot.ix λx1 h3=>?_;have oh3:SzN x1:=q1.2 x1 h3.1;exact tR oh3
def Z8w:n3->Prop
 |.L0 v3 v4=>True
 |.L1 v3 v14=>True
def CZ:n3->M6
 |.L0 v3 v4=>(0,0,0,0,0,0)
 |.L1 v3 v14=>(0,0,0,0,0,0)
def C0{v3:Int}{v14:Bool}(h:True):Tot (rI v3 v14).den (Nx Z8w CZ (0,0,0,0,0,0) (λr=>(SzN r))):=by
 dsimp only[rI,LT.den];apply tF<;>intro h1
 .exact dh
 apply tE<;>intro h2
 .exact dh
 apply tE<;>intro h3
 .exact dh
 apply tE<;>intro h4
 .exact dh
 apply tE<;>intro h5
 .exact dh
 apply tE<;>intro h6
 .exact dh
 apply tE<;>intro h7
 .exact dh
 apply tE<;>intro h8
 .exact tR (SzN.nil)
 apply tE<;>intro h9
 .exact tR (SzN.nil)
 exact dh
def TF{v3:Int}{v4:Bool}(h:True):Tot (jq v3 v4).den (Nx Z8w CZ (0,0,0,0,0,0) (λr=>(SzN r))):=by
 dsimp only[jq,LT.den];apply tF<;>intro h1
 .exact dh
 apply tE<;>intro h2
 .exact dh
 apply tE<;>intro h3
 .exact tJ (C0 trivial)
 exact tJ (C0 trivial)
def ZhE{a0:Int}:Tot (Px a0) (λr=>(SzN r)):=by
 apply Tot.rn Z8w CZ
 .dsimp only[Pv,LT.den];apply tE<;>intro h1
  .exact mE
  apply tE<;>intro h2
  .exact mE
  apply tE<;>intro h3
  .exact mE
  apply tE<;>intro h4
  .exact mE
  apply tE<;>intro h5
  .exact mE
  apply tE<;>intro h6
  .exact mE
  exact mE
 intro s hs;cases s with
 |L0 _ _=>exact TF hs
 |L1 _ _=>exact C0 hs
def ZhF:rJ->Prop
 |.L0 v1 v5 v6=>(SzT v5)/\(0<=v6)
def SX:rJ->M6
 |.L0 v1 v5 v6=>(1,((v5.length:Int)-v6).toNat,1000000,0,0,0)
def kQ{a0:Int}{a1:Int}:Tot (PA a0 a1) (λr=>True):=by
 apply Tot.rn ZhF SX
 .dsimp only[Pz,LT.den];exact tB (ZhE) λx1 h1=>tL ⟨SzN.t h1,cl⟩ SW
 rintro⟨v1,v5,v6⟩ ⟨ov5,cv6⟩;have lb_v5:v5.length<=562949953421312:=ov5;dsimp only[Br,Py,LT.den];have q1:v5.length<=562949953421312:=ov5;apply tD<;>intro h1
 .refine Tot.ix λx1 h2=>?_;apply tE<;>intro h3
  .exact tR aa
  have q2:=wr (v6+1);exact tL ⟨ov5,cl⟩ SW
 exact tR aa
def ZhG{a0:Int}:Tot (PD a0) (λr=>True):=by apply tZ;dsimp only[PB,LT.den];exact TX
def sH:Z07->Prop
 |.L0 v1 E0=>(sD E0)/\True
 |.L1 E0=>(sD E0)/\True
def C1:Z07->M6
 |.L0 v1 E0=>(0,0,0,0,0,0)
 |.L1 E0=>(0,0,0,0,0,0)
def Z49{E0:fa}(h:sH (.L1 E0)):Tot (Z2z E0).den (Nx sH C1 (0,0,0,0,0,0) (λr=>True)):=by
 obtain⟨O0,_⟩:=h;dsimp only[Z2z,LT.den];apply tE<;>intro h1
 .refine tB (jV O0) λx1 h2=>?_;have eh2_0:=h2.1;have eh2_1:=h2.2;exact tR aa
 exact tR aa
def Z5a{v1:Int}{E0:fa}(h:sH (.L0 v1 E0)):Tot (Z20 v1 E0).den (Nx sH C1 (0,0,0,0,0,0) (λr=>True)):=by
 obtain⟨O0,_⟩:=h;dsimp only[Z20,LT.den];apply tD<;>intro h1
 .exact tR aa
 apply tD<;>intro h2
 .exact tR aa
 refine tB (ZhG) λx1 h3=>?_;apply tF<;>intro h4
 .apply tD<;>intro h5
  .exact tR aa
  apply tD<;>intro h6
  .exact tR aa
  exact tJ (Z49 ⟨O0,aa⟩)
 apply tN<;>intro h5
 .exact tR aa
 exact tJ (Z49 ⟨O0,aa⟩)
def ZhH{a0:fa}{a1:Int}(oa0:sD a0):Tot (PG a0 a1) (λr=>True):=by
 apply Tot.rn sH C1
 .dsimp only[PE,LT.den];apply tD<;>intro h1
  .exact tJ (Z5a ⟨oa0,aa⟩)
  exact tJ (Z5a ⟨oa0,aa⟩)
 intro s hs;cases s with
 |L0 _ _=>exact Z5a hs
 |L1 _=>exact Z49 hs
def U0{a0:Int}:Tot (PJ a0) (λr=>(SzT r)/\(r=[]↔¬(0<=a0/\a0<=2))):=by
 apply tZ;dsimp only[PH,LT.den];apply tE<;>intro h1
 .exact CK
 apply tE<;>intro h2
 .exact CK
 apply tE<;>intro h3
 .exact CK
 exact tR ⟨SzT.nil,tk24⟩
def ZhI{a0:dO}(oa0:Z4x a0):Tot (PN a0) (λr=>(r=amV a0)):=by
 apply tZ;dsimp only[PL,LT.den];apply tE<;>intro h1
 .apply tD<;>intro h2
  .exact gk
  apply tD<;>intro h3
  .exact gk
  exact Ux
 apply tE<;>intro h2
 .apply tD<;>intro h3
  .exact gk
  apply tD<;>intro h4
  .exact gk
  refine tB (jV oa0) λx1 h5=>?_;have eh5_0:=h5.1;have eh5_1:=h5.2;apply tO<;>intro h6
  .exact gk
  have h6_0:=eh5_0 h6;apply tD<;>intro h7
  .apply tD<;>intro h8
   .exact gk
   exact gk
  exact gk
 apply tE<;>intro h3
 .refine tB (U0) λx1 h4=>?_;have eh4_1:=h4.2;apply tF<;>intro h5
  .exact gk
  apply tD<;>intro h6
  .apply tD<;>intro h7
   .exact gk
   exact gk
  exact gk
 exact Ux
def ZhJ{a0:List ai}(oa0:(SzL 176 Z5) a0):Tot (PQ a0) (λr=>True):=by apply tZ;have lb_a0:=oa0.1;dsimp only[PO,LT.den];exact tB (CX oa0) λx1 h1=>tR trivial
def ZhK:rK->Prop
 |.L0 E0 E1 E2 v4=>(0<=v4)/\True
def SV:rK->M6
 |.L0 E0 E1 E2 v4=>(1,(5-v4).toNat,1000000,0,0,0)
def ZhL{a0:A6 Int}:Tot (PU a0) (λr=>True):=by
 apply Tot.rn ZhK SV
 .dsimp only[PT,LT.den];exact tB (tI O (by have e:(A6.list a0).length=6:=rfl;omega)) λx1 h1=>tL ⟨cl,aa⟩ SU
 rintro⟨E0,E1,E2,v4⟩ ⟨cv4,_⟩;dsimp only[Bs,PS,LT.den];apply tD<;>intro h1
 .have q1:=wr (v4+1);exact tB (tI O tk96) λx1 h2=>tB (tI O (by have e:(A5.list E2.Color).length=5:=rfl;omega)) λx2 h3=>tB (Tot.setA5 O O) λx3 h4=>tL ⟨cl,aa⟩ SU
 exact tR aa
def ZhM:mh->Prop
 |.L0 E0 v3 v4=>(0<=v4)/\(E0.X<=2)/\(∀n,n∈A5.list E0.Color->n<=9)/\(v3.length<=v4.toNat)/\(v4<=2)
 |.L1 E0 v3 v5=>(0<=v5)/\(v3.length<=200+200*v5.toNat)/\(∀n,n∈A5.list E0.Color->n<=9)/\(v5<=5)
 |.L2 E0 v3 v5 v6=>(0<=v5)/\(0<=v6)/\(v5<5)/\(v3.length<=200+200*v5.toNat+v6.toNat)/\(∀n,n∈A5.list E0.Color->n<=9)/\(v5<5)/\(v6<=9)
def SS:mh->M6
 |.L0 E0 v3 v4=>(3,(E0.X-v4).toNat,1000000,0,0,0)
 |.L1 E0 v3 v5=>(1,(5-v5).toNat,1000000,0,0,0)
 |.L2 E0 v3 v5 v6=>(1,(5-v5).toNat,1,(9-v6).toNat,1000000,0)
def ZhN{a0:Z4}:Tot (P1 a0) (λr=>(SzT r)):=by
 apply Tot.rn ZhM SS
 .dsimp only[P0,LT.den];refine tB (CQ a0) λx1 h1=>?_;have eh1_0:=h1.1;have eh1_1:=h1.2.1;have eh1_2:=h1.2.2;apply tO<;>intro h2
  .exact tR (SzT.nil)
  have h2_0:=eh1_0 h2;have h2_1:=eh1_1 h2;exact om
 intro s hs;cases s with
 |L0 E0 v3 v4=>
  obtain⟨cv4,i0,i1,i2,i3⟩:=hs;dsimp only[rL,PX,LT.den];apply tD<;>intro h1
  .refine tB (tK cm) λx1 h2=>?_;have q1:=wr (v4+1);exact om
  apply tN<;>intro h2
  .refine tB (oq) λx1 h3=>?_;have q1:x1.length<=100:=h3;exact tB (tK cm) λx2 h4=>tL ⟨cl,cs⟩ SR
  exact om
 |L1 E0 v3 v5=>
  obtain⟨cv5,i0,i1,i2⟩:=hs;dsimp only[rL,PY,LT.den];apply tD<;>intro h1
  .exact om
  exact Uw
 |L2 E0 v3 v5 v6=>
  obtain⟨cv5,cv6,bd2,i0,i1,i2,i3⟩:=hs;dsimp only[rL,PZ,LT.den];refine tB (tI O (by have e:(A5.list E0.Color).length=5:=rfl;omega)) λx1 h1=>?_;have ph1:=i1 x1 h1.1;apply tD<;>intro h2
  .have q1:=wr (v5+1);refine tB (Tot.slice O O (by first|omega|(simp only[bT,cg];omega))) λx2 h3=>?_;have lh3:=h3.1;refine tB (tK cm) λx3 h4=>?_;have q2:=wr (v6+1);exact om
  have q1:=wr (v5+1);exact om
def ZhO{a0:A6 Int}:Tot (P4 a0) (λr=>(SzT r)):=by apply tZ;dsimp only[P2,LT.den];exact tB (ZhL) λx1 h1=>tB (ZhN) λx2 h2=>tR h2
def ZhP{a0:Int}{a1:aj}(oa1:cG a1):Tot (P7 a0 a1) (λr=>True):=by
 apply tZ;dsimp only[P5,LT.den];apply tE<;>intro h1
 .exact Ut
 exact Ut
def iL:hX->Prop
 |.L0 E0 v5=>(cY E0)/\True
 |.L1 E0 v5 v6=>(cY E0)/\True
 |.L2 E0 v5 v6 v7=>(cY E0)/\True
 |.L3 E0 v5 v6 v7 v8=>(cY E0)/\True
 |.L4 E0 v5 v6 v7 v8 v9=>(cY E0)/\True
 |.L5 E0 v5 v6 v7 v8 v9 v10=>(cY E0)/\True
 |.L6 E0 v5 v6 v7 v8 v9 v10 v11=>(cY E0)/\True
 |.L7 v5 v6 v7 v8 v9 v10 v11 v12=>True
def jX:hX->M6
 |.L0 E0 v5=>(0,0,0,0,0,0)
 |.L1 E0 v5 v6=>(0,0,0,0,0,0)
 |.L2 E0 v5 v6 v7=>(0,0,0,0,0,0)
 |.L3 E0 v5 v6 v7 v8=>(0,0,0,0,0,0)
 |.L4 E0 v5 v6 v7 v8 v9=>(0,0,0,0,0,0)
 |.L5 E0 v5 v6 v7 v8 v9 v10=>(0,0,0,0,0,0)
 |.L6 E0 v5 v6 v7 v8 v9 v10 v11=>(0,0,0,0,0,0)
 |.L7 v5 v6 v7 v8 v9 v10 v11 v12=>(0,0,0,0,0,0)
def Z5b{v5:Bool}{v6:Bool}{v7:Bool}{v8:Bool}{v9:Bool}{v10:Bool}{v11:Bool}{v12:Bool}(h:True):Tot (Z21 v5 v6 v7 v8 v9 v10 v11 v12).den (Nx iL jX (0,0,0,0,0,0) (λr=>True)):=by
 dsimp only[Z21,LT.den];apply tF<;>intro h1
 .apply tF<;>intro h2
  .apply tF<;>intro h3
   .apply tF<;>intro h4
    .apply tF<;>intro h5
     .apply tF<;>intro h6
      .apply tF<;>intro h7
       .exact tR aa
       exact tR aa
      exact tR aa
     exact tR aa
    exact tR aa
   exact tR aa
  exact tR aa
 exact tR aa
def w4{E0:bh}{v5:Bool}{v6:Bool}{v7:Bool}{v8:Bool}{v9:Bool}{v10:Bool}{v11:Bool}(h:(cY E0)/\True):Tot (n4 E0 v5 v6 v7 v8 v9 v10 v11).den (Nx iL jX (0,0,0,0,0,0) (λr=>True)):=by
 obtain⟨O0,_⟩:=h;dsimp only[n4,LT.den];refine tB (kQ) λx1 h1=>?_;apply tF<;>intro h2
 .exact tB (ZhP O0.2.2.2.1) λx2 h3=>tJ (Z5b trivial)
 exact tJ (Z5b trivial)
def Z5c{E0:bh}{v5:Bool}{v6:Bool}{v7:Bool}{v8:Bool}{v9:Bool}{v10:Bool}(h:(cY E0)/\True):Tot (Z22 E0 v5 v6 v7 v8 v9 v10).den (Nx iL jX (0,0,0,0,0,0) (λr=>True)):=by
 obtain⟨O0,_⟩:=h;dsimp only[Z22,LT.den];refine tB (kQ) λx1 h1=>?_;apply tF<;>intro h2
 .apply tO<;>intro h3
  .exact tB (ZhO) λx2 h4=>tJ (w4 ⟨O0,aa⟩)
  exact tJ (w4 ⟨O0,aa⟩)
 exact tJ (w4 ⟨O0,aa⟩)
def Z5d{E0:bh}{v5:Bool}{v6:Bool}{v7:Bool}{v8:Bool}{v9:Bool}(h:(cY E0)/\True):Tot (Z23 E0 v5 v6 v7 v8 v9).den (Nx iL jX (0,0,0,0,0,0) (λr=>True)):=by
 obtain⟨O0,_⟩:=h;dsimp only[Z23,LT.den];have q1:=O0.2.2.2.2.1;refine tB (kQ) λx1 h1=>?_;apply tF<;>intro h2
 .exact tB (ZhJ O0.2.2.2.2) λx2 h3=>tJ (Z5c ⟨O0,aa⟩)
 exact tJ (Z5c ⟨O0,aa⟩)
def Z5e{E0:bh}{v5:Bool}{v6:Bool}{v7:Bool}{v8:Bool}(h:(cY E0)/\True):Tot (Z24 E0 v5 v6 v7 v8).den (Nx iL jX (0,0,0,0,0,0) (λr=>True)):=by
 obtain⟨O0,_⟩:=h;dsimp only[Z24,LT.den];refine tB (kQ) λx1 h1=>?_;apply tF<;>intro h2
 .exact tB (ZhI O0.2.1) λx2 h3=>tJ (Z5d ⟨O0,aa⟩)
 exact tJ (Z5d ⟨O0,aa⟩)
def TN{E0:bh}{v5:Bool}{v6:Bool}{v7:Bool}(h:(cY E0)/\True):Tot (n5 E0 v5 v6 v7).den (Nx iL jX (0,0,0,0,0,0) (λr=>True)):=by
 obtain⟨O0,_⟩:=h;dsimp only[n5,LT.den];refine tB (kQ) λx1 h1=>?_;apply tF<;>intro h2
 .exact tB (CP (SzS.t O0.2.2.1)) λx2 h3=>tJ (Z5e ⟨O0,aa⟩)
 exact tJ (Z5e ⟨O0,aa⟩)
def TJ{E0:bh}{v5:Bool}{v6:Bool}(h:iL (.L1 E0 v5 v6)):Tot (mi E0 v5 v6).den (Nx iL jX (0,0,0,0,0,0) (λr=>True)):=by
 obtain⟨O0,_⟩:=h;dsimp only[mi,LT.den];apply tE<;>intro h1
 .exact CB
 refine tB (kQ) λx1 h2=>?_;apply tF<;>intro h3
 .refine tB (U0) λx2 h4=>?_;have eh4_1:=h4.2;exact CB
 exact CB
def Z5f{E0:bh}{v5:Bool}(h:iL (.L0 E0 v5)):Tot (Z25 E0 v5).den (Nx iL jX (0,0,0,0,0,0) (λr=>True)):=by
 obtain⟨O0,_⟩:=h;dsimp only[Z25,LT.den];apply tE<;>intro h1
 .exact wK
 refine tB (kQ) λx1 h2=>?_;apply tF<;>intro h3
 .apply tD<;>intro h4
  .exact wK
  exact wK
 exact wK
def ZhQ{a0:bh}{a1:Int}(oa0:cY a0):Tot (Qa a0 a1) (λr=>True):=by
 apply Tot.rn iL jX
 .dsimp only[P8,LT.den];refine tB (ZhD) λx1 h1=>?_;apply tF<;>intro h2
  .exact tR aa
  refine tB (kQ) λx2 h3=>?_;apply tF<;>intro h4
  .exact tB (ZhH oa0.1) λx3 h5=>tJ (Z5f ⟨oa0,aa⟩)
  exact tJ (Z5f ⟨oa0,aa⟩)
 intro s hs;cases s with
 |L0 _ _=>exact Z5f hs
 |L1 _ _ _=>exact TJ hs
 |L2 _ _ _ _=>exact TN hs
 |L3 _ _ _ _ _=>exact Z5e hs
 |L4 _ _ _ _ _ _=>exact Z5d hs
 |L5 _ _ _ _ _ _ _=>exact Z5c hs
 |L6 _ _ _ _ _ _ _ _=>exact w4 hs
 |L7 _ _ _ _ _ _ _ _=>exact Z5b hs
def ZhR:rM->Prop
 |.L0 v0 v1 v5=>((SzL 560 cY) v0)/\(0<=v5)
def Z1r:rM->M6
 |.L0 v0 v1 v5=>(1,((v0.length:Int)-v5).toNat,1000000,0,0,0)
def ZhS{a0:List bh}{a1:Int}(oa0:(SzL 560 cY) a0):Tot (Qd a0 a1) (λr=>True):=by
 apply Tot.rn ZhR Z1r
 .have lb_a0:=oa0.1;dsimp only[Qc,LT.den];exact tL ⟨oa0,cl⟩ Tm
 rintro⟨v0,v1,v5⟩ ⟨ov0,cv5⟩;have lb_v0:=ov0.1;dsimp only[Z4e,Qb,LT.den];have q1:=ov0.1;apply tD<;>intro h1
 .refine Tot.ix λx1 h2=>?_;have oh2:cY x1:=ov0.2 x1 h2.1;refine tB (ZhQ oh2) λx2 h3=>?_;apply tO<;>intro h4
  .exact tR aa
  have q2:=wr (v5+1);exact tL ⟨ov0,cl⟩ Tm
 exact CC
def iM:jT->Prop
 |.L0 E0 v3=>(cV E0)/\True
 |.L1 E0 v3=>(cV E0)/\True
 |.L2 E0 v3=>(cV E0)/\True
 |.L3 E0 v3=>(cV E0)/\True
 |.L4 E0 v3=>(cV E0)/\True
def ou:jT->M6
 |.L0 E0 v3=>(0,0,0,0,0,0)
 |.L1 E0 v3=>(0,0,0,0,0,0)
 |.L2 E0 v3=>(0,0,0,0,0,0)
 |.L3 E0 v3=>(0,0,0,0,0,0)
 |.L4 E0 v3=>(0,0,0,0,0,0)
def Z5g{E0:an}{v3:Bool}(h:iM (.L4 E0 v3)):Tot (Z26 E0 v3).den (Nx iM ou (0,0,0,0,0,0) (λr=>True)):=by
 obtain⟨O0,_⟩:=h;dsimp only[Z26,LT.den];apply tF<;>intro h1
 .refine tB (ZhC O0.2.2.2.1) λx1 h2=>?_;apply tF<;>intro h3
  .have q1:=O0.2.2.2.1.1;exact tB (ZhS O0.2.2.2.2.1) λx2 h4=>tR trivial
  exact tR aa
 have q1:=O0.2.2.2.1.1;apply tE<;>intro h2
 .have q2:=O0.2.2.2.2.1.1;exact tR aa
 exact tR aa
def Z5h{E0:an}{v3:Bool}(h:iM (.L3 E0 v3)):Tot (Z27 E0 v3).den (Nx iM ou (0,0,0,0,0,0) (λr=>True)):=by
 obtain⟨O0,_⟩:=h;dsimp only[Z27,LT.den];apply tE<;>intro h1
 .refine tB (Zhz O0.2.2.2.2.2) λx1 h2=>?_;apply tO<;>intro h3
  .exact tR aa
  exact tJ (Z5g ⟨O0,aa⟩)
 apply tO<;>intro h2
 .exact tR aa
 exact tJ (Z5g ⟨O0,aa⟩)
def Z5i{E0:an}{v3:Bool}(h:iM (.L2 E0 v3)):Tot (Z28 E0 v3).den (Nx iM ou (0,0,0,0,0,0) (λr=>True)):=by
 obtain⟨O0,_⟩:=h;dsimp only[Z28,LT.den];apply tE<;>intro h1
 .refine tB (Zhw O0.2.2.1) λx1 h2=>?_;apply tO<;>intro h3
  .exact tR aa
  exact tJ (Z5h ⟨O0,aa⟩)
 apply tO<;>intro h2
 .exact tR aa
 apply tF<;>intro h3
 .exact tR aa
 exact tJ (Z5h ⟨O0,aa⟩)
def Z5j{E0:an}{v3:Bool}(h:iM (.L1 E0 v3)):Tot (Z29 E0 v3).den (Nx iM ou (0,0,0,0,0,0) (λr=>True)):=by
 obtain⟨O0,_⟩:=h;dsimp only[Z29,LT.den];apply tE<;>intro h1
 .refine tB (Zhu) λx1 h2=>?_;apply tO<;>intro h3
  .exact tR aa
  exact tJ (Z5i ⟨O0,aa⟩)
 apply tO<;>intro h2
 .exact tR aa
 apply tF<;>intro h3
 .exact tR aa
 exact tJ (Z5i ⟨O0,aa⟩)
def TH{E0:an}{v3:Bool}(h:iM (.L0 E0 v3)):Tot (n6 E0 v3).den (Nx iM ou (0,0,0,0,0,0) (λr=>True)):=by
 obtain⟨O0,_⟩:=h;dsimp only[n6,LT.den];apply tE<;>intro h1
 .refine tB (jV O0.1) λx1 h2=>?_;have eh2_0:=h2.1;have eh2_1:=h2.2;apply tO<;>intro h3
  .exact tR aa
  have h3_0:=eh2_0 h3;apply tN<;>intro h4
  .exact tR aa
  refine tB (CX O0.2.1) λx2 h5=>?_;apply tF<;>intro h6
  .exact tR aa
  exact tJ (Z5j ⟨O0,aa⟩)
 apply tO<;>intro h2
 .exact tR aa
 have q1:=O0.2.1.1;apply tD<;>intro h3
 .exact tR aa
 exact tJ (Z5j ⟨O0,aa⟩)
def Z6r{a0:an}(oa0:cV a0):Tot (Qg a0) (λr=>True):=by
 apply Tot.rn iM ou
 .dsimp only[Qe,LT.den];apply tD<;>intro h1
  .exact tR aa
  apply tD<;>intro h2
  .exact tR aa
  apply tE<;>intro h3
  .exact Cy
  apply tE<;>intro h4
  .exact Cy
  exact Cy
 intro s hs;cases s with
 |L0 _ _=>exact TH hs
 |L1 _ _=>exact Z5j hs
 |L2 _ _=>exact Z5i hs
 |L3 _ _=>exact Z5h hs
 |L4 _ _=>exact Z5g hs
def ZhT{a0:aw}(oa0:ca a0):Tot (Qj a0) (λr=>True):=by apply tZ;dsimp only[Qh,LT.den];exact TX
def C2(a0:aw):Z08->Prop
 |.L0 E0=>(E0=a0)/\(ca E0)/\(E0.Abilities.length<=8)
 |.L1 E0 v3 v4=>(E0=a0)/\(ca E0)/\(0<=v4)/\(E0.Abilities.length<=8)
def wU:Z08->M6
 |.L0 E0=>(2,0,0,0,0,0)
 |.L1 E0 v3 v4=>(1,((E0.Abilities.length:Int)-v4).toNat,1000000,0,0,0)
def Z5k{a0:aw}{E0:aw}(h:(C2 a0) (.L0 E0)):Tot (Z3a E0).den (Nx (C2 a0) wU (2,0,0,0,0,0) (λr=>(r=true->a0.Abilities.length<=8))):=by obtain⟨al0,O0,i0⟩:=h;subst al0;dsimp only[Z3a,LT.den];exact CG
def ZhU{a0:aw}(oa0:ca a0):Tot (Qm a0) (λr=>(r=true->a0.Abilities.length<=8)):=by
 apply Tot.rn (C2 a0) wU
 .dsimp only[Ql,LT.den];refine tB (CP (SzS.t oa0.1)) λx1 h1=>?_;apply tO<;>intro h2
  .exact cT
  refine tB (CQ a0.Cost) λx2 h3=>?_;have eh3_0:=h3.1;have eh3_1:=h3.2.1;have eh3_2:=h3.2.2;apply tO<;>intro h4
  .exact cT
  have h4_0:=eh3_0 h4;have h4_1:=eh3_1 h4;refine tB (Zg7 oa0.2.1) λx3 h5=>?_;apply tO<;>intro h6
  .exact cT
  refine tB (UM) λx4 h7=>?_;apply tO<;>intro h8
  .exact cT
  apply tD<;>intro h9
  .exact cT
  apply tD<;>intro h10
  .exact cT
  apply tD<;>intro h11
  .exact cT
  apply tD<;>intro h12
  .exact cT
  apply tD<;>intro h13
  .exact cT
  apply tD<;>intro h14
  .exact cT
  refine tB (Zg8 oa0) λx5 h15=>?_;apply tO<;>intro h16
  .apply tN<;>intro h17
   .exact cT
   apply tN<;>intro h18
   .exact cT
   have q1:=oa0.2.2.1;apply tD<;>intro h19
   .exact cT
   exact tJ (Z5k ⟨rfl,oa0,cl⟩)
  have q1:=oa0.2.2.1;apply tD<;>intro h17
  .exact cT
  exact tJ (Z5k ⟨rfl,oa0,cl⟩)
 intro s hs;cases s with
 |L0 _=>exact Z5k hs
 |L1 E0 v3 v4=>
  obtain⟨al0,O0,cv4,i0⟩:=hs;subst al0;dsimp only[Bt,Qk,LT.den,wU];have q1:=O0.2.2.1;apply tD<;>intro h1
  .refine Tot.ix λx1 h2=>?_;have oh2:cV x1:=O0.2.2.2 x1 h2.1;refine tB (Z6r oh2) λx2 h3=>?_;apply tO<;>intro h4
   .exact cT
   apply tE<;>intro h5
   .have q2:=wr (v3+1);have q3:=wr (v4+1);exact CG
   have q2:=wr (v4+1);exact CG
  refine tB (ZhT O0) λx1 h2=>?_;apply tF<;>intro h3
  .apply tO<;>intro h4
   .apply tE<;>intro h5
    .exact Uv
    exact cT
   exact cT
  apply tE<;>intro h4
  .apply tO<;>intro h5
   .exact Uv
   exact cT
  exact cT
def ZhV:rN->Prop
 |.L0 v0 v1 v5=>((SzL 176 ca) v0)/\(SzT v1)/\(0<=v5)
def SQ:rN->M6
 |.L0 v0 v1 v5=>(1,((v0.length:Int)-v5).toNat,1000000,0,0,0)
def ZhW{a0:List aw}{a1:List UInt8}(oa0:(SzL 176 ca) a0)(oa1:SzT a1):Tot (Qp a0 a1) (λr=>True):=by
 apply Tot.rn ZhV SQ
 .have lb_a0:=oa0.1;have lb_a1:a1.length<=562949953421312:=oa1;dsimp only[Qo,LT.den];exact tL ⟨oa0,oa1,cl⟩ SP
 rintro⟨v0,v1,v5⟩ ⟨ov0,ov1,cv5⟩;have lb_v0:=ov0.1;have lb_v1:v1.length<=562949953421312:=ov1;dsimp only[Bu,Qn,LT.den];have q1:=ov0.1;apply tD<;>intro h1
 .refine Tot.ix λx1 h2=>?_;have oh2:ca x1:=ov0.2 x1 h2.1;apply tF<;>intro h3
  .exact tR aa
  have q2:=wr (v5+1);exact tL ⟨ov0,ov1,cl⟩ SP
 exact tR aa
def ZhX:rO->Prop
 |.L0 v0 v1 v5=>((SzL 176 ca) v0)/\(SzT v1)/\(0<=v5)
def Z8x:rO->M6
 |.L0 v0 v1 v5=>(1,((v0.length:Int)-v5).toNat,1000000,0,0,0)
def ZhY{a0:List aw}{a1:List UInt8}(oa0:(SzL 176 ca) a0)(oa1:SzT a1):Tot (Qs a0 a1) (λr=>True):=by
 apply Tot.rn ZhX Z8x
 .have lb_a0:=oa0.1;have lb_a1:a1.length<=562949953421312:=oa1;dsimp only[Qr,LT.den];exact tL ⟨oa0,oa1,cl⟩ Tb
 rintro⟨v0,v1,v5⟩ ⟨ov0,ov1,cv5⟩;have lb_v0:=ov0.1;have lb_v1:v1.length<=562949953421312:=ov1;dsimp only[Bv,Qq,LT.den];have q1:=ov0.1;apply tD<;>intro h1
 .refine Tot.ix λx1 h2=>?_;have oh2:ca x1:=ov0.2 x1 h2.1;apply tF<;>intro h3
  .apply tF<;>intro h4
   .exact tR aa
   exact Ul
  exact Ul
 exact tR aa
def ZhZ:n7->Prop
 |.L0 v0 E0 v5=>((SzL 176 ca) v0)/\(ca E0)/\(0<=v5)
 |.L1 v0 E0 v5 v6=>((SzL 176 ca) v0)/\(ca E0)/\(0<=v5)/\(0<=v6)/\(v5<(E0.Abilities.length:Int))/\(v5<(E0.Abilities.length:Int))
def UJ:n7->M6
 |.L0 v0 E0 v5=>(1,((E0.Abilities.length:Int)-v5).toNat,1000000,0,0,0)
 |.L1 v0 E0 v5 v6=>(1,((E0.Abilities.length:Int)-v5).toNat,1,((((E0.Abilities[v5.toNat]?).map λx=>x.Effects.length).getD 0:Nat)-v6).toNat,1000000,0)
def Zh0{a0:List aw}{a1:aw}(oa0:(SzL 176 ca) a0)(oa1:ca a1):Tot (Qw a0 a1) (λr=>True):=by
 apply Tot.rn ZhZ UJ
 .have lb_a0:=oa0.1;dsimp only[Qv,LT.den];exact tL ⟨oa0,oa1,cl⟩ CH
 intro s hs;cases s with
 |L0 v0 E0 v5=>
  obtain⟨ov0,O0,cv5⟩:=hs;have lb_v0:=ov0.1;dsimp only[vJ,Qt,LT.den];have q1:=O0.2.2.1;apply tD<;>intro h1
  .exact Uf
  exact tR aa
 |L1 v0 E0 v5 v6=>
  obtain⟨ov0,O0,cv5,cv6,bd4,i0⟩:=hs;have lb_v0:=ov0.1;dsimp only[vJ,Qu,LT.den];have lx_0:E0.Abilities.length*640<=140737488351232:=O0.2.2.1;refine Tot.ix λx1 h1=>?_;have oh1:cV x1:=O0.2.2.2 x1 h1.1;have mh1:((E0.Abilities[v5.toNat]?).map λx=>x.Effects.length).getD 0=x1.Effects.length:=by rw[h1.2];rfl
  have q1:=oh1.2.2.2.2.1.1;apply tD<;>intro h2
  .refine Tot.ix λx2 h3=>?_;have oh3:cY x2:=oh1.2.2.2.2.1.2 x2 h3.1;apply tE<;>intro h4
   .refine tB (ZhY ov0 (SzS.t oh3.2.2.1)) λx3 h5=>?_;apply tO<;>intro h6
    .exact tR aa
    exact Uo
   exact Uo
  have q2:=wr (v5+1);exact tL ⟨ov0,O0,cl⟩ CH
def Zh1(a0:List aw):rP->Prop
 |.L0 v0 v4=>(v0=a0)/\((SzL 176 ca) v0)/\(0<=v4)/\(∀(k:Nat) c,(k:Int)<v4->v0[k]?=some c->c.Abilities.length<=8)
def Z8y:rP->M6
 |.L0 v0 v4=>(1,((v0.length:Int)-v4).toNat,1000000,0,0,0)
def Zh2{a0:List aw}(oa0:(SzL 176 ca) a0):Tot (Qz a0) (λr=>(r.2=0->∀c,c∈a0->c.Abilities.length<=8)):=by
 apply Tot.rn (Zh1 a0) Z8y
 .have lb_a0:=oa0.1;dsimp only[Qy,LT.den];have q1:=oa0.1;apply tD<;>intro h1
  .exact sC
  exact tL ⟨rfl,oa0,cl,tk19⟩ Ta
 rintro⟨v0,v4⟩ ⟨al0,ov0,cv4,i0⟩;have lb_v0:=ov0.1;subst al0;dsimp only[Bw,Qx,LT.den];have q1:=ov0.1;apply tD<;>intro h1
 .refine Tot.ix λx1 h2=>?_;have oh2:ca x1:=ov0.2 x1 h2.1;have mh2:=h2.2;refine tB (ZhU oh2) λx2 h3=>?_;have eh3_0:=h3;apply tO<;>intro h4
  .exact sC
  have h4_0:=eh3_0 h4;refine tB (ZhW ov0 (SzS.t oh2.1)) λx3 h5=>?_;apply tD<;>intro h6
  .exact sC
  refine tB (Zh0 ov0 oh2) λx4 h7=>?_;apply tO<;>intro h8
  .exact sC
  have q2:=wr (v4+1);exact tL ⟨rfl,ov0,cl,tk19⟩ Ta
 exact sC
def gz{a0:Int}{a1:Int}{a2:Int}:Tot (QC a0 a1 a2) (λr=>(r=true↔(a1<=a0/\a0<=a2))):=by
 apply tZ;dsimp only[QA,LT.den];apply tD<;>intro h1
 .exact tR dq
 exact tR dq
def Zh3:rQ->Prop
 |.L0 E0 v3=>(0<=v3)/\True
def Ua:rQ->M6
 |.L0 E0 v3=>(1,(6-v3).toNat,1000000,0,0,0)
def Zh4{a0:A6 Int}:Tot (QF a0) (λr=>True):=by
 apply Tot.rn Zh3 Ua
 .dsimp only[QE,LT.den];exact T9
 rintro⟨E0,v3⟩ ⟨cv3,_⟩;dsimp only[Bx,QD,LT.den];apply tD<;>intro h1
 .refine tB (tI O tk96) λx1 h2=>?_;apply tD<;>intro h3
  .exact tR aa
  refine tB (tI O tk96) λx2 h4=>?_;apply tD<;>intro h5
  .exact tR aa
  have q1:=wr (v3+1);exact T9
 exact tR aa
def Zh5(a0:ab)(a1:Int):rR->Prop
 |.L0 v1 E0 v5=>(E0=a0)/\(v1=a1)/\(aR E0)/\(0<=v5)/\(NoId E0.Objects v1 v5)
def Z8z:rR->M6
 |.L0 v1 E0 v5=>(1,((E0.Objects.length:Int)-v5).toNat,1000000,0,0,0)
def Zh6{a0:ab}{a1:Int}(oa0:aR a0):Tot (QI a0 a1) (λr=>(r<(a0.Objects.length:Int))/\(r=ixO a0.Objects a1)):=by
 apply Tot.rn (Zh5 a0 a1) Z8z
 .dsimp only[QH,LT.den];exact tL ⟨rfl,rfl,oa0,cl,tk32⟩ S9
 rintro⟨v1,E0,v5⟩ ⟨al0,al1,O0,cv5,i0⟩;subst al0;subst al1;dsimp only[Bz,QG,LT.den];have q1:=O0.2.1.1;apply tD<;>intro h1
 .refine Tot.ix λx1 h2=>?_;have mh2:=h2.2;apply tE<;>intro h3
  .exact Us
  have q2:=wr (v5+1);exact tL ⟨rfl,rfl,O0,cl,tk32⟩ S9
 exact Us
def Zh7{a0:ab}{a1:Int}(oa0:aR a0):Tot (QL a0 a1) (λr=>(r=fdV a0.Objects a1)):=by
 apply tZ;dsimp only[QJ,LT.den];refine tB (Zh6 oa0) λx1 h1=>?_;have eh1_0:=h1.1;have eh1_1:=h1.2;have lh1:=JX a0.Objects a1;apply tD<;>intro h2
 .exact Ur
 refine Tot.ix λx2 h3=>?_;have mh3:=h3.2;exact Ur
def U1{a0:ab}{a1:Int}(oa0:aR a0):Tot (QO a0 a1) (λr=>True):=by apply tZ;dsimp only[QM,LT.den];exact tB (Zh7 oa0) λx1 h1=>tR trivial
def Zh8:rS->Prop
 |.L0 v0 v1 v5 v6=>((SzL 8 (λ_=>True)) v0)/\(0<=v6)
def Z80:rS->M6
 |.L0 v0 v1 v5 v6=>(1,((v0.length:Int)-v6).toNat,1000000,0,0,0)
def Z5l{a0:List Int}{a1:Int}(oa0:(SzL 8 (λ_=>True)) a0):Tot (QS a0 a1) (λr=>True):=by
 apply Tot.rn Zh8 Z80
 .have lb_a0:=oa0.1;dsimp only[QR,LT.den];exact tL ⟨oa0,cl⟩ Tg
 rintro⟨v0,v1,v5,v6⟩ ⟨ov0,cv6⟩;have lb_v0:=ov0.1;dsimp only[BA,QQ,LT.den];have q1:=ov0.1;apply tD<;>intro h1
 .refine Tot.ix λx1 h2=>?_;apply tE<;>intro h3
  .have q2:=wr (v5+1);have q3:=wr (v6+1);exact TZ
  have q2:=wr (v6+1);exact TZ
 exact tR aa
def Zh9:rT->Prop
 |.L0 v1 v2 v3 E0 v9=>((SzL 8 (λ_=>True)) v1)/\(aR E0)/\(0<=v9)
def SO:rT->M6
 |.L0 v1 v2 v3 E0 v9=>(1,((v1.length:Int)-v9).toNat,1000000,0,0,0)
def sI{a0:ab}{a1:List Int}{a2:Int}{a3:Int}(oa0:aR a0)(oa1:(SzL 8 (λ_=>True)) a1):Tot (QV a0 a1 a2 a3) (λr=>True):=by
 apply Tot.rn Zh9 SO
 .have lb_a1:=oa1.1;dsimp only[QU,LT.den];exact tL ⟨oa1,oa0,cl⟩ SN
 rintro⟨v1,v2,v3,E0,v9⟩ ⟨ov1,O0,cv9⟩;have lb_v1:=ov1.1;dsimp only[BB,QT,LT.den];have q1:=ov1.1;apply tD<;>intro h1
 .refine Tot.ix λx1 h2=>tB (U1 O0) λx2 h3=>?_;apply tO<;>intro h4
  .exact tR aa
  apply tN<;>intro h5
  .exact tR aa
  apply tD<;>intro h6
  .apply tN<;>intro h7
   .exact tR aa
   refine tB (Z5l ov1) λx3 h8=>?_;apply tN<;>intro h9
   .exact tR aa
   exact Un
  refine tB (Z5l ov1) λx3 h7=>?_;apply tN<;>intro h8
  .exact tR aa
  exact Un
 exact tR aa
def Zia:rV->Prop
 |.L0 E0 v3=>(aR E0)/\(0<=v3)
def Z1s:rV->M6
 |.L0 E0 v3=>(1,((E0.Players.length:Int)-v3).toNat,1000000,0,0,0)
def Zib{a0:ab}(oa0:aR a0):Tot (QY a0) (λr=>True):=by
 apply Tot.rn Zia Z1s
 .dsimp only[QX,LT.den];have q1:=oa0.1.1;refine tB (gz) λx1 h1=>?_;apply tO<;>intro h2
  .exact tR aa
  exact tL ⟨oa0,cl⟩ Tl
 rintro⟨E0,v3⟩ ⟨O0,cv3⟩;dsimp only[Z4f,QW,LT.den];have q1:=O0.1.1;apply tD<;>intro h1
 .refine Tot.ix λx1 h2=>?_;have oh2:fK x1:=O0.1.2 x1 h2.1;refine tB (gz) λx2 h3=>?_;apply tO<;>intro h4
  .exact tR aa
  refine tB (gz) λx3 h5=>?_;apply tO<;>intro h6
  .exact tR aa
  refine tB (gz) λx4 h7=>?_;apply tO<;>intro h8
  .exact tR aa
  refine tB (Zh4) λx5 h9=>?_;apply tO<;>intro h10
  .exact tR aa
  refine tB (sI O0 oh2.1) λx6 h11=>?_;apply tO<;>intro h12
  .exact tR aa
  refine tB (sI O0 oh2.2.1) λx7 h13=>?_;apply tO<;>intro h14
  .exact tR aa
  refine tB (sI O0 oh2.2.2) λx8 h15=>?_;apply tO<;>intro h16
  .exact tR aa
  have q2:=wr (v3+1);exact tL ⟨O0,cl⟩ Tl
 refine tB (sI O0 O0.2.2.1) λx1 h2=>?_;apply tF<;>intro h3
 .exact tB (sI O0 O0.2.2.2.1) λx2 h4=>tR trivial
 exact tR aa
def mH{a0:ab}{a1:Int}(oa0:aR a0):Tot (Q1 a0 a1) (λr=>(r=true↔(0<=a1/\a1<(a0.Players.length:Int)))):=by apply tZ;dsimp only[QZ,LT.den];have q1:=oa0.1.1;have q2:=wr ((a0.Players.length:Int)-1);exact tB (gz) λx1 h1=>tR dq
def Zic:Z7n->Prop
 |.L0 E0 v3=>(0<=v3)/\True
def T4:Z7n->M6
 |.L0 E0 v3=>(1,(3-v3).toNat,1000000,0,0,0)
def Zid{a0:A3 Int}:Tot (Q4 a0) (λr=>True):=by
 apply Tot.rn Zic T4
 .dsimp only[Q3,LT.den];exact T0
 rintro⟨E0,v3⟩ ⟨cv3,_⟩;dsimp only[BC,Q2,LT.den];apply tD<;>intro h1
 .refine tB (tI O (by have e:(A3.list E0).length=3:=rfl;omega)) λx1 h2=>?_;apply tD<;>intro h3
  .exact tR aa
  refine tB (tI O (by have e:(A3.list E0).length=3:=rfl;omega)) λx2 h4=>?_;apply tD<;>intro h5
  .exact tR aa
  have q1:=wr (v3+1);exact T0
 exact tR aa
def Zie{a0:ak}:Tot (Q7 a0) (λr=>True):=by apply tZ;dsimp only[Q5,LT.den];exact tR aa
def Zif{a0:ak}:Tot (Ra a0) (λr=>True):=by apply tZ;dsimp only[Q8,LT.den];exact tR aa
def Zig{a0:ak}{a1:Int}{a2:Int}:Tot (Re a0 a1 a2) (λr=>(r=true->1<=a0.Id)):=by
 apply tZ;dsimp only[Rb,LT.den];apply tD<;>intro h1
 .exact bX
 apply tD<;>intro h2
 .exact bX
 apply tD<;>intro h3
 .exact bX
 apply tD<;>intro h4
 .exact bX
 apply tD<;>intro h5
 .exact bX
 apply tD<;>intro h6
 .exact bX
 apply tD<;>intro h7
 .exact bX
 apply tD<;>intro h8
 .exact bX
 apply tD<;>intro h9
 .exact bX
 apply tD<;>intro h10
 .exact bX
 apply tD<;>intro h11
 .exact bX
 apply tD<;>intro h12
 .exact bX
 apply tD<;>intro h13
 .exact bX
 apply tD<;>intro h14
 .exact bX
 apply tD<;>intro h15
 .exact bX
 apply tD<;>intro h16
 .exact bX
 apply tD<;>intro h17
 .exact bX
 refine tB (Zid) λx1 h18=>?_;apply tO<;>intro h19
 .exact bX
 apply tD<;>intro h20
 .exact bX
 apply tD<;>intro h21
 .exact bX
 apply tD<;>intro h22
 .exact bX
 apply tD<;>intro h23
 .exact bX
 apply tE<;>intro h24
 .exact wP
 refine tB (Zie) λx2 h25=>?_;apply tF<;>intro h26
 .refine tB (Zif) λx3 h27=>?_;apply tF<;>intro h28
  .apply tO<;>intro h29
   .apply tO<;>intro h30
    .exact wP
    exact bX
   exact bX
  exact bX
 exact bX
def Zih:rW->Prop
 |.L0 v1 E0 v5 v6=>(aR E0)/\(0<=v6)
def Z5m:rW->M6
 |.L0 v1 E0 v5 v6=>(1,((E0.Stack.length:Int)-v6).toNat,1000000,0,0,0)
def Zii{a0:ab}{a1:Int}(oa0:aR a0):Tot (Rh a0 a1) (λr=>True):=by
 apply Tot.rn Zih Z5m
 .dsimp only[Rg,LT.den];exact tL ⟨oa0,cl⟩ Th
 rintro⟨v1,E0,v5,v6⟩ ⟨O0,cv6⟩;dsimp only[Z7o,Rf,LT.den];have q1:=O0.2.2.2.2.1.1;apply tD<;>intro h1
 .refine Tot.ix λx1 h2=>?_;have oh2:eX x1:=O0.2.2.2.2.1.2 x1 h2.1;apply tE<;>intro h3
  .apply tE<;>intro h4
   .have q2:=wr (v5+1);have q3:=wr (v6+1);exact Ud
   exact Um
  exact Um
 exact tR aa
def sJ{a0:List Int}(oa0:(SzL 8 (λ_=>True)) a0):Tot (Rk a0) (λr=>((SzL 8 (λ_=>True)) r)/\(r=a0)):=by
 apply tZ;have lb_a0:=oa0.1;dsimp only[Ri,LT.den];have q1:=oa0.1;refine Tot.ap λx1 h1=>?_;have lh1:x1.length=([]:List Int).length+a0.length:=by rw[h1,bF]
 try simp only[bT,cg,aM]at lh1
 exact tR ⟨SzL.tr,(by first|assumption|(simpa using(by assumption:r=[]++a0))|grind)⟩
def Zij{a0:ab}{a1:Int}{a2:Int}(oa0:aR a0):Tot (BD a0 a1 a2) (λr=>((SzL 8 (λ_=>True)) r)):=by
 apply tZ;dsimp only[Rl,LT.den];apply tE<;>intro h1
 .refine tB (sJ oa0.2.2.1) λx1 h2=>?_;have eh2_1:=h2.2;exact tR h2.1
 apply tE<;>intro h2
 .refine tB (sJ oa0.2.2.2.1) λx1 h3=>?_;have eh3_1:=h3.2;exact tR h3.1
 apply tD<;>intro h3
 .exact tR SzL.nil
 have q1:=oa0.1.1;apply tD<;>intro h4
 .exact tR SzL.nil
 apply tE<;>intro h5
 .refine Tot.ix λx1 h6=>?_;have oh6:fK x1:=oa0.1.2 x1 h6.1;refine tB (sJ oh6.2.1) λx2 h7=>?_;have eh7_1:=h7.2;exact tR h7.1
 apply tE<;>intro h6
 .refine Tot.ix λx1 h7=>?_;have oh7:fK x1:=oa0.1.2 x1 h7.1;refine tB (sJ oh7.1) λx2 h8=>?_;have eh8_1:=h8.2;exact tR h8.1
 apply tE<;>intro h7
 .refine Tot.ix λx1 h8=>?_;have oh8:fK x1:=oa0.1.2 x1 h8.1;refine tB (sJ oh8.2.2) λx2 h9=>?_;exact zf
 exact tR SzL.nil
def U2{a0:ab}{a1:ak}(oa0:aR a0):Tot (Rp a0 a1) (λr=>True):=by
 apply tZ;dsimp only[Rn,LT.den];apply tE<;>intro h1
 .exact tB (Zii oa0) λx1 h2=>tR trivial
 exact tB (Zij oa0) λx1 h2=>tB (Z5l h2) λx2 h3=>tR trivial
def Zik(a0:List aw)(a1:ab):rY->Prop
 |.L0 v0 E0 v5=>(v0=a0)/\(E0=a1)/\((SzL 176 ca) v0)/\(aR E0)/\(0<=v5)/\(Cons E0.Objects v5)
def Z1t:rY->M6
 |.L0 v0 E0 v5=>(1,((E0.Objects.length:Int)-v5).toNat,1000000,0,0,0)
def w5{a0:List aw}{a1:ab}(oa0:(SzL 176 ca) a0)(oa1:aR a1):Tot (Rt a0 a1) (λr=>(r=true->Ids a1.Objects)/\(r=true->SrtO a1.Objects)):=by
 apply Tot.rn (Zik a0 a1) Z1t
 .have lb_a0:=oa0.1;dsimp only[Rs,LT.den];have q1:=oa1.2.1.1;apply tD<;>intro h1
  .exact kN
  exact tL ⟨rfl,rfl,oa0,oa1,cl,tk4⟩ Tk
 rintro⟨v0,E0,v5⟩ ⟨al0,al1,ov0,O0,cv5,i0⟩;have lb_v0:=ov0.1;subst al0;subst al1;dsimp only[Z4g,Rr,LT.den];have q1:=O0.2.1.1;apply tD<;>intro h1
 .refine Tot.ix λx1 h2=>?_;have mh2:=h2.2;have q2:=ov0.1;have q3:=O0.1.1;refine tB (Zig) λx2 h3=>?_;have eh3_0:=h3;apply tO<;>intro h4
  .exact kN
  have h4_0:=eh3_0 h4;apply tD<;>intro h5
  .exact kN
  apply tD<;>intro h6
  .exact kN
  apply tD<;>intro h7
  .have q4:=wr (v5-1);refine Tot.ix λx3 h8=>?_;have mh8:=h8.2;apply tD<;>intro h9
   .exact kN
   refine tB (U2 O0) λx4 h10=>?_;apply tO<;>intro h11
   .exact kN
   have q5:=wr (v5+1);exact Uy
  refine tB (U2 O0) λx3 h8=>?_;apply tO<;>intro h9
  .exact kN
  have q4:=wr (v5+1);exact Uy
 exact kN
def Zil(a0:List ai)(a1:List ai):rZ->Prop
 |.L0 v0 v1 v5=>(v0=a0)/\(v1=a1)/\((SzL 176 Z5) v0)/\((SzL 176 Z5) v1)/\(0<=v5)/\(v0.length=v1.length)
def S4:rZ->M6
 |.L0 v0 v1 v5=>(1,((v0.length:Int)-v5).toNat,1000000,0,0,0)
def Z81{a0:List ai}{a1:List ai}(oa0:(SzL 176 Z5) a0)(oa1:(SzL 176 Z5) a1):Tot (Rw a0 a1) (λr=>(a0=a1->r=true)):=by
 apply Tot.rn (Zil a0 a1) S4
 .have lb_a0:=oa0.1;have lb_a1:=oa1.1;dsimp only[Rv,LT.den];have q1:=oa0.1;have q2:=oa1.1;apply tN<;>intro h1
  .exact tR dI
  exact tL ⟨rfl,rfl,oa0,oa1,cs⟩ S3
 rintro⟨v0,v1,v5⟩ ⟨al0,al1,ov0,ov1,cv5,i0⟩;have lb_v0:=ov0.1;have lb_v1:=ov1.1;subst al0;subst al1;dsimp only[Z09,Ru,LT.den];have q1:=ov0.1;apply tD<;>intro h1
 .refine Tot.ix λx1 h2=>?_;have oh2:Z5 x1:=ov0.2 x1 h2.1;have mh2:=h2.2;refine Tot.ix λx2 h3=>?_;have oh3:Z5 x2:=ov1.2 x2 h3.1;have mh3:=h3.2;apply tO<;>intro h4
  .exact tR dI
  have q2:=wr (v5+1);exact tL ⟨rfl,rfl,ov0,ov1,cs⟩ S3
 exact tR dI
def Zim{a0:bh}{a1:bh}(oa0:cY a0)(oa1:cY a1):Tot (RE a0 a1) (λr=>(a0=a1->r=true)):=by
 apply tZ;dsimp only[Ry,LT.den];apply tE<;>intro h1
 .apply tF<;>intro h2
  .apply tF<;>intro h3
   .apply tE<;>intro h4
    .apply tE<;>intro h5
     .apply tF<;>intro h6
      .apply tF<;>intro h7
       .apply tF<;>intro h8
        .exact tB (Z81 oa0.2.2.2.2 oa1.2.2.2.2) λx1 h9=>tR dI
        exact tR dI
       exact tR dI
      exact tR dI
     exact tR dI
    exact tR dI
   exact tR dI
  exact tR dI
 exact tR dI
def Zin(a0:List bh)(a1:List bh):r3->Prop
 |.L0 v0 v1 v5=>(v0=a0)/\(v1=a1)/\((SzL 560 cY) v0)/\((SzL 560 cY) v1)/\(0<=v5)/\(v0.length=v1.length)
def S2:r3->M6
 |.L0 v0 v1 v5=>(1,((v0.length:Int)-v5).toNat,1000000,0,0,0)
def Zio{a0:List bh}{a1:List bh}(oa0:(SzL 560 cY) a0)(oa1:(SzL 560 cY) a1):Tot (RH a0 a1) (λr=>(a0=a1->r=true)):=by
 apply Tot.rn (Zin a0 a1) S2
 .have lb_a0:=oa0.1;have lb_a1:=oa1.1;dsimp only[RG,LT.den];have q1:=oa0.1;have q2:=oa1.1;apply tN<;>intro h1
  .exact tR dI
  exact tL ⟨rfl,rfl,oa0,oa1,cs⟩ S1
 rintro⟨v0,v1,v5⟩ ⟨al0,al1,ov0,ov1,cv5,i0⟩;have lb_v0:=ov0.1;have lb_v1:=ov1.1;subst al0;subst al1;dsimp only[Z1a,RF,LT.den];have q1:=ov0.1;apply tD<;>intro h1
 .refine Tot.ix λx1 h2=>?_;have oh2:cY x1:=ov0.2 x1 h2.1;have mh2:=h2.2;refine Tot.ix λx2 h3=>?_;have oh3:cY x2:=ov1.2 x2 h3.1;have mh3:=h3.2;refine tB (Zim oh2 oh3) λx3 h4=>?_;apply tO<;>intro h5
  .exact tR dI
  have q2:=wr (v5+1);exact tL ⟨rfl,rfl,ov0,ov1,cs⟩ S1
 exact tR dI
def Ziq(a0:an)(a1:an):r4->Prop
 |.L0 E0 E1 v5=>(E0=a0)/\(E1=a1)/\(cV E0)/\(cV E1)/\(0<=v5)/\(E0.Specs.length=E1.Specs.length)
def SM:r4->M6
 |.L0 E0 E1 v5=>(1,((E0.Specs.length:Int)-v5).toNat,1000000,0,0,0)
def Zir{a0:an}{a1:an}(oa0:cV a0)(oa1:cV a1):Tot (RM a0 a1) (λr=>(a0=a1->r=true)):=by
 apply Tot.rn (Ziq a0 a1) SM
 .dsimp only[RK,LT.den];have q1:=oa0.2.2.2.1.1;have q2:=oa1.2.2.2.1.1;apply tN<;>intro h1
  .exact tR dI
  exact tL ⟨rfl,rfl,oa0,oa1,cs⟩ SL
 rintro⟨E0,E1,v5⟩ ⟨al0,al1,O0,O1,cv5,i0⟩;subst al0;subst al1;dsimp only[BE,RJ,LT.den];have q1:=O0.2.2.2.1.1;apply tD<;>intro h1
 .refine Tot.ix λx1 h2=>?_;have oh2:fP x1:=O0.2.2.2.1.2 x1 h2.1;have mh2:=h2.2;refine Tot.ix λx2 h3=>?_;have oh3:fP x2:=O1.2.2.2.1.2 x2 h3.1;have mh3:=h3.2;apply tO<;>intro h4
  .exact tR dI
  have q2:=wr (v5+1);exact tL ⟨rfl,rfl,O0,O1,cs⟩ SL
 apply tE<;>intro h2
 .apply tF<;>intro h3
  .refine tB (Z81 O0.2.1 O1.2.1) λx1 h4=>?_;apply tF<;>intro h5
   .apply tF<;>intro h6
    .apply tF<;>intro h7
     .apply tF<;>intro h8
      .apply tF<;>intro h9
       .refine tB (Zio O0.2.2.2.2.1 O1.2.2.2.2.1) λx2 h10=>?_;apply tF<;>intro h11
        .exact tR dI
        exact tR dI
       exact tR dI
      exact tR dI
     exact tR dI
    exact tR dI
   exact tR dI
  exact tR dI
 exact tR dI
def Zis{a0:ab}{a1:Z1}(oa0:aR a0)(oa1:eX a1):Tot (RP a0 a1) (λr=>True):=by
 apply tZ;dsimp only[RN,LT.den];have q1:=wr (a0.NextId-1);refine tB (gz) λx1 h1=>?_;apply tO<;>intro h2
 .exact tR aa
 refine tB (gz) λx2 h3=>?_;apply tO<;>intro h4
 .exact tR aa
 have q2:=oa1.2.1;apply tD<;>intro h5
 .exact tR aa
 refine tB (mH oa0) λx3 h6=>?_;apply tO<;>intro h7
 .exact tR aa
 refine tB (U1 oa0) λx4 h8=>?_;apply tE<;>intro h9
 .refine tB (Zir oa1.1 ⟨SzS.nil,SzL.nil,SzS.nil,SzL.nil,SzL.nil,SzS.nil⟩) λx5 h10=>?_;apply tE<;>intro h11
  .apply tF<;>intro h12
   .apply tE<;>intro h13
    .apply tF<;>intro h14
     .exact tR aa
     exact tB (Z6r oa1.1) λx6 h15=>tR trivial
    exact tR aa
   exact tR aa
  exact tR aa
 apply tE<;>intro h10
 .apply tO<;>intro h11
  .exact tB (Z6r oa1.1) λx5 h12=>tR trivial
  exact tR aa
 exact tR aa
def Zit:Z7p->Prop
 |.L0 v0 v3=>((SzL 8 (λ_=>True)) v0)/\(0<=v3)/\(1<=v3)
def SG:Z7p->M6
 |.L0 v0 v3=>(1,((v0.length:Int)-v3).toNat,1000000,0,0,0)
def Ziu{a0:List Int}(oa0:(SzL 8 (λ_=>True)) a0):Tot (RS a0) (λr=>True):=by
 apply Tot.rn Zit SG
 .have lb_a0:=oa0.1;dsimp only[RR,LT.den];exact tL ⟨oa0,cs⟩ SF
 rintro⟨v0,v3⟩ ⟨ov0,cv3,i0⟩;have lb_v0:=ov0.1;dsimp only[BF,RQ,LT.den];have q1:=ov0.1;apply tD<;>intro h1
 .have q2:=wr (v3-1);refine Tot.ix λx1 h2=>Tot.ix λx2 h3=>?_;apply tD<;>intro h4
  .exact tR aa
  have q3:=wr (v3+1);exact tL ⟨ov0,cs⟩ SF
 exact tR aa
def Ziv(a0:ab):kK->Prop
 |.L0 E0 v3=>(E0=a0)/\(aR E0)/\(0<=v3)/\(E0.Conts.length<=64)
 |.L1 E0 v3 v4=>(E0=a0)/\(aR E0)/\(0<=v4)/\(0<=v3)/\(v3<(E0.Stack.length:Int))/\(E0.Conts.length<=64)
 |.L2 E0 v5=>(E0=a0)/\(aR E0)/\(0<=v5)/\(E0.Conts.length<=64)
 |.L3 E0 v7=>(E0=a0)/\(aR E0)/\(0<=v7)/\(E0.Conts.length<=64)
def Z82:kK->M6
 |.L0 E0 v3=>(5,((E0.Stack.length:Int)-v3).toNat,1000000,0,0,0)
 |.L1 E0 v3 v4=>(5,((E0.Stack.length:Int)-v3).toNat,1,(v3-v4).toNat,1000000,0)
 |.L2 E0 v5=>(3,((E0.Waiting.length:Int)-v5).toNat,1000000,0,0,0)
 |.L3 E0 v7=>(1,((E0.Conts.length:Int)-v7).toNat,1000000,0,0,0)
def w6{a0:ab}(oa0:aR a0):Tot (RZ a0) (λr=>(r=true->a0.Conts.length<=64)):=by
 apply Tot.rn (Ziv a0) Z82
 .dsimp only[RY,LT.den];have q1:=oa0.2.2.2.2.1.1;apply tD<;>intro h1
  .exact cT
  have q2:=oa0.2.2.2.2.2.1.1;apply tD<;>intro h2
  .exact cT
  have q3:=oa0.2.2.2.2.2.2.1.1;apply tD<;>intro h3
  .exact cT
  exact tL ⟨rfl,oa0,cs⟩ Tf
 intro s hs;cases s with
 |L0 E0 v3=>
  obtain⟨al0,O0,cv3,i0⟩:=hs;subst al0;dsimp only[n8,RT,LT.den];have q1:=O0.2.2.2.2.1.1;apply tD<;>intro h1
  .refine Tot.ix λx1 h2=>?_;have oh2:eX x1:=O0.2.2.2.2.1.2 x1 h2.1;refine tB (Zis O0 oh2) λx2 h3=>?_;apply tO<;>intro h4
   .exact cT
   exact mF
  exact mF
 |L1 E0 v3 v4=>
  obtain⟨al0,O0,cv4,cv3,bd4,i0⟩:=hs;subst al0;dsimp only[n8,RU,LT.den];have lx_0:E0.Stack.length*824<=140737488351232:=O0.2.2.2.2.1.1;apply tD<;>intro h1
  .refine Tot.ix λx1 h2=>?_;have oh2:eX x1:=O0.2.2.2.2.1.2 x1 h2.1;refine Tot.ix λx2 h3=>?_;have oh3:eX x2:=O0.2.2.2.2.1.2 x2 h3.1;apply tE<;>intro h4
   .exact cT
   have q1:=wr (v4+1);exact mF
  have q1:=wr (v3+1);exact mF
 |L2 E0 v5=>
  obtain⟨al0,O0,cv5,i0⟩:=hs;subst al0;dsimp only[n8,RW,LT.den];have q1:=O0.2.2.2.2.2.1.1;apply tD<;>intro h1
  .refine Tot.ix λx1 h2=>?_;have oh2:iv x1:=O0.2.2.2.2.2.1.2 x1 h2.1;refine tB (mH O0) λx2 h3=>?_;have eh3_0:=h3;apply tO<;>intro h4
   .exact cT
   apply tN<;>intro h5
   .exact cT
   refine tB (Z6r oh2) λx3 h6=>?_;apply tO<;>intro h7
   .exact cT
   have q2:=wr (v5+1);exact mF
  exact mF
 |L3 E0 v7=>
  obtain⟨al0,O0,cv7,i0⟩:=hs;subst al0;dsimp only[n8,RX,LT.den];have q1:=O0.2.2.2.2.2.2.1.1;apply tD<;>intro h1
  .refine Tot.ix λx1 h2=>?_;have oh2:iu x1:=O0.2.2.2.2.2.2.1.2 x1 h2.1;refine tB (mH O0) λx2 h3=>?_;have eh3_0:=h3;apply tO<;>intro h4
   .exact cT
   apply tD<;>intro h5
   .exact cT
   refine tB (gz) λx3 h6=>?_;apply tO<;>intro h7
   .exact cT
   refine tB (Ziu oh2.1) λx4 h8=>?_;apply tO<;>intro h9
   .exact cT
   refine tB (CX oh2.2) λx5 h10=>?_;apply tF<;>intro h11
   .exact cT
   have q2:=wr (v7+1);exact mF
  exact cT
abbrev Ziw(a0:List aw)(a1:ab)(r:Bool):Prop:=(r=true->a1.Objects.length<=2048/\a1.Conts.length<=64)/\(r=true->SrtO a1.Objects)/\(r=true->1<=a1.NextId/\a1.NextId<=1000000000/\gZ a1)
def Zix(a0:List aw)(a1:ab):Z7q->Prop
 |.L0 v0 E0 v5=>(v0=a0)/\(E0=a1)/\((SzL 176 ca) v0)/\(aR E0)/\(0<=v5)/\(E0.Objects.length<=2048)/\(1<=E0.NextId)/\(E0.NextId<=1000000000)/\(0<=E0.Active)/\(E0.Active<(E0.Players.length:Int))
def SD:Z7q->M6
 |.L0 v0 E0 v5=>(1,((E0.Extra.length:Int)-v5).toNat,1000000,0,0,0)
def Ziy{a0:List aw}{a1:ab}(oa0:(SzL 176 ca) a0)(oa1:aR a1):Tot (R3 a0 a1) (Ziw a0 a1):=by
 apply Tot.rn (Zix a0 a1) SD
 .have lb_a0:=oa0.1;dsimp only[R2,LT.den];refine tB (gz) λx1 h1=>?_;apply tO<;>intro h2
  .exact eQ
  refine tB (gz) λx2 h3=>?_;apply tO<;>intro h4
  .exact eQ
  refine tB (gz) λx3 h5=>?_;apply tO<;>intro h6
  .exact eQ
  refine tB (gz) λx4 h7=>?_;apply tO<;>intro h8
  .exact eQ
  have q1:=oa1.2.1.1;apply tD<;>intro h9
  .exact eQ
  refine tB (Zib oa1) λx5 h10=>?_;apply tO<;>intro h11
  .exact eQ
  refine tB (mH oa1) λx6 h12=>?_;apply tO<;>intro h13
  .exact eQ
  refine tB (mH oa1) λx7 h14=>?_;have eh14_0:=h14;apply tO<;>intro h15
  .exact eQ
  have q2:=oa1.1.1;refine tB (gz) λx8 h16=>?_;apply tO<;>intro h17
  .exact eQ
  have q3:=oa1.2.2.2.2.2.2.2.1;apply tD<;>intro h18
  .exact eQ
  refine tB (gz) λx9 h19=>?_;apply tO<;>intro h20
  .exact eQ
  exact tL ⟨rfl,rfl,oa0,oa1,cl,cl,ct,ct,ct,ct⟩ SB
 rintro⟨v0,E0,v5⟩ ⟨al0,al1,ov0,O0,cv5,i0,i1,i2,i3,i4⟩;have lb_v0:=ov0.1;subst al0;subst al1;dsimp only[BG,R1,LT.den];have q1:=O0.2.2.2.2.2.2.2.1;apply tD<;>intro h1
 .refine Tot.ix λx1 h2=>tB (mH O0) λx2 h3=>?_;apply tO<;>intro h4
  .exact eQ
  have q2:=wr (v5+1);exact tL ⟨rfl,rfl,ov0,O0,cl,cl,ct,ct,ct,ct⟩ SB
 apply tE<;>intro h2
 .refine tB (mH O0) λx1 h3=>?_;apply tO<;>intro h4
  .exact eQ
  apply tN<;>intro h5
  .apply tN<;>intro h6
   .exact eQ
   refine tB (w5 ov0 O0) λx2 h7=>?_;have eh7_0:=h7.1;have eh7_1:=h7.2;apply tF<;>intro h8
   .have h8_0:=eh7_0 h8;have h8_1:=eh7_1 h8;exact tB (w6 O0) λx3 h9=>tR ⟨tk62,tk66,tk44⟩
   exact eQ
  refine tB (w5 ov0 O0) λx2 h6=>?_;have eh6_0:=h6.1;have eh6_1:=h6.2;apply tF<;>intro h7
  .have h7_0:=eh6_0 h7;have h7_1:=eh6_1 h7;exact tB (w6 O0) λx3 h8=>tR ⟨tk62,tk66,tk44⟩
  exact eQ
 apply tN<;>intro h3
 .apply tN<;>intro h4
  .exact eQ
  refine tB (w5 ov0 O0) λx1 h5=>?_;have eh5_0:=h5.1;have eh5_1:=h5.2;apply tF<;>intro h6
  .have h6_0:=eh5_0 h6;have h6_1:=eh5_1 h6;exact tB (w6 O0) λx2 h7=>tR ⟨tk62,tk66,tk44⟩
  exact eQ
 refine tB (w5 ov0 O0) λx1 h4=>?_;have eh4_0:=h4.1;have eh4_1:=h4.2;apply tF<;>intro h5
 .have h5_0:=eh4_0 h5;have h5_1:=eh4_1 h5;exact tB (w6 O0) λx2 h6=>tR ⟨tk62,tk66,tk44⟩
 exact eQ
abbrev Ziz(a0:List aw)(a1:ab)(r:Bool):Prop:=(r=true->a1.Objects.length<=60/\a1.Conts.length<=8/\a1.Players.length<=4/\∀c,c∈a0->c.Abilities.length<=8)/\(r=true->a1.Stack.length<=8/\a1.Waiting.length<=8)/\(r=true->SmT a1)/\(r=true->SBd a1)/\(r=true->∀c,c∈a0->c.Abilities.length<=8)
def ZiA(a0:List aw)(a1:ab):r5->Prop
 |.L0 v0 E0 v5=>(v0=a0)/\(E0=a1)/\((SzL 176 ca) v0)/\(aR E0)/\(0<=v5)/\(E0.Objects.length<=60)/\(E0.Conts.length<=8)/\(E0.Players.length<=4)/\(E0.Stack.length<=8)/\(E0.Waiting.length<=8)
def Z83:r5->M6
 |.L0 v0 E0 v5=>(1,((E0.Players.length:Int)-v5).toNat,1000000,0,0,0)
def KO{a0:List aw}{a1:ab}(oa0:(SzL 176 ca) a0)(oa1:aR a1):Tot (R6 a0 a1) (Ziz a0 a1):=by
 apply Tot.rn (ZiA a0 a1) Z83
 .have lb_a0:=oa0.1;dsimp only[R5,LT.den];have q1:=oa0.1;apply tD<;>intro h1
  .exact ig
  have q2:=oa1.1.1;apply tD<;>intro h2
  .exact ig
  have q3:=oa1.2.1.1;apply tD<;>intro h3
  .exact ig
  have q4:=oa1.2.2.1.1;apply tD<;>intro h4
  .exact ig
  have q5:=oa1.2.2.2.1.1;apply tD<;>intro h5
  .exact ig
  have q6:=oa1.2.2.2.2.1.1;apply tD<;>intro h6
  .exact ig
  have q7:=oa1.2.2.2.2.2.1.1;apply tD<;>intro h7
  .exact ig
  have q8:=oa1.2.2.2.2.2.2.1.1;apply tD<;>intro h8
  .exact ig
  have q9:=oa1.2.2.2.2.2.2.2.1;apply tD<;>intro h9
  .exact ig
  exact tL ⟨rfl,rfl,oa0,oa1,cs⟩ Te
 rintro⟨v0,E0,v5⟩ ⟨al0,al1,ov0,O0,cv5,i0,i1,i2,i3,i4⟩;have lb_v0:=ov0.1;subst al0;subst al1;dsimp only[BH,R4,LT.den];have q1:=O0.1.1;apply tD<;>intro h1
 .refine Tot.ix λx1 h2=>?_;have oh2:fK x1:=O0.1.2 x1 h2.1;have q2:=oh2.1.1;have q3:=oh2.2.1.1;have q4:=wr ((x1.Library.length:Int)+(x1.Hand.length:Int));have q5:=oh2.2.2.1;have q6:=wr ((IntKind.wrap .i64 ((x1.Library.length:Int)+(x1.Hand.length:Int)))+(x1.Graveyard.length:Int));apply tD<;>intro h3
  .exact ig
  have q7:=wr (v5+1);exact tL ⟨rfl,rfl,ov0,O0,cs⟩ Te
 refine tB (Zh2 ov0) λx1 h2=>?_;apply tE<;>intro h3
 .refine tB (Ziy ov0 O0) λx2 h4=>?_;have eh4_0:=h4.1;have eh4_1:=h4.2.1;have eh4_2:=h4.2.2;exact ig
 exact ig
def Z0m{a0:List Int}(oa0:(SzL 8 (λ_=>True)) a0):Tot (BI a0) (λr=>((SzL 8 (λ_=>True)) r)/\(r=a0)):=by
 apply tZ;have lb_a0:=oa0.1;dsimp only[Z5t,LT.den];have q1:=oa0.1;refine Tot.ap λx1 h1=>?_;have lh1:x1.length=([]:List Int).length+a0.length:=by rw[h1,bF]
 exact E6
def ZiB(a0:List (List Int)):Z3b->Prop
 |.L0 E0 v8 v9 v10=>(fv E0)/\((SzL 24 (SzL 8 (λ_=>True))) v8)/\(0<=v10)/\(v9=(v8.length:Int))/\(v10<=v9)/\(E0.answers.length<=v10.toNat)/\(v8=a0)/\(E0=(⟨a0.take v10.toNat,0,mK,false,false⟩:bm))
def SK:Z3b->M6
 |.L0 E0 v8 v9 v10=>(1,(v9-v10).toNat,1000000,0,0,0)
def KR{a0:List (List Int)}(oa0:(SzL 24 (SzL 8 (λ_=>True))) a0):Tot (Sa a0) (λr=>(fv r)/\(akV r=nwV a0)/\(r.used=0)):=by
 apply Tot.rn (ZiB a0) SK
 .have lb_a0:=oa0.1;dsimp only[R9,LT.den];have q1:=oa0.1;exact tL ⟨⟨SzL.nil,SzL.nil⟩,oa0,cl,cl,cl,cl,dz,tk30⟩ SJ
 rintro⟨E0,v8,v9,v10⟩ ⟨O0,ov8,cv10,i0,i1,i2,i3,i4⟩;have lb_v8:=ov8.1;dsimp only[BJ,R8,LT.den];apply tD<;>intro h1
 .refine Tot.ix λx1 h2=>?_;have oh2:(SzL 8 (λ_=>True)) x1:=ov8.2 x1 h2.1;have mh2:=h2.2;refine tB (Z0m oh2) λx2 h3=>?_;have eh3_1:=h3.2;have q1:=O0.1.1;refine Tot.ap λx3 h4=>?_;have lh4:=db h4;have q2:=wr (v10+1);exact tL ⟨⟨SzL.app (k:=24) h4 lo O0.1.2 (me1 h3.1),O0.2⟩,ov8,cl,cl,cl,cl,dz,tk30⟩ SJ
 exact tR ⟨O0,(by exact Wh V (by rw[<- ‹v8=a0›];omega)),(by first|rfl|(rw[‹E0=_›]))⟩
def XP{a0:List bC}(oa0:(SzL 152 fK) a0):Tot (vN a0) (λr=>((SzL 152 fK) r)/\(r=a0)):=by
 unfold vN;split
 .apply tZ;have lb_a0:=oa0.1;dsimp only[BL,LT.den];have q1:=oa0.1;refine Tot.ap λx1 h1=>?_;have lh1:x1.length=([]:List bC).length+a0.length:=by rw[h1,bF]
  try simp only[bT,cg,aM]at lh1
  exact tR ⟨SzL.app (k:=152) h1 lo (λ_ h=>by cases h) oa0.2,tk72⟩
 apply tZ;dsimp only[vM,LT.den];exact Z4v
def ke{a0:List Int}(oa0:(SzL 8 (λ_=>True)) a0):Tot (r6 a0) (λr=>((SzL 8 (λ_=>True)) r)/\(r=a0)):=by
 unfold r6;split
 .apply tZ;have lb_a0:=oa0.1;dsimp only[BM,LT.den];have q1:=oa0.1;refine Tot.ap λx1 h1=>?_;have lh1:x1.length=([]:List Int).length+a0.length:=by rw[h1,bF]
  exact uu
 apply tZ;dsimp only[vO,LT.den];exact Z4v
def XQ{a0:bC}(oa0:fK a0):Tot (BN a0) (λr=>(fK r)/\(r=a0)):=by apply tZ;dsimp only[Z5v,LT.den];refine tB (ke oa0.1) λx1 h1=>?_;have eh1_1:=h1.2;refine tB (ke oa0.2.1) λx2 h2=>?_;have eh2_1:=h2.2;refine tB (ke oa0.2.2) λx3 h3=>?_;have eh3_1:=h3.2;exact tR ⟨⟨h1.1,h2.1,h3.1⟩,tG⟩
def XR{a0:List ak}(oa0:(SzL 128 (λ_=>True)) a0):Tot (vQ a0) (λr=>((SzL 128 (λ_=>True)) r)/\(r=a0)):=by
 unfold vQ;split
 .apply tZ;have lb_a0:=oa0.1;dsimp only[BO,LT.den];have q1:=oa0.1;refine Tot.ap λx1 h1=>?_;have lh1:x1.length=([]:List ak).length+a0.length:=by rw[h1,bF]
  exact uu
 apply tZ;dsimp only[vP,LT.den];exact Z4v
def XS{a0:List Z1}(oa0:(SzL 824 eX) a0):Tot (vS a0) (λr=>((SzL 824 eX) r)/\(r=a0)):=by
 unfold vS;split
 .apply tZ;have lb_a0:=oa0.1;dsimp only[BP,LT.den];have q1:=oa0.1;refine Tot.ap λx1 h1=>?_;have lh1:x1.length=([]:List Z1).length+a0.length:=by rw[h1,bF]
  try simp only[bT,cg,aM]at lh1
  exact tR ⟨SzL.app (k:=824) h1 lo (λ_ h=>by cases h) oa0.2,tk72⟩
 apply tZ;dsimp only[vR,LT.den];exact Z4v
def jB{a0:List ai}(oa0:(SzL 176 Z5) a0):Tot (r7 a0) (λr=>((SzL 176 Z5) r)/\(r=a0)):=by
 unfold r7;split
 .apply tZ;have lb_a0:=oa0.1;dsimp only[BQ,LT.den];have q1:=oa0.1;refine Tot.ap λx1 h1=>?_;have lh1:x1.length=([]:List ai).length+a0.length:=by rw[h1,bF]
  try simp only[bT,cg,aM]at lh1
  exact tR ⟨SzL.app (k:=176) h1 lo (λ_ h=>by cases h) oa0.2,tk72⟩
 apply tZ;dsimp only[vT,LT.den];exact Z4v
def yz{a0:List bo}(oa0:(SzL 144 fP) a0):Tot (r8 a0) (λr=>((SzL 144 fP) r)/\(r=a0)):=by
 unfold r8;split
 .apply tZ;have lb_a0:=oa0.1;dsimp only[BS,LT.den];have q1:=oa0.1;refine Tot.ap λx1 h1=>?_;have lh1:x1.length=([]:List bo).length+a0.length:=by rw[h1,bF]
  try simp only[bT,cg,aM]at lh1
  exact tR ⟨SzL.app (k:=144) h1 lo (λ_ h=>by cases h) oa0.2,tk72⟩
 apply tZ;dsimp only[vU,LT.den];exact Z4v
def yA{a0:List bh}(oa0:(SzL 560 cY) a0):Tot (vW a0) (λr=>((SzL 560 cY) r)/\(r=a0)):=by
 unfold vW;split
 .apply tZ;have lb_a0:=oa0.1;dsimp only[BT,LT.den];have q1:=oa0.1;refine Tot.ap λx1 h1=>?_;have lh1:x1.length=([]:List bh).length+a0.length:=by rw[h1,bF]
  try simp only[bT,cg,aM]at lh1
  exact tR ⟨SzL.app (k:=560) h1 lo (λ_ h=>by cases h) oa0.2,tk72⟩
 apply tZ;dsimp only[vV,LT.den];exact Z4v
def ZiC(a0:an):r9->Prop
 |.L0 E0 E1 v18 v19=>(cV E0)/\(cV E1)/\(0<=v19)/\(v18=(a0.Effects.length:Int))/\(v18=(E0.Effects.length:Int))/\(E0=a0)
def S8:r9->M6
 |.L0 E0 E1 v18 v19=>(1,(v18-v19).toNat,1000000,0,0,0)
def Et{a0:an}(oa0:cV a0):Tot (BV a0) (λr=>(cV r)/\(r=a0)):=by
 apply Tot.rn (ZiC a0) S8
 .dsimp only[Z3c,LT.den];refine tB (jB oa0.2.1) λx1 h1=>?_;have eh1_1:=h1.2;refine tB (yz oa0.2.2.2.1) λx2 h2=>?_;have eh2_1:=h2.2;refine tB (yA oa0.2.2.2.2.1) λx3 h3=>?_;have eh3_1:=h3.2;exact tL ⟨⟨oa0.1,h1.1,oa0.2.2.1,h2.1,h3.1,oa0.2.2.2.2.2⟩,⟨SzS.nil,SzL.nil,SzS.nil,SzL.nil,SzL.nil,SzS.nil⟩,cl,ct,ct,tk35⟩ S7
 rintro⟨E0,E1,v18,v19⟩ ⟨O0,O1,cv19,i0,i1,i2⟩;dsimp only[BU,Z0d,LT.den];have lq:=O0.2.2.2.2.1.1;apply tD<;>intro h1
 .refine Tot.ix λx1 h2=>?_;have oh2:cY x1:=O0.2.2.2.2.1.2 x1 h2.1;have mh2:=h2.2;refine tB (jB oh2.2.2.2.2) λx2 h3=>?_;have eh3_1:=h3.2;refine tB (Tot.set O O) λx3 h4=>?_;have lh4:=h4.1;have vh4:=h4.2.2;have q1:=wr (v19+1);exact tL ⟨⟨O0.1,O0.2.1,O0.2.2.1,O0.2.2.2.1,⟨lo,λe he=>(h4.2.1 e he).elim (λw=>by rw[w];exact⟨oh2.1,oh2.2.1,oh2.2.2.1,oh2.2.2.2.1,h3.1⟩) (O0.2.2.2.2.1.2 e)⟩,O0.2.2.2.2.2⟩,O1,cl,ct,ct,tk35⟩ S7
 exact tR ⟨O0,V⟩
def XT{a0:List bW}(oa0:(SzL 16 (λ_=>True)) a0):Tot (sb a0) (λr=>((SzL 16 (λ_=>True)) r)/\(r=a0)):=by
 unfold sb;split
 .apply tZ;have lb_a0:=oa0.1;dsimp only[BW,LT.den];have q1:=oa0.1;refine Tot.ap λx1 h1=>?_;have lh1:x1.length=([]:List bW).length+a0.length:=by rw[h1,bF]
  exact uu
 apply tZ;dsimp only[vX,LT.den];exact Z4v
def XU{a0:List Z2}(oa0:(SzL 768 iv) a0):Tot (vZ a0) (λr=>((SzL 768 iv) r)/\(r=a0)):=by
 unfold vZ;split
 .apply tZ;have lb_a0:=oa0.1;dsimp only[BX,LT.den];have q1:=oa0.1;refine Tot.ap λx1 h1=>?_;have lh1:x1.length=([]:List Z2).length+a0.length:=by rw[h1,bF]
  try simp only[bT,cg,aM]at lh1
  exact tR ⟨SzL.app (k:=768) h1 lo (λ_ h=>by cases h) oa0.2,tk72⟩
 apply tZ;dsimp only[vY,LT.den];exact Z4v
end Go.PW
