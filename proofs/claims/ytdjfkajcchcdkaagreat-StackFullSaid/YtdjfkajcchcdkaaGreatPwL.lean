import Derived.Orders
import Derived.Tactics
import Derived.Deep.MidRow
import Derived.Deep.AppendSrc
import Derived.Great.BuildSlice
import Derived.Below
import Derived.Scope
import Derived.Laws.StructEq
import Derived.ChangeKeysEq
import Derived.Laws.MakeOwn
set_option linter.all false
namespace Go.PW
section
variable{p:Prop}
def aG(h:p:=by unfold SzN;first|omega|(simp only[bn,bJ,bU];omega)):=h
def ct(h:p:=by first|(intro hr;exact absurd hr aH)|(intro _;omega)):=h
def bX(h:p:=by first|(simp only[bn,bJ,bU];omega)|omega):=h
def aL(h:p:=by simp[ho,Op.operands]):=h
def dB(h:p:=by first|(intro hr;exact absurd hr aH)|(intro hr;exact⟨by omega,by grind⟩)):=h
def dC(h:p:=by first|(intro hr;exact absurd hr aH)|(intro _;assumption)|assumption):=h
def aq(h:p:=by kernel_rfl):=h
def gq(h:p:=by first|(intro hr;exact absurd hr aH)|(intro _;exact⟨by assumption,by assumption,by assumption,by grind⟩)):=h
def eg(h:p:=by first|rfl|assumption|(simpa using(by assumption:_=[]++a0))|grind):=h
def cK(h:p:=by have:=hb'.symm.trans hb;simpa using this):=h
def gr(h:p:=by first|(intro hr;exact absurd hr aH)|(intro _;exact⟨by assumption,by assumption⟩)):=h
def dY(h:p:=by first|assumption|rfl|(exfalso;first|omega|grind)):=h
def bb(h:p:=by simp;omega):=h
def eM(h:p:=by obtain⟨k1,k2,k3,k4⟩:=a0;unfold amV;grind[W5,usV]):=h
def bK(h:p:=by intro hr;cases hr):=h
def fB(h:p:=by unfold SzT;first|omega|(simp only[bn,bJ,bU];omega)):=h
def aT(h:p:=by exact sm):=h
def eD(h:p:=by first|omega|(simp only[bJ,bU];omega)):=h
def eH(h:p:=by simp[ho,Op.operands,Call.operands]):=h
def mv(h:p:=by first|exact D5 V O|exact pu_full' O|exact pu_a V V V O V|exact pu_c V V V O V|exact pu_b V V V O|exact pu_d V V V O):=h
def km(h:p:=by first|(intro hr;exact absurd hr aH)|exact λ_=>W6 (v:=v5) V O):=h
def ko(h:p:=by first|(intro hr;exact absurd hr aH)|exact λ_=>W7 (v:=v5) V O):=h
def qp(h:p:=by first|(intro hr;exact absurd hr aH)|(intro _ c hc;obtain⟨k,hk⟩:=rh.1 hc;exact i0 k c (by grind) hk)):=h
def fC(h:p:=by unfold kp lt6;dsimp only;omega):=h
def tM(h:p:=by first|(refine⟨λ_=>by omega,λ_=>rfl⟩)|(have w := ‹_∈A3.list _›;simp only[A3.list,cA,nS,nT]at w;grind)|grind):=h
def uT(h:p:=by simp only[VR,PV.ren]at h⊢;obtain⟨vs,hv,hvs⟩:=h;exact⟨vs,hv,VRs.ren hI cs vs (by simpa[PV.sc]using hs) (λl h=>hl l (by simpa[PV.has]using h)) hvs⟩):=h
def iI(h:p:=by unfold Ds lt6;dsimp only;omega):=h
def jP(h:p:=by first|assumption|(subst_vars;rfl)|grind):=h
def Ag(h:p:=by simp only[Frz]at hf;obtain⟨ds,rfl,hd⟩:=hf;simp only[VR]at hv⊢;obtain⟨vs,hv,hs⟩:=hv;exact⟨vs,hv,aZ.ok h cs ds vs hd hs⟩):=h
def Ah(h:p:=by simp only[VR]at h⊢;obtain⟨vs,hv,hs⟩:=h;exact⟨vs,hv,VRs.step hI cs vs (λl h=>hl l (by simpa[PV.has]using h)) hs⟩):=h
def Ai(h:p:=by simp only[Frz]at h⊢;obtain⟨ds,h1,h2⟩:=h;exact⟨ds,h1,aZ.need cs ds (λm hh=>hm m (by simpa[PV.has]using hh)) h2⟩):=h
def fE(h:p:=by simp[PV.has]):=h
def Aj(h:p:=by first|exact W8|exact JW (v:=v5) V V O O (W9 (v:=v5) V O V) O|exact JW (v:=v5) V V O O (λy hv _=>absurd hv O) O):=h
def jS(h:p:=by unfold Dd lt6;dsimp only;omega):=h
def jQ(h:p:=by unfold C1 lt6;dsimp only;omega):=h
def kq(h:p:=by unfold JX lt6;dsimp only;omega):=h
def kZ(h:p:=by simp only[gZ,Frz];exact .inl trivial):=h
def Di(h:p:=by first|with_reducible exact Ak V V O O V V V V|with_reducible exact Ak V V O O V V V|with_reducible exact Ak V V O O V V|with_reducible exact Al V O V V V|with_reducible exact Al V O|with_reducible exact Al):=h
def Dh(h:p:=by first|with_reducible exact Am V V O O V V V V|with_reducible exact Am V V O O V V V|with_reducible exact Am V V O O V V|with_reducible exact An V O V V V|with_reducible exact An V O|with_reducible exact An):=h
def Dg(h:p:=by first|with_reducible exact Ao V V O O V V V V|with_reducible exact Ao V V O O V V V|with_reducible exact Ao V V O O V V|with_reducible exact Ap V O V V V|with_reducible exact Ap V O|with_reducible exact Ap):=h
def Df(h:p:=by first|with_reducible exact Aq V V O O V V V V|with_reducible exact Aq V V O O V V V|with_reducible exact Aq V V O O V V|with_reducible exact Ar V O V V V|with_reducible exact Ar V O|with_reducible exact Ar):=h
def fY(h:p:=by simp[ctx,PW.get]):=h
def lV(h:p:=by unfold JY lt6;dsimp only;omega):=h
def yo(h:p:=by simp only[VR]at h⊢;obtain⟨vs,hv,hs⟩:=h;exact⟨vs,hv,VRs.stepM hI hL hM cs vs hm hs⟩):=h
def mu(h:p:=by first|assumption|grind):=h
def kI(h:p:=by simpa[ren,bQ,hm]using e3):=h
def ig(h:p:=by simpa using hj):=h
def As(h:p:=by simp only[dI];rw[At cs (λm hm=>h m (by simpa[PV.has,PV.deep]using hm))]):=h
def Au(h:p:=by have:=gI hm hT n (some _) _ _ _ _ h hc hg;simpa only[post]using this):=h
def Av(h:p:=by simp only[PV.has];exact PV.frees_has l cs (by simpa[PV.free]using h)):=h
def qq(h:p:=by unfold JZ lt6;dsimp only;omega):=h
def Aw(h:p:=by simp only[Instr.slice,aN,b7 hu,aO,hbounds,Ax hsz,aS]):=h
def tP(h:p:=by simp only[PV.has,aW]at h;subst h;simp[qt]):=h
def uR(h:p:=by simp only[PV.ren];rw[PV.rens_free cs (by simpa[PV.free]using h)]):=h
def J0(h:p:=by first|(intro k c hk;omega)|(intro k c hk hc;rcases xX (v:=v4) V O hk hc V with h|h;(exact i0 k c h hc);(rw[h];assumption))):=h
def oF(h:p:=by simpa[ho,Op.operands]using hx):=h
def wc(h:p:=by simp only[gZ,Frz]at h⊢;exact⟨_,rfl,r5 hg h0 cs h⟩):=h
def tQ(h:p:=by intro hr;first|omega|(cases hr;done)):=h
def vJ(h:p:=by first|(intro _;rfl)|(intro he;subst he;exfalso;grind)):=h
def Ay(h:p:=by simp only[tS];exact tT cs (by simpa[PV.deep]using h)):=h
def J1(h:p:=by simp only[VR]at hv⊢;obtain⟨vs,hv,hs⟩:=hv;exact⟨vs,hv,VRs.scals cs vs (by simpa[PV.scal]using h) hs⟩):=h
def Az(h:p:=by simp only[qt];exact kr cs (by simpa[PV.has]using h)):=h
def kF(h:p:=by simp[PV.free]at h):=h
def qu(h:p:=by simp only[maxLen];omega):=h
def tU(h:p:=by unfold J2 lt6;dsimp only;omega):=h
def tV(h:p:=by unfold J3 lt6;dsimp only;omega):=h
def tW(h:p:=by unfold tY lt6;dsimp only;omega):=h
def ua(h:p:=by unfold J4 lt6;dsimp only;omega):=h
def ub(h:p:=by unfold J5 lt6;dsimp only;omega):=h
def r3(h:p:=by unfold DC lt6;dsimp only;omega):=h
def tf(h:p:=by have:=hE.info;simpa[hi]using this):=h
def wh(h:p:=by simp only[vbx,Frz];exact⟨_,rfl,r7 hg h0 cs⟩):=h
def J6(h:p:=by intro r hr;simp only[execOp,ho,resolve,invoke,builtin,aN,aS,aO,mD,cu,fx,hv,hr]):=h
def yt(h:p:=by simp only[execOp,ho,hv,aN,hrun,aO,aS]):=h
def qv(h:p:=by rw[hexec _ hrun];rfl):=h
def AA(h:p:=by simp only[Frz];exact⟨cs,rfl,aZ.refl cs⟩):=h
def mQ(h:p:=by rw[hs];exact hq):=h
def qx(h:p:=by rw[h]at hg;cases hg):=h
def m9(h:p:=by simp[PV.scal]at h):=h
def na(h:p:=by simp[PV.deep]at h):=h
def uc(h:p:=by simpa only[aK]using h6):=h
def my(h:p:=by simpa using hl):=h
def qy(h:p:=by rw[hik.1];exact hs):=h
def qz(h:p:=by rw[h.cσ];exact hg):=h
def nM(h:p:=by rw[cV,Z9 _ _ O,bB rfl]):=h
def iL(h:p:=by simp at h):=h
def oC(h:p:=by simp[ByteArray.size]):=h
def s3(h:p:=by rw[<- hgo q hql];exact hq):=h
def tg(h:p:=by rw[<- hgo m hml];exact hm):=h
def Db(h:p:=by first|with_reducible exact Xa V V|with_reducible exact Xb V V O O V V):=h
def J7(h:p:=by obtain⟨i,h1,h2⟩:=ca.1 h;have:=(hT _ _ h1).k;rw[h2]at this;exact this):=h
def CG(h:p:=by unfold cG;rw[aD,hl,List.drop_zero,fU (by rw[hl];exact bh _)];rfl):=h
def yn(h:p:=by rw[<- (aW _ _).1 hq];exact Z6r hm):=h
def J8(h:p:=by have:=(hX (c:=ctx G β w Z) hz).length;rw[hE.len]at this;simpa using this):=h
def s0(h:p:=by rw[eC];exact bh _):=h
def J9(h:p:=by intro m hm;simp only[cA,nS,nT]at hm;subst hm;exact WU _):=h
def AB(h:p:=by unfold Ka lt6;dsimp only;omega):=h
def AC(h:p:=by unfold Kb lt6;dsimp only;omega):=h
def AD(h:p:=by unfold Kc lt6;dsimp only;omega):=h
def AE(h:p:=by unfold Kd lt6;dsimp only;omega):=h
def AF(h:p:=by unfold Ke lt6;dsimp only;omega):=h
def AG(h:p:=by unfold ud lt6;dsimp only;omega):=h
def AH(h:p:=by unfold Kg lt6;dsimp only;omega):=h
def AI(h:p:=by unfold Kh lt6;dsimp only;omega):=h
def AJ(h:p:=by unfold Z4g lt6;dsimp only;omega):=h
def sR(h:p:=by rw[<- hE.1];exact hq):=h
def ow(h:p:=by simpa using hx):=h
def oH(h:p:=by simpa using hu):=h
def pf(h:p:=by simpa using he):=h
def C6(h:p:=by first|with_reducible exact st_3 V V V V V V V|(subst_vars;rfl)):=h
def C4(h:p:=by first|with_reducible exact Xc V V V V V V V|(subst_vars;rfl)):=h
def ue(h:p:=by simp[Program.elem,hu]):=h
def yr(h:p:=by rw[hneed l aj];exact hg0):=h
def Ki(h:p:=by simp only[cz,ao,bp]at h;simp only[Frz];exact h.2.symm):=h
def rv(h:p:=by rw[hcells.length,hs]):=h
def C5(h:p:=by first|with_reducible exact st_2 V V V V|(subst_vars;rfl)):=h
def C3(h:p:=by first|with_reducible exact st_0 V V V V|(subst_vars;rfl)):=h
def CZ(h:p:=by first|with_reducible exact Xd V V V V|(subst_vars;rfl)):=h
def qX(h:p:=by simp[PV.hasAny,h]):=h
def uf(h:p:=by rw[hel'];exact hu):=h
def oZ(h:p:=by simpa using hk):=h
def yu(h:p:=by rw[hvs.length,db,iU hkl]):=h
def te(h:p:=by rw[Z26];exact hv):=h
def Kj(h:p:=by subst h1;subst h2;subst hz;subst e;rw[sM hx h0 hw];rfl):=h
def Kk(h:p:=by rw[At ps (λm hm=>hnd m (hneed m (.inr hm)))];exact hq):=h
def u6(h:p:=by unfold Region.wanted;rw[h3]):=h
def lW(h:p:=by simp[Frz]):=h
def Kl(h:p:=by rcases hm with hm|hm<;>simp[PV.hasAny,PV.deeps,hm]):=h
def Km(h:p:=by simp only[lX]at h;simp only[post,jF];exact ug h hp):=h
def oq(h:p:=by simp[vbx,Frz]):=h
def om(h:p:=by simp[gZ,Frz]):=h
def tC(h:p:=by simpa using hy):=h
def r4(h:p:=by simpa using hq):=h
def AK(h:p:=by simp only[dI];rw[AL cs]):=h
def Aa(h:p:=by rw[hrd];exact s8 ..):=h
def mF(h:p:=by simp[get]):=h
def GP(h:p:=by rw[hpre j O];rw[jw,bB hji]at h1;exact h1):=h
def sn(h:p:=by rw[du,ez]):=h
def Ko(h:p:=by simp[Instr.sliceBounds,run_sliceBound,h0,h1]):=h
def Kp(h:p:=by rw[show i+(j-i-1)+1=j by omega];exact hy):=h
def yf(h:p:=by rw[e];exact .inl hb):=h
def CC(h:p:=by simp only[execOp,h,hx,aN,hr,aO,aS]):=h
def GI(h:p:=by simp only[VR,VRs];exact⟨[],rfl,rfl⟩):=h
def Dx(h:p:=by first|exact ri_0 O|exact Pm V V V O O):=h
def Dz(h:p:=by first|exact Pn V V V O|exact Po V O):=h
def Eg(h:p:=by unfold iP at h;split at h<;>cases h<;>rfl):=h
def AN(h:p:=by simpa using hnewsl):=h
def Kq(h:p:=by rw[hik.2];exact growslice_fits hgt hby):=h
def GH(h:p:=by have:=hb'.symm.trans hb1;simpa using this):=h
def Kr(h:p:=by first|exact Xe V V|exact Xf V V V):=h
def Gr(h:p:=by have:=hb0.symm.trans hb;simpa using this):=h
def Ks(h:p:=by first|omega|exact shl_ne' O O|decide):=h
def JN(h:p:=by rw[<- hpre j (hLm j hLj)];exact hoj):=h
def GS(h:p:=by have:=(bj.1 hv).1;simp at this;omega):=h
def CE(h:p:=by rw[cV,Z9 _ _ O,bB rfl,cV,h3]):=h
def CK(h:p:=by rw[cV,Z9 _ _ O,bl aH,h5]):=h
def Eh(h:p:=by rw[<- hg];exact hneed l aj):=h
def JS(h:p:=by refine fG ?_;show(mR c 5).den=_;rfl):=h
def CR(h:p:=by unfold CP lt6;dsimp only;omega):=h
def Kt(h:p:=by unfold Ku lt6;dsimp only;omega):=h
def Kv(h:p:=by unfold Kw lt6;dsimp only;omega):=h
def Ei(h:p:=by simp only[VRs]at h;subst h;simp[VRs]):=h
def GY(h:p:=by rw[hs,hkl e (c7 he)];exact hq):=h
def u7(h:p:=by rw[h1];exact hd):=h
def Dc(h:p:=by unfold C9 lt6;dsimp only;omega):=h
def Kx(h:p:=by unfold Ky lt6;dsimp only;omega):=h
def Kz(h:p:=by unfold KA lt6;dsimp only;omega):=h
def Dr(h:p:=by unfold Dq lt6;dsimp only;omega):=h
def Dn(h:p:=by unfold Dm lt6;dsimp only;omega):=h
def KB(h:p:=by unfold KC lt6;dsimp only;omega):=h
def KD(h:p:=by unfold KE lt6;dsimp only;omega):=h
def KF(h:p:=by unfold KG lt6;dsimp only;omega):=h
def C0(h:p:=by unfold CW lt6;dsimp only;omega):=h
def KH(h:p:=by unfold Z9z lt6;dsimp only;omega):=h
def KI(h:p:=by unfold Z91 lt6;dsimp only;omega):=h
def Dy(h:p:=by unfold Z6m lt6;dsimp only;omega):=h
def Dl(h:p:=by unfold Z6l lt6;dsimp only;omega):=h
def KJ(h:p:=by unfold Z6k lt6;dsimp only;omega):=h
def KK(h:p:=by unfold Z6j lt6;dsimp only;omega):=h
def KL(h:p:=by unfold Z6i lt6;dsimp only;omega):=h
def KM(h:p:=by unfold Z6h lt6;dsimp only;omega):=h
def CU(h:p:=by unfold Z2w lt6;dsimp only;omega):=h
def KN(h:p:=by unfold Z2t lt6;dsimp only;omega):=h
def KO(h:p:=by unfold Z2s lt6;dsimp only;omega):=h
def KP(h:p:=by unfold Z2r lt6;dsimp only;omega):=h
def KQ(h:p:=by unfold Z2p lt6;dsimp only;omega):=h
def KR(h:p:=by unfold Z2l lt6;dsimp only;omega):=h
def yc(h:p:=by simpa using h1):=h
def AO(h:p:=by rw[uh hq];rfl):=h
def CO(h:p:=by rw[Z9 _ _ O,bl aH]):=h
def ru(h:p:=by simp[hsz]):=h
def GQ(h:p:=by rw[jw,bB hji]at h2;exact h2):=h
def ym(h:p:=by simpa using hi):=h
def yd(h:p:=by simpa using h2):=h
def KS(h:p:=by simp only[post,jF];exact ui h):=h
def GX(h:p:=by rw[hcells.length];simpa using hs):=h
def Gt(h:p:=by intro h;cases h;exact h4 rfl):=h
def GV(h:p:=by rw[hul,hvs.length];exact hq):=h
def aj(h:p:=by simp):=h
def aH(h:p:=by decide):=h
def bP(h:p:=by omega):=h
def dv(h:p:=by cases h):=h
def rq(h:p:=by rw[cV,Z9 _ _ bb,bB rfl]):=h
def KT(h:p:=by first|exact Xg V V V mu|exact Xh V O):=h
def KU(h:p:=by first|exact Xi|exact Xj V V V mu O):=h
def CJ(h:p:=by rw[Z9 _ _ bb,bB rfl]):=h
def eW(h:p:=by simp only[bJ,bU];omega):=h
def uj(h:p:=by simp only[VR]at h⊢;exact⟨h.1.step (hl l fE),h.2⟩):=h
def ik(h:p:=by simp only[dI]):=h
def iC(h:p:=by simpa using h):=h
def CF(h:p:=by rw[cV,Z9 _ _ bb,bl aH,Z9 _ _ bb,bB rfl]):=h
def kY(h:p:=by simp at hl):=h
def yp(h:p:=by subst e;simp at hb):=h
def AP(h:p:=by simp[PV.has]at h):=h
def uk(h:p:=by simpa using hlt):=h
def KV(h:p:=by simp only[dI];rw[h l (.inl fE)]):=h
end
def aa:=trivial
def bJ:=@List.length_cons
def bU:=@List.length_nil
def bn:=@List.length_append
def ao:=@Option.some.injEq
def aB:=@cond_false
def aD:=@cond_true
def aN:=@Go.Sem.run_bind
def aO:=@Go.Result.andThen_ok
def aK:=@Nat.zero_add
def aM:=@Bool.and_eq_true
def aS:=@Go.Sem.run_pure
def bh:=@Nat.le_refl
def bj:=@List.getElem?_eq_some_iff
def bl:=@if_neg
def bB:=@if_pos
def bp:=@Prod.mk.injEq
def bC:=@List.getElem?_eq_getElem
def bD:=@Eq.trans
def bE:=@Eq.symm
def bH:=@List.all_eq_true
def bO:=@Option.bind_some
def bW:=@decide_eq_true
def b7:=@Go.run_underlying
def bY:=@decide_eq_false
def ca:=@Option.map_eq_some_iff
def cA:=@List.mem_cons
def cu:=@List.map_cons
def cC:=@List.mem_cons_of_mem
def cF:=@Nat.add_zero
def cN:=@List.mem_append
def cP:=@Nat.mul_one
def cQ:=@Nat.le_trans
def cU:=@List.append_nil
def db:=@List.length_map
def cW:=@Ne.symm
def du:=@Nat.add_mul
def cX:=@List.eq_nil_of_length_eq_zero
def c7:=@List.mem_of_getElem?
def cY:=@Bool.not_eq_true'
def c9:=@Option.bind_eq_some_iff
def da:=@congrArg
def dk:=@if_true
def dx:=@List.getElem?_append_left
def dz:=@Nat.lt_of_lt_of_le
def dA:=@Option.some.inj
def dD:=@List.getElem?_append_right
def dF:=@Nat.lt_or_ge
def dK:=@Option.map_some
def ez:=@Nat.one_mul
def eE:=@dif_pos
def eP:=@List.cons_append
def eQ:=@Go.World.cell?_of_block
def eT:=@List.map_eq_nil_iff
def fa:=@Bool.false_eq_true
def gj:=@of_decide_eq_true
def fk:=@if_false
def fx:=@List.map_nil
def fq:=@List.getElem?_map
def fA:=@Nat.mul_le_mul_right
def fF:=@decide_eq_true_eq
def fU:=@List.take_of_length_le
def fM:=@Go.World.cell?_setCells_out
def fQ:=@Nat.blt_eq
def gb:=@List.map_append
def gd:=@Go.Addr.add_mid
def gh:=@List.flatten_cons
def gi:=@Option.getD_some
def gk:=@Bool.true_and
def gm:=@List.mem_map
def gz:=@Bool.or_eq_true
def gS:=@Nat.zero_le
def gT:=@Bool.not_false
def gV:=@List.drop_eq_nil_of_le
def hU:=@List.drop_drop
def jw:=@List.getElem?_take
def iy:=@List.getElem?_cons_zero
def iA:=@Bool.not_true
def iD:=@List.nil_append
def iE:=@Go.World.cell?_alloc_new
def iF:=@Array.length_toList
def iG:=@List.append_assoc
def iT:=@Go.World.cell?_setCells_in
def iZ:=@List.all_cons
def jg:=@and_true
def jl:=@Array.getElem?_append_left
def nS:=@List.not_mem_nil
def nT:=@or_false
def jt:=@Go.MapKept.run_getObj_map
def ju:=@List.getElem?_set_ne
def jx:=@List.length_drop
def jz:=@List.mem_of_mem_take
def jK:=@List.getElem?_drop
def rh:=@List.mem_iff_getElem?
def jM:=@Go.heap_alloc_new
def jN:=@List.take_append_drop
def jZ:=@List.mapM_cons
def j7:=@Go.MapKept.run_checkKey
def j8:=@Go.MapKept.run_findKey
def j9:=@List.getElem?_set_self
def kG:=@List.mem_singleton
def kK:=@Bool.eq_iff_iff
def kM:=@ge_iff_le
def kP:=@List.getElem_of_mem
def mD:=@List.map_toArray
def la:=@List.length_take
def lC:=@List.mem_of_mem_drop
def mh:=@Bool.false_or
def mi:=@List.mem_range
def mj:=@List.getElem_mem
def mq:=@Bool.decide_and
def mx:=@List.map_take
def mB:=@Bool.and_assoc
def mL:=@Option.map_none
def mM:=@Nat.zero_lt_one
def s8:=@List.mem_cons_self
def mP:=@false_or
def nb:=@List.flatten_append
def nE:=@decide_eq_false_iff_not
def nF:=@gt_iff_lt
def nG:=@Int.not_lt
def nL:=@List.getElem?_range
def nU:=@Array.getElem?_eq_some_iff
def od:=@List.map_drop
def oe:=@List.map_set
def oD:=@Array.toList_map
def oE:=@List.drop_succ_cons
def oJ:=@Nat.mod_eq_of_lt
def pb:=@List.length_set
def pd:=@List.any_eq_true
def ph:=@Nat.add_assoc
def pk:=@List.mem_or_eq_of_mem_set
def qA:=@Go.grownCap_ge
def qB:=@Go.grownCap_le_maxLen
def qC:=@Array.size_append
def qD:=@List.size_toArray
def qE:=@Go.size_zeroCells
def ra:=@List.getElem?_toArray
def re:=@List.drop_eq_getElem_cons
def rj:=@Option.isNone_iff_eq_none
def rC:=@Option.isSome_iff_exists
def r9:=@List.set_cons_succ
def sh:=@List.take_succ_cons
def si:=@List.take_append
def sj:=@List.drop_append
def sq:=@Nat.zero_mul
def sQ:=@Go.Oper.upon_skip
def sS:=@Go.MapKept.run_setObj_map
def sU:=@Array.getElem?_toList
def sW:=@Nat.le_mul_of_pos_right
def sX:=@beq_eq_false_iff_ne
def s4:=@Go.Oper.upon_enter
def s9:=@Bool.true_eq_false
def tb:=@Nat.le_of_lt
def tc:=@Decidable.byContradiction
def td:=@Option.isSome_none
def tu:=@Go.getD_set_ne
def tG:=@Bool.false_and
def um:=@Nat.testBit_succ
def O{p:Prop}(h:p:=by omega):=h
def V{p:Prop}(h:p:=by assumption):=h
open Go.RowKit
inductive U where
 |bool (b:Bool)
 |int (k:IntKind) (n:Int)
 |str (s:List UInt8)
 |con (v:Value)
 |sl (es:List (List U))
 deriving Inhabited
def U.scal:U->Bool
 |.sl es=>es.isEmpty
 |_=>true
mutual
def Z6(I:Nat->Prop)(w:World):U->Value->Prop
 |.bool b,v=>v = .bool b
 |.int k n,v=>v = .int k n
 |.str s,v=>v = .string ⟨s.toArray⟩
 |.con c,v=>v=c/\c.oneCell'=true
 |.sl es,v=>∃a cap,v = .slice a es.length cap/\es.length<=cap/\cap<=maxLen /\
  (es=[]\/∃b off,a=some ⟨b,off,none⟩/\I b/\an I w b es off)
def an(I:Nat->Prop)(w:World)(b:Nat):List (List U)->Nat->Prop
 |[],_=>True
 |e::es,off=>Z2 I w b e off/\an I w b es (off+e.length)
def Z2(I:Nat->Prop)(w:World)(b:Nat):List U->Nat->Prop
 |[],_=>True
 |t::ts,off=>(∃c,w.cell? ⟨b,off,none⟩=some c/\Z6 I w t c)/\Z2 I w b ts (off+1)
end
def Z6.oneCell{I:Nat->Prop}{w:World}{t:U}{v:Value}(h:Z6 I w t v):v.oneCell'=true:=by
 cases t<;>simp only[Z6]at h
 case con c=>obtain⟨rfl,h⟩:=h;exact h
 case sl es=>obtain⟨a,cap,rfl,_⟩:=h;rfl
 all_goals (subst h;rfl)
mutual
def Z6.mono{I I':Nat->Prop}{w w':World}(hI:∀b,I b->I' b/\w'.heap[b]?=w.heap[b]?):∀(t:U) (v:Value),Z6 I w t v->Z6 I' w' t v
 |.bool _,_,h=>h
 |.int _ _,_,h=>h
 |.str _,_,h=>h
 |.con _,_,h=>h
 |.sl es,v,h=>by
  simp only[Z6]at h⊢;obtain⟨a,cap,hv,h1,h2,h3⟩:=h;refine⟨a,cap,hv,h1,h2,?_⟩;rcases h3 with h3|⟨b,off,ha,hb,he⟩
  .exact .inl h3
  exact .inr ⟨b,off,ha,(hI b hb).1,an.mono hI (hI b hb).2 es off he⟩
def an.mono{I I':Nat->Prop}{w w':World}(hI:∀b,I b->I' b/\w'.heap[b]?=w.heap[b]?){b:Nat}(hb:w'.heap[b]?=w.heap[b]?) :
 ∀(es:List (List U)) (off:Nat),an I w b es off->an I' w' b es off
 |[],_,_=>trivial
 |e::es,off,h=>by simp only[an]at h⊢;exact⟨Z2.mono hI hb e off h.1,an.mono hI hb es _ h.2⟩
def Z2.mono{I I':Nat->Prop}{w w':World}(hI:∀b,I b->I' b/\w'.heap[b]?=w.heap[b]?){b:Nat}(hb:w'.heap[b]?=w.heap[b]?) :
 ∀(ts:List U) (off:Nat),Z2 I w b ts off->Z2 I' w' b ts off
 |[],_,_=>trivial
 |t::ts,off,h=>by simp only[Z2]at h⊢;obtain⟨⟨c,hc,ht⟩,hr⟩:=h;exact⟨⟨c,(eQ (w:=w) hb).trans hc,Z6.mono hI t c ht⟩,Z2.mono hI hb ts _ hr⟩
end
inductive OD where
 |tail (n i:Nat)
 |msl (n:Nat)
 |mpt (n j off:Nat)
 |mrow (n j:Nat)
 |mel (n j i:Nat)
 |map
 |pw (n:Nat)
 |pp (n off:Nat)
 deriving Inhabited
inductive PV where
 |t (x:U)
 |nils
 |osl (l n:Nat)
 |bptr (l off:Nat)
 |rptr (l n i off:Nat)
 |vptr (cs:List U)
 |agg (cs:List PV)
 |tup (cs:List PV)
 |fn (f:FuncId) (caps:List PV)
 |own (l:Nat) (d:OD)
 deriving Inhabited
inductive MK where
 |v (ag:Bool)
 |rows (k:Nat) (hole:Option Int)
 deriving Inhabited
inductive Blk where
 |box (cs:List PV)
 |row (k:Nat) (es:List (List U))
 |mat (k q:Nat) (es:List (List U))
 |map (mk:MK) (es:List (Int×List U))
 |prow (k i:Nat) (es:List (List U)) (cs:List PV)
 deriving Inhabited
def get{α:Type}:List (Nat×α)->Nat->Option α
 |[],_=>none
 |(j,x)::l,i=>bif Nat.beq j i then some x else get l i
def del{α:Type}:List (Nat×α)->Nat->List (Nat×α)
 |[],_=>[]
 |(j,x)::l,i=>bif Nat.beq j i then del l i else(j,x)::del l i
def put{α:Type}(l:List (Nat×α))(i:Nat)(x:α):List (Nat×α):=(i,x)::del l i
def hP:List Nat->Nat->Bool
 |[],_=>false
 |j::l,i=>bif Nat.beq j i then true else hP l i
def aW(a b:Nat):Nat.beq a b=true↔a=b:=by rw[Nat.beq_eq]
def dJ{a b:Nat}(h:a≠b):Nat.beq a b=false:=by
 cases hb:Nat.beq a b with
 |false=>rfl
 |true=>exact absurd ((aW a b).1 hb) h
def Xk{α:Type}(l:List (Nat×α))(i:Nat):get (del l i) i=none:=by
 induction l with
 |nil=>rfl
 |cons p l ih=>
  obtain⟨j,x⟩:=p;simp only[del];cases hb:Nat.beq j i with
  |true=>simpa using ih
  |false=>simp only[aB,get,hb];exact ih
def AQ{α:Type}(l:List (Nat×α)){i j:Nat}(h:i≠j):get (del l i) j=get l j:=by
 induction l with
 |nil=>rfl
 |cons p l ih=>
  obtain⟨m,x⟩:=p;simp only[del];cases hb:Nat.beq m i with
  |true=>have:m=i:=(aW _ _).1 hb;subst this;simp only[aD,get,dJ h,aB];exact ih
  |false=>simp only[aB,get];rw[ih]
def fh{α:Type}(l:List (Nat×α))(i:Nat)(x:α):get (put l i x) i=some x:=by simp[put,get]
def fu{α:Type}(l:List (Nat×α)){i j:Nat}(x:α)(h:i≠j):get (put l i x) j=get l j:=by simp only[put,get,dJ h,aB];exact AQ l h
mutual
def PV.has(l:Nat):PV->Bool
 |.t _=>false
 |.nils=>false
 |.osl m _=>Nat.beq m l
 |.bptr m _=>Nat.beq m l
 |.rptr m _ _ _=>Nat.beq m l
 |.vptr _=>false
 |.agg cs=>PV.hasAny l cs
 |.tup cs=>PV.hasAny l cs
 |.fn _ cs=>PV.hasAny l cs
 |.own m _=>Nat.beq m l
def PV.hasAny(l:Nat):List PV->Bool
 |[]=>false
 |p::ps=>p.has l||PV.hasAny l ps
end
def Blk.has(l:Nat):Blk->Bool
 |.box cs=>PV.hasAny l cs
 |.row _ _=>false
 |.mat _ _ _=>false
 |.map _ _=>false
 |.prow _ _ _ cs=>PV.hasAny l cs
structure Ctx where
 β:Nat->Option Nat
 I:Nat->Prop
 w:World
 Z:List (Nat×Blk)
def ba(w:World)(b m:Nat):Prop:=∃cs e fr,w.heap[b]?=some (.cells cs e fr)/\cs.size=m/\(fr=(0,0)\/False)
def fV(w:World)(b:Nat)(vs:List Value):Prop:=∀j v,vs[j]?=some v->w.cell? ⟨b,j,none⟩=some v
def OSl(c:Ctx)(l n:Nat)(v:Value):Prop:=
 ∀k es,get c.Z l=some (.row k es)->n<=es.length/\(n=es.length ->
  ∃a cap,v = .slice a n cap/\n<=cap/\cap<=maxLen /\
   ((cap=0/\c.β l=none)\/∃b m,a=some ⟨b,0,none⟩/\c.β l=some b/\ba c.w b m/\cap*k<=m))
def BPt(c:Ctx)(l off:Nat)(v:Value):Prop:=∀cs,get c.Z l=some (.box cs)->∃b,c.β l=some b/\v = .pointer (some ⟨b,off,none⟩)
def RPt(c:Ctx)(l n i off:Nat)(v:Value):Prop:=∀k es,get c.Z l=some (.row k es)->n<=es.length/\(n=es.length->∃b,c.β l=some b/\v = .pointer (some ⟨b,i*k+off,none⟩))
def Subs(w:World)(b k q n:Nat)(d:Nat):Prop:=∃j,j<n/\∃len cap,len≠0/\w.cell? ⟨b,j*k+q,none⟩=some (.slice (some ⟨d,0,none⟩) len cap)
def ODR(c:Ctx)(l:Nat)(v:Value):OD->Prop
 |.tail n i=>∀k es,get c.Z l=some (.row k es)->n<=es.length/\(n=es.length ->
  ∃a cap,v = .slice a (n-i) cap/\cap<=maxLen/\((n-i=0/\cap=0)\/∃b m,a=some ⟨b,i*k,none⟩/\c.β l=some b/\ba c.w b m/\i*k+cap*k<=m))
 |.msl n=>∀k q es,get c.Z l=some (.mat k q es)->n<=es.length/\(n=es.length ->
  ∃a cap,v = .slice a n cap/\n<=cap/\cap<=maxLen/\((cap=0/\c.β l=none)\/∃b m,a=some ⟨b,0,none⟩/\c.β l=some b/\ba c.w b m/\cap*k<=m))
 |.mpt n j off=>∀k q es,get c.Z l=some (.mat k q es)->n<=es.length/\(n=es.length->∃b,c.β l=some b/\v = .pointer (some ⟨b,j*k+off,none⟩))
 |.mrow n j=>j<n/\∀k q es,get c.Z l=some (.mat k q es)->n<=es.length/\(n=es.length->∃b,c.β l=some b/\c.w.cell? ⟨b,j*k+q,none⟩=some v)
 |.mel n j i=>j<n/\∀k q es,get c.Z l=some (.mat k q es)->n<=es.length/\(n=es.length ->
  ∃b d len cap,c.β l=some b/\c.w.cell? ⟨b,j*k+q,none⟩=some (.slice (some ⟨d,0,none⟩) len cap)/\v = .pointer (some ⟨d,i,none⟩))
 |.map=>∀ag es,get c.Z l=some (.map ag es)->∃b,c.β l=some b/\v = .map (some b)
 |.pw n=>∀k i es cs,get c.Z l=some (.prow k i es cs)->n<=es.length/\(n=es.length->∃b m cap,v = .slice (some ⟨b,0,none⟩) n cap/\n<=cap/\cap<=maxLen/\c.β l=some b/\ba c.w b m/\cap*k<=m)
 |.pp n off=>∀k i es cs,get c.Z l=some (.prow k i es cs)->n<=es.length/\(n=es.length->∃b,c.β l=some b/\v = .pointer (some ⟨b,i*k+off,none⟩))
mutual
def VR(c:Ctx):PV->Value->Prop
 |.t x,v=>Z6 c.I c.w x v
 |.nils,v=>∃a,v = .slice a 0 0
 |.osl l n,v=>OSl c l n v/\∃a m cap,v = .slice a m cap
 |.bptr l off,v=>BPt c l off v/\∃a,v = .pointer a
 |.rptr l n i off,v=>RPt c l n i off v/\∃a,v = .pointer a
 |.vptr cs,v=>∃b off,v = .pointer (some ⟨b,off,none⟩)/\(cs≠[]->c.I b)/\Z2 c.I c.w b cs off
 |.agg cs,v=>∃vs,v = .agg vs.toArray/\VRs c cs vs
 |.tup cs,v=>∃vs,v = .tuple vs.toArray/\VRs c cs vs
 |.fn f cs,v=>∃vs,v = .func (.func f) #[] vs.toArray/\VRs c cs vs
 |.own l d,v=>ODR c l v d/\v.oneCell'=true
def VRs(c:Ctx):List PV->List Value->Prop
 |[],vs=>vs=[]
 |p::ps,vs=>∃v rest,vs=v::rest/\VR c p v/\VRs c ps rest
end
def PV.one:PV->Bool
 |.agg _|.tup _=>false
 |_=>true
def VR.oneCell{c:Ctx}{p:PV}{v:Value}(h:VR c p v)(h1:p.one=true):v.oneCell'=true:=by
 cases p<;>simp only[VR]at h<;>simp only[PV.one]at h1
 case t x=>exact h.oneCell
 case nils=>obtain⟨a,rfl⟩:=h;rfl
 case osl=>obtain⟨_,a,m,cap,rfl⟩:=h;rfl
 case bptr=>obtain⟨_,a,rfl⟩:=h;rfl
 case rptr=>obtain⟨_,a,rfl⟩:=h;rfl
 case vptr=>obtain⟨b,off,rfl,_⟩:=h;rfl
 case agg=>cases h1
 case tup=>cases h1
 case fn=>obtain⟨vs,rfl,_⟩:=h;rfl
 case own=>exact h.2
def VRs.length{c:Ctx}:∀{ps:List PV} {vs:List Value},VRs c ps vs->vs.length=ps.length
 |[],vs,h=>by simp only[VRs]at h;subst h;rfl
 |p::ps,vs,h=>by simp only[VRs]at h;obtain⟨v,rest,rfl,_,hr⟩:=h;simp[VRs.length hr]
def VRs.get{c:Ctx}:∀{ps:List PV} {vs:List Value} (_:VRs c ps vs) (j:Nat) (p:PV),ps[j]?=some p->∃v,vs[j]?=some v/\VR c p v
 |[],_,_,j,p,hp=>by simp at hp
 |p::ps,vs,h,j,q,hq=>by
  simp only[VRs]at h;obtain⟨v,rest,rfl,hv,hr⟩:=h;cases j with
  |zero=>simp at hq;subst hq;exact⟨v,rfl,hv⟩
  |succ j=>simpa using VRs.get hr j q r4
def VRs.of_get{c:Ctx}:∀{ps:List PV} {vs:List Value},vs.length=ps.length->(∀(j:Nat) (p:PV) (v:Value),ps[j]?=some p->vs[j]?=some v->VR c p v)->VRs c ps vs
 |[],vs,hl,_=>by simp only[VRs];exact cX hl
 |p::ps,vs,hl,h=>by
  cases vs with
  |nil=>simp at hl
  |cons v rest=>
   simp only[VRs];exact⟨v,rest,rfl,h 0 p v rfl rfl,VRs.of_get my (λj q u hq hu=>h (j+1) q u r4 oH)⟩
def aX(c c':Ctx)(l:Nat):Prop:=
 (∀k es',get c'.Z l=some (.row k es')->∃es,get c.Z l=some (.row k es)/\es.length<=es'.length /\
  (es.length=es'.length->c'.β l=c.β l/\∀b m,c.β l=some b->ba c.w b m->ba c'.w b m)) /\
 (∀cs',get c'.Z l=some (.box cs')->∃cs,get c.Z l=some (.box cs)/\c'.β l=c.β l) /\
 (∀k q es',get c'.Z l=some (.mat k q es')->∃es,get c.Z l=some (.mat k q es)/\es.length<=es'.length /\
  (es.length=es'.length->c'.β l=c.β l/\∀b,c.β l=some b->(∀m,ba c.w b m->ba c'.w b m)/\∀j,j<es.length->c'.w.cell? ⟨b,j*k+q,none⟩=c.w.cell? ⟨b,j*k+q,none⟩)) /\
 (∀mk' es',get c'.Z l=some (.map mk' es')->∃mk es,get c.Z l=some (.map mk es)/\c'.β l=c.β l) /\
 (∀k i es' cs',get c'.Z l=some (.prow k i es' cs')->∃es cs,get c.Z l=some (.prow k i es cs)/\es.length=es'.length/\c'.β l=c.β l/\∀b m,c.β l=some b->ba c.w b m->ba c'.w b m)
def OSl.step{c c':Ctx}{l n:Nat}{v:Value}(hl:aX c c' l)(h:OSl c l n v):OSl c' l n v:=by
 intro k es' hg;obtain⟨es,hg0,hle,heq⟩:=hl.1 k es' hg;obtain⟨h1,h2⟩:=h k es hg0;refine⟨cQ h1 hle,λhn=>?_⟩;have hee:es.length=es'.length:=bP
 obtain⟨hβ,hh⟩:=heq hee;obtain⟨a,cap,hv,hc1,hc2,h3⟩:=h2 O;refine⟨a,cap,hv,hc1,hc2,?_⟩;rcases h3 with⟨hc,hb⟩|⟨b,m,ha,hb,hcs,hsz⟩
 .exact .inl ⟨hc,hβ.trans hb⟩
 exact .inr ⟨b,m,ha,hβ.trans hb,hh b m hb hcs,hsz⟩
def BPt.step{c c':Ctx}{l off:Nat}{v:Value}(hl:aX c c' l)(h:BPt c l off v):BPt c' l off v:=by intro cs' hg;obtain⟨cs,hg0,hβ⟩:=hl.2.1 cs' hg;obtain⟨b,hb,hv⟩:=h cs hg0;exact⟨b,hβ.trans hb,hv⟩
def RPt.step{c c':Ctx}{l n i off:Nat}{v:Value}(hl:aX c c' l)(h:RPt c l n i off v):RPt c' l n i off v:=by
 intro k es' hg;obtain⟨es,hg0,hle,heq⟩:=hl.1 k es' hg;obtain⟨h1,h2⟩:=h k es hg0;refine⟨cQ h1 hle,λhn=>?_⟩;have hee:es.length=es'.length:=bP
 obtain⟨hβ,_⟩:=heq hee;obtain⟨b,hb,hv⟩:=h2 O;exact⟨b,hβ.trans hb,hv⟩
def ODR.step{c c':Ctx}{l:Nat}{v:Value}(hl:aX c c' l):∀{d:OD},ODR c l v d->ODR c' l v d
 |.tail n i,h=>λk es' hg=>by
  obtain⟨es,hg0,hle,heq⟩:=hl.1 k es' hg;obtain⟨h1,h2⟩:=h k es hg0;refine⟨cQ h1 hle,λhn=>?_⟩;have hee:es.length=es'.length:=bP
  obtain⟨hβ,hh⟩:=heq hee;obtain⟨a,cap,hv,hc2,h3⟩:=h2 O;refine⟨a,cap,hv,hc2,?_⟩;rcases h3 with hc|⟨b,m,ha,hb,hcs,hsz⟩
  .exact .inl hc
  exact .inr ⟨b,m,ha,hβ.trans hb,hh b m hb hcs,hsz⟩
 |.msl n,h=>λk q es' hg=>by
  obtain⟨es,hg0,hle,heq⟩:=hl.2.2.1 k q es' hg;obtain⟨h1,h2⟩:=h k q es hg0;refine⟨cQ h1 hle,λhn=>?_⟩;have hee:es.length=es'.length:=bP
  obtain⟨hβ,hh⟩:=heq hee;obtain⟨a,cap,hv,hc1,hc2,h3⟩:=h2 O;refine⟨a,cap,hv,hc1,hc2,?_⟩;rcases h3 with⟨hc,hb⟩|⟨b,m,ha,hb,hcs,hsz⟩
  .exact .inl ⟨hc,hβ.trans hb⟩
  exact .inr ⟨b,m,ha,hβ.trans hb,(hh b hb).1 m hcs,hsz⟩
 |.mpt n j off,h=>λk q es' hg=>by obtain⟨es,hg0,hle,heq⟩:=hl.2.2.1 k q es' hg;obtain⟨h1,h2⟩:=h k q es hg0;refine⟨cQ h1 hle,λhn=>?_⟩;obtain⟨hβ,hh⟩:=heq O;obtain⟨b,hb,hv⟩:=h2 O;exact⟨b,hβ.trans hb,hv⟩
 |.mrow n j,h=>⟨h.1,λk q es' hg=>by obtain⟨es,hg0,hle,heq⟩:=hl.2.2.1 k q es' hg;obtain⟨h1,h2⟩:=h.2 k q es hg0;refine⟨cQ h1 hle,λhn=>?_⟩;obtain⟨hβ,hh⟩:=heq O;obtain⟨b,hb,hv⟩:=h2 O;exact⟨b,hβ.trans hb,((hh b hb).2 j (by have:=h.1;omega)).trans hv⟩⟩
 |.mel n j i,h=>⟨h.1,λk q es' hg=>by obtain⟨es,hg0,hle,heq⟩:=hl.2.2.1 k q es' hg;obtain⟨h1,h2⟩:=h.2 k q es hg0;refine⟨cQ h1 hle,λhn=>?_⟩;obtain⟨hβ,hh⟩:=heq O;obtain⟨b,d,len,cap,hb,hv,hp⟩:=h2 O;exact⟨b,d,len,cap,hβ.trans hb,((hh b hb).2 j (by have:=h.1;omega)).trans hv,hp⟩⟩
 |.map,h=>λag es' hg=>by obtain⟨ag0,es,hg0,hβ⟩:=hl.2.2.2.1 ag es' hg;obtain⟨b,hb,hv⟩:=h ag0 es hg0;exact⟨b,hβ.trans hb,hv⟩
 |.pw n,h=>λk i es' cs' hg=>by obtain⟨es,cs,hg0,hle,hβ,hh⟩:=hl.2.2.2.2 k i es' cs' hg;obtain⟨h1,h2⟩:=h k i es cs hg0;refine⟨by omega,λhn=>?_⟩;obtain⟨b,m,cap,hv,hc1,hc2,hb,hr,hs⟩:=h2 O;exact⟨b,m,cap,hv,hc1,hc2,hβ.trans hb,hh b m hb hr,hs⟩
 |.pp n off,h=>λk i es' cs' hg=>by obtain⟨es,cs,hg0,hle,hβ,_⟩:=hl.2.2.2.2 k i es' cs' hg;obtain⟨h1,h2⟩:=h k i es cs hg0;refine⟨by omega,λhn=>?_⟩;obtain⟨b,hb,hv⟩:=h2 O;exact⟨b,hβ.trans hb,hv⟩
mutual
def VR.step{c c':Ctx}(hI:∀b,c.I b->c'.I b/\c'.w.heap[b]?=c.w.heap[b]?):∀(p:PV) (v:Value),(∀l,p.has l=true->aX c c' l)->VR c p v->VR c' p v
 |.t x,v,_,h=>by simp only[VR]at h⊢;exact Z6.mono hI x v h
 |.nils,v,_,h=>h
 |.osl l n,v,hl,h=>uj
 |.bptr l off,v,hl,h=>uj
 |.rptr l n i off,v,hl,h=>uj
 |.vptr cs,v,_,h=>by
  simp only[VR]at h⊢;obtain⟨b,off,hv,hb,hc⟩:=h;refine⟨b,off,hv,λhne=>(hI b (hb hne)).1,?_⟩;cases cs with
  |nil=>trivial
  |cons t ts=>exact Z2.mono hI (hI b (hb aj)).2 _ _ hc
 |.agg cs,v,hl,h=>Ah
 |.tup cs,v,hl,h=>Ah
 |.fn f cs,v,hl,h=>Ah
 |.own l d,v,hl,h=>uj
def VRs.step{c c':Ctx}(hI:∀b,c.I b->c'.I b/\c'.w.heap[b]?=c.w.heap[b]?):∀(ps:List PV) (vs:List Value),(∀l,PV.hasAny l ps=true->aX c c' l)->VRs c ps vs->VRs c' ps vs
 |[],vs,_,h=>h
 |p::ps,vs,hl,h=>by simp only[VRs]at h⊢;obtain⟨v,rest,rfl,hv,hr⟩:=h;exact⟨v,rest,rfl,VR.step hI p v (λl h=>hl l qX) hv,VRs.step hI ps rest (λl h=>hl l qX) hr⟩
end
def mvP(ag:Bool)(ts:List U):PV:=bif ag then .agg (ts.map .t)else(match ts with|[x] =>.t x|_ =>.agg (ts.map .t))
def gJ(l:Nat):∀(ts:List U),PV.hasAny l (ts.map .t)=false
 |[]=>rfl
 |t::ts=>by simp only[cu,PV.hasAny,PV.has,gJ l ts,Bool.or_false]
def Xl(ag:Bool)(l:Nat)(ts:List U):(mvP ag ts).has l=false:=by
 unfold mvP;cases ag with
 |true=>simp only[aD,PV.has,gJ]
 |false=>
  simp only[aB];split
  .rfl
  simp only[PV.has,gJ]
def dH(c:Ctx)(ag:Bool):List MapEntry->List (Int×List U)->Prop
 |[],xs=>xs=[]
 |e::es,xs=>∃n ts r,xs=(n,ts)::r/\e.key = .int .i64 n/\VR c (mvP ag ts) e.val/\dH c ag es r
def dH.step{c c':Ctx}{ag:Bool}(hI:∀b,c.I b->c'.I b/\c'.w.heap[b]?=c.w.heap[b]?):∀{es:List MapEntry} {xs:List (Int×List U)},dH c ag es xs->dH c' ag es xs
 |[],_,h=>h
 |e::es,xs,h=>by obtain⟨n,ts,r,h1,h2,h3,h4⟩:=h;exact⟨n,ts,r,h1,h2,VR.step hI _ _ (λl hl=>by rw[Xl]at hl;cases hl) h3,dH.step hI h4⟩
def RowV(c:Ctx)(k:Nat)(rows:List (List U))(v:Value):Prop:=(∀el,el∈rows->el.length=k)/\∃a cap,v = .slice a rows.length cap/\rows.length<=cap/\cap<=maxLen/\(cap=0\/∃d m,a=some ⟨d,0,none⟩/\ba c.w d m/\cap*k<=m/\an c.I c.w d rows 0)
def MapEntry.inn(hole:Option Int)(e:MapEntry):Prop:=∀n,e.key = .int .i64 n->hole≠some n
def qF(c:Ctx)(k:Nat)(hole:Option Int)(es:List MapEntry)(xs:List (Int×List U)):Prop:=es.length=xs.length/\∀(i:Nat) e x,es[i]?=some e->xs[i]?=some x->e.key = .int .i64 x.1/\∃rows,x.2=[.sl rows]/\(hole≠some x.1->RowV c k rows e.val)
def qG(w:World)(b:Nat)(hole:Option Int)(d:Nat):Prop:=∃ents clock e len cap,w.heap[b]?=some (.map ents clock)/\e∈ents.toList/\MapEntry.inn hole e/\cap≠0/\e.val = .slice (some ⟨d,0,none⟩) len cap
def Z8e(c:Ctx):MK->List MapEntry->List (Int×List U)->Prop
 |.v ag,es,xs=>dH c ag es xs
 |.rows k hole,es,xs=>0<k/\qF c k hole es xs/\(xs.map Prod.fst).Nodup /\
  ∀(i j:Nat) ei ej d l l' cap cap',es[i]?=some ei->es[j]?=some ej->MapEntry.inn hole ei->MapEntry.inn hole ej->cap≠0->cap'≠0->ei.val = .slice (some ⟨d,0,none⟩) l cap->ej.val = .slice (some ⟨d,0,none⟩) l' cap'->i=j
def ef(i:Nat)(es:List (List U))(cs:List PV):List PV:=((es.take i).flatten.map .t)++(cs++((es.drop (i+1)).flatten.map .t))
def AR(l:Nat):∀(ps qs:List PV),PV.hasAny l (ps++qs)=(PV.hasAny l ps||PV.hasAny l qs)
 |[],_=>rfl
 |p::ps,qs=>by simp only[eP,PV.hasAny,AR l ps qs,Bool.or_assoc]
def Z8f(l i:Nat)(es:List (List U))(cs:List PV):PV.hasAny l (ef i es cs)=PV.hasAny l cs:=by unfold ef;rw[AR,AR,gJ,gJ,Bool.or_false,mh]
def BR(c:Ctx)(l:Nat):Blk->Prop
 |.box ps=>∃b vs,c.β l=some b/\ba c.w b ps.length/\fV c.w b vs/\VRs c ps vs/\ps.all PV.one=true
 |.row k es=>0<k/\(∀el,el∈es->el.length=k)/\((c.β l=none/\es=[]) \/
  ∃b m,c.β l=some b/\ba c.w b m/\es.length*k<=m/\an c.I c.w b es 0)
 |.mat k q es=>q<k/\(∀el,el∈es->el.length=k)/\((c.β l=none/\es=[]) \/
  ∃b m,c.β l=some b/\ba c.w b m/\es.length*k<=m/\an (λd=>c.I d\/Subs c.w b k q es.length d) c.w b es 0 /\
   (∀i j d len len' cap cap',i<es.length->j<es.length->len≠0->len'≠0->c.w.cell? ⟨b,i*k+q,none⟩=some (.slice (some ⟨d,0,none⟩) len cap)->c.w.cell? ⟨b,j*k+q,none⟩=some (.slice (some ⟨d,0,none⟩) len' cap')->i=j) /\
   (∀j e,es[j]?=some e->∃inner a len cap,e[q]?=some (.sl inner)/\(∀x,x∈inner->∃t,x=[t]/\t.scal=true)/\c.w.cell? ⟨b,j*k+q,none⟩=some (.slice a len cap) /\
    (len≠0->∃d m',a=some ⟨d,0,none⟩/\d≠b/\ba c.w d m'/\cap<=m')))
 |.map mk es=>∃b ents clock,c.β l=some b/\c.w.heap[b]?=some (.map ents clock)/\Z8e c mk ents.toList es
 |.prow k i es cs=>0<k/\(∀el,el∈es->el.length=k)/\i<es.length/\cs.length=k/\cs.all PV.one=true /\
  ∃b m vs,c.β l=some b/\ba c.w b m/\es.length*k<=m/\fV c.w b vs/\VRs c (ef i es cs) vs
structure Frm where
 base:Nat
 w0:World
 own:Nat->Prop
 A:Nat->Prop
 β0:Nat->Option Nat
 σ0:Nat->Option Blk
structure St where
 n:Nat
 tm:List (Nat×PV)
 Z:List (Nat×Blk)
def Blk.subs(w:World)(b0 b:Nat):Blk->Prop
 |.mat k q es=>Subs w b0 k q es.length b
 |.map (.rows _ hole) _=>qG w b0 hole b
 |_=>False
def aA(β:Nat->Option Nat)(w:World)(l:Nat)(o:Blk)(b:Nat):Prop:=β l=some b\/∃b0,β l=some b0/\o.subs w b0 b
def Imm(G:Frm)(β:Nat->Option Nat)(w:World)(Z:List (Nat×Blk))(b:Nat):Prop:=b<w.heap.size/\(G.base<=b\/G.A b\/G.own b)/\∀l o,get Z l=some o->¬aA β w l o b
def ctx(G:Frm)(β:Nat->Option Nat)(w:World)(Z:List (Nat×Blk)):Ctx:=⟨β,Imm G β w Z,w,Z⟩
inductive GK where
 |anyInt
 |cells (ts:List U)
structure KW where
 gs:List (Nat×GK)
instance:Inhabited KW:=⟨⟨[(0,.anyInt)]⟩⟩
def gset:List (Nat×GK):=(default:KW).gs
def GAt(w:World)(g:Nat):GK->Prop
 |.anyInt=>∃m,w.cell? ⟨g,0,none⟩=some (.int .i64 m)
 |.cells ts=>Z2 (λ_=>False) w g ts 0
def GAt.mono{w w':World}{g:Nat}{k:GK}(hh:w'.heap[g]?=w.heap[g]?)(h:GAt w g k):GAt w' g k:=by
 cases k with
 |anyInt=>
  obtain⟨m,h⟩:=h;exact⟨m,(eQ (w:=w) hh).trans h⟩
 |cells ts=>exact Z2.mono (λb hb=>hb.elim) hh ts 0 h
def oh(w:World):Prop:=∀g k,(g,k)∈gset->g<w.heap.size/\GAt w g k
def R0(G:Frm)(β:Nat->Option Nat)(w:World)(Z:List (Nat×Blk)):Prop:=∀l k es',l<1000->get Z l=some (.row k es') ->
 ∃es,G.σ0 l=some (.row k es)/\es.length<=es'.length/\(es.length=es'.length->β l=G.β0 l/\∀b m,G.β0 l=some b->ba G.w0 b m->ba w b m)
def R0.one{G:Frm}{β β':Nat->Option Nat}{w w':World}{Z Z':List (Nat×Blk)}{l k:Nat}{es':List (List U)}(h:R0 G β w Z)(hL:aX (ctx G β w Z) (ctx G β' w' Z') l)(hl:l<1000)(hg:get Z' l=some (.row k es')) :
 ∃es,G.σ0 l=some (.row k es)/\es.length<=es'.length/\(es.length=es'.length->β' l=G.β0 l/\∀b m,G.β0 l=some b->ba G.w0 b m->ba w' b m):=by
 obtain⟨es1,h1,h2,h3⟩:=hL.1 k es' hg;obtain⟨es,g1,g2,g3⟩:=h l k es1 hl h1;refine⟨es,g1,cQ g2 h2,λhe=>?_⟩;obtain⟨a1,a2⟩:=g3 O;obtain⟨b1,b2⟩:=h3 O;exact⟨b1.trans a1,λb m hb hr=>b2 b m (a1.trans hb) (a2 b m hb hr)⟩
def R0.step{G:Frm}{β β':Nat->Option Nat}{w w':World}{Z Z':List (Nat×Blk)}(h:R0 G β w Z)(hL:∀l,l<1000->aX (ctx G β w Z) (ctx G β' w' Z') l):R0 G β' w' Z':=λl k es' hl hg=>h.one (hL l hl) hl hg
def R0.sub{G:Frm}{β:Nat->Option Nat}{w:World}{Z Z':List (Nat×Blk)}(hσ:∀l o,get Z' l=some o->get Z l=some o)(h:R0 G β w Z):R0 G β w Z':=λl k es' hl hg=>h l k es' hl (hσ l _ hg)
structure aF (G:Frm) (β:Nat->Option Nat) (st:St) (a:Act) (w:World):Prop where
 defers:a.defers=[]
 sz:st.n<=a.tmps.size
 base:G.base<=w.heap.size
 os:w.os=G.w0.os
 tape:w.tape=G.w0.tape
 output:w.output=G.w0.output
 old:∀b,b<G.base->¬G.own b->w.heap[b]?=G.w0.heap[b]?
 A:∀b,G.A b->b<G.base/\¬G.own b
 gl:∀g k,(g,k)∈gset->g<G.base/\¬G.own g/\G.A g/\GAt G.w0 g k
 inj:∀l l' o o' b,get st.Z l=some o->get st.Z l'=some o'->aA β w l o b->aA β w l' o' b->l=l'
 sep:∀l o b,get st.Z l=some o->aA β w l o b->b<w.heap.size/\(G.base<=b\/G.own b)
 fix:∀l cs,l<1000->get st.Z l=some (.box cs)->β l=G.β0 l
 row0:R0 G β w st.Z
 blk:∀l o,get st.Z l=some o->BR (ctx G β w st.Z) l o
 tm:∀i p,get st.tm i=some p->i<st.n/\VR (ctx G β w st.Z) p (a.tmps.getD i undef)
def aF.glw{G:Frm}{β:Nat->Option Nat}{st:St}{a:Act}{w:World}(h:aF G β st a w):oh w:=λg k hg=>by obtain⟨h1,h2,_,h3⟩:=h.gl g k hg;exact⟨dz h1 h.base,GAt.mono (h.old g h1 h2) h3⟩
def aF.glI{G:Frm}{β:Nat->Option Nat}{st:St}{a:Act}{w:World}(h:aF G β st a w){g:Nat}{k:GK}(hg:(g,k)∈gset):Imm G β w st.Z g:=by
 obtain⟨h1,h2,h3,_⟩:=h.gl g k hg;refine⟨dz h1 h.base,.inr (.inl h3),λl o hl hb=>?_⟩;rcases(h.sep l o g hl hb).2 with h4|h4
 .exact absurd h1 (Nat.not_lt_of_le h4)
 exact h2 h4
def Rel(G:Frm)(st:St)(a:Act)(w:World):Prop:=∃β,aF G β st a w
def PW(P:Program)(c:Code)(Q:Exit->St->Prop)(st:St):Prop:=∀G a w,Rel G st a w->c.wp P (λe a' w'=>∃st',Q e st'/\Rel G st' a' w') a w
end Go.PW
namespace Go.PW
open Go.RowKit
def Imm.sub{G:Frm}{β:Nat->Option Nat}{w:World}{Z Z':List (Nat×Blk)}(hσ:∀l o,get Z' l=some o->get Z l=some o)(b:Nat)(h:Imm G β w Z b):Imm G β w Z' b:=by obtain⟨h1,h2,h3⟩:=h;exact⟨h1,h2,λl o hl=>h3 l o (hσ l o hl)⟩
def aX.sub{G:Frm}{β:Nat->Option Nat}{w:World}{Z Z':List (Nat×Blk)}(hσ:∀l o,get Z' l=some o->get Z l=some o)(l:Nat):aX (ctx G β w Z) (ctx G β w Z') l:=⟨λ_ es' h=>⟨es',hσ l _ h,bh _,λ_=>⟨rfl,λ_ _ _ h=>h⟩⟩,λcs' h=>⟨cs',hσ l _ h,rfl⟩,λ_ _ es' h=>⟨es',hσ l _ h,bh _,λ_=>⟨rfl,λ_ _=>⟨λ_ h=>h,λ_ _=>rfl⟩⟩⟩,λmk' es' h=>⟨mk',es',hσ l _ h,rfl⟩,λ_ _ es' cs' h=>⟨es',cs',hσ l _ h,rfl,rfl,λ_ _ _ h=>h⟩⟩
def Subs.of_heap{w w':World}{b k q n d:Nat}(h:w'.heap[b]?=w.heap[b]?)(hs:Subs w' b k q n d):Subs w b k q n d:=by obtain⟨j,hj,len,cap,hl,hc⟩:=hs;exact⟨j,hj,len,cap,hl,(eQ (w:=w) h).symm.trans hc⟩
def qG.of_heap{w w':World}{b d:Nat}{hole:Option Int}(h:w'.heap[b]?=w.heap[b]?)(hs:qG w' b hole d):qG w b hole d:=by obtain⟨ents,clock,e,len,cap,h1,h2⟩:=hs;exact⟨ents,clock,e,len,cap,h.symm.trans h1,h2⟩
def Blk.subs_heap{w w':World}{b0 b:Nat}{o:Blk}(h:w'.heap[b0]?=w.heap[b0]?)(hs:o.subs w' b0 b):o.subs w b0 b:=by
 cases o with
 |mat k q es=>exact Subs.of_heap h hs
 |map mk es=>cases mk with
  |v ag=>exact hs
  |rows k hole=>exact qG.of_heap h hs
 |box|row|prow=>exact hs
def aA.of_heap{β:Nat->Option Nat}{w w':World}{l:Nat}{o:Blk}{b:Nat}(h:∀b,β l=some b->w'.heap[b]?=w.heap[b]?)(ho:aA β w' l o b):aA β w l o b:=by
 rcases ho with ho|⟨b0,h2,h3⟩
 .exact .inl ho
 exact .inr ⟨b0,h2,Blk.subs_heap (h b0 h2) h3⟩
def aA.of{β β':Nat->Option Nat}{w w':World}{l:Nat}{o:Blk}{b:Nat}(hβ:β' l=β l)(h:∀b,β l=some b->w'.heap[b]?=w.heap[b]?)(ho:aA β' w' l o b):aA β w l o b:=by
 rcases ho with ho|⟨b0,h2,h3⟩
 .exact .inl (hβ▸ho)
 rw[hβ]at h2;exact .inr ⟨b0,h2,Blk.subs_heap (h b0 h2) h3⟩
def aA.of_cell{β:Nat->Option Nat}{w w':World}{l:Nat}{o:Blk}{b:Nat}(h:∀a:Nat,w'.heap[a]?=w.heap[a]?)(ho:aA β w' l o b):aA β w l o b:=ho.of_heap λb _=>h b
def Blk.flat:Blk->Prop
 |.mat _ _ _=>False
 |.map (.rows _ _) _=>False
 |_=>True
def aA.flat{β:Nat->Option Nat}{w:World}{l:Nat}{o:Blk}{b:Nat}(hf:o.flat)(ho:aA β w l o b):β l=some b:=by
 rcases ho with ho|⟨b0,_,hs⟩
 .exact ho
 cases o with
 |mat=>exact hf.elim
 |map mk=>cases mk with
  |v=>exact hs.elim
  |rows=>exact hf.elim
 |box|row|prow=>exact hs.elim
def ba.of_heap{w w':World}{b m:Nat}(h:w'.heap[b]?=w.heap[b]?)(hr:ba w b m):ba w' b m:=by unfold ba;rw[h];exact hr
def RowV.step{c c':Ctx}(hI:∀b,c.I b->c'.I b/\c'.w.heap[b]?=c.w.heap[b]?){k:Nat}{rows:List (List U)}{v:Value}(hd:∀d len cap,cap≠0->v = .slice (some ⟨d,0,none⟩) len cap->c'.w.heap[d]?=c.w.heap[d]?)(h:RowV c k rows v):RowV c' k rows v:=by
 obtain⟨h1,a,cap,h2,h3,h4,h5⟩:=h;refine⟨h1,a,cap,h2,h3,h4,?_⟩;rcases h5 with h5|⟨d,m,h6,h7,h8,h9⟩
 .exact .inl h5
 by_cases h0:cap=0
 .exact .inl h0
 have:=hd d _ cap h0 (by rw[h2,h6]);exact .inr ⟨d,m,h6,h7.of_heap this,h8,an.mono hI this _ _ h9⟩
def qF.step{c c':Ctx}(hI:∀b,c.I b->c'.I b/\c'.w.heap[b]?=c.w.heap[b]?){k:Nat}{hole:Option Int}{es:List MapEntry}{xs:List (Int×List U)}(hd:∀e d len cap,e∈es->MapEntry.inn hole e->cap≠0->e.val = .slice (some ⟨d,0,none⟩) len cap->c'.w.heap[d]?=c.w.heap[d]?)(h:qF c k hole es xs):qF c' k hole es xs:=by refine⟨h.1,λi e x he hx=>?_⟩;obtain⟨h1,rows,h2,h3⟩:=h.2 i e x he hx;refine⟨h1,rows,h2,λhn=>(h3 hn).step hI (λd len cap h0 hv=>hd e d len cap (c7 he) (λn' hn'=>?_) h0 hv)⟩;rw[h1]at hn';cases hn';exact hn
def MK.own(es:List MapEntry)(d:Nat):MK->Prop
 |.v _=>False
 |.rows _ hole=>∃e len cap,e∈es/\MapEntry.inn hole e/\cap≠0/\e.val = .slice (some ⟨d,0,none⟩) len cap
def Z8e.step{c c':Ctx}(hI:∀b,c.I b->c'.I b/\c'.w.heap[b]?=c.w.heap[b]?){mk:MK}{es:List MapEntry}{xs:List (Int×List U)}(hd:∀d,mk.own es d->c'.w.heap[d]?=c.w.heap[d]?)(h:Z8e c mk es xs):Z8e c' mk es xs:=by
 cases mk with
 |v ag=>exact dH.step hI h
 |rows k hole=>exact⟨h.1,qF.step hI (λe d len cap h1 h2 h3 h4=>hd d ⟨e,len,cap,h1,h2,h3,h4⟩) h.2.1,h.2.2⟩
def BR.step{c c':Ctx}(hI:∀b,c.I b->c'.I b/\c'.w.heap[b]?=c.w.heap[b]?){l:Nat}{o:Blk}(hβ:c'.β l=c.β l)(hh:∀b,aA c.β c.w l o b->c'.w.heap[b]?=c.w.heap[b]?)
 (hl:∀m,o.has m=true->aX c c' m) (h:BR c l o):BR c' l o:=by
 have hrow:∀b m,c.β l=some b->ba c.w b m->ba c'.w b m:=λb m hb h=>h.of_heap (hh b (.inl hb));cases o with
 |box ps=>
  obtain⟨b,vs,hb,hr,hcs,hv,h1⟩:=h;exact⟨b,vs,hβ.trans hb,hrow b _ hb hr,λj v hj=>(eQ (w:=c.w) (hh b (.inl hb))).trans (hcs j v hj),VRs.step hI _ _ (λm hm=>hl m hm) hv,h1⟩
 |row k es=>
  obtain⟨h0,hk,h⟩:=h;refine⟨h0,hk,?_⟩;rcases h with⟨hb,he⟩|⟨b,m,hb,hr,hsz,het⟩
  .exact .inl ⟨hβ.trans hb,he⟩
  exact .inr ⟨b,m,hβ.trans hb,hrow b m hb hr,hsz,an.mono hI (hh b (.inl hb)) _ _ het⟩
 |mat k q es=>
  obtain⟨h0,hk,h⟩:=h;refine⟨h0,hk,?_⟩;rcases h with⟨hb,he⟩|⟨b,m,hb,hr,hsz,het,hd,hin⟩
  .exact .inl ⟨hβ.trans hb,he⟩
  have hbh:=hh b (.inl hb);have hc:∀j,c'.w.cell? ⟨b,j*k+q,none⟩=c.w.cell? ⟨b,j*k+q,none⟩:=λj=>eQ (w:=c.w) hbh;refine .inr ⟨b,m,hβ.trans hb,hrow b m hb hr,hsz,an.mono (λd hd=>?_) hbh _ _ het,λi j d len len' cap cap' hi hj hl hl' h1 h2=>hd i j d len len' cap cap' hi hj hl hl' ((hc i).symm.trans h1) ((hc j).symm.trans h2),λj e he=>?_⟩
  .rcases hd with hd|hd
   .exact⟨.inl (hI d hd).1,(hI d hd).2⟩
   refine⟨.inr ?_,hh d (.inr ⟨b,hb,hd⟩)⟩;obtain⟨j,hj,len,cap,hl,hcc⟩:=hd;exact⟨j,hj,len,cap,hl,(hc j).trans hcc⟩
  obtain⟨inner,a,len,cap,h1,h2,h3,h4⟩:=hin j e he;refine⟨inner,a,len,cap,h1,h2,(hc j).trans h3,λhl=>?_⟩;obtain⟨d,m',h5,h6,h7,h8⟩:=h4 hl;have hj:=(bj.1 he).1;exact⟨d,m',h5,h6,h7.of_heap (hh d (.inr ⟨b,hb,j,hj,len,cap,hl,by rw[h3,h5]⟩)),h8⟩
 |map ag es=>
  obtain⟨b,ents,clock,hb,hm,he⟩:=h;exact⟨b,ents,clock,hβ.trans hb,(hh b (.inl hb)).trans hm,Z8e.step hI (λd hs=>hh d (by
   cases ag with
   |v=>exact hs.elim
   |rows k hole=>obtain⟨e,len,cap,h1,h2,h3,h4⟩:=hs;exact .inr ⟨b,hb,ents,clock,e,len,cap,hm,h1,h2,h3,h4⟩)) he⟩
 |prow k i es cs=>
  obtain⟨h0,hk,hi,hc,h1,b,m,vs,hb,hr,hsz,hcs,hv⟩:=h;exact⟨h0,hk,hi,hc,h1,b,m,vs,hβ.trans hb,hrow b m hb hr,hsz,λj v hj=>(eQ (w:=c.w) (hh b (.inl hb))).trans (hcs j v hj),VRs.step hI _ _ (λq hq=>hl q (by rw[Z8f]at hq;exact hq)) hv⟩
def aX.none{c c':Ctx}{l:Nat}(h:get c'.Z l=none):aX c c' l:=⟨λ_ _ hg=>qx,λ_ hg=>qx,λ_ _ _ hg=>qx,λ_ _ hg=>qx,λ_ _ _ _ hg=>qx⟩
def aX.same{c c':Ctx}{l:Nat}(hσ:get c'.Z l=get c.Z l)(hβ:c'.β l=c.β l)(hw:∀b,c.β l=some b->c'.w.heap[b]?=c.w.heap[b]?):aX c c' l:=
 ⟨λ_ es' h=>⟨es',hσ▸h,bh _,λ_=>⟨hβ,λb _ hb hr=>hr.of_heap (hw b hb)⟩⟩,λcs' h=>⟨cs',hσ▸h,hβ⟩,
  λ_ _ es' h=>⟨es',hσ▸h,bh _,λ_=>⟨hβ,λb hb=>⟨λ_ hr=>hr.of_heap (hw b hb),λ_ _=>eQ (w:=c.w) (hw b hb)⟩⟩⟩,λmk' es' h=>⟨mk',es',hσ▸h,hβ⟩,λ_ _ es' cs' h=>⟨es',cs',hσ▸h,rfl,hβ,λb _ hb hr=>hr.of_heap (hw b hb)⟩⟩
def aF.sub{G:Frm}{β:Nat->Option Nat}{st st':St}{a:Act}{w:World}(h:aF G β st a w)(hn:st'.n<=st.n)(ht:∀i p,get st'.tm i=some p->get st.tm i=some p/\i<st'.n)
 (hσ:∀l o,get st'.Z l=some o->get st.Z l=some o):aF G β st' a w:=by
 have hI:∀b,(ctx G β w st.Z).I b->(ctx G β w st'.Z).I b/\(ctx G β w st'.Z).w.heap[b]?=(ctx G β w st.Z).w.heap[b]?:=λb hb=>⟨Imm.sub hσ b hb,rfl⟩
 exact { defers:=h.defers,sz:=cQ hn h.sz,base:=h.base,os:=h.os,tape:=h.tape,output:=h.output,old:=h.old,A:=h.A,gl:=h.gl,
         inj:=λl l' o o' b hl hl'=>h.inj l l' o o' b (hσ l o hl) (hσ l' o' hl'),
         sep:=λl o b hl=>h.sep l o b (hσ l o hl),
         fix:=λl cs h1 hl=>h.fix l cs h1 (hσ l _ hl),row0:=h.row0.sub hσ,
         blk:=λl o hl=>BR.step hI rfl (λ_ _=>rfl) (λm _=>aX.sub hσ m) (h.blk l o (hσ l o hl)),
         tm:=λi p hi=>⟨(ht i p hi).2,VR.step hI p _ (λm _=>aX.sub hσ m) (h.tm i p (ht i p hi).1).2⟩ }
def Wk(st st':St):Prop:=∀G a w,Rel G st a w->Rel G st' a w
def Wk.refl(st:St):Wk st st:=λ_ _ _ h=>h
def Wk.trans{a b c:St}(h:Wk a b)(k:Wk b c):Wk a c:=λG x w r=>k G x w (h G x w r)
section rules
variable {P:Program} {Q Q':Exit->St->Prop} {st:St}
def PW.weaken{c:Code}{st':St}(hw:Wk st st')(h:PW P c Q st'):PW P c Q st:=λG a w hr=>h G a w (hw G a w hr)
def PW.skip(h:Q .normal st):PW P .skip Q st:=λ_ _ _ hr=>wp_skip ⟨st,h,hr⟩
def PW.label{l:Nat}(h:Q .normal st):PW P (.label l) Q st:=λ_ _ _ hr=>wp_label ⟨st,h,hr⟩
def PW.exit{id:Nat}(h:Q (.exit id) st):PW P (.exit id) Q st:=λ_ _ _ hr=>wp_exit ⟨st,h,hr⟩
def PW.ret(h:Q .ret st):PW P .ret Q st:=λ_ _ _ hr=>wp_ret ⟨st,h,hr⟩
def jF(next:St->Prop)(Q:Exit->St->Prop):Exit->St->Prop
 |.normal,st=>next st
 |e,st=>Q e st
def PW.seq{x y:Code}(h:PW P x (jF (PW P y Q) Q) st):PW P (.seq x y) Q st:=by
 intro G a w hr;refine wp_seq (wp_mono (h G a w hr) ?_);rintro e a' w' ⟨st',hq,hr'⟩;cases e<;>simp only[jF,Exit.then]at hq⊢
 case normal=>exact hq G a' w' hr'
 all_goals exact⟨st',hq,hr'⟩
def PW.cond{c:Operand}{x y:Code}{t:Nat}{b:Bool}(hc:c = .tmp t)(hg:get st.tm t=some (.t (.bool b)))(ht:b=true->PW P x Q st)(hf:b=false->PW P y Q st) :
 PW P (.cond c x y) Q st:=by
 intro G a w hr;obtain⟨β,h⟩:=hr;have hv:=(h.tm t _ hg).2;simp only[VR,Z6]at hv;subst hc;exact wp_cond_split (t:=b) hv (λhb=>ht hb G a w ⟨β,h⟩) (λhb=>hf hb G a w ⟨β,h⟩)
def PW.condConst{x y:Code}{b:Bool}(ht:b=true->PW P x Q st)(hf:b=false->PW P y Q st) :
 PW P (.cond (.const (.bool b)) x y) Q st:=by
 intro G a w hr;exact wp_cond_split (t:=b) rfl (λhb=>ht hb G a w hr) (λhb=>hf hb G a w hr)
def nc(id:Nat)(Q:Exit->St->Prop):Exit->St->Prop
 |.exit id',st=>if id'=id then Q .normal st else Q (.exit id') st
 |e,st=>Q e st
def PW.block{id:Nat}{c:Code}(h:PW P c (nc id Q) st):PW P (.block id c) Q st:=by
 intro G a w hr;refine wp_block (wp_mono (h G a w hr) ?_);rintro e a' w' ⟨st',hq,hr'⟩;cases e<;>simp only[nc,Exit.inBlock]at hq⊢
 case exit id'=>
  split
  .rename_i he;simp only[he,dk]at hq;exact⟨st',hq,hr'⟩
  rename_i he;simp only[he,fk]at hq;exact⟨st',hq,hr'⟩
 all_goals exact⟨st',hq,hr'⟩
def NoGo(Q:Exit->St->Prop):Exit->St->Prop
 |.goto _,_=>False
 |e,st=>Q e st
def PW.scope{c:Code}(h:PW P c (NoGo Q) st):PW P (.scope c) Q st:=by intro G a w hr;refine wp_scope_straight (wp_mono (h G a w hr) ?_);rintro e a' w' ⟨st',hq,hr'⟩;cases e<;>simp only[NoGo,Exit.noGoto]at hq⊢;all_goals exact⟨st',hq,hr'⟩
end rules
def aQ(P:Program)(o:Oper)(ρ:List (Nat×PV))(Z:List (Nat×Blk))(need:List Nat)(p:PV)(news:List (Nat×Blk)):Prop:=
 ∀(G:Frm) (n:Nat) (tm:List (Nat×PV)) (Z':List (Nat×Blk)) (a:Act) (w:World) (K:Act->World->Prop) (Q:Exit->Act->World->Prop),
  (∀t q,Operand.tmp t∈o.op.operands->get ρ t=some q->get tm t=some q) ->
  (∀l,l∈need->get Z' l=get Z l) ->
  (∀l x,(l,x)∈news->(∀i q,get tm i=some q->q.has l=false)/\(∀m y,get Z' m=some y->m≠l/\y.has l=false)) ->
  Rel G ⟨n,tm,Z'⟩ a w ->
  (∀v w',(∃β,aF G β ⟨n,tm,news++Z'⟩ a w'/\VR (ctx G β w' (news++Z')) p v)->K (a.put o.dst v) w') ->
  o.wp P a w K Q
def gx(P:Program)(o:Oper)(st st':St):Prop:=∀(G:Frm) (a:Act) (w:World) (K:Act->World->Prop) (Q:Exit->Act->World->Prop),Rel G st a w->(∀a' w',Rel G st' a' w'->K a' w')->o.wp P a w K Q
def aF.put{G:Frm}{β:Nat->Option Nat}{n:Nat}{tm:List (Nat×PV)}{Z:List (Nat×Blk)}{a:Act}{w:World}{d:Nat}{p:PV}{v:Value}
 (h:aF G β ⟨n,tm,Z⟩ a w) (hd:d<n) (hv:VR (ctx G β w Z) p v):aF G β ⟨n,put tm d p,Z⟩ (a.put (some d) v) w:=by
 have hsz:d<a.tmps.size:=dz hd h.sz
 exact { defers:=h.defers,sz:=by simpa[Act.put]using h.sz,base:=h.base,os:=h.os,tape:=h.tape,output:=h.output,old:=h.old,A:=h.A,gl:=h.gl,inj:=h.inj,sep:=h.sep,fix:=h.fix,row0:=h.row0,blk:=h.blk,
         tm:=λi q hq=>by
          by_cases hi:d=i
          .subst hi;rw[fh]at hq;cases hq;refine⟨hd,?_⟩;simpa[Act.put,hsz]using hv
          rw[fu _ _ hi]at hq;refine⟨(h.tm i q hq).1,?_⟩;have:=(h.tm i q hq).2;simpa[Act.put,Array.getElem?_setIfInBounds_ne hi]using this }
def bf{α:Type}:List Nat->List (Nat×α)->List (Nat×α)
 |[],Z=>Z
 |l::ls,Z=>bf ls (del Z l)
def kH{α:Type}:∀{ls:List Nat} {Z:List (Nat×α)} {m:Nat} {o:α},get (bf ls Z) m=some o->m∉ls/\get Z m=some o
 |[],Z,m,o,h=>⟨by simp,h⟩
 |l::ls,Z,m,o,h=>by
  obtain⟨h1,h2⟩:=kH (ls:=ls) h;by_cases hm:l=m
  .subst hm;rw[Xk]at h2;cases h2
  rw[AQ _ hm]at h2;exact⟨by simp[h1,cW hm],h2⟩
def sP{α:Type}:∀{ls:List Nat} {Z:List (Nat×α)} {m:Nat},m∉ls->get (bf ls Z) m=get Z m
 |[],Z,m,_=>rfl
 |l::ls,Z,m,h=>by simp only[cA,not_or]at h;rw[bf,sP h.2,AQ _ (cW h.1)]
def OpF(P:Program)(o:Oper)(ρ:List (Nat×PV))(Z:List (Nat×Blk))(need rm:List Nat)(p:PV)(news:List (Nat×Blk)):Prop:=
 ∀(G:Frm) (n:Nat) (tm:List (Nat×PV)) (Z':List (Nat×Blk)) (a:Act) (w:World) (K:Act->World->Prop) (Q:Exit->Act->World->Prop),
  (∀t q,Operand.tmp t∈o.op.operands->get ρ t=some q->get tm t=some q) ->
  (∀l,l∈need->get Z' l=get Z l) ->
  (∀l x,(l,x)∈news->l∉rm->(∀i q,get tm i=some q->q.has l=false)/\(∀m y,get Z' m=some y->m≠l/\y.has l=false)) ->
  Rel G ⟨n,tm,Z'⟩ a w ->
  (∀v w',(∃β,aF G β ⟨n,tm,news++bf rm Z'⟩ a w'/\VR (ctx G β w' (news++bf rm Z')) p v)->K (a.put o.dst v) w') ->
  o.wp P a w K Q
def aQ.toF{P:Program}{o:Oper}{ρ:List (Nat×PV)}{Z:List (Nat×Blk)}{need:List Nat}{p:PV}{news:List (Nat×Blk)}(h:aQ P o ρ Z need p news):OpF P o ρ Z need [] p news:=λG n tm Z' a w K Q h1 h2 h3 hr hK=>h G n tm Z' a w K Q h1 h2 (λl x hx=>h3 l x hx aj) hr hK
end Go.PW
namespace Go.PW
open Go.RowKit
def cy(P:Program)(ops:Array Oper)(R:St->Prop):List Oper->St->Prop
 |[],st=>∃st',Wk st st'/\R st'
 |o::l,st=>∀G a w,Rel G st a w->∀(K:Act->World->Prop) (Q:Exit->Act->World->Prop),(∀a' w' st',cy P ops R l st'->Rel G st' a' w'->K a' w') ->
  if Region.wanted o (yielded ops a.tmps)then o.wp P a w K Q else K (a.put o.dst undef) w
def hN(ops:Array Oper)(tm:List (Nat×PV))(o:Oper):Option Bool:=
 match o.guard with
 |none=>some true
 |some (g,want)=>
  match(ops[g]?).bind (·.dst)with
  |none=>none
  |some d=>
   match get tm d with
   |some (.t (.bool b))=>some (b==want)
   |some (.tup [])=>some false
   |_=>none
section
variable {P:Program} {ops:Array Oper} {R:St->Prop} {st:St} {o:Oper} {l:List Oper}
def s5{G:Frm}{β:Nat->Option Nat}{n:Nat}{tm:List (Nat×PV)}{Z:List (Nat×Blk)}{a:Act}{w:World}(h:aF G β ⟨n,tm,Z⟩ a w){r:Bool}(hg:hN ops tm o=some r) :
 Region.wanted o (yielded ops a.tmps)=r:=by
 unfold hN at hg;unfold Region.wanted;cases hgu:o.guard with
 |none=>simp[hgu]at hg;simp[hg]
 |some gw=>
  obtain⟨g,want⟩:=gw;simp only[hgu]at hg⊢;unfold yielded;cases hd:(ops[g]?).bind (·.dst)with
  |none=>simp[hd]at hg
  |some d=>
   simp only[hd]at hg;simp only[bO];cases hq:get tm d with
   |none=>simp[hq]at hg
   |some q=>
    obtain⟨hlt,hv⟩:=h.tm d q hq;have hsz:d<a.tmps.size:=dz hlt h.sz;have hgd:a.tmps[d]?=some (a.tmps.getD d undef):=ru
    rw[hgd];simp only[hq]at hg;split at hg
    .rename_i b heq;cases heq;simp only[VR,Z6]at hv;rw[hv];cases hg;rfl
    .rename_i heq;cases heq;simp only[VR,VRs]at hv;obtain⟨vs,hv,rfl⟩:=hv;rw[hv];cases hg;rfl
    cases hg
def cy.wpList{Q:Exit->St->Prop}:∀(l:List Oper) (st:St),cy P ops (Q .normal) l st->∀G a w,Rel G st a w ->
 Go.wpList P ops (λe a' w'=>∃st',Q e st'/\Rel G st' a' w') l a w
 |[],st,h,G,a,w,hr=>by obtain⟨st',hw,h⟩:=h;exact⟨st',h,hw G a w hr⟩
 |o::l,st,h,G,a,w,hr=>by
  have:=h G a w hr (Go.wpList P ops (λe a' w'=>∃st',Q e st'/\Rel G st' a' w') l) (λe a' w'=>∃st',Q e st'/\Rel G st' a' w')
   (λa' w' st' hs hr'=>cy.wpList l st' hs G a' w' hr')
  unfold Go.wpList;split
  .rename_i hw;simp only[hw,dk]at this;exact .inl this
  rename_i hw;simpa[hw]using this
def PW.region{Q:Exit->St->Prop}{id:Nat}(h:cy P ops (Q .normal) ops.toList st):PW P (.region id ops false) Q st:=λG a w hr=>wp_region_list (cy.wpList ops.toList st h G a w hr)
def cy.nil(h:R st):cy P ops R [] st:=⟨st,Wk.refl st,h⟩
def cy.weaken{st':St}(hw:Wk st st')(h:cy P ops R l st'):cy P ops R l st:=by
 cases l with
 |nil=>obtain⟨s,hs,h⟩:=h;exact⟨s,hw.trans hs,h⟩
 |cons o l=>exact λG a w hr=>h G a w (hw G a w hr)
def cy.step{st':St}(hg:hN ops st.tm o=some true)(hu:gx P o st st')(h:cy P ops R l st'):cy P ops R (o::l) st:=by intro G a w hr K Q hK;obtain⟨β,hrr⟩:=hr;rw[s5 hrr hg];simp only[dk];exact hu G a w K Q ⟨β,hrr⟩ (λa' w' hr'=>hK a' w' st' h hr')
def cy.skip{d:Nat}(hd:o.dst=some d)(hn:d<st.n)(hg:hN ops st.tm o=some false)(h:cy P ops R l ⟨st.n,put st.tm d (.tup []),st.Z⟩):cy P ops R (o::l) st:=by intro G a w hr K Q hK;obtain⟨β,hrr⟩:=hr;rw[s5 hrr hg];simp only[fk,fa];refine hK _ _ _ h ⟨β,?_⟩;rw[hd];exact hrr.put hn GI
def cy.skipNone(hd:o.dst=none)(hg:hN ops st.tm o=some false)(h:cy P ops R l st):cy P ops R (o::l) st:=by intro G a w hr K Q hK;obtain⟨β,hrr⟩:=hr;rw[s5 hrr hg];simp only[fk,fa];refine hK _ _ _ h ⟨β,?_⟩;rw[hd];exact hrr
end
structure Stp where
 need:List Nat
 p:PV
 news:List (Nat×Blk)
structure Stm where
 s:Stp
 rm:List Nat
def Z4l:Option Stm->PV
 |some x=>x.s.p
 |none =>.tup []
def dy:Option Stm->List (Nat×Blk)
 |some x=>x.s.news
 |none=>[]
def gg:Option Stm->List Nat
 |some x=>x.rm
 |none=>[]
def resQ:Option Stm->List Nat
 |some x=>x.s.need
 |none=>[]
def gA(tm:List (Nat×PV))(d:Option Nat)(p:PV):List (Nat×PV):=match d with|some d=>put tm d p|none=>tm
def dQ(P:Program)(ops:Array Oper)(n:Nat):List Oper->List (Option Stm)->List (Nat×PV)->List (Nat×Blk)->Prop
 |[],[],_,_=>True
 |o::os,x::xs,tm,Z=>((∀d,o.dst=some d->d<n)/\hN ops tm o=some x.isSome/\(∀s,x=some s->OpF P o tm Z s.s.need s.rm s.s.p s.s.news) /\
  dQ P ops n os xs (gA tm o.dst (Z4l x)) (dy x++bf (gg x) Z))
 |_,_,_,_=>False
def eF:List Oper->List (Option Stm)->List (Nat×PV)->List (Nat×PV)
 |o::os,x::xs,tm=>eF os xs (gA tm o.dst (Z4l x))
 |_,_,tm=>tm
def fv:List (Option Stm)->List (Nat×Blk)->List (Nat×Blk)
 |x::xs,Z=>fv xs (dy x++bf (gg x) Z)
 |[],Z=>Z
end Go.PW
namespace Go.PW
open Go.RowKit
def jv(ops:Array Oper)(i j:Nat):Bool:=
 match ops[i]? with
 |some o=>o.after.toList.any λe=>Region.binds .any e&&Nat.beq e.on j
 |none=>false
def ec(ops:Array Oper):Nat->Nat->Nat->Bool
 |0,_,_=>false
 |f+1,i,j=>
  match ops[i]? with
  |some o=>o.after.toList.any λe=>Region.binds .any e&&(Nat.beq e.on j||ec ops f e.on j)
  |none=>false
def pc(o:Oper)(t:Nat):Bool:=o.op.operands.toList.any λx=>match x with|.tmp u=>Nat.beq u t|_=>false
def GJ(o:Oper)(t:Nat):Bool:=match o.dst with|some d=>Nat.beq d t|none=>false
def lB(o:Oper)(i:Nat):Bool:=o.after.toList.all λe => !Region.binds .any e||Nat.blt e.on i
def wrB(x:Option Stm)(l:Nat):Bool:=((dy x).any λp=>Nat.beq p.1 l)||hP (gg x) l
def s6(xs:List (Option Stm))(j l:Nat):Bool:=match xs[j]? with|some x=>wrB x l|none=>false
def ordB(ops:Array Oper)(i j:Nat):Bool:=bif Nat.blt j i then ec ops ops.size i j else ec ops ops.size j i
def Z6n(ops:Array Oper)(xs:List (Option Stm))(tm:List (Nat×PV))(Z:List (Nat×Blk))(m:Nat)(i:Nat)(o:Oper)(x:Option Stm):Bool:=
 lB o i &&
 (match o.dst with
  |none=>true
  |some d => !pc o d&&(List.range m).all λj=>Nat.beq j i||match ops[j]? with
   |some oj => !GJ oj d&&(!pc oj d||(bif Nat.blt i j then jv ops j i else jv ops i j))
   |none=>true) &&
 (match o.guard with|none=>true|some (g,_)=>Nat.blt g i&&jv ops i g) &&
 ((resQ x).all λl=>(List.range m).all λj=>Nat.beq j i || !s6 xs j l||ordB ops i j) &&
 (((dy x).map (·.1)++gg x).all λl=>(List.range m).all λj=>Nat.beq j i || !s6 xs j l||ordB ops i j) &&
 ((dy x).all λp=>hP (gg x) p.1||((tm.all λq => !q.2.has p.1)&&(Z.all λq => !Nat.beq q.1 p.1 && !q.2.has p.1) &&
  (List.range m).all λj=>Nat.beq j i||(match xs[j]? with
   |some y=>((!(Z4l y).has p.1 && !wrB y p.1&&(dy y).all λq => !q.2.has p.1)||ec ops ops.size j i)
   |none=>true)))
def jY(ops:Array Oper)(xs:List (Option Stm))(tm:List (Nat×PV))(Z:List (Nat×Blk)):Bool:=
 ((List.range xs.length).all λi=>match ops[i]?,xs[i]? with
  |some o,some x=>Z6n ops xs tm Z xs.length i o x
  |_,_=>false) &&
 ((List.range ops.size).all λj=>Nat.blt j xs.length||(match ops[j]? with
  |some o=>lB o j&&(List.range j).all λi=>ec ops ops.size j i
  |none=>false))
def kf(a b:Nat):Nat.blt a b=true↔a<b:=by rw[fQ]
section
variable {P:Program} {ops:Array Oper}
def GL{i j:Nat}(h:jv ops i j=true):∃o,ops[i]?=some o/\∃e∈o.after,Region.binds .any e=true/\e.on=j:=by
 unfold jv at h;split at h
 .rename_i o ho;obtain⟨e,he,hb⟩:=pd.1 h;simp only[aM,aW]at hb;exact⟨o,ho,e,by simpa using he,hb.1,hb.2⟩
 cases h
def s7(ops:Array Oper)(L:Nat->Prop):Prop:=∀i o,L i->ops[i]?=some o->∀e∈o.after,Region.binds .any e=true->L e.on
def pe{L:Nat->Prop}(hL:s7 ops L):∀(f i j:Nat),(∀o,ops[i]?=some o->∀e∈o.after,Region.binds .any e=true->L e.on)->ec ops f i j=true->L j
 |0,_,_,_,h=>by simp[ec]at h
 |f+1,i,j,hi,h=>by
  simp only[ec]at h;split at h
  .rename_i o ho;obtain⟨e,he,hb⟩:=pd.1 h;simp only[aM,gz,aW]at hb;have hon:L e.on:=hi o ho e pf hb.1;rcases hb.2 with h|h
   .subst h;exact hon
   exact pe hL f e.on j (λo' ho' e' he' hb'=>hL e.on o' hon ho' e' he' hb') h
  cases h
def UZ{o:Oper}{t:Nat}(h:Operand.tmp t∈o.op.operands):pc o t=true:=by unfold pc;exact pd.2 ⟨.tmp t,by simpa using h,by simp⟩
def jJ{α:Type}(a b:List (Nat×α))(i:Nat):get (a++b) i=match get a i with|some x=>some x|none=>get b i:=by
 induction a with
 |nil=>rfl
 |cons p a ih=>
  obtain⟨j,x⟩:=p;simp only[eP,get];cases Nat.beq j i with
  |true=>rfl
  |false=>simpa using ih
def dW{α:Type}:∀{l:List (Nat×α)} {i:Nat} {x:α},get l i=some x->(i,x)∈l
 |(j,y)::l,i,x,h=>by
  simp only[get]at h;cases hb:Nat.beq j i with
  |true=>
   simp only[hb,aD,ao]at h;rw[(aW _ _).1 hb,h];exact s8 ..
  |false=>simp only[hb,aB]at h;exact cC _ (dW h)
def pg:∀(l:List Oper) (xs:List (Option Stm)) (tm:List (Nat×PV)) (t:Nat) (q:PV),l.length=xs.length->get (eF l xs tm) t=some q ->
 (∃j:Nat,∃o x,l[j]?=some o/\xs[j]?=some x/\o.dst=some t/\q=Z4l x)\/(get tm t=some q/\∀(j:Nat) o,l[j]?=some o->o.dst≠some t)
 |[],[],tm,t,q,_,h =>.inr ⟨by simpa[eF]using h,by simp⟩
 |[],_::_,_,_,_,hl,_=>kY
 |_::_,[],_,_,_,hl,_=>kY
 |o::l,x::xs,tm,t,q,hl,h=>by
  simp only[eF]at h;rcases pg l xs _ t q my h with⟨j,oj,xj,h1,h2,h3,h4⟩|⟨h1,h2⟩
  .exact .inl ⟨j+1,oj,xj,by simpa using h1,by simpa using h2,h3,h4⟩
  cases hd:o.dst with
  |none=>
   simp only[hd,gA]at h1;refine .inr ⟨h1,λj oj hj=>?_⟩;cases j with
   |zero=>simp at hj;subst hj;simp[hd]
   |succ j=>exact h2 j oj ig
  |some d=>
   simp only[hd,gA]at h1;by_cases hdt:d=t
   .subst hdt;rw[fh]at h1;exact .inl ⟨0,o,x,rfl,rfl,hd,by simpa using h1.symm⟩
   rw[fu _ _ hdt]at h1;refine .inr ⟨h1,λj oj hj=>?_⟩;cases j with
   |zero=>simp at hj;subst hj;simp[hd,hdt]
   |succ j=>exact h2 j oj ig
def Z8g{ls:List Nat}{l:Nat}:hP ls l=true↔l∈ls:=by
 induction ls with
 |nil=>simp[hP]
 |cons x r ih=>
  simp only[hP];cases hb:Nat.beq x l with
  |true=>simp[(aW _ _).1 hb]
  |false=>
   have:x≠l:=λe=>yp
   simp[ih,cW this]
def GM(x:Option Stm):∀(xs:List (Option Stm)) (Z:List (Nat×Blk)),fv (xs++[x]) Z=dy x++bf (gg x) (fv xs Z)
 |[],Z=>rfl
 |y::xs,Z=>by simp only[eP,fv];exact GM x xs _
def Wr(x:Option Stm)(l:Nat):Prop:=get (dy x) l≠none\/l∈gg x
def GN{x:Option Stm}{l:Nat}:wrB x l=true↔Wr x l:=by
 unfold wrB Wr;rw[gz,Z8g];refine or_congr ?_ Iff.rfl;constructor
 .intro h hn;obtain⟨p,hp,hb⟩:=pd.1 h;have hb:=(aW _ _).1 hb;obtain⟨k,y⟩:=p;simp only at hb;subst hb;have:∀(L:List (Nat×Blk)),(k,y)∈L->get L k≠none:=by
   intro L;induction L with
   |nil=>intro h;cases h
   |cons q L ih=>
    obtain⟨m,z⟩:=q;intro h;simp only[get];cases hm:Nat.beq m k with
    |true=>simp
    |false=>
     simp only[aB];rcases cA.1 h with h|h
     .cases h;simp at hm
     exact ih h
  exact this _ hp hn
 intro h;cases hg:get (dy x) l with
 |none=>exact absurd hg h
 |some y=>exact pd.2 ⟨(l,y),dW hg,by simp⟩
def Val(xs:List (Option Stm))(σ0:List (Nat×Blk))(L:Nat->Prop)(Z:List (Nat×Blk)):Prop:=∀l,
 (∃(j:Nat) (x:Option Stm),L j/\xs[j]?=some x/\Wr x l/\(∀(k:Nat) (y:Option Stm),L k->xs[k]?=some y->Wr y l->k<=j)/\get Z l=get (dy x) l) \/
 ((∀(j:Nat) (x:Option Stm),L j->xs[j]?=some x->¬Wr x l)/\get Z l=get σ0 l)
def Val.next{xs:List (Option Stm)}{σ0 Z:List (Nat×Blk)}{L:Nat->Prop}(h:Val xs σ0 L Z){i:Nat}{x:Option Stm}(hx:xs[i]?=some x)(hR:∀l,Wr x l->∀(j:Nat) z,L j->xs[j]?=some z->Wr z l->j<=i) :
 Val xs σ0 (λj=>L j\/j=i) (dy x++bf (gg x) Z):=by
 intro l;by_cases hw:Wr x l
 .refine .inl ⟨i,x,.inr rfl,hx,hw,λk y hk hy hyw=>?_,?_⟩
  .rcases hk with hk|hk
   .exact hR l hw k y hk hy hyw
   exact Nat.le_of_eq hk
  rw[jJ];cases hg:get (dy x) l with
  |some y=>rfl
  |none=>
   rcases hw with hw|hw
   .exact absurd hg hw
   cases hd:get (bf (gg x) Z) l with
   |none=>rfl
   |some y=>exact absurd hw (kH hd).1
 have hg:get (dy x) l=none:=by
  cases hg:get (dy x) l with
  |none=>rfl
  |some y=>exact absurd (.inl (by rw[hg];simp)) hw
 have hl:l∉gg x:=λhl=>hw (.inr hl);have he:get (dy x++bf (gg x) Z) l=get Z l:=by rw[jJ,hg,sP hl]
 rw[he];rcases h l with⟨j,z,h1,h2,h3,h4,h5⟩|⟨h1,h2⟩
 .refine .inl ⟨j,z,.inl h1,h2,h3,λk y hk hy hyw=>?_,h5⟩;rcases hk with hk|hk
  .exact h4 k y hk hy hyw
  subst hk;rw[hx]at hy;cases hy;exact absurd hyw hw
 refine .inr ⟨λj z hj hz hzw=>?_,h2⟩;rcases hj with hj|hj
 .exact h1 j z hj hz hzw
 subst hj;rw[hx]at hz;cases hz;exact hw hzw
def Val.congr{xs:List (Option Stm)}{σ0 Z:List (Nat×Blk)}{L L':Nat->Prop}(h:Val xs σ0 L Z)(hL:∀j,L j↔L' j):Val xs σ0 L' Z:=by have:L=L':=funext λj=>propext (hL j);subst this;exact h
def Val.agree{xs:List (Option Stm)}{σ0 Z Z':List (Nat×Blk)}{L L':Nat->Prop}(h:Val xs σ0 L Z)(h':Val xs σ0 L' Z')(l:Nat)
 (ht:∀(j:Nat) x,xs[j]?=some x->Wr x l->(L j↔L' j)):get Z l=get Z' l:=by
 rcases h l with⟨j,z,h1,h2,h3,h4,h5⟩|⟨h1,h2⟩<;>rcases h' l with⟨j',z',h1',h2',h3',h4',h5'⟩|⟨h1',h2'⟩
 .have e1:=h4 j' z' ((ht j' z' h2' h3').2 h1') h2' h3';have e2:=h4' j z ((ht j z h2 h3).1 h1) h2 h3;have:j=j':=by omega
  subst this;rw[h2]at h2';cases h2';rw[h5,h5']
 .exact absurd h3 (h1' j z ((ht j z h2 h3).1 h1) h2)
 .exact absurd h3' (h1 j' z' ((ht j' z' h2' h3').2 h1') h2')
 rw[h2,h2']
def Val.get{xs:List (Option Stm)}{σ0 Z:List (Nat×Blk)}{L:Nat->Prop}(h:Val xs σ0 L Z){m:Nat}{z:Blk}(hg:PW.get Z m=some z):PW.get σ0 m=some z\/∃(j:Nat) (x:Option Stm),L j/\xs[j]?=some x/\PW.get (dy x) m=some z:=by
 rcases h m with⟨j,x,h1,h2,h3,h4,h5⟩|⟨_,h3⟩
 .rw [hg]at h5;exact .inr ⟨j,x,h1,h2,h5.symm⟩
 exact .inl (h3.symm.trans hg)
def dQ.at_{n:Nat}:∀(l:List Oper) (xs:List (Option Stm)) (tm:List (Nat×PV)) (Z:List (Nat×Blk)),dQ P ops n l xs tm Z->∀(i:Nat) o x,l[i]?=some o->xs[i]?=some x ->
 (∀d,o.dst=some d->d<n)/\hN ops (eF (l.take i) (xs.take i) tm) o=some x.isSome /\
  (∀s,x=some s->OpF P o (eF (l.take i) (xs.take i) tm) (fv (xs.take i) Z) s.s.need s.rm s.s.p s.s.news)
 |[],_,_,_,_,i,o,x,h,_=>iL
 |_::_,[],_,_,hp,_,_,_,_,_=>by simp[dQ]at hp
 |o::l,x::xs,tm,Z,hp,i,o',x',ho,hx=>by
  simp only[dQ]at hp;obtain⟨hdn,hg,hop,hrest⟩:=hp;cases i with
  |zero=>
   simp at ho hx;subst ho;subst hx;exact⟨hdn,by simpa[eF]using hg,by simpa[eF,fv]using hop⟩
  |succ i=>have:=dQ.at_ l xs _ _ hrest i o' x' (by simpa using ho) ow;simpa[eF,fv]using this
def dQ.length{n:Nat}:∀(l:List Oper) (xs:List (Option Stm)) (tm:List (Nat×PV)) (Z:List (Nat×Blk)),dQ P ops n l xs tm Z->l.length=xs.length
 |[],[],_,_,_=>rfl
 |[],_::_,_,_,h=>by simp[dQ]at h
 |_::_,[],_,_,h=>by simp[dQ]at h
 |o::l,x::xs,tm,Z,hp=>by simp only[dQ]at hp;obtain⟨_,_,_,hrest⟩:=hp;simpa using dQ.length l xs _ _ hrest
structure Mid (ops:Array Oper) (xs:List (Option Stm)) (tm0:List (Nat×PV)) (σ0:List (Nat×Blk)) (L:Nat->Prop) (tm:List (Nat×PV)) (Z:List (Nat×Blk)):Prop where
 closed:s7 ops L
 T1:∀(j:Nat) o x d,L j->ops[j]?=some o->xs[j]?=some x->o.dst=some d->get tm d=some (Z4l x)
 T2:∀t q,(∀(j:Nat) o,L j->ops[j]?=some o->o.dst≠some t)->get tm0 t=some q->get tm t=some q
 T3:∀t q,get tm t=some q->get tm0 t=some q\/∃j:Nat,∃x,L j/\xs[j]?=some x/\q=Z4l x
 S:Val xs σ0 L Z
structure mO (ops:Array Oper) (xs:List (Option Stm)) (tm0:List (Nat×PV)) (σ0:List (Nat×Blk)) (i:Nat) (o:Oper) (x:Option Stm):Prop where
 all:∀d,o.dst=some d->∀(j:Nat) oj,j≠i->j<xs.length->ops[j]?=some oj->oj.dst≠some d/\(pc oj d=true->(i<j->jv ops j i=true)/\(¬i<j->jv ops i j=true))
 need:∀l,l∈resQ x->∀(j:Nat) z,xs[j]?=some z->j≠i->Wr z l->(j<i->ec ops ops.size i j=true)/\(¬j<i->ec ops ops.size j i=true)
 ord:∀l,Wr x l->∀(j:Nat) z,xs[j]?=some z->j≠i->Wr z l->(j<i->ec ops ops.size i j=true)/\(¬j<i->ec ops ops.size j i=true)
 fresh:∀p,p∈dy x->p.1∉gg x->(∀q,q∈tm0->q.2.has p.1=false)/\(∀q,q∈σ0->q.1≠p.1/\q.2.has p.1=false) /\
  ∀(j:Nat) y,j<xs.length->j≠i->xs[j]?=some y->((Z4l y).has p.1=false/\¬Wr y p.1/\∀q,q∈dy y->q.2.has p.1=false)\/ec ops ops.size j i=true
def GO{a b:Nat}(h:¬a<b):Nat.blt a b=false:=by
 cases hb:Nat.blt a b with
 |false=>rfl
 |true=>exact absurd ((kf _ _).1 hb) h
def Z23{xs:List (Option Stm)}{tm0:List (Nat×PV)}{σ0:List (Nat×Blk)}(hs:jY ops xs tm0 σ0=true){i:Nat}{x:Option Stm}(hx:xs[i]?=some x) :
 ∃o,ops[i]?=some o/\Z6n ops xs tm0 σ0 xs.length i o x=true:=by
 simp only[jY,aM]at hs;have him:i<xs.length:=(bj.1 hx).1;have hat:=bH.1 hs.1 i (by simpa using him);cases ho:ops[i]? with
 |none=>simp[ho]at hat
 |some o=>
  simp only[ho,hx]at hat;exact⟨o,rfl,hat⟩
def U0{i j:Nat}(h:ordB ops i j=true):(j<i->ec ops ops.size i j=true)/\(¬j<i->ec ops ops.size j i=true):=by
 unfold ordB at h;refine⟨λhij=>?_,λhij=>?_⟩
 .rw [(kf j i).2 hij]at h;simpa using h
 rw[GO hij]at h;simpa using h
def U1{x:Option Stm}{l:Nat}{y:Blk}(h:get (dy x) l=some y):Wr x l :=.inl (by rw[h];simp)
def mO.of{xs:List (Option Stm)}{tm0:List (Nat×PV)}{σ0:List (Nat×Blk)}{i:Nat}{o:Oper}{x:Option Stm}(h:Z6n ops xs tm0 σ0 xs.length i o x=true):mO ops xs tm0 σ0 i o x:=by
 simp only[Z6n,aM]at h;obtain⟨⟨⟨⟨⟨_,hall⟩,_⟩,hneed⟩,hord⟩,hnews⟩:=h;have key:∀{l:Nat},((List.range xs.length).all λj=>Nat.beq j i || !s6 xs j l||ordB ops i j)=true->∀(j:Nat) z,xs[j]?=some z->j≠i->Wr z l->(j<i->ec ops ops.size i j=true)/\(¬j<i->ec ops ops.size j i=true):=by intro l h j z hz hji hw;have hj:=(bj.1 hz).1;have:=bH.1 h j ig;simp only[gz,aW,hji,mP,s6,hz,cY,GN.2 hw,s9]at this;exact U0 this
 refine { all:=λd hd j oj hji hj hoj=>?_,need:=λl hl=>key (bH.1 hneed l hl),ord:=λl hw=>key (bH.1 hord l ?_),fresh:=λp hp hnr=>?_ }
 .simp only[hd,aM]at hall;have:=bH.1 hall.2 j ig;simp only[gz,aW,hji,mP,hoj,aM,cY]at this;obtain⟨h1,h2⟩:=this;refine⟨λe=>by simp[GJ,e]at h1,λhrd=>?_⟩;rcases h2 with h2|h2
  .rw [hrd]at h2;cases h2
  refine⟨λhij=>?_,λhij=>?_⟩
  .rw [(kf i j).2 hij]at h2;simpa using h2
  rw[GO hij]at h2;simpa using h2
 .rcases hw with hw|hw
  .cases hg:get (dy x) l with
   |none=>exact absurd hg hw
   |some y=>exact cN.2 (.inl (gm.2 ⟨(l,y),dW hg,rfl⟩))
  exact cN.2 (.inr hw)
 have:=bH.1 hnews p hp;simp only[gz,aM]at this;rcases this with h|h
 .exact absurd (Z8g.1 h) hnr
 obtain⟨⟨h1,h2⟩,h3⟩:=h;refine⟨λq hq=>by simpa using bH.1 h1 q hq,λq hq=>?_,λj y hj hji hy=>?_⟩
 .have:=bH.1 h2 q hq;simp only[aM,cY]at this;exact⟨λe=>by rw[e]at this;simp at this,this.2⟩
 have:=bH.1 h3 j ig;simp only[gz,aW,hji,mP,hy,aM,cY]at this;rcases this with h|h
 .exact .inl ⟨h.1.1,λhw=>by rw[GN.2 hw]at h;exact absurd h.1.2 aj,λq hq=>by simpa using bH.1 h.2 q hq⟩
 exact .inr h
def ta{xs:List (Option Stm)}{σ0:List (Nat×Blk)}:∀(k:Nat),k<=xs.length->Val xs σ0 (λj=>j<k) (fv (xs.take k) σ0)
 |0,_=>λl =>.inr ⟨λj _ h=>absurd h (Nat.not_lt_zero j),rfl⟩
 |k+1,hk=>by have hx:xs[k]?=some (xs[k]'(by omega)):=bC O;have:=(ta (σ0:=σ0) k O).next hx (λl _ j z hj _ _=>tb hj);rw[List.take_add_one,hx,Option.toList_some,GM];exact this.congr (λj=>by omega)
def Mid.next{xs:List (Option Stm)}{tm0:List (Nat×PV)}{σ0:List (Nat×Blk)}{L:Nat->Prop}{tm:List (Nat×PV)}{Z:List (Nat×Blk)}{n:Nat}{pre:List Oper}{suf:List Oper}
 (hops:ops.toList=pre++suf) (hplan:dQ P ops n pre xs tm0 σ0) (hs0:jY ops xs tm0 σ0=true) (hm:Mid ops xs tm0 σ0 L tm Z)
 {i:Nat} {o:Oper} {x:Option Stm} (ho:ops[i]?=some o) (hx:xs[i]?=some x) (hi:¬L i) (hLm:∀j,L j->j<xs.length) (hready:∀e∈o.after,Region.binds .any e=true->L e.on)
 {G:Frm} {a:Act} {w:World} (hr:Rel G ⟨n,tm,Z⟩ a w) {K:Act->World->Prop} {Q:Exit->Act->World->Prop}
 (hK:∀a' w' tm' Z',Mid ops xs tm0 σ0 (λj=>L j\/j=i) tm' Z'->Rel G ⟨n,tm',Z'⟩ a' w'->K a' w'):wpOp P ops Q i K a w:=by
 have hlen:=dQ.length _ _ _ _ hplan;have him:i<xs.length:=(bj.1 hx).1;have hpre:∀(j:Nat),j<xs.length->ops[j]?=pre[j]?:=λj hj=>by rw[<- sU,hops,dx O]
 obtain⟨hdn,hgd,hop⟩:=hplan.at_ _ _ _ _ i o x (by rw[<- hpre i him];exact ho) hx;obtain⟨o1,ho1,hat⟩:=Z23 hs0 hx;rw[ho]at ho1;cases ho1;have hF:=mO.of hat;have hguard:(match o.guard with|none=>true|some (g,_)=>Nat.blt g i&&jv ops i g)=true:=by simp only[Z6n,aM]at hat;exact hat.1.1.1.2
 have hdir:∀j,jv ops i j=true->L j:=by intro j hj;obtain⟨o',ho',e,he,hb,hon⟩:=GL hj;rw[ho]at ho';cases ho';rw[<- hon];exact hready e he hb
 have hreach:∀f j,ec ops f i j=true->L j:=λf j h=>pe hm.closed f i j (λo' ho' e he hb=>by rw[ho]at ho';cases ho';exact hready e he hb) h;have hnreach:∀f j,ec ops f j i=true->¬L j:=λf j h hLj=>hi (pe hm.closed f j i (λo' ho' e he hb=>hm.closed j o' hLj ho' e he hb) h);have hopnd:∀t q,Operand.tmp t∈o.op.operands->get (eF (pre.take i) (xs.take i) tm0) t=some q->get tm t=some q:=by
  intro t q ht hq;have hrd:=UZ ht;rcases pg _ _ _ t q bb hq with⟨j,oj,xj,h1,h2,h3,h4⟩|⟨h1,h2⟩
  .have hji:j<i:=by
    have:=(bj.1 h1).1;simp at this;omega
   have hoj:ops[j]?=some oj:=GP
   have hxj:xs[j]?=some xj:=GQ
   obtain⟨o2,ho2,hatj⟩:=Z23 hs0 hxj;rw[hoj]at ho2;cases ho2;have hallj:=((mO.of hatj).all t h3 i o (Nat.ne_of_lt hji).symm him ho).2 hrd;subst h4;exact hm.T1 j oj xj t (hdir j (hallj.1 hji)) hoj hxj h3
  refine hm.T2 t q (λj oj hLj hoj hdst=>?_) h1;have hjm:=hLm j hLj;have hji:j≠i:=λe=>hi (e▸hLj);rcases dF j i with hlt|hge
  .exact h2 j oj (by rw[jw,bB hlt,<- hpre j hjm];exact hoj) hdst
  ·-- a later writer must wait for i
   have hxj:xs[j]?=some xs[j]:=bC hjm;obtain⟨o2,ho2,hatj⟩:=Z23 hs0 hxj;rw[hoj]at ho2;cases ho2;have hallj:=((mO.of hatj).all t hdst i o hji.symm him ho).2 hrd;obtain⟨o',ho',e,he,hb,hon⟩:=GL (hallj.2 (Nat.not_lt_of_le hge));exact hi (hon▸hm.closed j o' hLj ho' e he hb)
 have hgd':hN ops tm o=some x.isSome:=by
  unfold hN at hgd⊢;cases hgu:o.guard with
  |none=>simpa[hgu]using hgd
  |some gw=>
   obtain⟨g,want⟩:=gw;simp only[hgu]at hgd hguard⊢;simp only[aM,kf]at hguard;have hLg:=hdir g hguard.2;cases hgo:(ops[g]?).bind (·.dst)with
   |none=>simp[hgo]at hgd
   |some dg=>
    simp only[hgo]at hgd⊢;obtain⟨og,hog,hdg⟩:=c9.1 hgo;have hgm:=hLm g hLg;have hxg:xs[g]?=some xs[g]:=bC hgm;have htm:=hm.T1 g og _ dg hLg hog hxg hdg;cases hq:get (eF (pre.take i) (xs.take i) tm0) dg with
    |none=>simp[hq]at hgd
    |some q=>
     rcases pg _ _ _ dg q bb hq with⟨j,oj,xj,h1,h2,h3,h4⟩|⟨h1,h2⟩
     .have hji:j<i:=by
       have:=(bj.1 h1).1;simp at this;omega
      have hoj:ops[j]?=some oj:=GP
      have hxj:xs[j]?=some xj:=GQ
      have hjg:j=g:=by apply tc;intro hne;obtain⟨o2,ho2,hatj⟩:=Z23 hs0 hxj;rw[hoj]at ho2;cases ho2;exact((mO.of hatj).all dg h3 g og (cW hne) hgm hog).1 hdg
      subst hjg;rw[hxj]at hxg;cases hxg;rw[hq,h4]at hgd;rw[htm];exact hgd
     exact absurd hdg (h2 g og (by rw[jw,bB hguard.1,<- hpre g hgm];exact hog))
 have hclosed:s7 ops (λj=>L j\/j=i):=by
  rintro j oj (hj|hj) hoj e he hb
  .exact .inl (hm.closed j oj hj hoj e he hb)
  subst hj;rw[ho]at hoj;cases hoj;exact .inl (hready e he hb)
 have hlast:∀l,Wr x l->∀(j:Nat) z,L j->xs[j]?=some z->Wr z l->j<=i:=by intro l hw j z hj hz hzw;apply tc;intro hn;have hji:j≠i:=λe=>hi (e▸hj);exact hnreach _ j ((hF.ord l hw j z hz hji hzw).2 O) hj
 have hmid:Mid ops xs tm0 σ0 (λj=>L j\/j=i) (gA tm o.dst (Z4l x)) (dy x++bf (gg x) Z):=by
  refine⟨hclosed,?_,?_,?_,hm.S.next hx hlast⟩
  .rintro j oj xj dj (hj|hj) hoj hxj hdj
   .have hji:j≠i:=λe=>hi (e▸hj);have h0:=hm.T1 j oj xj dj hj hoj hxj hdj;cases hd:o.dst with
    |none=>exact h0
    |some d=>have:=(hF.all d hd j oj hji (hLm j hj) hoj).1;have hne:d≠dj:=λe=>this (e▸hdj);simp only[gA];rw[fu _ _ hne];exact h0
   subst hj;rw[ho]at hoj;cases hoj;rw[hx]at hxj;cases hxj;rw[hdj];exact fh ..
  .intro t q hnw hq;have h0:=hm.T2 t q (λj oj hj hoj=>hnw j oj (.inl hj) hoj) hq;cases hd:o.dst with
   |none=>exact h0
   |some d=>have hne:d≠t:=λe=>hnw i o (.inr rfl) ho (e▸hd);simp only[gA];rw[fu _ _ hne];exact h0
  intro t q hq;have old:get tm t=some q->get tm0 t=some q\/∃j:Nat,∃x,(L j\/j=i)/\xs[j]?=some x/\q=Z4l x:=λhq=>by
   rcases hm.T3 t q hq with h|⟨j,z,h1,h2,h3⟩
   .exact .inl h
   exact .inr ⟨j,z,.inl h1,h2,h3⟩
  cases hd:o.dst with
  |none=>rw[hd]at hq;exact old hq
  |some d=>
   rw[hd]at hq;simp only[gA]at hq;by_cases hdt:d=t
   .subst hdt;rw[fh]at hq;cases hq;exact .inr ⟨i,x,.inr rfl,hx,rfl⟩
   rw[fu _ _ hdt]at hq;exact old hq
 obtain⟨β,hrr⟩:=hr;unfold wpOp;simp only[ho];rw[s5 hrr hgd'];cases x with
 |none=>
  simp only[td,fa,fk];refine hK _ _ _ _ hmid ⟨β,?_⟩;cases hd:o.dst with
  |none=>exact hrr
  |some d=>exact hrr.put (p :=.tup []) (hdn d hd) (v:=undef) GI
 |some s=>
  simp only[Option.isSome_some,dk];refine .inl (hop s rfl G n tm Z a w K Q hopnd ?_ ?_ ⟨β,hrr⟩ ?_)
  .intro l hl;refine hm.S.agree (ta i (tb him)) l (λj z hz hw=>?_);by_cases hji:j=i
   .subst hji;exact⟨λh=>absurd h hi,λh=>absurd h (Nat.lt_irrefl _)⟩
   obtain⟨h1,h2⟩:=hF.need l hl j z hz hji hw;constructor
   .intro hLj;apply tc;intro hge;exact hnreach _ j (h2 hge) hLj
   intro hlt;exact hreach _ j (h1 hlt)
  .intro l y hly hnr;obtain⟨f1,f2,f3⟩:=hF.fresh (l,y) hly hnr;have hj':∀(j:Nat) z,L j->xs[j]?=some z->(Z4l z).has l=false/\(∀q∈dy z,q.2.has l=false)/\get (dy z) l=none:=by
    intro j z hLj hz;have hji:j≠i:=λe=>hi (e▸hLj);rcases f3 j z (hLm j hLj) hji hz with h|h
    .refine⟨h.1,h.2.2,?_⟩;cases hg:get (dy z) l with
     |none=>rfl
     |some u=>exact absurd (U1 hg) h.2.1
    exact absurd hLj (hnreach _ j h)
   refine⟨λt q hq=>?_,λm z hz=>?_⟩
   .rcases hm.T3 t q hq with h|⟨j,z,h1,h2,h3⟩
    .exact f1 _ (dW h)
    subst h3;exact(hj' j z h1 h2).1
   rcases hm.S.get hz with h|⟨j,u,h1,h2,h3⟩
   .exact f2 _ (dW h)
   refine⟨λe=>?_,(hj' j u h1 h2).2.1 _ (dW h3)⟩;subst e;rw[(hj' j u h1 h2).2.2]at h3;cases h3
  rintro v w' ⟨β',hβ',hv⟩;refine hK _ _ _ _ hmid ⟨β',?_⟩;cases hd:o.dst with
  |none=>exact hβ'
  |some d=>exact hβ'.put (hdn d hd) hv
end
end Go.PW
namespace Go.PW
open Go.RowKit
section
variable {P:Program} {ops:Array Oper}
def unl(ops:Array Oper)(listed:Array Bool):Nat:=((List.range ops.size).filter λj => !listed.getD j false).length
def WJ{listed:Array Bool}{i:Nat}(hi:i<ops.size)(hs:listed.size=ops.size)(hu:listed.getD i false=false):unl ops (listed.setIfInBounds i true)<unl ops listed:=by
 unfold unl;have h1:(List.range ops.size).filter (λj => !(listed.setIfInBounds i true).getD j false)=((List.range ops.size).filter λj => !listed.getD j false).filter (λj=>j != i):=by
  rw[List.filter_filter];refine List.filter_congr λj hj=>?_;by_cases hji:j=i
  .subst hji;simp[hs,hi]
  have:(listed.setIfInBounds i true).getD j false=listed.getD j false:=tu false (cW hji);rw[this];simp[hji]
 rw[h1,List.length_filter_lt_length_iff_exists];exact⟨i,by simp only[List.mem_filter,mi];exact⟨hi,by rw[hu];rfl⟩,by simp⟩
def WK{listed:Array Bool}(h:unl ops listed=0):∀j,j<ops.size->listed.getD j false=true:=by
 intro j hj;unfold unl at h;have:=cX h;cases hb:listed.getD j false with
 |true=>rfl
 |false=>
  have hm:j∈(List.range ops.size).filter λj => !listed.getD j false:=by simp only[List.mem_filter,mi];exact⟨hj,by rw[hb];rfl⟩
  rw[this]at hm;cases hm
def z8{listed:Array Bool}{j:Nat}(hj:j<listed.size):listed.getD j true=listed.getD j false:=by simp[hj]
def mem_ready'{listed:Array Bool}(hs:listed.size=ops.size){j:Nat}(h:j∈Region.ready .any ops listed):j<ops.size/\listed.getD j false=false/\∃o,ops[j]?=some o/\∀e∈o.after,Region.binds .any e=true->listed.getD e.on false=true:=by obtain⟨h0,o,ho,hall⟩:=mem_ready.1 h;have hj:j<ops.size:=(nU.1 ho).1;exact⟨hj,by rw[<- z8 O];exact h0,o,ho,hall⟩
def JM{Q:Exit->St->Prop}{m:Nat}(hbacks:∀j,j<ops.size->∃o,ops[j]?=some o/\lB o j=true)(htail:∀j,m<=j->j<ops.size->∃o,ops[j]?=some o/\lB o j=true/\∀i,i<j->ec ops ops.size j i=true)(G:Frm) :
 ∀(fuel j:Nat) (listed:Array Bool) (st:St) (a:Act) (w:World),m<=j->ops.size<=j+fuel->listed.size=ops.size->(∀i,i<ops.size->(listed.getD i false=true↔i<j)) ->
  cy P ops (Q .normal) (ops.toList.drop j) st->Rel G st a w ->
  wpAny P .any ops (λe a' w'=>∃st',Q e st'/\Rel G st' a' w') fuel listed a w
 |0,j,listed,st,a,w,hmj,hf,hs,hl,hp,hr=>by
  have hdrop:ops.toList.drop j=[]:=gV bb;rw[hdrop]at hp;obtain⟨st',hw,hq⟩:=hp;refine⟨?_,st',hq,hw G a w hr⟩;cases hrd:Region.ready .any ops listed with
  |nil=>rfl
  |cons i l=>
   obtain⟨hi,hu,_⟩:=mem_ready' hs (j:=i) Aa;rw[(hl i hi).2 O]at hu;cases hu
 |fuel+1,j,listed,st,a,w,hmj,hf,hs,hl,hp,hr=>by
  rcases dF j ops.size with hj|hj
  case inr=>
   have hdrop:ops.toList.drop j=[]:=gV bb;rw[hdrop]at hp;obtain⟨st',hw,hq⟩:=hp;have hnil:Region.ready .any ops listed=[]:=by
    cases hrd:Region.ready .any ops listed with
    |nil=>rfl
    |cons i l=>
     obtain⟨hi,hu,_⟩:=mem_ready' hs (j:=i) Aa;rw[(hl i hi).2 O]at hu;cases hu
   exact⟨λ_=>⟨st',hq,hw G a w hr⟩,λi hi=>by rw[hnil]at hi;cases hi⟩
  obtain⟨o,ho,hback,_⟩:=htail j hmj hj;have hrj:j∈Region.ready .any ops listed:=by
   refine mem_ready.2 ⟨?_,o,ho,λe he hb=>?_⟩
   .rw [z8 O];cases hb:listed.getD j false with
    |false=>rfl
    |true=>have:=(hl j hj).1 hb;omega
   have:=bH.1 hback e pf;simp only[gz,cY,hb,s9,mP,kf]at this;exact(hl e.on O).2 this
  refine⟨λh=>(by rw[h]at hrj;cases hrj),λi hi=>?_⟩;obtain⟨hin,hu,oi,hoi,hall⟩:=mem_ready' hs hi;have hij:i=j:=by
   rcases Nat.lt_trichotomy i j with h|h|h
   .rw [(hl i hin).2 h]at hu;cases hu
   .exact h
   obtain⟨o',ho',_,hd⟩:=htail i O hin;have hback1:∀(k:Nat) ok,ops[k]?=some ok->∀e∈ok.after,Region.binds .any e=true->e.on<k:=λk ok hok e he hb=>by obtain⟨o3,ho3,hb3⟩:=hbacks k (nU.1 hok).1;rw[hok]at ho3;cases ho3;have:=bH.1 hb3 e pf;simpa only[gz,cY,hb,s9,mP,kf]using this
   have hclosed:s7 ops (λk=>k<j):=λk ok hk hok e he hb=>Nat.lt_trans (hback1 k ok hok e he hb) hk;have:=pe hclosed ops.size i j (λo3 ho3 e he hb=>by rw[hoi]at ho3;cases ho3;have h1:=hall e he hb;have h2:=hback1 i oi hoi e he hb;exact(hl e.on O).1 h1) (hd j h);omega
  subst hij;rw[ho]at hoi;cases hoi;have hcons:ops.toList.drop i=o::ops.toList.drop (i+1):=by
   have h1:ops.toList[i]?=some o:=by simpa using ho
   have hi':i<ops.toList.length:=ig
   have h2:=bC hi';rw[h1]at h2;rw[re hi',<- dA h2]
  rw[hcons]at hp;have hlisted:∀k,k<ops.size->((listed.setIfInBounds i true).getD k false=true↔k<i+1):=by
   intro k hk;by_cases hki:k=i
   .subst hki;simp[hs,hk]
   rw[tu false (cW hki),hl k hk];omega
  unfold wpOp;simp only[ho];have:=hp G a w hr (wpAny P .any ops (λe a' w'=>∃st',Q e st'/\Rel G st' a' w') fuel (listed.setIfInBounds i true)) (λe a' w'=>∃st',Q e st'/\Rel G st' a' w')
   (λa' w' st' hs' hr'=>JM hbacks htail G fuel (i+1) _ st' a' w' O O (by simpa using hs) hlisted hs' hr')
  split
  .rename_i hw;simp only[hw,dk]at this;exact .inl this
  rename_i hw;simpa[hw]using this
def WL{Q:Exit->St->Prop}{n:Nat}{xs:List (Option Stm)}{tm0:List (Nat×PV)}{σ0:List (Nat×Blk)}{pre suf:List Oper}
 (hops:ops.toList=pre++suf) (hplan:dQ P ops n pre xs tm0 σ0) (hs:jY ops xs tm0 σ0=true) (hp:cy P ops (Q .normal) suf ⟨n,eF pre xs tm0,fv xs σ0⟩) (G:Frm) :
 ∀(fuel:Nat) (listed:Array Bool) (tm:List (Nat×PV)) (Z:List (Nat×Blk)) (a:Act) (w:World),unl ops listed<=fuel->listed.size=ops.size->(∀j,listed.getD j false=true->j<xs.length) ->
  Mid ops xs tm0 σ0 (λj=>listed.getD j false=true) tm Z->Rel G ⟨n,tm,Z⟩ a w ->
  wpAny P .any ops (λe a' w'=>∃st',Q e st'/\Rel G st' a' w') fuel listed a w:=by
 have hlen:=dQ.length _ _ _ _ hplan;have hsz:ops.size=pre.length+suf.length:=by rw[<- iF,hops,bn]
 have hpre:∀(j:Nat),j<xs.length->ops[j]?=pre[j]?:=λj hj=>by rw[<- sU,hops,dx O]
 have hs':=hs;simp only[jY,aM]at hs';have htail:∀j,xs.length<=j->j<ops.size->∃o,ops[j]?=some o/\lB o j=true/\∀i,i<j->ec ops ops.size j i=true:=by
  intro j hj hjn;have:=bH.1 hs'.2 j (by simpa using hjn);have hnb:Nat.blt j xs.length=false:=by
   cases hb:Nat.blt j xs.length with
   |false=>rfl
   |true=>have:=(kf _ _).1 hb;omega
  simp only[hnb,mh]at this;split at this
  .rename_i o ho;simp only[aM]at this;exact⟨o,ho,this.1,λi hi=>bH.1 this.2 i ym⟩
  cases this
 have hbackP:∀j,j<xs.length->∃o,ops[j]?=some o/\lB o j=true:=by
  intro j hj;have:=bH.1 hs'.1 j ig;split at this
  .rename_i o x ho hx;simp only[Z6n,aM]at this;exact⟨o,ho,this.1.1.1.1.1⟩
  cases this
 have hbacks:∀j,j<ops.size->∃o,ops[j]?=some o/\lB o j=true:=λj hj=>by
  rcases dF j xs.length with h|h
  .exact hbackP j h
  obtain⟨o,ho,hb,_⟩:=htail j h hj;exact⟨o,ho,hb⟩
 intro fuel;induction fuel with
 |zero=>
  intro listed tm Z a w hf hls hLm hm hr;have hall:=WK (Nat.le_zero.1 hf);have hsuf:suf=[]:=by
   cases suf with
   |nil=>rfl
   |cons o l=>exfalso;have:=hLm xs.length (hall _ (by simp at hsz;omega));omega
  refine⟨?_,?_⟩
  .cases hrd:Region.ready .any ops listed with
   |nil=>rfl
   |cons i l=>
    obtain⟨hi,hu,_⟩:=mem_ready' hls (j:=i) Aa;rw[hall i hi]at hu;cases hu
  subst hsuf;obtain⟨st',hw,hq⟩:=hp;refine⟨st',hq,hw G a w ?_⟩;obtain⟨β,hrr⟩:=hr;refine⟨β,hrr.sub (bh _) (λt q hq=>?_) (λl y hl=>?_)⟩
  .have hgt:get tm t=some q:=by
    rcases pg _ _ _ t q hlen hq with⟨j,oj,xj,h1,h2,h3,h4⟩|⟨h1,h2⟩
    .have hj:j<xs.length:=(bj.1 h2).1;subst h4;exact hm.T1 j oj xj t (hall j O) (by rw[hpre j hj];exact h1) h2 h3
    exact hm.T2 t q (λj oj hLj hoj=>h2 j oj JN) h1
   exact⟨hgt,(hrr.tm t q hgt).1⟩
  rw[hm.S.agree (ta xs.length (bh _)) l (λj z hz _=>⟨λh=>hLm j h,λh=>hall j O⟩),List.take_length];exact hl
 |succ fuel ih=>
  intro listed tm Z a w hf hls hLm hm hr;by_cases hfull:∀j,j<xs.length->listed.getD j false=true
  ·-- the head is done
   have hl:∀i,i<ops.size->(listed.getD i false=true↔i<xs.length):=λi _=>⟨hLm i,hfull i⟩;have hcount:ops.size<=xs.length+(fuel+1):=by
    have h1:(List.range ops.size).filter (λj => !listed.getD j false)=(List.range' xs.length (ops.size-xs.length)):=by
     have hr1:List.range ops.size=List.range' 0 xs.length++List.range' xs.length (ops.size-xs.length):=by rw[List.range_eq_range'];have:=List.range'_append (s:=0) (m:=xs.length) (n:=ops.size-xs.length) (step:=1);simp only[ez,aK]at this;rw[this];congr 1;omega
     rw[hr1,List.filter_append];have e1:(List.range' 0 xs.length).filter (λj => !listed.getD j false)=[]:=by rw[List.filter_eq_nil_iff];intro j hj;simp only[List.mem_range'_1]at hj;rw[hfull j O];simp
     have e2:(List.range' xs.length (ops.size-xs.length)).filter (λj => !listed.getD j false)=List.range' xs.length (ops.size-xs.length):=by
      rw[List.filter_eq_self];intro j hj;simp only[List.mem_range'_1]at hj;cases hb:listed.getD j false with
      |false=>rfl
      |true=>have:=hLm j hb;omega
     rw[e1,e2,iD]
    unfold unl at hf;rw[h1,List.length_range']at hf;omega
   refine JM (m:=xs.length) hbacks htail G (fuel+1) xs.length listed _ a w (bh _) hcount hls hl (by rw[hops,<- hlen,List.drop_left];exact hp) ?_;obtain⟨β,hrr⟩:=hr;refine⟨β,hrr.sub (bh _) (λt q hq=>?_) (λl y hl=>?_)⟩
   .have hgt:get tm t=some q:=by
     rcases pg _ _ _ t q hlen hq with⟨j,oj,xj,h1,h2,h3,h4⟩|⟨h1,h2⟩
     .have hj:j<xs.length:=(bj.1 h2).1;subst h4;exact hm.T1 j oj xj t (hfull j hj) (by rw[hpre j hj];exact h1) h2 h3
     exact hm.T2 t q (λj oj hLj hoj=>h2 j oj JN) h1
    exact⟨hgt,(hrr.tm t q hgt).1⟩
   rw[hm.S.agree (ta xs.length (bh _)) l (λj z hz _=>⟨λh=>hLm j h,λh=>hfull j h⟩),List.take_length];exact hl
  ·-- the head is not done:the first that is not carried out is ready
   have hex:∃j,j<xs.length/\listed.getD j false=false/\∀i,i<j->listed.getD i false=true:=by
    apply tc;intro hno;apply hfull;intro j;induction j using Nat.strongRecOn with
    |_ j ihj=>
     intro hj;cases hb:listed.getD j false with
     |true=>rfl
     |false=>exact absurd ⟨j,hj,hb,λi hi=>ihj i hi O⟩ hno
   obtain⟨j,hj,hjf,hjl⟩:=hex;obtain⟨oj,hoj,hbj⟩:=hbackP j hj;have hrj:j∈Region.ready .any ops listed:=by
    refine mem_ready.2 ⟨?_,oj,hoj,λe he hb=>?_⟩
    .rw [z8 O];exact hjf
    have:=bH.1 hbj e pf;simp only[gz,cY,hb,s9,mP,kf]at this;exact hjl _ this
   refine⟨λh=>(by rw[h]at hrj;cases hrj),λi hi=>?_⟩;obtain⟨hin,hu,oi,hoi,hall⟩:=mem_ready' hls hi;have him:i<xs.length:=by
    rcases dF i xs.length with h|h
    .exact h
    obtain⟨o',ho',_,hd⟩:=htail i h hin;have:=pe hm.closed ops.size i j (λo3 ho3 e he hb=>by rw[hoi]at ho3;cases ho3;exact hall e he hb) (hd j O);rw[hjf]at this;cases this
   have hxi:xs[i]?=some xs[i]:=bC him;refine hm.next hops hplan hs hoi hxi (by rw[hu];simp) hLm hall hr ?_;intro a' w' tm' Z' hm' hr';have hfun:(λk=>listed.getD k false=true\/k=i)=(λk=>(listed.setIfInBounds i true).getD k false=true):=by
    funext k;by_cases hki:k=i
    .subst hki;simp[hls,hin]
    rw[tu false (cW hki)];simp[hki]
   rw[hfun]at hm';have hlt:=WJ hin hls hu;refine ih _ tm' Z' a' w' O (by simpa using hls) (λk hk=>?_) hm' hr';by_cases hki:k=i
   .subst hki;exact him
   rw[tu false (cW hki)]at hk;exact hLm k hk
def aF.drew{G:Frm}{β:Nat->Option Nat}{st:St}{a:Act}{w:World}(h:aF G β st a w):aF G β st a w.drew:=by
 have hI:∀b,(ctx G β w st.Z).I b->(ctx G β w.drew st.Z).I b/\(ctx G β w.drew st.Z).w.heap[b]?=(ctx G β w st.Z).w.heap[b]?:=λb hb=>⟨hb,rfl⟩;have hL:∀l,aX (ctx G β w st.Z) (ctx G β w.drew st.Z) l:=λl=>aX.same rfl rfl (λ_ _=>rfl)
 exact { defers:=h.defers,sz:=h.sz,base:=h.base,os:=h.os,tape:=h.tape,output:=h.output,old:=h.old,A:=h.A,gl:=h.gl,inj:=h.inj,sep:=h.sep,fix:=h.fix,row0:=h.row0.step (λl _=>hL l),
         blk:=λl o hl=>BR.step hI rfl (λ_ _=>rfl) (λm _=>hL m) (h.blk l o hl),
         tm:=λi p hp=>⟨(h.tm i p hp).1,VR.step hI _ _ (λm _=>hL m) (h.tm i p hp).2⟩ }
def WM{Q:Exit->St->Prop}{st:St}(xs:List (Option Stm))(pre suf:List Oper)(hops:ops.toList=pre++suf)
 (hplan:dQ P ops st.n pre xs st.tm st.Z) (hs:jY ops xs st.tm st.Z=true) (hp:cy P ops (Q .normal) suf ⟨st.n,eF pre xs st.tm,fv xs st.Z⟩) {G:Frm} {a:Act} {w:World} (hr:Rel G st a w) :
 wpAny P .any ops (λe a' w'=>∃st',Q e st'/\Rel G st' a' w') ops.size (Array.replicate ops.size false) a w.drew:=by
 have hr':Rel G st a w.drew:=by obtain⟨β,h⟩:=hr;exact⟨β,h.drew⟩
 refine WL (Q:=Q) hops hplan hs hp G ops.size (Array.replicate ops.size false) st.tm st.Z a w.drew ?_ aj (λj hj=>?_) ?_ hr'
 .unfold unl;rw[List.filter_eq_self.2]
  .simp
  intro j hj;simp only[mi]at hj;simp[hj]
 .exfalso;rcases dF j ops.size with h|h<;>simp[h]at hj
 have hno:∀j,¬((Array.replicate ops.size false).getD j false=true):=by intro j hj;rcases dF j ops.size with h|h<;>simp[h]at hj
 exact⟨λi _ hi=>absurd hi (hno i),λj _ _ _ hj=>absurd hj (hno j),λ_ _ _ h=>h,λ_ _ h =>.inl h,λl =>.inr ⟨λj _ hj=>absurd hj (hno j),rfl⟩⟩
def PW.region_draw{Q:Exit->St->Prop}{id:Nat}{st:St}(hm:P.follows .mixedOrders=true)(xs:List (Option Stm))(pre suf:List Oper)(hops:ops.toList=pre++suf)
 (hplan:dQ P ops st.n pre xs st.tm st.Z) (hs:jY ops xs st.tm st.Z=true) (hp:cy P ops (Q .normal) suf ⟨st.n,eF pre xs st.tm,fv xs st.Z⟩) :
 PW P (.region id ops true) Q st:=λ_ _ _ hr=>wp_region_any hm (WM xs pre suf hops hplan hs hp hr)
end
end Go.PW
namespace Go.PW
open Go.RowKit
inductive LK where
 |b|i (k:IntKind)|s
 deriving DecidableEq
def LK.fits:LK->U->Bool
 |.b,.bool _=>true
 |.i k,.int k' _=>decide (k=k')
 |.s,.str _=>true
 |_,_=>false
def fits:List LK->List U->Bool
 |[],[]=>true
 |k::ks,t::ts=>k.fits t&&fits ks ts
 |_,_=>false
def ew:U->Value
 |.bool b =>.bool b
 |.int k n =>.int k n
 |.str s =>.string ⟨s.toArray⟩
 |.con v=>v
 |.sl _=>undef
def gE:U->U->Bool
 |.bool a,.bool b=>a==b
 |.int _ a,.int _ b=>a==b
 |.str a,.str b=>a==b
 |_,_=>false
def ax:List U->List U->Bool
 |[],[]=>true
 |a::ZbU,b::bs=>gE a b&&ax ZbU bs
 |_,_=>false
def Z6o(P:Program)(F:TypeId->Option (List LK)):List Field->Nat->Option (List LK)
 |[],_=>some []
 |f::fs,off=>if f.name = "_" \/ f.offset≠off then none else
  match F f.type with
  |none=>none
  |some l=>if P.cellsOf f.type≠l.length then none else(Z6o P F fs (off+l.length)).map (l ++ ·)
def eA(P:Program):Nat->TypeId->Option (List LK)
 |0,_=>none
 |d+1,t=>
  match P.underlying t with
  |some .bool=>some [.b]
  |some (.int k)=>some [.i k]
  |some .string=>some [.s]
  |some (.array n e)=>
   match eA P d e with
   |some l=>if P.cellsOf e=l.length/\(P.info? e).isSome then some (List.replicate n l).flatten else none
   |none=>none
  |some (.struct fs)=>if P.stoodInHeld t then none else Z6o P (eA P d) fs.toList 0
  |_=>none
def fw(P:Program)(t:TypeId)(xs:List U):Value:=
 match P.underlying t with
 |some (.struct _)|some (.array _ _) =>.agg (xs.map ew).toArray
 |_=>ew (xs.headD default)
def tv{a b:List LK}:∀{xs:List U},fits (a++b) xs=true->fits a (xs.take a.length)=true/\fits b (xs.drop a.length)=true/\a.length<=xs.length:=by
 induction a with
 |nil=>intro xs h;exact⟨by simp[fits],by simpa using h,by simp⟩
 |cons k a ih=>
  intro xs h;cases xs with
  |nil=>simp[fits]at h
  |cons x xs=>
   simp only[eP,fits,aM]at h;obtain⟨h1,h2,h3⟩:=ih h.2;exact⟨by simp[fits,h.1,h1],by simpa using h2,by simpa using h3⟩
def tw{a:List LK}:∀{xs:List U},fits a xs=true->xs.length=a.length:=by
 induction a with
 |nil=>intro xs h;cases xs<;>simp[fits]at h⊢
 |cons k a ih=>
  intro xs h;cases xs with
  |nil=>simp[fits]at h
  |cons x xs=>simp only[fits,aM]at h;simp[ih h.2]
def JO{k:IntKind}{xs:List U}(h:fits [.i k] xs=true):∃a,xs=[.int k a]:=by
 cases xs with
 |nil=>simp[fits]at h
 |cons x xs=>
  simp only[fits,aM]at h;have hn:xs=[]:=by cases xs<;>simp[fits]at h⊢
  subst hn;cases x<;>simp only[LK.fits,fa,false_and]at h;rename_i k' a;have hk:k=k':=gj h.1;subst hk;exact⟨a,rfl⟩
def tz:∀(ZbU bs cs ds:List U),ZbU.length=bs.length->ax (ZbU++cs) (bs++ds)=(ax ZbU bs&&ax cs ds)
 |[],[],cs,ds,_=>by simp[ax]
 |a::ZbU,b::bs,cs,ds,h=>by simp[ax,tz ZbU bs cs ds iC,mB]
 |[],_::_,_,_,h=>iL
 |_::_,[],_,_,h=>iL
def Z24{P:Program}(w:World){t:TypeId}{l:List LK}{d:Nat}(hf:eA P d t=some l)(hc:P.cellsOf t=l.length)(xs:List U)(off:Nat)(h:off+l.length<=xs.length) :
 (part t (xs.map ew).toArray off).run P w = .ok (fw P t ((xs.drop off).take l.length)) w:=by
 cases d with
 |zero=>simp[eA]at hf
 |succ d=>
  have hinfo:∃i,P.info? t=some i:=by
   unfold eA at hf;cases hu:P.underlying t with
   |none=>simp[hu]at hf
   |some _=>exact info_of_underlying hu
  obtain⟨i,hi⟩:=hinfo;have hsz:i.size=l.length:=by simpa[Program.cellsOf,hi]using hc
  have one:l.length=1->(xs.map ew).toArray[off]?=some (ew (((xs.drop off).take l.length).headD default)):=by
   intro h1;rw[h1]at h⊢;have hlt:off<xs.length:=bP
   simp[List.headD_eq_head?_getD,List.head?_take,hlt]
  unfold eA at hf;cases hu:P.underlying t with
  |none=>simp[hu]at hf
  |some kd=>
   cases kd<;>simp only[hu]at hf<;>try (cases hf;done)
   case struct fs=>simp[part,isAgg,b7 hu,sizeOf,typeInfo,hi,hsz,fw,hu]
   case array n e=>simp[part,isAgg,b7 hu,sizeOf,typeInfo,hi,hsz,fw,hu]
   all_goals
    cases hf;have:=one rfl;simp only[part,isAgg,aN,b7 hu,aO,aS,fa,fk,this,fw,hu]
def Ab(P:Program)(d:Nat)(t:TypeId)(l:List LK):Prop:=∀(w:World) (xs ys:List U),fits l xs=true->fits l ys=true->(Op.equalIn d t (fw P t xs) (fw P t ys)).run P w = .ok (ax xs ys) w
def Z95{P:Program}(D d:Nat)(IH:∀t l,eA P d t=some l->Ab P (D+d) t l)(X Y:List U):∀(fs:List Field) (off:Nat) (ks:List LK),
 Z6o P (eA P d) fs off=some ks->fits ks (X.drop off)=true->fits ks (Y.drop off)=true->off<=X.length->off<=Y.length->∀w,
 (Op.eqFields (D+d) (X.map ew).toArray (Y.map ew).toArray fs).run P w = .ok (ax (X.drop off) (Y.drop off)) w
 |[],off,ks,h,hx,hy,_,_,w=>by simp only[Z6o,ao]at h;subst h;have h1:=tw hx;have h2:=tw hy;rw[cX h1,cX h2];simp[Op.eqFields,ax]
 |f::fs,off,ks,h,hx,hy,hox,hoy,w=>by
  simp only[Z6o]at h;split at h
  .cases h
  rename_i hn;simp only[not_or,ne_eq,Decidable.not_not]at hn;cases hF:eA P d f.type with
  |none=>simp[hF]at h
  |some l=>
   simp only[hF]at h;split at h
   .cases h
   rename_i hc;simp only[ne_eq,Decidable.not_not]at hc;cases hr:Z6o P (eA P d) fs (off+l.length)with
   |none=>simp[hr]at h
   |some rs=>
    simp only[hr,dK,ao]at h;subst h;obtain⟨hx1,hx2,hx3⟩:=tv hx;obtain⟨hy1,hy2,hy3⟩:=tv hy;simp only[jx]at hx3 hy3;rw[hU]at hx2 hy2;have hpx:=Z24 w hF hc X off O;have hpy:=Z24 w hF hc Y off O;have heq:=IH _ _ hF w _ _ hx1 hy1;have ih:=Z95 D d IH X Y fs (off+l.length) rs hr hx2 hy2 O O w;have hsplit:ax (X.drop off) (Y.drop off)=(ax ((X.drop off).take l.length) ((Y.drop off).take l.length)&&ax (X.drop (off+l.length)) (Y.drop (off+l.length))):=by
     conv=>lhs;rw[<- jN l.length (X.drop off),<- jN l.length (Y.drop off)]
     rw[tz _ _ _ _ bb,hU,hU]
    simp only[Op.eqFields,ne_eq,hn.1,not_false_eq_true,dk,aN,hn.2,hpx,hpy,heq,aO];cases hb:ax ((X.drop off).take l.length) ((Y.drop off).take l.length)with
    |false=>simp[hsplit,hb]
    |true=>simp[hsplit,hb,ih]
def JP{P:Program}(D d:Nat){e:TypeId}{l:List LK}(he:eA P d e=some l)(hc:P.cellsOf e=l.length)(IH:Ab P (D+d) e l)(X Y:List U)(w:World):∀(n i:Nat),
 fits (List.replicate n l).flatten (X.drop (i*l.length))=true->fits (List.replicate n l).flatten (Y.drop (i*l.length))=true->i*l.length<=X.length->i*l.length<=Y.length ->
 (Op.eqItems (D+d) e (P.cellsOf e) (X.map ew).toArray (Y.map ew).toArray (List.range' i n)).run P w = .ok (ax (X.drop (i*l.length)) (Y.drop (i*l.length))) w
 |0,i,hx,hy,_,_=>by have h1:=tw hx;have h2:=tw hy;simp only[List.replicate_zero,List.flatten_nil,bU]at h1 h2;rw[cX h1,cX h2];simp[Op.eqItems,ax]
 |n+1,i,hx,hy,hox,hoy=>by
  rw[List.replicate_succ,gh]at hx hy;obtain⟨hx1,hx2,hx3⟩:=tv hx;obtain⟨hy1,hy2,hy3⟩:=tv hy;simp only[jx]at hx3 hy3;rw[hU]at hx2 hy2;have hpx:=Z24 w he hc X (i*l.length) O;have hpy:=Z24 w he hc Y (i*l.length) O;have heq:=IH w _ _ hx1 hy1;have hmul:(i+1)*l.length=i*l.length+l.length:=sn
  have ih:=JP D d he hc IH X Y w n (i+1) (by rw[hmul];exact hx2) (by rw[hmul];exact hy2) O O;rw[hmul]at ih;have hsplit:ax (X.drop (i*l.length)) (Y.drop (i*l.length))=(ax ((X.drop (i*l.length)).take l.length) ((Y.drop (i*l.length)).take l.length)&&ax (X.drop (i*l.length+l.length)) (Y.drop (i*l.length+l.length))):=by
   conv=>lhs;rw[<- jN l.length (X.drop (i*l.length)),<- jN l.length (Y.drop (i*l.length))]
   rw[tz _ _ _ _ bb,hU,hU]
  rw[hc]at ih⊢;simp only[List.range'_succ,Op.eqItems,aN,hpx,hpy,heq,aO];cases hb:ax ((X.drop (i*l.length)).take l.length) ((Y.drop (i*l.length)).take l.length)with
  |false=>simp[hsplit,hb]
  |true=>simp[hsplit,hb,ih]
def Z8h{P:Program}(D:Nat):∀(d:Nat) (t:TypeId) (l:List LK),eA P d t=some l->Ab P (D+d) t l
 |0,_,_,h=>by simp[eA]at h
 |d+1,t,l,h=>by
  intro w xs ys hx hy;have h0:=h;unfold eA at h;cases hu:P.underlying t with
  |none=>simp[hu]at h
  |some kd=>
   cases kd<;>simp only[hu]at h<;>try (cases h;done)
   case bool=>
    cases h
    match xs,ys,hx,hy with
    |[.bool a],[.bool b],_,_=>simp only[fw,hu,List.headD_cons,ew,ax,gE,Bool.and_true];exact run_equalIn_bool' w (D+d) t a b hu
   case int k=>
    cases h;obtain⟨a,rfl⟩:=JO hx;obtain⟨b,rfl⟩:=JO hy;simp only[fw,hu,List.headD_cons,ew,ax,gE,Bool.and_true];exact run_equalIn_int w (D+d) t _ _ a b hu
   case string=>
    cases h
    match xs,ys,hx,hy with
    |[.str a],[.str b],_,_=>
     simp only[fw,hu,List.headD_cons,ew,ax,gE,Bool.and_true];rw[show D+(d+1)=(D+d)+1 from rfl,run_equalIn_string w (D+d) t _ _ hu,ByteArray.toList_eq,ByteArray.toList_eq]
   case array n e=>
    cases he:eA P d e with
    |none=>simp[he]at h
    |some le=>
     simp only[he]at h;split at h
     .rename_i hc;cases h;obtain⟨i,hi⟩:=rC.1 hc.2;simp only[fw,hu];rw[show D+(d+1)=(D+d)+1 from rfl,run_equalIn_array w (D+d) _ _ hu hi,List.range_eq_range'];simpa using JP D d he hc.1 (Z8h D d e le he) xs ys w n 0 ow tC aj aj
     cases h
   case struct fs=>
    split at h
    .cases h
    rename_i hst;simp only[fw,hu];have hfs:P.fieldsOf t=fs:=by simp[Program.fieldsOf,hu]
    rw[show D+(d+1)=(D+d)+1 from rfl,run_equalIn_struct w (D+d) t _ _ (by rw[hfs];exact hu) (by simpa using hst),hfs];simpa using Z95 D d (λt' l' h'=>Z8h D d t' l' h') xs ys fs.toList 0 l h ow tC aj aj w
end Go.PW
namespace Go.PW
open Go.RowKit
def iP:Value->Option PV
 |.bool b=>some (.t (.bool b))
 |.int k n=>some (.t (.int k n))
 |.string s=>some (.t (.str s.data.toList))
 |.slice none 0 0=>some .nils
 |.pointer none=>some (.t (.con (.pointer none)))
 |.nilFunc=>some (.t (.con .nilFunc))
 |.nilIface=>some (.t (.con .nilIface))
 |.map none=>some (.t (.con (.map none)))
 |_=>none
def mC:List (Nat×GK)->Nat->Option PV
 |[],_=>none
 |(j,.cells ts)::l,g=>bif Nat.beq j g then some (.vptr ts)else mC l g
 |(_,.anyInt)::l,g=>mC l g
def Z25:∀{l:List (Nat×GK)} {g:Nat} {p:PV},mC l g=some p->∃ts,(g,GK.cells ts)∈l/\p = .vptr ts
 |[],g,p,h=>dv
 |(j,.cells ts)::l,g,p,h=>by
  simp only[mC]at h;cases hb:Nat.beq j g with
  |true=>
   simp only[hb,aD,ao]at h;have:=(aW _ _).1 hb;subst this;exact⟨ts,by simp,h.symm⟩
  |false=>
   simp only[hb,aB]at h;obtain⟨ts',h1,h2⟩:=Z25 h;exact⟨ts',cC _ h1,h2⟩
 |(_,.anyInt)::l,g,p,h=>by simp only[mC]at h;obtain⟨ts',h1,h2⟩:=Z25 h;exact⟨ts',cC _ h1,h2⟩
def af(ρ:List (Nat×PV)):Operand->Option PV
 |.tmp t=>get ρ t
 |.const v=>iP v
 |.func f=>some (.fn f [])
 |.global g=>mC gset g
def Ef{c:Ctx}{v:Value}{p:PV}(h:iP v=some p):VR c p v:=by unfold iP at h;split at h<;>cases h<;>simp[VR,Z6,Value.oneCell']
def P0{v:Value}{p:PV}(h:iP v=some p):p.one=true:=Eg
def gC{G:Frm}{β:Nat->Option Nat}{n:Nat}{ρ tm:List (Nat×PV)}{Z:List (Nat×Blk)}{a:Act}{w:World}(h:aF G β ⟨n,tm,Z⟩ a w){x:Operand}{p:PV}
 (hx:af ρ x=some p) (hag:∀t q,x = .tmp t->get ρ t=some q->get tm t=some q):VR (ctx G β w Z) p (a.eval x):=by
 cases x with
 |tmp t=>exact(h.tm t p (hag t p rfl hx)).2
 |const v=>exact Ef hx
 |func f=>simp only[af,ao]at hx;subst hx;simp only[VR,VRs,Act.eval];exact⟨[],rfl,rfl⟩
 |global g=>
  simp only[af]at hx;obtain⟨ts,hm,rfl⟩:=Z25 hx;have h1:=h.glI hm;have h2:=(h.glw g _ hm).2;simp only[VR,Act.eval];exact⟨g,0,rfl,λ_=>h1,Z2.mono (λb hb=>hb.elim) rfl ts 0 h2⟩
section
variable {P:Program} {o:Oper} {ρ:List (Nat×PV)} {Z:List (Nat×Blk)}
def bo {need:List Nat} {p:PV} (h:∀(G:Frm) (β:Nat->Option Nat) (n:Nat) (tm:List (Nat×PV)) (Z':List (Nat×Blk)) (a:Act) (w:World),
      (∀x q,x∈o.op.operands->af ρ x=some q->VR (ctx G β w Z') q (a.eval x))->(∀l,l∈need->get Z' l=get Z l)->aF G β ⟨n,tm,Z'⟩ a w ->
      ∃v,(execOp a.eval o).run P w = .ok (.value v) w/\VR (ctx G β w Z') p v):aQ P o ρ Z need p []:=by
 intro G n tm Z' a w K Q hag hneed _ hr hK;obtain⟨β,hr⟩:=hr;obtain⟨v,hv,hp⟩:=h G β n tm Z' a w (λx q hx hq=>gC hr hq (λt r ht hr'=>hag t r (ht▸hx) hr')) hneed hr;unfold Oper.wp;rw[hv];exact hK v w ⟨β,hr,hp⟩
def P1{x:Operand}{p:PV}(ho:o.op = .move x)(hx:af ρ x=some p):aQ P o ρ Z [] p []:=bo λG β n tm Z' a w hop _ _=>⟨a.eval x,by simp[execOp,ho],hop x p aL hx⟩
def P2{x:Operand}{p:PV}(ho:o.op = .assign x)(hx:af ρ x=some p):aQ P o ρ Z [] p []:=bo λG β n tm Z' a w hop _ _=>⟨a.eval x,by simp[execOp,ho],hop x p aL hx⟩
def P3{c x y:Operand}{b:Bool}{p:PV}(ho:o.op = .pick c x y)(hc:af ρ c=some (.t (.bool b)))(hp:af ρ (bif b then x else y)=some p):aQ P o ρ Z [] p []:=
 bo λG β n tm Z' a w hop _ _=>by
  have h1:=hop c _ aL hc;simp only[VR,Z6]at h1;refine⟨if b then a.eval x else a.eval y,by cases b<;>simp[execOp,ho,h1,asBool],?_⟩;cases b
  .exact hop y p aL hp
  exact hop x p aL hp
def bI(op:BinOp)(k:IntKind)(a b:Int):Int:=
 k.wrap (match op with
  |.and=>(BitVec.ofInt k.bits a &&& BitVec.ofInt k.bits b).toNat
  |.or=>(BitVec.ofInt k.bits a ||| BitVec.ofInt k.bits b).toNat
  |.xor=>(BitVec.ofInt k.bits a ^^^ BitVec.ofInt k.bits b).toNat
  |_=>(BitVec.ofInt k.bits a &&& ~~~BitVec.ofInt k.bits b).toNat)
def nu(op:BinOp)(k:IntKind)(a b:Int):Option U:=
 match op with
 |.add=>some (.int k (k.wrap (a+b)))
 |.sub=>some (.int k (k.wrap (a-b)))
 |.mul=>some (.int k (k.wrap (a*b)))
 |.quo=>if b=0 then none else some (.int k (k.wrap (a.tdiv b)))
 |.rem=>if b=0 then none else some (.int k (a.tmod b))
 |.and=>some (.int k (bI .and k a b))
 |.or=>some (.int k (bI .or k a b))
 |.xor=>some (.int k (bI .xor k a b))
 |.andNot=>some (.int k (bI .andNot k a b))
 |.eql=>some (.bool (a==b))
 |.neq=>some (.bool (a != b))
 |.lss=>some (.bool (decide (a<b)))
 |.leq=>some (.bool (decide (a<=b)))
 |.gtr=>some (.bool (decide (a>b)))
 |.geq=>some (.bool (decide (a>=b)))
 |_=>none
def rb(op:BinOp)(k:IntKind)(a b:Int):Option U:=
 if b<0 then none else
 match op with
 |.shl=>some (.int k (k.wrap (a*2 ^ (min b.toNat k.bits))))
 |.shr=>some (.int k (a.fdiv (2 ^ (min b.toNat k.bits))))
 |_=>none
def uX(op:BinOp)(a b:List UInt8):Option U:=
 match op with
 |.eql=>some (.bool (a==b))
 |.neq=>some (.bool (!(a==b)))
 |.lss=>some (.bool (Op.bytesLess a b))
 |.leq=>some (.bool (Op.bytesLess a b||a==b))
 |.gtr=>some (.bool (!(Op.bytesLess a b||a==b)))
 |.geq=>some (.bool (!Op.bytesLess a b))
 |_=>none
def iB{op:BinOp}{t:TypeId}{x y:Operand}{u v:Value}(w:World)(h:match u,v with|.nilIface,.nilIface=>False|.agg _,.agg _=>False|_,_=>True) :
 (eqGuard op t x y u v).run P w = .ok () w:=by
 unfold eqGuard;cases op<;>simp only[iA,gT,dk,fa,fk,aN,aS,aO] <;>
  (cases u<;>cases v<;>first|exact h.elim|rfl)
def uY{op:BinOp}{xT yT:TypeId}{x y:Operand}{k:IntKind}{a b:Int}{r:U}(ho:o.op = .binOp op xT x y yT)(hx:af ρ x=some (.t (.int k a)))(hy:af ρ y=some (.t (.int k b)))
 (hr:nu op k a b=some r):aQ P o ρ Z [] (.t r) []:=
 bo λG β n tm Z' A w hop _ _=>by
  have h1:=hop x _ aL hx;have h2:=hop y _ aL hy;simp only[VR,Z6]at h1 h2;have hg:=iB (P:=P) (op:=op) (t:=xT) (x:=x) (y:=y) (u :=.int k a) (v :=.int k b) w trivial;cases op<;>simp only[nu]at hr
  case quo=>
   split at hr
   .cases hr
   rename_i hb;cases hr;exact⟨_,by simp[execOp,ho,h1,h2,hg,binOp,Op.intDiv,hb];rfl,by simp[VR,Z6]⟩
  case rem=>
   split at hr
   .cases hr
   rename_i hb;cases hr;exact⟨_,by simp[execOp,ho,h1,h2,hg,binOp,Op.intDiv,hb];rfl,by simp[VR,Z6]⟩
  case shl=>cases hr
  case shr=>cases hr
  all_goals
   cases hr;exact⟨_,by simp[execOp,ho,h1,h2,hg,binOp,Op.intArith,Op.intBits,Op.intCmp];rfl,by simp[VR,Z6,bI]⟩
def Ch{op:BinOp}{xT yT:TypeId}{x y:Operand}{k k':IntKind}{a b:Int}{r:U}(ho:o.op = .binOp op xT x y yT)(hx:af ρ x=some (.t (.int k a)))(hy:af ρ y=some (.t (.int k' b)))
 (hr:rb op k a b=some r):aQ P o ρ Z [] (.t r) []:=
 bo λG β n tm Z' A w hop _ _=>by
  have h1:=hop x _ aL hx;have h2:=hop y _ aL hy;simp only[VR,Z6]at h1 h2;have hg:=iB (P:=P) (op:=op) (t:=xT) (x:=x) (y:=y) (u :=.int k a) (v :=.int k' b) w trivial;unfold rb at hr;split at hr
  .cases hr
  rename_i hb;cases op<;>simp only at hr<;>cases hr;all_goals exact⟨_,by simp[execOp,ho,h1,h2,hg,binOp,Op.shift,hb];rfl,by simp[VR,Z6]⟩
def MQ{op:BinOp}{xT yT:TypeId}{x y:Operand}{a b:List UInt8}{r:U}(ho:o.op = .binOp op xT x y yT)(hx:af ρ x=some (.t (.str a)))(hy:af ρ y=some (.t (.str b)))
 (hr:uX op a b=some r):aQ P o ρ Z [] (.t r) []:=
 bo λG β n tm Z' A w hop _ _=>by have h1:=hop x _ aL hx;have h2:=hop y _ aL hy;simp only[VR,Z6]at h1 h2;have hg:=iB (P:=P) (op:=op) (t:=xT) (x:=x) (y:=y) (u :=.string ⟨a.toArray⟩) (v :=.string ⟨b.toArray⟩) w trivial;cases op<;>simp only[uX]at hr<;>cases hr;all_goals exact⟨_,by simp[execOp,ho,h1,h2,hg,binOp,Op.stringOp,ByteArray.toList_eq];rfl,by simp[VR,Z6]⟩
def MP{xT yT:TypeId}{x y:Operand}{a b:List UInt8}(ho:o.op = .binOp .add xT x y yT)(hx:af ρ x=some (.t (.str a)))(hy:af ρ y=some (.t (.str b)))
 (hl:a.length+b.length<=9223372036854775807):aQ P o ρ Z [] (.t (.str (a++b))) []:=
 bo λG β n tm Z' A w hop _ _=>by
  have h1:=hop x _ aL hx;have h2:=hop y _ aL hy;simp only[VR,Z6]at h1 h2;have hg:=iB (P:=P) (op :=.add) (t:=xT) (x:=x) (y:=y) (u :=.string ⟨a.toArray⟩) (v :=.string ⟨b.toArray⟩) w trivial;have hsz:¬(((⟨a.toArray⟩:ByteArray).size+(⟨b.toArray⟩:ByteArray).size:Nat):Int)>IntKind.i64.max:=by
   have e1:(⟨a.toArray⟩:ByteArray).size=a.length:=oC
   have e2:(⟨b.toArray⟩:ByteArray).size=b.length:=oC
   rw[e1,e2];have:IntKind.i64.max=9223372036854775807:=by rfl
   omega
  refine⟨.string ⟨(a++b).toArray⟩,?_,by simp[VR,Z6]⟩;have happ:(⟨a.toArray⟩:ByteArray)++(⟨b.toArray⟩:ByteArray)=⟨(a++b).toArray⟩:=by apply ByteArray.ext;simp
  simp only[execOp,ho,h1,h2,aN,hg,aO,binOp,Op.stringOp,hsz,fk,aS,happ]
def Ci{op:BinOp}{xT yT:TypeId}{x y:Operand}{a b r:Bool}(ho:o.op = .binOp op xT x y yT)(hT:P.underlying xT=some .bool)(hx:af ρ x=some (.t (.bool a)))(hy:af ρ y=some (.t (.bool b)))
 (hr:(op = .eql/\r=(a==b))\/(op = .neq/\r = !(a==b))):aQ P o ρ Z [] (.t (.bool r)) []:=
 bo λG β n tm Z' A w hop _ _=>by have h1:=hop x _ aL hx;have h2:=hop y _ aL hy;simp only[VR,Z6]at h1 h2;have hg:=iB (P:=P) (op:=op) (t:=xT) (x:=x) (y:=y) (u :=.bool a) (v :=.bool b) w trivial;have he:(Op.equal xT (.bool a) (.bool b)).run P w = .ok (a==b) w:=run_equalIn_bool' w 9999 xT a b hT;refine⟨.bool r,?_,by simp[VR,Z6]⟩;rcases hr with⟨rfl,rfl⟩|⟨rfl,rfl⟩<;>simp[execOp,ho,h1,h2,hg,binOp,he]
def wK{c:Ctx}:∀{ts:List U} {vs:List Value} {ks:List LK},VRs c (ts.map PV.t) vs->fits ks ts=true->vs=ts.map ew
 |[],vs,_,h,_=>by simpa[VRs]using h
 |t::ts,vs,ks,h,hf=>by
  cases ks with
  |nil=>simp[fits]at hf
  |cons k ks=>
   simp only[cu,VRs]at h;obtain⟨v,rest,rfl,hv,hr⟩:=h;simp only[fits,aM]at hf;rw[wK hr hf.2];have:v=ew t:=by simp only[VR]at hv;cases t<;>cases k<;>simp only[LK.fits,fa,false_and]at hf<;>simpa[Z6,ew]using hv
   rw[this];rfl
def eqOp(op:BinOp)(r:Bool):Option Bool:=
 match op with
 |.eql=>some r
 |.neq=>some (!r)
 |_=>none
def MR{op:BinOp}{xT yT:TypeId}{x y:Operand}{ZbU bs:List U}{r:Bool}(d:Nat)(ks:List LK)(ho:o.op = .binOp op xT x y yT)(hd:d<=10000)(hT:eA P d xT=some ks)
 (hagg:∃k,P.underlying xT=some k/\k.isRow=true) (hgt:P.eqGuardType P.depth xT=false)
 (hx:af ρ x=some (.agg (ZbU.map .t))) (hy:af ρ y=some (.agg (bs.map .t))) (ha:fits ks ZbU=true) (hb:fits ks bs=true) (hr:eqOp op (ax ZbU bs)=some r):aQ P o ρ Z [] (.t (.bool r)) []:=
 bo λG β n tm Z' A w hop _ _=>by
  have h1:=hop x _ aL hx;have h2:=hop y _ aL hy;simp only[VR]at h1 h2;obtain⟨vs,h1,hv1⟩:=h1;obtain⟨us,h2,hv2⟩:=h2;have e1:=wK hv1 ha;have e2:=wK hv2 hb;subst e1;subst e2;obtain⟨k,hk,hrow⟩:=hagg;have hp1:fw P xT ZbU = .agg (ZbU.map ew).toArray:=by cases k<;>simp_all[fw]
  have hp2:fw P xT bs = .agg (bs.map ew).toArray:=by cases k<;>simp_all[fw]
  have he:=Z8h (P:=P) (10000-d) d xT ks hT w ZbU bs ha hb;rw[show 10000-d+d=10000 by omega,hp1,hp2]at he;have hg:=run_eqGuard_agg (P:=P) w op xT x y (ZbU.map ew).toArray (bs.map ew).toArray hgt;refine⟨.bool r,?_,by simp[VR,Z6]⟩;cases op<;>simp only[eqOp]at hr<;>cases hr
  .simp only[execOp,ho,h1,h2,aN,hg,aO,run_eql_struct,he,aS]
  simp only[execOp,ho,h1,h2,aN,hg,aO,run_neq_struct,he,aS]
def P4{t:TypeId}{x:Operand}{b:Bool}(ho:o.op = .unOp .not t x)(hx:af ρ x=some (.t (.bool b))):aQ P o ρ Z [] (.t (.bool (!b))) []:=bo λG β n tm Z' A w hop _ _=>by have h1:=hop x _ aL hx;simp only[VR,Z6]at h1;exact⟨_,by simp[execOp,ho,h1,Op.unary];rfl,by simp[VR,Z6]⟩
def P5{t:TypeId}{x:Operand}{k:IntKind}{a:Int}(ho:o.op = .unOp .neg t x)(hx:af ρ x=some (.t (.int k a))):aQ P o ρ Z [] (.t (.int k (k.wrap (0-a)))) []:=bo λG β n tm Z' A w hop _ _=>by have h1:=hop x _ aL hx;simp only[VR,Z6]at h1;exact⟨.int k (k.wrap (0-a)),by simp only[execOp,ho,h1,Op.unary,Op.intArith,aN,aS,aO],by simp[VR,Z6]⟩
def P6{t:TypeId}{x:Operand}{k:IntKind}{a:Int}(ho:o.op = .unOp .xor t x)(hx:af ρ x=some (.t (.int k a))):aQ P o ρ Z [] (.t (.int k (bI .xor k (if k.signed then-1 else k.max) a))) []:=bo λG β n tm Z' A w hop _ _=>by have h1:=hop x _ aL hx;simp only[VR,Z6]at h1;exact⟨.int k (bI .xor k (if k.signed then-1 else k.max) a),by simp only[execOp,ho,h1,Op.unary,Op.intBits,aN,aS,aO,bI],by simp[VR,Z6]⟩
def P7{s d:TypeId}{x:Operand}{k k':IntKind}{a:Int}(ho:o.op = .convert s d x)(hs:∃ds,P.underlying s=some ds)(hd:P.underlying d=some (.int k'))(hx:af ρ x=some (.t (.int k a))) :
 aQ P o ρ Z [] (.t (.int k' (k'.wrap a))) []:=
 bo λG β n tm Z' A w hop _ _=>by have h1:=hop x _ aL hx;simp only[VR,Z6]at h1;obtain⟨ds,hs⟩:=hs;refine⟨.int k' (k'.wrap a),?_,by simp[VR,Z6]⟩;simp only[execOp,ho,h1,convert,aN,b7 hs,b7 hd,aO,Conv.intToInt,aS]
def P8{s d:TypeId}{x:Operand}{a:List UInt8}(ho:o.op = .convert s d x)(hs:P.underlying s=some .string)(hd:P.underlying d=some .string)(hx:af ρ x=some (.t (.str a))) :
 aQ P o ρ Z [] (.t (.str a)) []:=
 bo λG β n tm Z' A w hop _ _=>by have h1:=hop x _ aL hx;simp only[VR,Z6]at h1;refine⟨.string ⟨a.toArray⟩,?_,by simp[VR,Z6]⟩;simp only[execOp,ho,h1,convert,aN,b7 hs,b7 hd,aO,aS]
def P9{t:TypeId}{x:Operand}{es:List (List U)}{e:TypeId}(ho:o.op = .call { callee :=.builtin .len,args := #[x],argTypes := #[t] })(hT:P.underlying t=some (.slice e))(hx:af ρ x=some (.t (.sl es))) :
 aQ P o ρ Z [] (.t (.int .i64 es.length)) []:=
 bo λG β n tm Z' A w hop _ _=>by have h1:=hop x _ eH hx;simp only[VR,Z6]at h1;obtain⟨a,cap,h1,_⟩:=h1;exact⟨.int .i64 es.length,by simp[execOp,ho,resolve,invoke,builtin,Builtin.len_,h1,b7 hT,goInt],by simp[VR,Z6]⟩
def Qa{t:TypeId}{x:Operand}{e:TypeId}(ho:o.op = .call { callee :=.builtin .len,args := #[x],argTypes := #[t] })(hT:P.underlying t=some (.slice e))(hx:af ρ x=some .nils) :
 aQ P o ρ Z [] (.t (.int .i64 0)) []:=
 bo λG β n tm Z' A w hop _ _=>by have h1:=hop x _ eH hx;simp only[VR]at h1;obtain⟨a,h1⟩:=h1;exact⟨.int .i64 0,by simp[execOp,ho,resolve,invoke,builtin,Builtin.len_,h1,b7 hT,goInt],by simp[VR,Z6]⟩
def Qb{t:TypeId}{x:Operand}{e:TypeId}{l m k:Nat}{es:List (List U)}(ho:o.op = .call { callee :=.builtin .len,args := #[x],argTypes := #[t] })(hT:P.underlying t=some (.slice e))
 (hx:af ρ x=some (.osl l m)) (hg:get Z l=some (.row k es)) (hm:es.length=m):aQ P o ρ Z [l] (.t (.int .i64 m)) []:=
 bo λG β n tm Z' A w hop hneed _=>by have h1:=hop x _ eH hx;simp only[VR]at h1;obtain⟨a,cap,hv,_⟩:=(h1.1 k es Eh).2 hm.symm;exact⟨.int .i64 m,by simp[execOp,ho,resolve,invoke,builtin,Builtin.len_,hv,b7 hT,goInt],by simp[VR,Z6]⟩
def Qc{t:TypeId}{x:Operand}{s:List UInt8}(ho:o.op = .call { callee :=.builtin .len,args := #[x],argTypes := #[t] })(hT:P.underlying t=some .string)(hx:af ρ x=some (.t (.str s))) :
 aQ P o ρ Z [] (.t (.int .i64 s.length)) []:=
 bo λG β n tm Z' A w hop _ _=>by
  have h1:=hop x _ eH hx;simp only[VR,Z6]at h1;have e:((⟨s.toArray⟩:ByteArray).size:Nat)=s.length:=oC
  refine⟨.int .i64 s.length,?_,by simp[VR,Z6]⟩;simp only[execOp,ho,resolve,invoke,builtin,Builtin.len_,mD,cu,fx,aN,aS,aO,h1];simp[b7 hT,goInt,e]
def VRs.drop{c:Ctx}:∀{ps:List PV} {vs:List Value} (n:Nat),VRs c ps vs->VRs c (ps.drop n) (vs.drop n)
 |ps,vs,0,h=>iC
 |[],vs,n+1,h=>Ei
 |p::ps,vs,n+1,h=>by simp only[VRs]at h;obtain⟨v,rest,rfl,_,hr⟩:=h;simpa using VRs.drop n hr
def VRs.take{c:Ctx}:∀{ps:List PV} {vs:List Value} (n:Nat),VRs c ps vs->VRs c (ps.take n) (vs.take n)
 |ps,vs,0,_=>by simp[VRs]
 |[],vs,n+1,h=>Ei
 |p::ps,vs,n+1,h=>by simp only[VRs]at h;obtain⟨v,rest,rfl,hv,hr⟩:=h;simp only[sh,VRs];exact⟨v,_,rfl,hv,VRs.take n hr⟩
structure TyF (P:Program) (t:TypeId) (agg:Bool) (size:Nat):Prop where
 und:∃d,P.underlying t=some d/\d.isRow=agg
 size:(P.info? t).map (·.size)=some size
def TyF.info{P:Program}{t:TypeId}{agg:Bool}{size:Nat}(h:TyF P t agg size):∃i,P.info? t=some i/\i.size=size:=by
 cases hi:P.info? t with
 |none=>have:=h.size;simp[hi]at this
 |some i=>exact⟨i,rfl,by have:=h.size;simpa[hi]using this⟩
def TyF.run_isAgg{P:Program}{t:TypeId}{agg:Bool}{size:Nat}(h:TyF P t agg size)(w:World):(isAgg t).run P w = .ok agg w:=by obtain⟨d,hu,hd⟩:=h.und;unfold isAgg;rw[aN,b7 hu w];cases d<;>simp_all
def TyF.run_sizeOf{P:Program}{t:TypeId}{agg:Bool}{size:Nat}(h:TyF P t agg size)(w:World):(sizeOf t).run P w = .ok size w:=by obtain⟨i,hi,hs⟩:=h.info;simp[sizeOf,typeInfo,hi,hs]
def cG(agg:Bool)(size off:Nat)(cs:List PV):Option PV:=bif agg then(bif Nat.ble (off+size) cs.length then some (.agg ((cs.drop off).take size))else none)else cs[off]?
def Ej{c:Ctx}{t:TypeId}{agg:Bool}{size off:Nat}(hT:TyF P t agg size)(w:World){ps:List PV}{vs:List Value}(hv:VRs c ps vs){p:PV}(hp:cG agg size off ps=some p) :
 ∃v,(part t vs.toArray off).run P w = .ok v w/\VR c p v:=by
 have hl:=hv.length;cases agg with
 |false=>
  simp only[cG,aB]at hp;obtain⟨v,hv1,hv2⟩:=hv.get off p hp;exact⟨v,by simp[part,hT.run_isAgg w,hv1],hv2⟩
 |true=>
  simp only[cG,aD]at hp;cases hb:Nat.ble (off+size) ps.length with
  |false=>simp[hb]at hp
  |true=>
   simp only[hb,aD,ao]at hp;subst hp;refine⟨.agg ((vs.drop off).take size).toArray,?_,?_⟩
   .simp [part,hT.run_isAgg w,hT.run_sizeOf w]
   simp only[VR];exact⟨_,rfl,(hv.drop off).take size⟩
def Qd{xT fT:TypeId}{x:Operand}{i off:Nat}{cs:List PV}{p:PV}{agg:Bool}{size:Nat}(fs:Array Field)(f:Field)(ho:o.op = .field xT x i)(hT:P.underlying xT=some (.struct fs))(hf:fs[i]?=some f)
 (hft:f.type=fT) (hfo:f.offset=off) (hF:TyF P fT agg size) (hx:af ρ x=some (.agg cs)) (hp:cG agg size off cs=some p):aQ P o ρ Z [] p []:=
 bo λG β n tm Z' A w hop _ _=>by have h1:=hop x _ aL hx;simp only[VR]at h1;obtain⟨vs,h1,hv⟩:=h1;subst hft;subst hfo;obtain⟨v,hr,hv⟩:=Ej hF w hv hp;refine⟨v,?_,hv⟩;simp only[execOp,ho,h1,Instr.field,aN,b7 hT,aO,hf,asAgg,aS,hr]
def Qe{x:Operand}{i:Nat}{cs:List PV}{p:PV}(ho:o.op = .extract x i)(hx:af ρ x=some (.tup cs))(hp:cs[i]?=some p):aQ P o ρ Z [] p []:=bo λG β n tm Z' A w hop _ _=>by have h1:=hop x _ aL hx;simp only[VR]at h1;obtain⟨vs,h1,hv⟩:=h1;obtain⟨v,hv1,hv2⟩:=hv.get i p hp;refine⟨v,?_,hv2⟩;simp[execOp,ho,h1,Instr.extract,hv1]
def Qf{x:Operand}{p:PV}(ho:o.op = .nilCheck x)(hx:af ρ x=some p)(hp:match p with|.bptr _ _=>False|.rptr _ _ _ _=>False|.vptr _=>True|_=>False):aQ P o ρ Z [] p []:=bo λG β n tm Z' A w hop _ _=>by have h1:=hop x _ aL hx;cases p<;>simp only at hp;simp only[VR]at h1⊢;obtain⟨b,off,hv,h⟩:=h1;exact⟨.pointer (some ⟨b,off,none⟩),by simp[execOp,ho,hv],b,off,rfl,h⟩
def Qg{t:TypeId}{f:FuncId}{caps:Array Operand}{ps:List PV}(ho:o.op = .makeFunc (.func f) #[] caps)(hx:caps.toList.mapM (af ρ)=some ps):aQ P o ρ Z [] (.fn f ps) []:=
 bo λG β n tm Z' A w hop _ _=>by
  refine⟨.func (.func f) #[] (caps.map A.eval),by simp[execOp,ho,Instr.makeFunc],?_⟩;simp only[VR];refine⟨caps.toList.map A.eval,by rw[<- oD],?_⟩;have hall:∀x∈caps.toList,∀q,af ρ x=some q->VR (ctx G β w Z') q (A.eval x):=λx hx q hq=>hop x q (by simp only[ho,Op.operands];simpa using hx) hq;generalize caps.toList=l at hx hall;clear hop ho t;induction l generalizing ps with
  |nil=>simp at hx;subst hx;simp[VRs]
  |cons x l ih=>
   rw[jZ]at hx;simp only[bind,c9,pure,ao]at hx;obtain⟨q,hq,qs,hqs,rfl⟩:=hx;simp only[cu,VRs];exact⟨_,_,rfl,hall x aj q hq,ih hqs (λy hy=>hall y (cC _ hy))⟩
end
end Go.PW
namespace Go.PW
open Go.RowKit
def Z3:PV->List PV
 |.agg cs=>cs
 |p=>[p]
def splice{α:Type}(cells:List α)(off:Nat)(cs:List α):List α:=cells.take off++cs++cells.drop (off+cs.length)
def fK(places:List (Nat×Nat))(cells:List PV):List (Nat×PV)->Option (List PV)
 |[]=>some cells
 |(i,p)::rest=>
  match places[i]? with
  |none=>none
  |some (off,size)=>bif Nat.beq (Z3 p).length size&&Nat.ble (off+size) cells.length then fK places (splice cells off (Z3 p)) rest else none
def VR.cells{c:Ctx}{p:PV}{v:Value}(h:VR c p v):VRs c (Z3 p) v.cells.toList:=by
 cases p
 case agg cs=>simp only[VR]at h;obtain⟨vs,rfl,h⟩:=h;simpa[Z3,Value.cells]using h
 all_goals
  simp only[Z3,VRs];refine⟨v,[],?_,h,rfl⟩;cases v<;>first
   |rfl
   |(exfalso;simp only[VR]at h;first
    |(have:=Z6.oneCell h;simp[Value.oneCell']at this;done)
    |(obtain⟨a,h⟩:=h;cases h;done)
    |(obtain⟨_,a,m,cap,h⟩:=h;cases h;done)
    |(obtain⟨_,a,h⟩:=h;cases h;done)
    |(obtain⟨b,off,h,_⟩:=h;cases h;done)
    |(obtain⟨vs,h,_⟩:=h;cases h;done)
    |(cases h;done))
def Ek(off:Nat):∀(L:List Value) (k:Nat) (A:Array Value),off+k+L.length<=A.size ->
 ((L.zipIdx k).foldl (λcs (x:Value×Nat)=>cs.setIfInBounds (off+x.2) x.1) A).toList=A.toList.take (off+k)++L++A.toList.drop (off+k+L.length)
 |[],k,A,_=>aj
 |v::L,k,A,h=>by
  simp only[bJ]at h;simp only[List.zipIdx_cons,List.foldl_cons];rw[Ek off L (k+1) _ bb];have hlt:off+k<A.toList.length:=bb
  have e1:(A.setIfInBounds (off+k) v).toList=A.toList.take (off+k)++v::A.toList.drop (off+k+1):=by rw[Array.toList_setIfInBounds,List.set_eq_take_append_cons_drop,bB hlt]
  rw[e1];have hl:(A.toList.take (off+k)).length=off+k:=by rw[la];omega
  rw[show off+(k+1)=off+k+1 by omega];have t1:(A.toList.take (off+k)++v::A.toList.drop (off+k+1)).take (off+k+1)=A.toList.take (off+k)++[v]:=by rw[si,hl,show off+k+1-(off+k)=1 by omega,fU (by rw[hl];omega)];rfl
  have t2:(A.toList.take (off+k)++v::A.toList.drop (off+k+1)).drop (off+k+1+L.length)=A.toList.drop (off+k+(L.length+1)):=by rw[sj,hl,gV (by rw[hl];omega),iD,show off+k+1+L.length-(off+k)=L.length+1 by omega,oE,hU];congr 1;omega
  rw[t1,t2];simp
def VRs.append{c:Ctx}:∀{ps qs:List PV} {vs us:List Value},VRs c ps vs->VRs c qs us->VRs c (ps++qs) (vs++us)
 |[],qs,vs,us,h,k=>by simp only[VRs]at h;subst h;simpa using k
 |p::ps,qs,vs,us,h,k=>by simp only[VRs]at h;obtain⟨v,rest,rfl,hv,hr⟩:=h;simp only[eP,VRs];exact⟨v,_,rfl,hv,hr.append k⟩
def VPs(c:Ctx):List (Nat×PV)->List (Nat×Value)->Prop
 |[],vs=>vs=[]
 |(i,p)::ps,vs=>∃v rest,vs=(i,v)::rest/\VR c p v/\VPs c ps rest
def sk{c:Ctx}(pl:List (Nat×Nat))(f:Nat->Option (Nat×Nat))(hf:∀i x,pl[i]?=some x->f i=some x):∀(parts:List (Nat×PV)) (vals:List (Nat×Value)) (cells:List PV) (vs:List Value) (out:List PV),
 VPs c parts vals->VRs c cells vs->fK pl cells parts=some out->∃us,Instr.fill f vs.toArray vals=some us.toArray/\VRs c out us
 |[],vals,cells,vs,out,hp,hv,h=>by simp only[VPs]at hp;subst hp;simp only[fK,ao]at h;subst h;exact⟨vs,rfl,hv⟩
 |(i,p)::parts,vals,cells,vs,out,hp,hv,h=>by
  simp only[VPs]at hp;obtain⟨v,rest,rfl,hpv,hr⟩:=hp;simp only[fK]at h;cases hpl:pl[i]? with
  |none=>simp[hpl]at h
  |some x=>
   obtain⟨off,size⟩:=x;simp only[hpl]at h;have hc:=hpv.cells;have hcl:=hc.length;have hvl:=hv.length;cases hb:Nat.beq (Z3 p).length size&&Nat.ble (off+size) cells.length with
   |false=>simp[hb]at h
   |true=>
    simp only[hb,aD]at h;simp only[aM,aW,Nat.ble_eq]at hb;have hsz:v.cells.size=size:=by rw[<- iF,hcl,hb.1]
    have hfill:(v.cells.zipIdx.foldl (λcs (x:Value×Nat)=>cs.setIfInBounds (off+x.2) x.1) vs.toArray)=(splice vs off v.cells.toList).toArray:=by apply Array.ext';rw[<- Array.foldl_toList,Array.toList_zipIdx,Ek off v.cells.toList 0 vs.toArray bb];simp[splice]
    obtain⟨us,hu,hus⟩:=sk pl f hf parts rest (splice cells off (Z3 p)) (splice vs off v.cells.toList) out hr (((hv.take off).append hc).append (by rw[hcl];exact hv.drop _)) h;refine⟨us,?_,hus⟩;simp only[Instr.fill,hf i _ hpl];have hn:¬(v.cells.size≠size\/off+v.cells.size>vs.toArray.size):=bb
    have hcond:(decide (v.cells.size≠size)||decide (off+v.cells.size>vs.toArray.size))=false:=bb
    rw[bl (by simpa using hn)];rw[hfill];exact hu
def nR(P:Program)(t:TypeId):Option (List (Nat×Nat)):=
 match P.underlying t with
 |some (.struct fs)=>fs.toList.mapM λf=>(P.info? f.type).map λi=>(f.offset,i.size)
 |_=>none
def wN(P:Program)(t:TypeId):Option (List (Nat×Nat)):=
 match P.underlying t with
 |some (.array n e)=>(P.info? e).map λi=>(List.range n).map λj=>(j*i.size,i.size)
 |_=>none
def eR(P:Program)(t:TypeId):Option (List PV):=((P.info? t).bind (·.zero)).bind λz=>z.cells.toList.mapM iP
def hX{c:Ctx}:∀{vs:List Value} {ps:List PV},vs.mapM iP=some ps->VRs c ps vs
 |[],ps,h=>by simp at h;subst h;simp[VRs]
 |v::vs,ps,h=>by rw[jZ]at h;simp only[bind,c9,pure,ao]at h;obtain⟨p,hp,qs,hq,rfl⟩:=h;simp only[VRs];exact⟨v,vs,rfl,Ef hp,hX hq⟩
structure BuF (P:Program) (t:TypeId) (places:List (Nat×Nat)) (zero:List PV):Prop where
 pl:nR P t=some places\/wN P t=some places
 z:eR P t=some zero
def BuF.run{P:Program}{t:TypeId}{places:List (Nat×Nat)}{zero out:List PV}(h:BuF P t places zero){c:Ctx}(w:World){parts:List (Nat×PV)}{vals:Array (Nat×Value)}
 (hp:VPs c parts vals.toList) (hf:fK places zero parts=some out):∃us,(Instr.build t vals).run P w = .ok (.agg us.toArray) w/\VRs c out us:=by
 have hz:=h.z;unfold eR at hz;simp only[c9]at hz;obtain⟨z,⟨i,hi,hiz⟩,hz⟩:=hz;have hzv:VRs c zero z.cells.toList:=hX hz;rcases h.pl with hpl|hpl
 .unfold nR at hpl;split at hpl
  .rename_i fs hu;obtain⟨us,h1,h2⟩:=sk (c:=c) places (λx=>places.toArray[x]?) (λj x hx=>by simpa using hx) parts vals.toList zero z.cells.toList out hp hzv hf;refine⟨us,run_build w t vals us.toArray ?_,h2⟩;simp only[Program.built,hi,hu,hiz,hpl];simpa using h1
  cases hpl
 unfold wN at hpl;split at hpl
 .rename_i n e hu;simp only[ca]at hpl;obtain⟨ie,hie,rfl⟩:=hpl;obtain⟨us,h1,h2⟩:=sk (c:=c) _ (λj=>some (j*ie.size,ie.size)) (λj x hx=>by
   simp only[fq,ca]at hx;obtain⟨j',hj,rfl⟩:=hx;have:j'=j:=by
    rcases dF j n with h|h
    .simpa [h]using hj.symm
    simp[h]at hj
   rw[this]) parts vals.toList zero z.cells.toList out hp hzv hf
  refine⟨us,run_build w t vals us.toArray ?_,h2⟩;simp only[Program.built,hi,hu,hiz,hie];simpa using h1
 cases hpl
def fy(ρ:List (Nat×PV)):List (Nat×Operand)->Option (List (Nat×PV))
 |[]=>some []
 |(i,x)::l=>
  match af ρ x,fy ρ l with
  |some p,some ps=>some ((i,p)::ps)
  |_,_=>none
section
variable {P:Program} {o:Oper} {ρ:List (Nat×PV)} {Z:List (Nat×Blk)}
def mE{c:Ctx}(f:Operand->Value):∀(l:List (Nat×Operand)) (ps:List (Nat×PV)),(∀x q,x∈l.map (·.2)->af ρ x=some q->VR c q (f x))->fy ρ l=some ps->VPs c ps (l.map λ(i,x)=>(i,f x))
 |[],ps,_,h=>by simp only[fy,ao]at h;subst h;simp[VPs]
 |(i,x)::l,ps,hop,h=>by
  simp only[fy]at h;split at h
  .rename_i p qs hp hqs;cases h;simp only[cu,VPs];exact⟨f x,_,rfl,hop x p aj hp,mE f l qs (λy q hy=>hop y q (by simp only[cu,cA];exact .inr hy)) hqs⟩
  cases h
def El{t:TypeId}{parts:Array (Nat×Operand)}{places:List (Nat×Nat)}{zero out:List PV}{ps:List (Nat×PV)}(ho:o.op = .build t parts)(hB:BuF P t places zero)
 (hp:fy ρ parts.toList=some ps) (hf:fK places zero ps=some out):aQ P o ρ Z [] (.agg out) []:=
 bo λG β n tm Z' A w hop _ _=>by have hv:=mE (ρ:=ρ) (c:=ctx G β w Z') A.eval parts.toList ps (λx q hx hq=>hop x q oF hq) hp;obtain⟨us,h1,h2⟩:=hB.run (c:=ctx G β w Z') (vals:=parts.map λ(i,x)=>(i,A.eval x)) w (by rw[oD];exact hv) hf;refine⟨.agg us.toArray,?_,by simp only[VR];exact⟨us,rfl,h2⟩⟩;simp only[execOp,ho,aN,h1,aO,aS]
def dG(w:World)(ob:Obj)(b:Nat)(h:b<w.heap.size):(w.alloc ob).heap[b]?=w.heap[b]?:=Below.heap_alloc w ob b h
def aF.allocImm{G:Frm}{β:Nat->Option Nat}{st:St}{a:Act}{w:World}(h:aF G β st a w)(ob:Obj):aF G β st a (w.alloc ob) /\
 (∀b,(ctx G β w st.Z).I b->(ctx G β (w.alloc ob) st.Z).I b/\(ctx G β (w.alloc ob) st.Z).w.heap[b]?=(ctx G β w st.Z).w.heap[b]?)/\(ctx G β (w.alloc ob) st.Z).I w.heap.size /\
 (∀l,aX (ctx G β w st.Z) (ctx G β (w.alloc ob) st.Z) l):=by
 have hlt:∀b,Imm G β w st.Z b->b<w.heap.size:=λb hb=>hb.1;have hO:∀l o,get st.Z l=some o->∀b,aA β (w.alloc ob) l o b->aA β w l o b:=λl o hl b ho=>ho.of_heap (λb hb=>dG w ob b (h.sep l o b hl (.inl hb)).1);have hI:∀b,(ctx G β w st.Z).I b->(ctx G β (w.alloc ob) st.Z).I b/\(ctx G β (w.alloc ob) st.Z).w.heap[b]?=(ctx G β w st.Z).w.heap[b]?:=λb hb=>by refine⟨?_,dG w ob b (hlt b hb)⟩;exact⟨by have:=hb.1;simp;omega,hb.2.1,λl o hl ho=>hb.2.2 l o hl (hO l o hl b ho)⟩
 have hL:∀l,aX (ctx G β w st.Z) (ctx G β (w.alloc ob) st.Z) l:=λl=>by
  cases hg:get st.Z l with
  |none=>exact aX.none hg
  |some o=>exact aX.same rfl rfl (λb hb=>dG w ob b (h.sep l o b hg (.inl hb)).1)
 refine⟨?_,hI,⟨by simp[ctx],.inl h.base,λl o hl hb=>by have:=(h.sep l o _ hl (hO l o hl _ hb)).1;omega⟩,hL⟩
 exact { defers:=h.defers,sz:=h.sz,base:=by simp;have:=h.base;omega,os:=h.os,tape:=h.tape,output:=h.output,
         old:=λb hb ho=>(dG w ob b (dz hb h.base)).trans (h.old b hb ho),A:=h.A,gl:=h.gl,inj:=λl l' o o' b hl hl' hb hb'=>h.inj l l' o o' b hl hl' (hO l o hl b hb) (hO l' o' hl' b hb'),
         sep:=λl o b hl hb=>by have:=h.sep l o b hl (hO l o hl b hb);exact⟨by simp;omega,this.2⟩,
         fix:=h.fix,row0:=h.row0.step (λl _=>hL l),
         blk:=λl o hl=>BR.step hI rfl (λb hb=>dG w ob b (h.sep l o b hl hb).1) (λm _=>hL m) (h.blk l o hl),
         tm:=λi p hp=>⟨(h.tm i p hp).1,VR.step hI p _ (λm _=>hL m) (h.tm i p hp).2⟩ }
def dq(β:Nat->Option Nat)(l b:Nat):Nat->Option Nat:=λm=>if m=l then some b else β m
def eI(β:Nat->Option Nat)(l b:Nat):dq β l b l=some b:=by simp[dq]
def j1(β:Nat->Option Nat){l m:Nat}(b:Nat)(h:m≠l):dq β l b m=β m:=by simp[dq,h]
def aF.allocOwn{G:Frm}{β:Nat->Option Nat}{n:Nat}{tm:List (Nat×PV)}{Z:List (Nat×Blk)}{a:Act}{w:World}(h:aF G β ⟨n,tm,Z⟩ a w)(cs:Array Value)(e:TypeId)(l:Nat)(blk:Blk)(hlab:1000<=l)(hflat:blk.flat)
 (hf1:∀i q,get tm i=some q->q.has l=false) (hf2:∀m y,get Z m=some y->m≠l/\y.has l=false)
 (hblk:(∀b,(ctx G β w Z).I b->(ctx G (dq β l w.heap.size) (w.alloc (.cells cs e)) ((l,blk)::Z)).I b/\(ctx G (dq β l w.heap.size) (w.alloc (.cells cs e)) ((l,blk)::Z)).w.heap[b]?=(ctx G β w Z).w.heap[b]?) ->
  (∀m,m≠l->aX (ctx G β w Z) (ctx G (dq β l w.heap.size) (w.alloc (.cells cs e)) ((l,blk)::Z)) m)->ba (w.alloc (.cells cs e)) w.heap.size cs.size ->
  BR (ctx G (dq β l w.heap.size) (w.alloc (.cells cs e)) ((l,blk)::Z)) l blk) :
 aF G (dq β l w.heap.size) ⟨n,tm,(l,blk)::Z⟩ a (w.alloc (.cells cs e))/\ba (w.alloc (.cells cs e)) w.heap.size cs.size /\
 (∀b,(ctx G β w Z).I b->(ctx G (dq β l w.heap.size) (w.alloc (.cells cs e)) ((l,blk)::Z)).I b/\(ctx G (dq β l w.heap.size) (w.alloc (.cells cs e)) ((l,blk)::Z)).w.heap[b]?=(ctx G β w Z).w.heap[b]?) /\
 (∀m,m≠l->aX (ctx G β w Z) (ctx G (dq β l w.heap.size) (w.alloc (.cells cs e)) ((l,blk)::Z)) m):=by
 have hgl:∀m,m≠l->get ((l,blk)::Z) m=get Z m:=λm hm=>by simp[get,dJ (cW hm)]
 have hgs:get ((l,blk)::Z) l=some blk:=mF
 have hgn:get Z l=none:=by
  cases hg:get Z l with
  |none=>rfl
  |some y=>exact absurd rfl (hf2 l y hg).1
 have hlt:∀b,Imm G β w Z b->b<w.heap.size:=λb hb=>hb.1;have hO:∀m o,m≠l->get Z m=some o->∀b,aA (dq β l w.heap.size) (w.alloc (.cells cs e)) m o b->aA β w m o b:=λm o hm hg b ho=>ho.of (j1 β _ hm) (λb hb=>dG w _ b (h.sep m o b hg (.inl hb)).1);have hrow:ba (w.alloc (.cells cs e)) w.heap.size cs.size:=⟨cs,e,(0,0),jM w _,rfl,.inl rfl⟩;have hI:∀b,(ctx G β w Z).I b->(ctx G (dq β l w.heap.size) (w.alloc (.cells cs e)) ((l,blk)::Z)).I b/\(ctx G (dq β l w.heap.size) (w.alloc (.cells cs e)) ((l,blk)::Z)).w.heap[b]?=(ctx G β w Z).w.heap[b]?:=λb hb=>by
  refine⟨?_,dG w _ b (hlt b hb)⟩;have hbl:=hlt b hb;obtain⟨h1,h2,h3⟩:=hb;refine⟨by simp;omega,h2,λm o hm=>?_⟩;by_cases hml:m=l
  .subst hml;rw[hgs]at hm;cases hm;intro hh;have:=hh.flat hflat;rw[eI]at this;cases this;omega
  have hm':get Z m=some o:=by rw[<- hgl m hml];exact hm
  exact λho=>h3 m o hm' (hO m o hml hm' b ho)
 have hL:∀m,m≠l->aX (ctx G β w Z) (ctx G (dq β l w.heap.size) (w.alloc (.cells cs e)) ((l,blk)::Z)) m:=λm hm=>by
  have hg':get ((l,blk)::Z) m=get Z m:=hgl m hm;cases hg:get Z m with
  |none=>exact aX.none (hg'.trans hg)
  |some o=>exact aX.same hg' (j1 β _ hm) (λb hb=>dG w _ b (h.sep m o b hg (.inl hb)).1)
 refine⟨?_,hrow,hI,hL⟩;have hns:∀m o,m≠l->get ((l,blk)::Z) m=some o->get Z m=some o:=λm o hm hg=>(hgl m hm).symm.trans hg
 exact { defers:=h.defers,sz:=h.sz,base:=by simp;have:=h.base;omega,os:=h.os,tape:=h.tape,output:=h.output,
         old:=λb hb ho=>(dG w _ b (dz hb h.base)).trans (h.old b hb ho),A:=h.A,gl:=h.gl,
         inj:=λm m' o o' b hm hm' hb hb'=>by
          by_cases h1:m=l
          .by_cases h2:m'=l
           .rw [h1,h2]
           subst h1;rw[hgs]at hm;cases hm;have hb:=hb.flat hflat;simp only[eI,ao]at hb;have:=(h.sep m' o' b (hns m' o' h2 hm') (hO m' o' h2 (hns m' o' h2 hm') b hb')).1;omega
          by_cases h2:m'=l
          .subst h2;rw[hgs]at hm';cases hm';have hb':=hb'.flat hflat;simp only[eI,ao]at hb';have:=(h.sep m o b (hns m o h1 hm) (hO m o h1 (hns m o h1 hm) b hb)).1;omega
          exact h.inj m m' o o' b (hns m o h1 hm) (hns m' o' h2 hm') (hO m o h1 (hns m o h1 hm) b hb) (hO m' o' h2 (hns m' o' h2 hm') b hb'),
         sep:=λm o b hm hb=>by
          by_cases h1:m=l
          .subst h1;rw[hgs]at hm;cases hm;have hb:=hb.flat hflat;simp only[eI,ao]at hb;subst hb;exact⟨by simp,.inl h.base⟩
          have:=h.sep m o b (hns m o h1 hm) (hO m o h1 (hns m o h1 hm) b hb);exact⟨by simp;omega,this.2⟩,
         fix:=λm cs' h1 hm=>by
          have h2:m≠l:=bP
          rw[j1 β _ h2];exact h.fix m cs' h1 (hns m _ h2 hm),
         row0:=h.row0.step (λm hm=>hL m O),
         blk:=λm o hm=>by
          by_cases h1:m=l
          .subst h1;simp only[hgs,ao]at hm;subst hm;exact hblk hI hL hrow
          have hm':=hns m o h1 hm;exact BR.step hI (j1 β _ h1) (λb hb=>dG w _ b (h.sep m o b hm' hb).1) (λq hq=>hL q (λe=>by subst e;rw[(hf2 m o hm').2]at hq;cases hq)) (h.blk m o hm'),
         tm:=λi p hp=>⟨(h.tm i p hp).1,VR.step hI p _ (λq hq=>hL q (λe=>by subst e;rw[hf1 i p hp]at hq;cases hq)) (h.tm i p hp).2⟩ }
def Z6p {need:List Nat} {p:PV} {l:Nat} {blk:Blk} (h:∀(G:Frm) (β:Nat->Option Nat) (n:Nat) (tm:List (Nat×PV)) (Z':List (Nat×Blk)) (a:Act) (w:World),
      (∀x q,x∈o.op.operands->af ρ x=some q->VR (ctx G β w Z') q (a.eval x)/\q.has l=false)->(∀m,m∈need->get Z' m=get Z m) ->
      (∀i q,get tm i=some q->q.has l=false)->(∀m y,get Z' m=some y->m≠l/\y.has l=false)->aF G β ⟨n,tm,Z'⟩ a w ->
      ∃v w',(execOp a.eval o).run P w = .ok (.value v) w'/\∃β',aF G β' ⟨n,tm,(l,blk)::Z'⟩ a w'/\VR (ctx G β' w' ((l,blk)::Z')) p v)
 (hcl:∀x q,x∈o.op.operands->(∀t,x ≠ .tmp t)->af ρ x=some q->q.has l=false):aQ P o ρ Z need p [(l,blk)]:=by
 intro G n tm Z' a w K Q hag hneed hfresh hr hK;obtain⟨β,hr⟩:=hr;obtain⟨hf1,hf2⟩:=hfresh l blk aj;obtain⟨v,w',hv,hp⟩:=h G β n tm Z' a w (λx q hx hq=>⟨gC hr hq (λt r ht hr'=>hag t r (ht▸hx) hr'),by
  cases x with
  |tmp t=>exact hf1 t q (hag t q hx hq)
  |const _=>exact hcl _ q hx (λt e=>by cases e) hq
  |global _=>exact hcl _ q hx (λt e=>by cases e) hq
  |func _=>exact hcl _ q hx (λt e=>by cases e) hq⟩) hneed hf1 hf2 hr
 unfold Oper.wp;rw[hv];exact hK v w' hp
def Qh{v:Value}{p:PV}(h:iP v=some p)(l:Nat):p.has l=false:=Eg
def oG{x:Operand}{q:PV}(l:Nat)(hx:∀t,x ≠ .tmp t)(h:af ρ x=some q):q.has l=false:=by
 cases x with
 |tmp t=>exact absurd rfl (hx t)
 |const v=>exact Qh h l
 |func f=>simp only[af,ao]at h;subst h;rfl
 |global g=>
  simp only[af]at h;obtain⟨ts,_,rfl⟩:=Z25 h;rfl
def VRs.cellsAt(w:World)(vs:List Value)(e:TypeId):fV (w.alloc (.cells vs.toArray e)) w.heap.size vs:=λj v hv=>by rw[iE];simpa using hv
def Qi{p:PV}{l:Nat}(h:p.has l=false):PV.hasAny l (Z3 p)=false:=by cases p<;>simp_all[Z3,PV.has,PV.hasAny]
def Qj{T:TypeId}{x:Operand}{p:PV}(l:Nat)(hlab:1000<=l)(ho:o.op = .box T x)(hx:af ρ x=some p)(h1:(Z3 p).all PV.one=true):aQ P o ρ Z [] (.bptr l 0) [(l,.box (Z3 p))]:=
 Z6p (λG β n tm Z' A w hop _ hf1 hf2 hr=>by
  obtain⟨hv,hhas⟩:=hop x p aL hx;have hc:=hv.cells;obtain⟨hr',hrow,hI,hL⟩:=hr.allocOwn (A.eval x).cells T l (.box (Z3 p)) hlab trivial hf1 hf2 (λhI hL hrow=>⟨w.heap.size,(A.eval x).cells.toList,eI _ _ _,by rw[<- hc.length,iF];exact hrow,
   λj v hv'=>by show(w.alloc _).cell? _=_;rw[iE];simpa using hv',VRs.step hI _ _ (λq hq=>hL q (λe=>by subst e;rw[Qi hhas]at hq;cases hq)) hc,h1⟩)
  refine⟨.pointer (some ⟨w.heap.size,0,none⟩),w.alloc (.cells (A.eval x).cells T),?_,_,hr',?_⟩
  .simp [execOp,ho,Instr.box,newVar,newRow]
  simp only[VR];exact⟨λcs hcs=>⟨w.heap.size,eI _ _ _,rfl⟩,_,rfl⟩) (λ_ _ _ hx hq=>oG l hx hq)
def Qk{T:TypeId}{zero:List PV}(l:Nat)(hlab:1000<=l)(ho:o.op = .alloc T)(hz:eR P T=some zero):aQ P o ρ Z [] (.bptr l 0) [(l,.box zero)]:=
 Z6p (λG β n tm Z' A w hop _ hf1 hf2 hr=>by
  unfold eR at hz;simp only[c9]at hz;obtain⟨z,⟨i,hi,hiz⟩,hz⟩:=hz;have h1:zero.all PV.one=true:=by
   generalize z.cells.toList=vs at hz;clear hf1 hf2 hop hr;induction vs generalizing zero with
   |nil=>simp at hz;subst hz;rfl
   |cons v vs ih=>
    rw[jZ]at hz;simp only[bind,c9,pure,ao]at hz;obtain⟨p,hp,qs,hq,rfl⟩:=hz;simp[P0 hp,ih hq]
  have hc:∀c:Ctx,VRs c zero z.cells.toList:=λc=>hX hz;obtain⟨hr',hrow,hI,hL⟩:=hr.allocOwn z.cells T l (.box zero) hlab trivial hf1 hf2 (λhI hL hrow=>⟨w.heap.size,z.cells.toList,eI _ _ _,by rw[<- (hc (ctx G β w Z')).length,iF];exact hrow,
   λj v hv'=>by show(w.alloc _).cell? _=_;rw[iE];simpa using hv',hc _,h1⟩)
  refine⟨.pointer (some ⟨w.heap.size,0,none⟩),w.alloc (.cells z.cells T),?_,_,hr',?_⟩
  .simp [execOp,ho,Instr.alloc,zeroValue,typeInfo,hi,hiz,newVar,newRow]
  simp only[VR];exact⟨λcs hcs=>⟨w.heap.size,eI _ _ _,rfl⟩,_,rfl⟩) (λ_ _ _ hx hq=>oG l hx hq)
def toT:PV->Option U
 |.t x=>some x
 |.nils=>some (.sl [])
 |_=>none
def ck:List PV->Option (List U)
 |[]=>some []
 |p::ps=>
  match toT p,ck ps with
  |some t,some ts=>some (t::ts)
  |_,_=>none
def chunk(k:Nat):Nat->List U->List (List U)
 |0,_=>[]
 |n+1,ts=>ts.take k::chunk k n (ts.drop k)
def wP{c:Ctx}{p:PV}{t:U}{v:Value}(h:toT p=some t)(hv:VR c p v):Z6 c.I c.w t v:=by
 cases p<;>simp only[toT,ao]at h<;>first|(subst h)|(cases h)
 .simpa [VR]using hv
 simp only[VR]at hv;obtain⟨a,rfl⟩:=hv;simp only[Z6];exact⟨a,0,rfl,by simp,by simp[maxLen],.inl trivial⟩
def Z8i{c:Ctx}{b:Nat}:∀{ps:List PV} {ts:List U} {vs:List Value} (off:Nat),ck ps=some ts->VRs c ps vs->(∀j v,vs[j]?=some v->c.w.cell? ⟨b,off+j,none⟩=some v)->Z2 c.I c.w b ts off
 |[],ts,vs,off,h,_,_=>by simp only[ck,ao]at h;subst h;simp[Z2]
 |p::ps,ts,vs,off,h,hv,hc=>by
  simp only[ck]at h;split at h
  .rename_i t ts' ht hts;cases h;simp only[VRs]at hv;obtain⟨v,rest,rfl,hv,hr⟩:=hv;simp only[Z2];refine⟨⟨v,by simpa using hc 0 v rfl,wP ht hv⟩,Z8i (off+1) hts hr λj u hu=>?_⟩;have:=hc (j+1) u oH;rwa[show off+(j+1)=off+1+j by omega]at this
  cases h
def Z2.split{I:Nat->Prop}{w:World}{b:Nat}:∀(k:Nat) (ts:List U) (off:Nat),Z2 I w b ts off->Z2 I w b (ts.take k) off/\Z2 I w b (ts.drop k) (off+(ts.take k).length)
 |0,ts,off,h=>by simpa[Z2]using h
 |k+1,[],off,h=>by simp[Z2]
 |k+1,t::ts,off,h=>by simp only[Z2]at h;obtain⟨h1,h2⟩:=Z2.split k ts (off+1) h.2;simp only[sh,oE,Z2,bJ];exact⟨⟨h.1,h1⟩,by rwa[show off+((ts.take k).length+1)=off+1+(ts.take k).length by omega]⟩
def an.chunk{I:Nat->Prop}{w:World}{b k:Nat}:∀(n:Nat) (ts:List U) (off:Nat),Z2 I w b ts off->an I w b (chunk k n ts) off
 |0,_,_,_=>by simp[PW.chunk,an]
 |n+1,ts,off,h=>by obtain⟨h1,h2⟩:=Z2.split k ts off h;simp only[PW.chunk,an];exact⟨h1,an.chunk n _ _ h2⟩
def oI(k:Nat):∀(n:Nat) (ts:List U),(chunk k n ts).length=n
 |0,_=>rfl
 |n+1,ts=>by simp[PW.chunk,oI k n]
def En(k:Nat):∀(n:Nat) (ts:List U),ts.length=n*k->∀el,el∈chunk k n ts->el.length=k
 |0,_,_,el,h=>by simp[PW.chunk]at h
 |n+1,ts,hl,el,h=>by
  rw[du,ez]at hl;simp only[PW.chunk,cA]at h;rcases h with h|h
  .subst h;simp;omega
  exact En k n _ bb el h
structure ElF (P:Program) (t e:TypeId) (k bytes:Nat) (zero:List PV):Prop where
 und:P.underlying t=some (.slice e)
 info:(P.info? e).map (λi=>(i.size,i.bytes))=some (k,bytes)
 z:eR P e=some zero
 pos:0<k
 len:zero.length=k
def rep{α:Type}:Nat->List α->List α
 |0,_=>[]
 |n+1,l=>l++rep n l
def j2(k n:Nat):List (Nat×Nat):=(List.range n).map λj=>(j*k,k)
def Z96{z:Array Value}{k:Nat}(hz:z.size=k)(hk:0<k):∀n,(madeCells z (n*k)).toList=rep n z.toList
 |0=>by simp[madeCells,rep]
 |n+1=>by
  rw[rep,<- Z96 hz hk n];apply List.ext_getElem?;intro j;simp only[madeCells,oD,Array.toList_range,fq];rcases dF j k with h|h
  .rw [dx bb];have h1:j<(n+1)*k:=by rw[du];omega
   simp[h1,hz,oJ h,h]
  rw[dD bb];simp only[iF,hz,fq];have e1:(n+1)*k=n*k+k:=sn
  by_cases h2:j<(n+1)*k
  .have h3:j-k<n*k:=by omega
   rw[nL h2,nL h3];simp only[dK];have:j%k=(j-k)%k:=by rw[Nat.mod_eq_sub_mod h]
   rw[this]
  have h3:¬j-k<n*k:=bP
  rw[List.getElem?_eq_none bb,List.getElem?_eq_none bb]
def VRs.rep{c:Ctx}{ps:List PV}{vs:List Value}(h:VRs c ps vs):∀n,VRs c (PW.rep n ps) (PW.rep n vs)
 |0=>by simp[PW.rep,VRs]
 |n+1=>by simp only[PW.rep];exact h.append (h.rep n)
def so{t e:TypeId}{k bytes:Nat}{zero:List PV}(hE:ElF P t e k bytes zero){c:Ctx}(w:World){len:Nat}{parts:List (Nat×PV)}{vals:Array (Nat×Value)}{out:List PV}(hp:VPs c parts vals.toList)
 (hsmall:len*k<=16777216) (hf:fK (j2 k len) (rep len zero) parts=some out) :
 ∃us,(Instr.buildSlice t len vals).run P w = .ok (.slice (some ⟨w.heap.size,0,none⟩) len len) (w.alloc (.cells us.toArray e))/\VRs c out us:=by
 cases hi:P.info? e with
 |none=>have:=hE.info;simp[hi]at this
 |some i=>
  have hik:i.size=k:=by have:=hE.info;simp[hi]at this;exact this.1
  have hz:=hE.z;unfold eR at hz;simp only[hi,bO,c9]at hz;obtain⟨z,hiz,hz⟩:=hz;have hzv:VRs c zero z.cells.toList:=hX hz;have hzl:z.cells.size=k:=by have:=hzv.length;rw[hE.len]at this;simpa using this
  have hpos:=hE.pos;have hrep:=hzv.rep len;rw[<- Z96 hzl hpos len]at hrep;obtain⟨us,h1,h2⟩:=sk (c:=c) (j2 k len) (λj=>some (j*k,k)) (λj x hx=>by
   simp only[j2,fq,ca]at hx;obtain⟨j',hj,rfl⟩:=hx;have:j'=j:=by
    rcases dF j len with h|h
    .simpa [h]using hj.symm
    simp[h]at hj
   rw[this]) parts vals.toList (rep len zero) _ out hp hrep hf
  refine⟨us,?_,h2⟩;by_cases hn:len=0
  .subst hn;have hmade:madeCells z.cells (0*k) = #[]:=by simp[madeCells]
   have h1':Instr.fill (λj=>some (j*k,k)) #[] vals.toList=some us.toArray:=by rw[hmade]at h1;simpa using h1
   simp only[Instr.buildSlice,aN,b7 hE.und,aO,sizeOf,typeInfo,run_program,hi,aS,sq,hik];have hmap:∀f:Nat->Value,Array.map f (Array.range 0) = #[]:=λf=>aj
   simp only[Nat.not_lt_zero,nF,fk,dk,aN,aS,aO,hmap,h1',newRow];simp
  have hne:¬len*i.size=0:=by rw[hik];exact Nat.ne_of_gt (Nat.mul_pos O hpos)
  refine run_buildSlice w t e len vals us.toArray i z hE.und hi hiz (by rw[hik];omega) hne ?_;rw[hik];rw[Array.toArray_toList]at h1;exact h1
end
end Go.PW
namespace Go.PW
open Go.RowKit
section
variable {P:Program} {o:Oper} {ρ:List (Nat×PV)} {Z:List (Nat×Blk)}
def GR {need:List Nat} {p:PV} (h:∀(G:Frm) (β:Nat->Option Nat) (n:Nat) (tm:List (Nat×PV)) (Z':List (Nat×Blk)) (a:Act) (w:World),
      (∀x q,x∈o.op.operands->af ρ x=some q->VR (ctx G β w Z') q (a.eval x))->(∀l,l∈need->get Z' l=get Z l)->aF G β ⟨n,tm,Z'⟩ a w ->
      ∃v w',(execOp a.eval o).run P w = .ok (.value v) w'/\aF G β ⟨n,tm,Z'⟩ a w'/\VR (ctx G β w' Z') p v):aQ P o ρ Z need p []:=by
 intro G n tm Z' a w K Q hag hneed _ hr hK;obtain⟨β,hr⟩:=hr;obtain⟨v,w',hv,hr',hp⟩:=h G β n tm Z' a w (λx q hx hq=>gC hr hq (λt r ht hr'=>hag t r (ht▸hx) hr')) hneed hr;unfold Oper.wp;rw[hv];exact hK v w' ⟨β,hr',hp⟩
def Z26(A:Act)(parts:Array (Nat×Operand)):(parts.map λ(i,x)=>(i,A.eval x)).toList=parts.toList.map λ(i,x)=>(i,A.eval x):=oD
def U2{t e:TypeId}{len k bytes:Nat}{zero out:List PV}{ts:List U}{parts:Array (Nat×Operand)}{ps:List (Nat×PV)}(ho:o.op = .buildSlice t len parts)(hE:ElF P t e k bytes zero)
 (hp:fy ρ parts.toList=some ps) (hsmall:len*k<=16777216) (hf:fK (j2 k len) (rep len zero) ps=some out) (hts:ck out=some ts):aQ P o ρ Z [] (.t (.sl (chunk k len ts))) []:=
 GR λG β n tm Z' A w hop _ hr=>by
  have hv:=mE (ρ:=ρ) (c:=ctx G β w Z') A.eval parts.toList ps (λx q hx hq=>hop x q oF hq) hp;obtain⟨us,h1,h2⟩:=so hE (c:=ctx G β w Z') w (vals:=parts.map λ(i,x)=>(i,A.eval x)) te hsmall hf;obtain⟨hr',hI,hnew,hL⟩:=hr.allocImm (.cells us.toArray e);refine⟨.slice (some ⟨w.heap.size,0,none⟩) len len,w.alloc (.cells us.toArray e),?_,hr',?_⟩
  .simp only[execOp,ho,aN,h1,aO,aS]
  simp only[VR,Z6];refine⟨some ⟨w.heap.size,0,none⟩,len,by rw[oI],by rw[oI];exact bh _,?_,.inr ⟨w.heap.size,0,rfl,hnew,an.chunk _ _ _ ?_⟩⟩
  .have:=hE.pos;have:len<=len*k:=sW _ this;simp only[maxLen];omega
  have h3:=VRs.step hI _ _ (λl _=>hL l) h2;exact Z8i 0 hts h3 (λj v hj=>by rw[aK];exact VRs.cellsAt w us e j v hj)
def U3{t e:TypeId}{len k bytes:Nat}{zero out:List PV}{ts:List U}{parts:Array (Nat×Operand)}{ps:List (Nat×PV)}(l:Nat)(hlab:1000<=l)(ho:o.op = .buildSlice t len parts)(hE:ElF P t e k bytes zero)
 (hp:fy ρ parts.toList=some ps) (hsmall:len*k<=16777216) (hf:fK (j2 k len) (rep len zero) ps=some out) (hts:ck out=some ts) (hlen:ts.length=len*k) :
 aQ P o ρ Z [] (.osl l len) [(l,.row k (chunk k len ts))]:=
 Z6p (λG β n tm Z' A w hop _ hf1 hf2 hr=>by
  have hv:=mE (ρ:=ρ) (c:=ctx G β w Z') A.eval parts.toList ps (λx q hx hq=>(hop x q oF hq).1) hp;obtain⟨us,h1,h2⟩:=so hE (c:=ctx G β w Z') w (vals:=parts.map λ(i,x)=>(i,A.eval x)) te hsmall hf;have houtlen:=h2.length;have htl:∀{qs:List PV} {us:List U},ck qs=some us->us.length=qs.length:=by
   intro qs;induction qs with
   |nil=>intro us h;simp only[ck,ao]at h;subst h;rfl
   |cons q qs ih=>
    intro us h;simp only[ck]at h;split at h
    .rename_i t ts' _ hts';cases h;simp[ih hts']
    cases h
  have husl:us.length=len*k:=by rw[houtlen,<- htl hts,hlen]
  have hcells:∀(c':Ctx),(∀b,(ctx G β w Z').I b->c'.I b/\c'.w.heap[b]?=(ctx G β w Z').w.heap[b]?)->c'.w=w.alloc (.cells us.toArray e)->Z2 c'.I c'.w w.heap.size ts 0:=by
   intro c' hI hw;have hgen:∀(qs:List PV) (rs:List U) (vs:List Value) (off:Nat),ck qs=some rs->VRs (ctx G β w Z') qs vs->(∀j v,vs[j]?=some v->c'.w.cell? ⟨w.heap.size,off+j,none⟩=some v)->Z2 c'.I c'.w w.heap.size rs off:=by
    intro qs;induction qs with
    |nil=>intro rs vs off h _ _;simp only[ck,ao]at h;subst h;simp[Z2]
    |cons q qs ih=>
     intro rs vs off h hv hc;simp only[ck]at h;split at h
     .rename_i t rs' ht hrs;cases h;simp only[VRs]at hv;obtain⟨v,rest,rfl,hv,hr⟩:=hv;simp only[Z2];refine⟨⟨v,by simpa using hc 0 v rfl,Z6.mono hI t v (wP ht hv)⟩,ih rs' rest (off+1) hrs hr λj u hu=>?_⟩;have:=hc (j+1) u oH;rwa[show off+(j+1)=off+1+j by omega]at this
     cases h
   exact hgen out ts us 0 hts h2 (λj v hj=>by rw[hw,aK];exact VRs.cellsAt w us e j v hj)
  obtain⟨hr',hrow,hI,hL⟩:=hr.allocOwn us.toArray e l (.row k (chunk k len ts)) hlab trivial hf1 hf2 (λhI _ hrow=>⟨hE.pos,En k len ts hlen,.inr ⟨w.heap.size,_,eI _ _ _,hrow,by rw[oI];simp[husl],an.chunk _ _ _ (hcells _ hI rfl)⟩⟩);refine⟨.slice (some ⟨w.heap.size,0,none⟩) len len,w.alloc (.cells us.toArray e),?_,_,hr',?_⟩
  .simp only[execOp,ho,aN,h1,aO,aS]
  simp only[VR];refine⟨λk' es' hg=>?_,_,_,_,rfl⟩;have hgs:get ((l,Blk.row k (chunk k len ts))::Z') l=some (.row k (chunk k len ts)):=mF
  have hg':some (Blk.row k' es')=some (.row k (chunk k len ts)):=hg.symm.trans hgs;cases hg';rw[oI];refine⟨bh _,λ_=>⟨_,len,rfl,bh _,?_,.inr ⟨w.heap.size,_,rfl,eI _ _ _,hrow,by simp[husl]⟩⟩⟩;have:=hE.pos;have:len<=len*k:=sW _ this;simp only[maxLen];omega) (λ_ _ _ hx hq=>oG l hx hq)
def Z2.rep{I:Nat->Prop}{w:World}{b:Nat}{z:List U}:∀(n:Nat) (off:Nat),(∀j off',j<n->off'=off+j*z.length->Z2 I w b z off')->an I w b (List.replicate n z) off
 |0,_,_=>by simp[an]
 |n+1,off,h=>by simp only[List.replicate_succ,an];refine⟨h 0 off O aj,Z2.rep n (off+z.length) λj off' hj he=>h (j+1) off' O ?_⟩;rw[he,du,ez];omega
def U4{t e:TypeId}{x y:Operand}{k bytes:Nat}{zero:List PV}{zs:List U}{kl kc:IntKind}{m c:Int}(l:Nat)(hlab:1000<=l)(ho:o.op = .makeSlice t x y)(hE:ElF P t e k bytes zero)(hzs:ck zero=some zs)
 (hx:af ρ x=some (.t (.int kl m))) (hy:af ρ y=some (.t (.int kc c))) (h0:0<=m) (hmc:m<=c) (hb:(bytes:Int)*c<=281474976710656) (h63:c<=9223372036854775807) :
 aQ P o ρ Z [] (.osl l m.toNat) [(l,.row k (List.replicate m.toNat zs))]:=
 Z6p (λG β n tm Z' A w hop _ hf1 hf2 hr=>by
  have h1:=(hop x _ aL hx).1;have h2:=(hop y _ aL hy).1;simp only[VR,Z6]at h1 h2;cases hi:P.info? e with
  |none=>have:=hE.info;simp[hi]at this
  |some i=>
   have hik:i.size=k/\i.bytes=bytes:=tf
   have hz:=hE.z;unfold eR at hz;simp only[hi,bO,c9]at hz;obtain⟨z,hiz,hz⟩:=hz;have hzv:∀c,VRs c zero z.cells.toList:=λc=>hX hz;have hzl:z.cells.size=k:=by have:=(hzv (ctx G β w Z')).length;rw[hE.len]at this;simpa using this
   have hzsl:zs.length=k:=by
    rw[<- hE.len];have htl:∀{qs:List PV} {us:List U},ck qs=some us->us.length=qs.length:=by
     intro qs;induction qs with
     |nil=>intro us h;simp only[ck,ao]at h;subst h;rfl
     |cons q qs ih=>
      intro us h;simp only[ck]at h;split at h
      .rename_i t ts' _ hts';cases h;simp[ih hts']
      cases h
    exact htl hzs
   have hrun:=run_make (P:=P) w t e i z hE.und hi hiz kl kc m c h0 hmc (by rw[hik.2];exact hb) h63;rw[hik.1]at hrun;have hsz:(madeCells z.cells (c.toNat*k)).size=c.toNat*k:=size_madeCells _ _;have hcell:∀j i',i'<c.toNat->j<k->(madeCells z.cells (c.toNat*k))[i'*k+j]?=z.cells[j]?:=by
    intro j i' hi' hj;have hlt:i'*k+j<c.toNat*k:=by have:(i'+1)*k<=c.toNat*k:=fA _ hi';rw[du,ez]at this;omega
    simp only[madeCells,Array.getElem?_map,Array.getElem?_range,hlt,dk,dK,hzl];rw[Nat.mul_comm i' k,Nat.mul_add_mod,oJ hj];have:j<z.cells.size:=bP
    simp[this]
   obtain⟨hr',hrow,hI,hL⟩:=hr.allocOwn (madeCells z.cells (c.toNat*k)) e l (.row k (List.replicate m.toNat zs)) hlab trivial hf1 hf2 (λhI _ hrow=>
    ⟨hE.pos,λel hel=>by rw[List.eq_of_mem_replicate hel];exact hzsl,.inr ⟨w.heap.size,_,eI _ _ _,hrow,by rw[List.length_replicate,hsz];exact fA _ O,Z2.rep _ _ λj off' hj he=>by
     refine Z8i (vs:=z.cells.toList) off' hzs (hzv _) λj' v hv=>?_;show(w.alloc _).cell? _=_;have hj':j'<k:=GS
     rw[iE,he,aK,hzsl,hcell j' j O hj'];simpa using hv⟩⟩)
   refine⟨.slice (some ⟨w.heap.size,0,none⟩) m.toNat c.toNat,_,?_,_,hr',?_⟩
   .simp only[execOp,ho,h1,h2,aN,hrun,aO,aS]
   simp only[VR];refine⟨λk' es' hg=>?_,_,_,_,rfl⟩;have hgs:get ((l,Blk.row k (List.replicate m.toNat zs))::Z') l=some (.row k (List.replicate m.toNat zs)):=mF
   have hg':some (Blk.row k' es')=some (.row k (List.replicate m.toNat zs)):=hg.symm.trans hgs;cases hg';rw[List.length_replicate];exact⟨bh _,λ_=>⟨_,c.toNat,rfl,by omega,by simp only[maxLen];omega,.inr ⟨w.heap.size,_,rfl,eI _ _ _,hrow,by rw[hsz];exact bh _⟩⟩⟩) (λ_ _ _ hx hq=>oG l hx hq)
def fieldInfo(P:Program)(s:TypeId)(i:Nat):Option (Nat×Nat):=
 match P.underlying s with
 |some (.struct fs)=>(fs[i]?).bind λf=>(P.info? f.type).map λinf=>(f.offset,inf.size)
 |_=>none
def nO{s:TypeId}{i off size b q:Nat}(w:World)(hf:fieldInfo P s i=some (off,size))(hs:size≠0) :
 (Instr.fieldAt s (.pointer (some ⟨b,q,none⟩)) i).run P w = .ok (.pointer (some ⟨b,q+off,none⟩)) w:=by
 unfold fieldInfo at hf;split at hf
 .rename_i fs hu;simp only[c9,ca]at hf;obtain⟨f,hf,inf,hi,he⟩:=hf;cases he;simp[Instr.fieldAt,b7 hu,hf,Instr.sureAddr,fieldPlace,sizeOf,typeInfo,hi,hs,gd]
 cases hf
def U5{s:TypeId}{x:Operand}{i l q off size:Nat}{cs:List PV}(ho:o.op = .fieldAddr s x i)(hf:fieldInfo P s i=some (off,size))(hs:size≠0)(hx:af ρ x=some (.bptr l q))(hg:get Z l=some (.box cs)) :
 aQ P o ρ Z [l] (.bptr l (q+off)) []:=
 bo λG β n tm Z' A w hop hneed _=>by have h1:=hop x _ aL hx;simp only[VR]at h1⊢;have hgl:get Z' l=some (.box cs):=(hneed l aj).trans hg;obtain⟨b,hb,hv⟩:=h1.1 cs hgl;refine⟨.pointer (some ⟨b,q+off,none⟩),?_,λcs' hcs'=>⟨b,hb,rfl⟩,_,rfl⟩;simp only[execOp,ho,hv,aN,nO w hf hs,aO,aS]
def U6{s:TypeId}{x:Operand}{i l m j q off size k:Nat}{es:List (List U)}(ho:o.op = .fieldAddr s x i)(hf:fieldInfo P s i=some (off,size))(hs:size≠0)(hx:af ρ x=some (.rptr l m j q))
 (hg:get Z l=some (.row k es)) (hm:es.length=m):aQ P o ρ Z [l] (.rptr l m j (q+off)) []:=
 bo λG β n tm Z' A w hop hneed _=>by
  have h1:=hop x _ aL hx;simp only[VR]at h1⊢;have hgl:get Z' l=some (.row k es):=(hneed l aj).trans hg;obtain⟨b,hb,hv⟩:=(h1.1 k es hgl).2 hm.symm;refine⟨.pointer (some ⟨b,j*k+q+off,none⟩),?_,λk' es' hes'=>?_,_,rfl⟩
  .simp only[execOp,ho,hv,aN,nO w hf hs,aO,aS]
  have:some (Blk.row k' es')=some (.row k es):=bD (bE hes') hgl;cases this;exact⟨by omega,λ_=>⟨b,hb,by rw[ph]⟩⟩
def Z2.drop{I:Nat->Prop}{w:World}{b:Nat}:∀(k:Nat) (ts:List U) (off:Nat),Z2 I w b ts off->Z2 I w b (ts.drop k) (off+k)
 |0,ts,off,h=>iC
 |k+1,[],off,_=>by simp[Z2]
 |k+1,t::ts,off,h=>by simp only[Z2]at h;have:=Z2.drop k ts (off+1) h.2;rwa[oE,show off+(k+1)=off+1+k by omega]
def U7{s:TypeId}{x:Operand}{i off size:Nat}{cs:List U}(ho:o.op = .fieldAddr s x i)(hf:fieldInfo P s i=some (off,size))(hs:size≠0)(hx:af ρ x=some (.vptr cs)):aQ P o ρ Z [] (.vptr (cs.drop off)) []:=bo λG β n tm Z' A w hop _ _=>by have h1:=hop x _ aL hx;simp only[VR]at h1⊢;obtain⟨b,q,hv,hI,hc⟩:=h1;refine⟨.pointer (some ⟨b,q+off,none⟩),?_,b,q+off,rfl,λhne=>hI (λe=>hne (by rw[e];simp)),hc.drop off⟩;simp only[execOp,ho,hv,aN,nO w hf hs,aO,aS]
def arrInfo(P:Program)(t:TypeId):Option (Nat×Nat):=
 match P.underlying t with
 |some (.array n e)=>(P.info? e).map λi=>(n,i.size)
 |_=>none
def yq{t:TypeId}{len es b q:Nat}{k:IntKind}{i:Int}(w:World)(ha:arrInfo P t=some (len,es))(h0:0<=i)(h1:i<len) :
 (Instr.indexAt t (.pointer (some ⟨b,q,none⟩)) (.int k i)).run P w = .ok (.pointer (some ⟨b,q+i.toNat*es,none⟩)) w:=by
 unfold arrInfo at ha;split at ha
 .rename_i n e hu;simp only[ca]at ha;obtain⟨inf,hi,he⟩:=ha;cases he;have hn:0<=i/\i<len:=⟨h0,h1⟩;simp[Instr.indexAt,asIntOf,b7 hu,Instr.sureAddr,hn,sizeOf,typeInfo,hi,gd]
 cases ha
def U8{t:TypeId}{x y:Operand}{l q len es:Nat}{cs:List PV}{k:IntKind}{i:Int}(ho:o.op = .indexAddr t x y)(ha:arrInfo P t=some (len,es))(hx:af ρ x=some (.bptr l q))(hy:af ρ y=some (.t (.int k i)))
 (hg:get Z l=some (.box cs)) (h0:0<=i) (h1:i<len):aQ P o ρ Z [l] (.bptr l (q+i.toNat*es)) []:=
 bo λG β n tm Z' A w hop hneed _=>by have e1:=hop x _ aL hx;have e2:=hop y _ aL hy;simp only[VR,Z6]at e1 e2⊢;have hgl:get Z' l=some (.box cs):=(hneed l aj).trans hg;obtain⟨b,hb,hv⟩:=e1.1 cs hgl;refine⟨.pointer (some ⟨b,q+i.toNat*es,none⟩),?_,λcs' hcs'=>⟨b,hb,rfl⟩,_,rfl⟩;simp only[execOp,ho,hv,e2,aN,yq w ha h0 h1,aO,aS]
def U9{t:TypeId}{x y:Operand}{l m j q len es k:Nat}{els:List (List U)}{ki:IntKind}{i:Int}(ho:o.op = .indexAddr t x y)(ha:arrInfo P t=some (len,es))(hx:af ρ x=some (.rptr l m j q))(hy:af ρ y=some (.t (.int ki i)))
 (hg:get Z l=some (.row k els)) (hm:els.length=m) (h0:0<=i) (h1:i<len):aQ P o ρ Z [l] (.rptr l m j (q+i.toNat*es)) []:=
 bo λG β n tm Z' A w hop hneed _=>by
  have e1:=hop x _ aL hx;have e2:=hop y _ aL hy;simp only[VR,Z6]at e1 e2⊢;have hgl:get Z' l=some (.row k els):=(hneed l aj).trans hg;obtain⟨b,hb,hv⟩:=(e1.1 k els hgl).2 hm.symm;refine⟨.pointer (some ⟨b,j*k+q+i.toNat*es,none⟩),?_,λk' es' hes'=>?_,_,rfl⟩
  .simp only[execOp,ho,hv,e2,aN,yq w ha h0 h1,aO,aS]
  have:some (Blk.row k' es')=some (.row k els):=bD (bE hes') hgl;cases this;exact⟨by omega,λ_=>⟨b,hb,by rw[ph]⟩⟩
def Va{t:TypeId}{x y:Operand}{len es:Nat}{cs:List U}{k:IntKind}{i:Int}(ho:o.op = .indexAddr t x y)(ha:arrInfo P t=some (len,es))(hx:af ρ x=some (.vptr cs))(hy:af ρ y=some (.t (.int k i)))
 (h0:0<=i) (h1:i<len):aQ P o ρ Z [] (.vptr (cs.drop (i.toNat*es))) []:=
 bo λG β n tm Z' A w hop _ _=>by have e1:=hop x _ aL hx;have e2:=hop y _ aL hy;simp only[VR,Z6]at e1 e2⊢;obtain⟨b,q,hv,hI,hc⟩:=e1;refine⟨.pointer (some ⟨b,q+i.toNat*es,none⟩),?_,b,q+i.toNat*es,rfl,λhne=>hI (λe=>hne (by rw[e];simp)),hc.drop _⟩;simp only[execOp,ho,hv,e2,aN,yq w ha h0 h1,aO,aS]
def slInfo(P:Program)(t:TypeId):Option Nat:=
 match P.underlying t with
 |some (.slice e)=>(P.info? e).map λi=>i.size
 |_=>none
def nK{t:TypeId}{es b q len cap:Nat}{k:IntKind}{i:Int}(w:World)(ha:slInfo P t=some es)(h0:0<=i)(h1:i<len) :
 (Instr.indexAt t (.slice (some ⟨b,q,none⟩) len cap) (.int k i)).run P w = .ok (.pointer (some ⟨b,q+i.toNat*es,none⟩)) w:=by
 unfold slInfo at ha;split at ha
 .rename_i e hu;simp only[ca]at ha;obtain⟨inf,hi,he⟩:=ha;cases he;have hn:0<=i/\i<len:=⟨h0,h1⟩;simp[Instr.indexAt,asIntOf,b7 hu,hn,sizeOf,typeInfo,hi,gd]
 cases ha
def an.get{I:Nat->Prop}{w:World}{b k:Nat}:∀{es:List (List U)} {off:Nat} (i:Nat) (e:List U),an I w b es off->(∀el,el∈es->el.length=k)->es[i]?=some e->Z2 I w b e (off+i*k)
 |[],_,i,e,_,_,h=>iL
 |e0::es,off,0,e,h,_,he=>by simp only[an]at h;simp at he;subst he;simpa using h.1
 |e0::es,off,i+1,e,h,hk,he=>by simp only[an]at h;have h0:=hk e0 aj;have:=an.get i e h.2 (λel hel=>hk el (cC _ hel)) pf;rw[h0]at this;rwa[show off+(i+1)*k=off+k+i*k by rw[du,ez];omega]
def Vb{t:TypeId}{x y:Operand}{k:Nat}{es:List (List U)}{e:List U}{ki:IntKind}{i:Int}(ho:o.op = .indexAddr t x y)(ha:slInfo P t=some k)(hx:af ρ x=some (.t (.sl es)))(hy:af ρ y=some (.t (.int ki i)))
 (hk:∀el,el∈es->el.length=k) (h0:0<=i) (he:es[i.toNat]?=some e):aQ P o ρ Z [] (.vptr e) []:=
 bo λG β n tm Z' A w hop _ _=>by
  have e1:=hop x _ aL hx;have e2:=hop y _ aL hy;simp only[VR,Z6]at e1 e2⊢;obtain⟨a,cap,hv,hlc,hcm,h⟩:=e1;have hlt:i.toNat<es.length:=(bj.1 he).1;rcases h with h|⟨b,q,ha',hI,hel⟩
  .subst h;simp at he
  subst ha';refine⟨.pointer (some ⟨b,q+i.toNat*k,none⟩),?_,b,q+i.toNat*k,rfl,λ_=>hI,hel.get _ e hk he⟩;simp only[execOp,ho,hv,e2,aN,nK w ha h0 (by omega:i<es.length),aO,aS]
def Vc{t:TypeId}{x y:Operand}{k l m:Nat}{es:List (List U)}{ki:IntKind}{i:Int}(ho:o.op = .indexAddr t x y)(ha:slInfo P t=some k)(hx:af ρ x=some (.osl l m))(hy:af ρ y=some (.t (.int ki i)))
 (hg:get Z l=some (.row k es)) (hm:es.length=m) (h0:0<=i) (h1:i<m):aQ P o ρ Z [l] (.rptr l m i.toNat 0) []:=
 bo λG β n tm Z' A w hop hneed _=>by
  have e1:=hop x _ aL hx;have e2:=hop y _ aL hy;simp only[VR,Z6]at e1 e2⊢;have hgl:get Z' l=some (.row k es):=(hneed l aj).trans hg;obtain⟨a,cap,hv,hmc,hcm,h⟩:=(e1.1 k es hgl).2 hm.symm;rcases h with⟨hc,_⟩|⟨b,sz,ha',hb,hrow,hsz⟩
  .omega
  subst ha';refine⟨.pointer (some ⟨b,i.toNat*k,none⟩),?_,λk' es' hes'=>?_,_,rfl⟩
  .simp only[execOp,ho,hv,e2,aN,nK w ha h0 h1,aO,aS,aK]
  have:some (Blk.row k' es')=some (.row k es):=bD (bE hes') hgl;cases this;exact⟨by omega,λ_=>⟨b,hb,by simp⟩⟩
def Vd{t e:TypeId}{x y:Operand}{len size:Nat}{agg:Bool}{cs:List PV}{p:PV}{k:IntKind}{i:Int}(ho:o.op = .index t x y)(hT:P.underlying t=some (.array len e))(hF:TyF P e agg size)(hx:af ρ x=some (.agg cs))(hy:af ρ y=some (.t (.int k i)))
 (h0:0<=i) (h1:i<len) (hp:cG agg size (i.toNat*size) cs=some p):aQ P o ρ Z [] p []:=
 bo λG β n tm Z' A w hop _ _=>by have e1:=hop x _ aL hx;have e2:=hop y _ aL hy;simp only[VR,Z6]at e1 e2;obtain⟨vs,e1,hv⟩:=e1;obtain⟨v,hr,hv⟩:=Ej hF w hv hp;refine⟨v,?_,hv⟩;have hn:0<=i/\i<len:=⟨h0,h1⟩;simp only[execOp,ho,e1,e2,Instr.index,asIntOf,aN,aS,b7 hT,aO,hn,and_self,dk,hF.run_sizeOf w,hr]
def Ve{t:TypeId}{x y:Operand}{s:List UInt8}{b:UInt8}{k:IntKind}{i:Int}(ho:o.op = .index t x y)(hT:P.underlying t=some .string)(hx:af ρ x=some (.t (.str s)))(hy:af ρ y=some (.t (.int k i)))
 (h0:0<=i) (hb:s[i.toNat]?=some b):aQ P o ρ Z [] (.t (.int .u8 b.toNat)) []:=
 bo λG β n tm Z' A w hop _ _=>by
  have e1:=hop x _ aL hx;have e2:=hop y _ aL hy;simp only[VR,Z6]at e1 e2⊢;have hlt:=(bj.1 hb).1;have hbb:=(bj.1 hb).2;refine⟨.int .u8 b.toNat,?_,rfl⟩;have hgb:(⟨s.toArray⟩:ByteArray)[i.toNat]?=some b:=by rw[getElem?_pos (⟨s.toArray⟩:ByteArray) i.toNat (by simpa[ByteArray.size]using hlt)];show some (s.toArray[i.toNat]'_)=_;simp[hbb]
  simp only[execOp,ho,e1,e2,Instr.index,asIntOf,aN,aS,b7 hT,aO,h0,dk,hgb]
def kQ{c:Ctx}{t:TypeId}{agg:Bool}{size b q off:Nat}(hT:TyF P t agg size)(w:World){ps:List PV}{vs:List Value}(hv:VRs c ps vs)(hc:∀j v,vs[j]?=some v->w.cell? ⟨b,q+j,none⟩=some v){p:PV}(hp:cG agg size off ps=some p) :
 ∃v,(Instr.loadAt t (.pointer (some ⟨b,q+off,none⟩))).run P w = .ok v w/\VR c p v:=by
 cases agg with
 |false=>
  simp only[cG,aB]at hp;obtain⟨v,hv1,hv2⟩:=hv.get off p hp;have:=hc off v hv1;exact⟨v,by simp[Instr.loadAt,Instr.sureAddr,loadVar,hT.run_isAgg w,this],hv2⟩
 |true=>
  simp only[cG,aD]at hp;cases hb:Nat.ble (off+size) ps.length with
  |false=>simp[hb]at hp
  |true=>
   simp only[hb,aD,ao]at hp;subst hp;rw[Nat.ble_eq]at hb;have hl:=hv.length;obtain⟨d,hu,hd⟩:=hT.und;have hlen:((vs.drop off).take size).length=size:=bb
   refine⟨.agg ((vs.drop off).take size).toArray,run_loadAt_mid w b (q+off) t _ d (λj v hj=>?_) hu hd (by rw[hlen];exact hT.size),?_⟩
   .rw [jw]at hj;split at hj
    .rw [jK]at hj;rw[ph];exact hc _ v hj
    cases hj
   simp only[VR];exact⟨_,rfl,(hv.drop off).take size⟩
def Z2.vals{c:Ctx}{b:Nat}:∀{ts:List U} {off:Nat},Z2 c.I c.w b ts off->∃vs,VRs c (ts.map .t) vs/\∀j v,vs[j]?=some v->c.w.cell? ⟨b,off+j,none⟩=some v
 |[],_,_=>⟨[],by simp[VRs],by simp⟩
 |t::ts,off,h=>by
  simp only[Z2]at h;obtain⟨⟨v,hv,ht⟩,hr⟩:=h;obtain⟨vs,h1,h2⟩:=Z2.vals hr;refine⟨v::vs,by simp only[cu,VRs];exact⟨v,vs,rfl,by simpa[VR]using ht,h1⟩,λj u hu=>?_⟩;cases j with
  |zero=>simp at hu;subst hu;simpa using hv
  |succ j=>have:=h2 j u oH;rwa[show off+(j+1)=off+1+j by omega]
def GT{t:TypeId}{x:Operand}{l q size:Nat}{agg:Bool}{cs:List PV}{p:PV}(ho:o.op = .load t x)(hT:TyF P t agg size)(hx:af ρ x=some (.bptr l q))(hg:get Z l=some (.box cs))(hp:cG agg size q cs=some p):aQ P o ρ Z [l] p []:=
 bo λG β n tm Z' A w hop hneed hr=>by
  have e1:=hop x _ aL hx;simp only[VR]at e1;have hgl:get Z' l=some (.box cs):=(hneed l aj).trans hg;obtain⟨b,hb,hv⟩:=e1.1 cs hgl;obtain⟨b',vs,hb',hrow,hc,hvs,_⟩:=hr.blk l _ hgl;have:b'=b:=cK
  subst this;obtain⟨v,hrun,hpv⟩:=kQ (q:=0) hT w hvs (λj v hj=>by rw[aK];exact hc j v hj) hp;rw[aK]at hrun;exact⟨v,by simp only[execOp,ho,hv,aN,hrun,aO,aS],hpv⟩
def Vf{t:TypeId}{x:Operand}{l m j q size k:Nat}{agg:Bool}{es:List (List U)}{e:List U}{p:PV}(ho:o.op = .load t x)(hT:TyF P t agg size)(hx:af ρ x=some (.rptr l m j q))(hg:get Z l=some (.row k es))(hm:es.length=m)
 (he:es[j]?=some e) (hp:cG agg size q (e.map .t)=some p):aQ P o ρ Z [l] p []:=
 bo λG β n tm Z' A w hop hneed hr=>by
  have e1:=hop x _ aL hx;simp only[VR]at e1;have hgl:get Z' l=some (.row k es):=(hneed l aj).trans hg;obtain⟨b,hb,hv⟩:=(e1.1 k es hgl).2 hm.symm;obtain⟨hk0,hkl,h⟩:=hr.blk l _ hgl;rcases h with⟨_,h⟩|⟨b',sz,hb',hrow,hsz,hel⟩
  .subst h;simp at he
  have:b'=b:=cK
  subst this;have hc:=hel.get j e hkl he;obtain⟨vs,h1,h2⟩:=Z2.vals (c:=ctx G β w Z') hc;obtain⟨v,hrun,hpv⟩:=kQ (q:=0+j*k) hT w h1 h2 hp;rw[aK]at hrun;exact⟨v,by simp only[execOp,ho,hv,aN,hrun,aO,aS],hpv⟩
def GU{t:TypeId}{x:Operand}{size:Nat}{agg:Bool}{cs:List U}{p:PV}(ho:o.op = .load t x)(hT:TyF P t agg size)(hx:af ρ x=some (.vptr cs))(hp:cG agg size 0 (cs.map .t)=some p):aQ P o ρ Z [] p []:=bo λG β n tm Z' A w hop _ hr=>by have e1:=hop x _ aL hx;simp only[VR]at e1;obtain⟨b,q,hv,hI,hc⟩:=e1;obtain⟨vs,h1,h2⟩:=Z2.vals (c:=ctx G β w Z') hc;obtain⟨v,hrun,hpv⟩:=kQ (q:=q) hT w h1 h2 hp;rw[cF]at hrun;exact⟨v,by simp only[execOp,ho,hv,aN,hrun,aO,aS],hpv⟩
end
end Go.PW
namespace Go.PW
open Go.RowKit
def et(b:Nat):∀(vs:List Value) (o:Nat) (w:World) (k:Nat),k≠b->(w.setCells b o vs).heap[k]?=w.heap[k]?
 |[],_,_,_,_=>rfl
 |v::vs,o,w,k,h=>by simp only[World.setCells];rw[et b vs (o+1) _ k h,Below.heap_setCell _ _ _ _ h]
def eC(b:Nat):∀(vs:List Value) (o:Nat) (w:World),(w.setCells b o vs).heap.size=w.heap.size
 |[],_,_=>rfl
 |v::vs,o,w=>by simp only[World.setCells];rw[eC b vs];simp
def dh(b:Nat):∀(vs:List Value) (o:Nat) (w:World),(w.setCells b o vs).os=w.os/\(w.setCells b o vs).tape=w.tape/\(w.setCells b o vs).output=w.output
 |[],_,_=>⟨rfl,rfl,rfl⟩
 |v::vs,o,w=>by simp only[World.setCells];have:=dh b vs (o+1) (w.setCell ⟨b,o,none⟩ v);exact this
def Vg{w:World}{b m:Nat}(a:Addr)(v:Value)(h:ba w b m):ba (w.setCell a v) b m:=by
 obtain⟨cs,e,fr,h1,h2,h3⟩:=h;by_cases hb:a.block=b
 .subst hb;refine⟨if a.spot.isSome then cs else cs.setIfInBounds a.off v,e,fr,?_,?_,h3⟩
  .simp only[World.setCell,Array.getElem?_modify,h1,dK,dk]
  split<;>simp[h2]
 exact⟨cs,e,fr,(Below.heap_setCell w a v b (cW hb)).trans h1,h2,h3⟩
def cZ{b m:Nat}(b':Nat):∀(vs:List Value) (o:Nat) (w:World),ba w b m->ba (w.setCells b' o vs) b m
 |[],_,_,h=>h
 |v::vs,o,w,h=>cZ b' vs (o+1) _ (Vg _ v h)
def jy{w:World}{b m o n:Nat}(h:ba w b m)(hn:o+n<=m):w.there b o n:=by
 obtain⟨cs,e,fr,h1,h2,h3⟩:=h;intro j hj;constructor
 .rw [cell_of_row w b (o+j) cs e fr h1];have:o+j<cs.size:=by omega
  simp[this]
 unfold World.frozen?;simp only[h1];rcases h3 with h3|h3
 .rw [h3];simp
 exact h3.elim
def jh{G:Frm}{β:Nat->Option Nat}{n:Nat}{tm:List (Nat×PV)}{Z:List (Nat×Blk)}{a:Act}{w:World}(h:aF G β ⟨n,tm,Z⟩ a w){l b off:Nat}{blk blk':Blk}(vs:List Value)
 (hg:get Z l=some blk) (hb:β l=some b)
 (hkind:(∃k es es',blk = .row k es/\blk' = .row k es'/\es.length<=es'.length)\/(∃cs cs',blk = .box cs/\blk' = .box cs')\/(∃k i es cs cs',blk = .prow k i es cs/\blk' = .prow k i es cs'))
 (hblk:(∀b',(ctx G β w Z).I b'->(ctx G β (w.setCells b off vs) (put Z l blk')).I b'/\(ctx G β (w.setCells b off vs) (put Z l blk')).w.heap[b']?=(ctx G β w Z).w.heap[b']?) ->
  (∀m,aX (ctx G β w Z) (ctx G β (w.setCells b off vs) (put Z l blk')) m)->BR (ctx G β (w.setCells b off vs) (put Z l blk')) l blk') :
 aF G β ⟨n,tm,put Z l blk'⟩ a (w.setCells b off vs) /\
 (∀b',(ctx G β w Z).I b'->(ctx G β (w.setCells b off vs) (put Z l blk')).I b'/\(ctx G β (w.setCells b off vs) (put Z l blk')).w.heap[b']?=(ctx G β w Z).w.heap[b']?) /\
 (∀m,aX (ctx G β w Z) (ctx G β (w.setCells b off vs) (put Z l blk')) m):=by
 have hgs:get (put Z l blk') l=some blk':=fh Z l blk';have hfl:blk.flat/\blk'.flat:=by rcases hkind with⟨k,es,es',rfl,rfl,_⟩|⟨cs,cs',rfl,rfl⟩|⟨k,i,es,cs,cs',rfl,rfl⟩<;>exact⟨aa,aa⟩
 have hgo:∀m,m≠l->get (put Z l blk') m=get Z m:=λm hm=>fu Z blk' (cW hm);have hsep:=h.sep l blk b hg (.inl hb);have hnI:∀b',Imm G β w Z b'->b'≠b:=by rintro b' ⟨h1,h2,h3⟩ rfl;exact h3 l blk hg (.inl hb)
 have hO:∀m o,m≠l->get Z m=some o->∀b',aA β (w.setCells b off vs) m o b'->aA β w m o b':=λm o hm hgm b' ho=>ho.of_heap (λb2 hb2=>et b vs off w b2 (λe=>by subst e;exact hm (h.inj m l o blk _ hgm hg (.inl hb2) (.inl hb))));have hO':∀b',aA β (w.setCells b off vs) l blk' b'->aA β w l blk b':=λb' ho =>.inl (ho.flat hfl.2);have hI:∀b',(ctx G β w Z).I b'->(ctx G β (w.setCells b off vs) (put Z l blk')).I b'/\(ctx G β (w.setCells b off vs) (put Z l blk')).w.heap[b']?=(ctx G β w Z).w.heap[b']?:=λb' hb'=>by
  refine⟨?_,et b vs off w b' (hnI b' hb')⟩;obtain⟨h1,h2,h3⟩:=hb';refine⟨by rw[eC];exact h1,h2,λm o hm=>?_⟩;by_cases hml:m=l
  .subst hml;have:some o=some blk':=bD (bE hm) hgs;cases this;exact λho=>h3 m blk hg (hO' b' ho)
  have hm':get Z m=some o:=tg
  exact λho=>h3 m o hm' (hO m o hml hm' b' ho)
 have hL:∀m,aX (ctx G β w Z) (ctx G β (w.setCells b off vs) (put Z l blk')) m:=λm=>by
  by_cases hml:m=l
  .subst hml;rcases hkind with⟨k,es,es',h1,h2,h3⟩|⟨cs,cs',h1,h2⟩|⟨k,i,es,cs,cs',h1,h2⟩
   .subst h1;subst h2;have bad:∀{x:Blk},get (put Z m (Blk.row k es')) m=some x->x = .row k es':=λhg'=>dA (bD (bE hg') hgs);refine⟨λk' es'' hg'=>?_,λcs' hg'=>absurd (bad hg') aj,λk' q' es'' hg'=>absurd (bad hg') aj,λk' es'' hg'=>absurd (bad hg') aj,λ_ _ _ _ hg'=>absurd (bad hg') aj⟩;cases bad hg';exact⟨es,hg,h3,λ_=>⟨rfl,λb' sz _ hr=>cZ b vs off w hr⟩⟩
   .subst h1;subst h2;have bad:∀{x:Blk},get (put Z m (Blk.box cs')) m=some x->x = .box cs':=λhg'=>dA (bD (bE hg') hgs);exact⟨λk' es'' hg'=>absurd (bad hg') aj,λcs'' hg'=>⟨cs,hg,rfl⟩,λk' q' es'' hg'=>absurd (bad hg') aj,λk' es'' hg'=>absurd (bad hg') aj,λ_ _ _ _ hg'=>absurd (bad hg') aj⟩
   subst h1;subst h2;have bad:∀{x:Blk},get (put Z m (Blk.prow k i es cs')) m=some x->x = .prow k i es cs':=λhg'=>dA (bD (bE hg') hgs);refine⟨λk' es'' hg'=>absurd (bad hg') aj,λcs'' hg'=>absurd (bad hg') aj,λk' q' es'' hg'=>absurd (bad hg') aj,λk' es'' hg'=>absurd (bad hg') aj,λ_ _ _ _ hg'=>?_⟩;cases bad hg';exact⟨es,cs,hg,rfl,rfl,λb' sz _ hr=>cZ b vs off w hr⟩
  have hg':get (put Z l blk') m=get Z m:=hgo m hml;cases hgm:get Z m with
  |none=>exact aX.none (hg'.trans hgm)
  |some o=>exact aX.same hg' rfl (λb2 hb2=>et b vs off w b2 (λe=>by subst e;exact hml (h.inj m l o blk _ hgm hg (.inl hb2) (.inl hb))))
 refine⟨?_,hI,hL⟩;have key:∀m o b',get (put Z l blk') m=some o->aA β (w.setCells b off vs) m o b'->∃o2,get Z m=some o2/\aA β w m o2 b':=λm o b' hm hb'=>by
  by_cases hml:m=l
  .subst hml;have:some o=some blk':=bD (bE hm) hgs;cases this;exact⟨blk,hg,hO' b' hb'⟩
  have hm':get Z m=some o:=tg
  exact⟨o,hm',hO m o hml hm' b' hb'⟩
 obtain⟨e1,e2,e3⟩:=dh b vs off w
 exact { defers:=h.defers,sz:=h.sz,base:=by rw[eC];exact h.base,os:=e1.trans h.os,tape:=e2.trans h.tape,output:=e3.trans h.output,
         old:=λb' hb' ho=>by
          have:b'≠b:=by
           rintro rfl;rcases hsep.2 with h4|h4
           .omega
           exact ho h4
          exact(et b vs off w b' this).trans (h.old b' hb' ho),
         A:=h.A,gl:=h.gl,
         inj:=λm m' o o' b' hm hm' hb1 hb2=>by obtain⟨o1,h1,k1⟩:=key m o b' hm hb1;obtain⟨o2,h2,k2⟩:=key m' o' b' hm' hb2;exact h.inj m m' o1 o2 b' h1 h2 k1 k2,
         sep:=λm o b' hm hb'=>by rw[eC];obtain⟨o1,h1,k1⟩:=key m o b' hm hb';exact h.sep m o1 b' h1 k1,
         fix:=λm cs' h1 hm=>by
          by_cases hml:m=l
          .subst hml;have:some (Blk.box cs')=some blk':=bD (bE hm) hgs;cases this;rcases hkind with⟨k,es,es',h2,h3,_⟩|⟨cs,cs2,h2,h3⟩|⟨_,_,_,_,_,_,h3⟩
           .cases h3
           .subst h2;exact h.fix m cs h1 hg
           cases h3
          exact h.fix m cs' h1 tg,
         row0:=h.row0.step (λm _=>hL m),
         blk:=λm o hm=>by
          by_cases hml:m=l
          .subst hml;have:some o=some blk':=bD (bE hm) hgs;cases this;exact hblk hI hL
          have hm':get Z m=some o:=tg
          refine BR.step hI rfl (λb' hb'=>et b vs off w b' ?_) (λq _=>hL q) (h.blk m o hm');rintro rfl;exact hml (h.inj m l o blk b' hm' hg hb' (.inl hb)),
         tm:=λi p hp=>⟨(h.tm i p hp).1,VR.step hI p _ (λq _=>hL q) (h.tm i p hp).2⟩ }
section
variable {P:Program} {o:Oper} {n:Nat} {tm:List (Nat×PV)} {Z:List (Nat×Blk)}
def opup {st':St} (h:∀(G:Frm) (β:Nat->Option Nat) (a:Act) (w:World),(∀x q,af tm x=some q->VR (ctx G β w Z) q (a.eval x))->aF G β ⟨n,tm,Z⟩ a w ->
      ∃v w',((execOp a.eval o).run P w = .ok (.value v) w'\/((execOp a.eval o).run P w = .ok .skip w'/\v=undef))/\∃β',aF G β' st' (a.put o.dst v) w'):gx P o ⟨n,tm,Z⟩ st':=by
 intro G a w K Q hr hK;obtain⟨β,hr⟩:=hr;obtain⟨v,w',hv,β',hr'⟩:=h G β a w (λx q hq=>gC hr hq (λt r _ hr'=>hr')) hr;unfold Oper.wp;rcases hv with hv|⟨hv,rfl⟩
 .rw [hv];exact hK _ _ ⟨β',hr'⟩
 rw[hv];exact hK _ _ ⟨β',hr'⟩
def opF {ρ:List (Nat×PV)} {need rm:List Nat} {p:PV} {news:List (Nat×Blk)} (h:∀(G:Frm) (β:Nat->Option Nat) (n:Nat) (tm:List (Nat×PV)) (Z':List (Nat×Blk)) (a:Act) (w:World),
      (∀x q,x∈o.op.operands->af ρ x=some q->VR (ctx G β w Z') q (a.eval x))->(∀l,l∈need->get Z' l=get Z l)->aF G β ⟨n,tm,Z'⟩ a w ->
      ∃v w',(execOp a.eval o).run P w = .ok (.value v) w'/\∃β',aF G β' ⟨n,tm,news++bf rm Z'⟩ a w'/\VR (ctx G β' w' (news++bf rm Z')) p v):OpF P o ρ Z need rm p news:=by
 intro G n tm Z' a w K Q hag hneed _ hr hK;obtain⟨β,hr⟩:=hr;obtain⟨v,w',hv,hp⟩:=h G β n tm Z' a w (λx q hx hq=>gC hr hq (λt r ht hr'=>hag t r (ht▸hx) hr')) hneed hr;unfold Oper.wp;rw[hv];exact hK v w' hp
def Z6q{c:Ctx}{ps:List PV}{vs:List Value}(h:VRs c ps vs)(h1:ps.all PV.one=true):∀v,v∈vs->v.oneCell'=true:=by
 induction ps generalizing vs with
 |nil=>simp only[VRs]at h;subst h;intro v hv;cases hv
 |cons p ps ih=>
  simp only[VRs]at h;obtain⟨v,rest,rfl,hv,hr⟩:=h;simp only[iZ,aM]at h1;intro u hu;rcases cA.1 hu with hu|hu
  .subst hu;exact hv.oneCell h1.1
  exact ih hr h1.2 u hu
def gn{c:Ctx}{t:TypeId}{agg:Bool}{size b q m:Nat}(hT:TyF P t agg size)(w:World){p:PV}{v:Value}(hv:VR c p v)(hs:(Z3 p).length=size)(h1:(Z3 p).all PV.one=true)(hr:ba w b m)(hm:q+size<=m) :
 (Instr.storeAt t (.pointer (some ⟨b,q,none⟩)) v).run P w = .ok () (w.setCells b q v.cells.toList):=by
 have hc:=hv.cells;have hl:v.cells.size=size:=by rw[<- iF,hc.length,hs]
 have hst:=run_storeCells_cells (P:=P) b q v.cells.toList 0 w (λj hj=>by
  have:=jy hr hm j (by simp at hj;omega);rw[cF];exact this.1) (λj hj=>by
  have:=jy hr hm j (by simp at hj;omega);rw[cF];exact this.2) (Z6q hc h1)
 rw[cF]at hst;simp only[Instr.storeAt,Instr.sureAddr,aN,aS,aO,storeVar,hT.run_sizeOf w,hl,ne_eq,not_true_eq_false,fk,hst]
def ji{w:World}{b q:Nat}{vs us:List Value}(hc:fV w b vs)(hq:q+us.length<=vs.length):fV (w.setCells b q us) b (PW.splice vs q us):=by
 have hthere:∀j,j<us.length->(w.cell? ⟨b,q+j,none⟩).isSome=true:=λj hj=>by have:vs[q+j]?=some vs[q+j]:=bC O;rw[hc _ _ this];rfl
 intro j v hj;unfold PW.splice at hj;rcases dF j q with h|h
 .rw [fM b us q w ⟨b,j,none⟩ (λ_ _ =>.inl h)];rw[iG,dx bb,jw,bB h]at hj;exact hc j v hj
 rcases dF j (q+us.length)with h'|h'
 .have:=iT b us q w hthere (j-q) O;rw[show q+(j-q)=j by omega]at this;rw[this];rw[iG,dD bb,dx bb]at hj;have e:j-(vs.take q).length=j-q:=by simp;omega
  rw[e,bC O]at hj;exact hj
 rw[fM b us q w ⟨b,j,none⟩ (λ_ _ =>.inr h')];rw[dD bb,jK]at hj;have e:q+us.length+(j-(vs.take q++us).length)=j:=bb
 rw[e]at hj;exact hc j v hj
def VRs.splice{c:Ctx}{ps qs:List PV}{vs us:List Value}(q:Nat)(h:VRs c ps vs)(k:VRs c qs us):VRs c (PW.splice ps q qs) (PW.splice vs q us):=by unfold PW.splice;rw[k.length];exact((h.take q).append k).append (h.drop _)
def pj{α:Type}(cs:List α)(q:Nat)(ds:List α)(h:q+ds.length<=cs.length):(splice cs q ds).length=cs.length:=by simp[splice];omega
def D3{t:TypeId}{x y:Operand}{l q size:Nat}{agg:Bool}{cs:List PV}{p:PV}(ho:o.op = .store t x y)(hd:o.dst=none)(hT:TyF P t agg size)(hx:af tm x=some (.bptr l q))(hy:af tm y=some p)(hg:get Z l=some (.box cs))
 (hs:(Z3 p).length=size) (h1:(Z3 p).all PV.one=true) (hq:q+size<=cs.length):gx P o ⟨n,tm,Z⟩ ⟨n,tm,put Z l (.box (splice cs q (Z3 p)))⟩:=
 opup λG β a w hop hr=>by
  have e1:=hop x _ hx;have e2:=hop y _ hy;simp only[VR]at e1;obtain⟨b,hb,hv⟩:=e1.1 cs hg;obtain⟨b',vs,hb',hrow,hc,hvs,hall⟩:=hr.blk l _ hg;have:b'=b:=cK
  subst this;have hrun:=gn hT w e2 hs h1 hrow hq;have hcells:=e2.cells;have hul:(a.eval y).cells.toList.length=size:=rv
  obtain⟨hr',hI,hL⟩:=jh hr (off:=q) (blk' :=.box (splice cs q (Z3 p))) (a.eval y).cells.toList hg hb (.inr (.inl ⟨cs,_,rfl,rfl⟩)) (λhI hL=>
   ⟨b',splice vs q (a.eval y).cells.toList,hb,by rw[pj _ _ _ mQ];exact cZ _ _ _ _ hrow,ji hc GV,
    (VRs.step hI _ _ (λm _=>hL m) hvs).splice q (VRs.step hI _ _ (λm _=>hL m) hcells),by unfold splice;simp only[List.all_append,aM];exact⟨⟨bH.2 λz hz=>bH.1 hall z (jz hz),h1⟩,bH.2 λz hz=>bH.1 hall z (lC hz)⟩⟩)
  refine⟨undef,w.setCells b' q (a.eval y).cells.toList,.inr ⟨?_,rfl⟩,β,?_⟩
  .simp only[execOp,ho,hv,aN,hrun,aO,aS]
  rw[hd];exact hr'
def GW{ρ:List (Nat×PV)}{σ0:List (Nat×Blk)}{t:TypeId}{x y:Operand}{l q size:Nat}{agg:Bool}{cs:List PV}{p:PV}(ho:o.op = .store t x y)(hd:o.dst=none)(hT:TyF P t agg size)(hx:af ρ x=some (.bptr l q))(hy:af ρ y=some p)(hg0:get σ0 l=some (.box cs))
 (hs:(Z3 p).length=size) (h1:(Z3 p).all PV.one=true) (hq:q+size<=cs.length):OpF P o ρ σ0 [l] [l] (.tup []) [(l,.box (splice cs q (Z3 p)))]:=by
 rintro G n tm Z a w K Q hag hneed _ ⟨β,hr⟩ hK;have hg:get Z l=some (.box cs):=yr
 have hop:∀x q,x∈o.op.operands->af ρ x=some q->VR (ctx G β w Z) q (a.eval x):=λx q hx hq=>gC hr hq (λt r ht hr'=>hag t r (ht▸hx) hr');have e1:=hop x _ aL hx;have e2:=hop y _ aL hy;simp only[VR]at e1;obtain⟨b,hb,hv⟩:=e1.1 cs hg;obtain⟨b',vs,hb',hrow,hc,hvs,hall⟩:=hr.blk l _ hg;have:b'=b:=cK
 subst this;have hrun:=gn hT w e2 hs h1 hrow hq;have hcells:=e2.cells;have hul:(a.eval y).cells.toList.length=size:=rv
 obtain⟨hr',hI,hL⟩:=jh hr (off:=q) (blk' :=.box (splice cs q (Z3 p))) (a.eval y).cells.toList hg hb (.inr (.inl ⟨cs,_,rfl,rfl⟩)) (λhI hL=>
  ⟨b',splice vs q (a.eval y).cells.toList,hb,by rw[pj _ _ _ mQ];exact cZ _ _ _ _ hrow,ji hc GV,
   (VRs.step hI _ _ (λm _=>hL m) hvs).splice q (VRs.step hI _ _ (λm _=>hL m) hcells),by unfold splice;simp only[List.all_append,aM];exact⟨⟨bH.2 λz hz=>bH.1 hall z (jz hz),h1⟩,bH.2 λz hz=>bH.1 hall z (lC hz)⟩⟩)
 have hrun2:(execOp a.eval o).run P w = .ok .skip (w.setCells b' q (a.eval y).cells.toList):=yt
 unfold Oper.wp;rw[hrun2,sQ,hd];have:=hK (.tuple #[]) (w.setCells b' q (a.eval y).cells.toList) ⟨β,hr',by simp[VR,VRs]⟩;rw[hd]at this;exact this
def Z4m{qs:List PV}:∀{us:List U},ck qs=some us->us.length=qs.length:=by
 induction qs with
 |nil=>intro us h;simp only[ck,ao]at h;subst h;rfl
 |cons q qs ih=>
  intro us h;simp only[ck]at h;split at h
  .rename_i t ts' _ hts';cases h;simp[ih hts']
  cases h
def lA{c:Ctx}:∀{ps:List PV} {ts:List U} {vs:List Value},ck ps=some ts->VRs c ps vs->VRs c (ts.map .t) vs
 |[],ts,vs,h,hv=>by simp only[ck,ao]at h;subst h;exact hv
 |p::ps,ts,vs,h,hv=>by
  simp only[ck]at h;split at h
  .rename_i t ts' ht hts;cases h;simp only[VRs]at hv;obtain⟨v,rest,rfl,hv,hr⟩:=hv;simp only[cu,VRs];exact⟨v,rest,rfl,by simpa[VR]using wP ht hv,lA hts hr⟩
  cases h
def ic{c:Ctx}{b:Nat}:∀{ts:List U} {vs:List Value} {off:Nat},VRs c (ts.map .t) vs->(∀j v,vs[j]?=some v->c.w.cell? ⟨b,off+j,none⟩=some v)->Z2 c.I c.w b ts off
 |[],_,_,_,_=>by simp[Z2]
 |t::ts,vs,off,h,hc=>by simp only[cu,VRs]at h;obtain⟨v,rest,rfl,hv,hr⟩:=h;simp only[Z2];refine⟨⟨v,by simpa using hc 0 v rfl,by simpa[VR]using hv⟩,ic hr λj u hu=>?_⟩;have:=hc (j+1) u oH;rwa[show off+(j+1)=off+1+j by omega]at this
def Z2.append{I:Nat->Prop}{w:World}{b:Nat}:∀{ts us:List U} {off:Nat},Z2 I w b (ts++us) off↔Z2 I w b ts off/\Z2 I w b us (off+ts.length)
 |[],us,off=>by simp[Z2]
 |t::ts,us,off=>by simp only[eP,Z2,Z2.append (ts:=ts),bJ,and_assoc];rw[show off+(ts.length+1)=off+1+ts.length by omega]
def an.flat{I:Nat->Prop}{w:World}{b:Nat}:∀{es:List (List U)} {off:Nat},an I w b es off↔Z2 I w b es.flatten off
 |[],off=>by simp[an,Z2]
 |e::es,off=>by simp only[an,gh,Z2.append,an.flat (es:=es)]
def iU{k:Nat}:∀{es:List (List U)},(∀el,el∈es->el.length=k)->es.flatten.length=es.length*k
 |[],_=>aj
 |e::es,h=>by rw[gh,bn,iU (λel hel=>h el (cC _ hel)),h e aj,bJ,du,ez];omega
def Z4n{k:Nat}:∀{es:List (List U)} (j q:Nat) (e ts:List U),(∀el,el∈es->el.length=k)->es[j]?=some e->q+ts.length<=k->(es.set j (splice e q ts)).flatten=splice es.flatten (j*k+q) ts
 |[],j,q,e,ts,_,h,_=>iL
 |e0::es,0,q,e,ts,hk,h,hq=>by simp at h;subst h;have h0:=hk e0 aj;simp only[List.set_cons_zero,gh,splice,sq,aK];rw[List.take_append_of_le_length O,List.drop_append_of_le_length O];simp
 |e0::es,j+1,q,e,ts,hk,h,hq=>by
  have h0:=hk e0 aj;have ih:=Z4n j q e ts (λel hel=>hk el (cC _ hel)) iC hq;rw[r9,gh,ih];simp only[gh,splice];have e1:(j+1)*k+q=k+(j*k+q):=by rw[du,ez];omega
  rw[e1,si,sj,h0];have t1:e0.take (k+(j*k+q))=e0:=fU O;have t2:e0.drop (k+(j*k+q)+ts.length)=[]:=gV O;rw[t1,t2,show k+(j*k+q)-k=j*k+q by omega,show k+(j*k+q)+ts.length-k=j*k+q+ts.length by omega];simp
def Pb{t:TypeId}{x y:Operand}{l m j q size k:Nat}{agg:Bool}{es:List (List U)}{e ts:List U}{p:PV}(ho:o.op = .store t x y)(hd:o.dst=none)(hT:TyF P t agg size)(hx:af tm x=some (.rptr l m j q))(hy:af tm y=some p)
 (hg:get Z l=some (.row k es)) (hm:es.length=m) (he:es[j]?=some e) (hts:ck (Z3 p)=some ts) (hs:ts.length=size) (hq:q+size<=k) :
 gx P o ⟨n,tm,Z⟩ ⟨n,tm,put Z l (.row k (es.set j (splice e q ts)))⟩:=
 opup λG β a w hop hr=>by
  have e1:=hop x _ hx;have e2:=hop y _ hy;simp only[VR]at e1;obtain⟨b,hb,hv⟩:=(e1.1 k es hg).2 hm.symm;obtain⟨hk0,hkl,h⟩:=hr.blk l _ hg;rcases h with⟨_,h⟩|⟨b',sz,hb',hrow,hsz,hel⟩
  .subst h;simp at he
  have:b'=b:=cK
  subst this;have hlt:j<es.length:=(bj.1 he).1;have hle:(j+1)*k<=es.length*k:=fA _ hlt;rw[du,ez]at hle;have hcl:(Z3 p).length=size:=by rw[<- Z4m hts,hs]
  have hone:(Z3 p).all PV.one=true:=by
   rw[bH];intro z hz;have:∀{qs:List PV} {us:List U},ck qs=some us->∀z,z∈qs->z.one=true:=by
    intro qs;induction qs with
    |nil=>intro us _ z hz;cases hz
    |cons q qs ih=>
     intro us h z hz;simp only[ck]at h;split at h
     .rename_i t ts' ht hts';rcases cA.1 hz with hz|hz
      .subst hz;cases z<;>simp_all[toT,PV.one]
      exact ih hts' z hz
     cases h
   exact this hts z hz
  have hrun:=gn hT w e2 hcl hone hrow (q:=j*k+q) O;have hcells:=lA hts e2.cells;have hul:(a.eval y).cells.toList.length=size:=GX
  have hflat:=an.flat.1 hel;obtain⟨vs,hvs,hcs⟩:=Z2.vals (c:=ctx G β w Z) hflat;have hvl:vs.length=es.length*k:=yu
  obtain⟨hr',hI,hL⟩:=jh hr (off:=j*k+q) (blk' :=.row k (es.set j (splice e q ts))) (a.eval y).cells.toList hg hb (.inl ⟨k,es,_,rfl,rfl,by simp⟩) (λhI hL=>by
   refine⟨hk0,λel hel'=>?_,.inr ⟨b',sz,hb,cZ _ _ _ _ hrow,by simpa using hsz,an.flat.2 ?_⟩⟩
   .rcases pk hel' with h|h
    .exact hkl el h
    subst h;rw[pj _ _ _ GY];exact hkl e (c7 he)
   rw[Z4n j q e ts hkl he mQ];refine ic (vs:=splice vs (j*k+q) (a.eval y).cells.toList) ?_ (λj' v hj'=>?_)
   .have h1:=VRs.step hI _ _ (λm _=>hL m) hvs;have h2:=VRs.step hI _ _ (λm _=>hL m) hcells;have:=h1.splice (j*k+q) h2;unfold splice at this⊢;simpa using this
   rw[aK];exact ji (w:=w) (λj v hj=>by have:=hcs j v hj;rwa[aK]at this) (by rw[hul,hvl];omega) j' v hj')
  refine⟨undef,w.setCells b' (j*k+q) (a.eval y).cells.toList,.inr ⟨?_,rfl⟩,β,?_⟩
  .simp only[execOp,ho,hv,aN,hrun,aO,aS]
  rw[hd];exact hr'
def Vh{ρ:List (Nat×PV)}{σ0:List (Nat×Blk)}{t:TypeId}{x y:Operand}{l m j q size k:Nat}{agg:Bool}{es:List (List U)}{e ts:List U}{p:PV}(ho:o.op = .store t x y)(hd:o.dst=none)(hT:TyF P t agg size)(hx:af ρ x=some (.rptr l m j q))(hy:af ρ y=some p)
 (hg0:get σ0 l=some (.row k es)) (hm:es.length=m) (he:es[j]?=some e) (hts:ck (Z3 p)=some ts) (hs:ts.length=size) (hq:q+size<=k) :
 OpF P o ρ σ0 [l] [l] (.tup []) [(l,.row k (es.set j (splice e q ts)))]:=by
 rintro G n tm Z a w K Q hag hneed _ ⟨β,hr⟩ hK;have hg:get Z l=some (.row k es):=yr
 have hop:∀x q,x∈o.op.operands->af ρ x=some q->VR (ctx G β w Z) q (a.eval x):=λx q hx hq=>gC hr hq (λt r ht hr'=>hag t r (ht▸hx) hr');have e1:=hop x _ aL hx;have e2:=hop y _ aL hy;simp only[VR]at e1;obtain⟨b,hb,hv⟩:=(e1.1 k es hg).2 hm.symm;obtain⟨hk0,hkl,h⟩:=hr.blk l _ hg;rcases h with⟨_,h⟩|⟨b',sz,hb',hrow,hsz,hel⟩
 .subst h;simp at he
 have:b'=b:=cK
 subst this;have hlt:j<es.length:=(bj.1 he).1;have hle:(j+1)*k<=es.length*k:=fA _ hlt;rw[du,ez]at hle;have hcl:(Z3 p).length=size:=by rw[<- Z4m hts,hs]
 have hone:(Z3 p).all PV.one=true:=by
  rw[bH];intro z hz;have:∀{qs:List PV} {us:List U},ck qs=some us->∀z,z∈qs->z.one=true:=by
   intro qs;induction qs with
   |nil=>intro us _ z hz;cases hz
   |cons q qs ih=>
    intro us h z hz;simp only[ck]at h;split at h
    .rename_i t ts' ht hts';rcases cA.1 hz with hz|hz
     .subst hz;cases z<;>simp_all[toT,PV.one]
     exact ih hts' z hz
    cases h
  exact this hts z hz
 have hrun:=gn hT w e2 hcl hone hrow (q:=j*k+q) O;have hcells:=lA hts e2.cells;have hul:(a.eval y).cells.toList.length=size:=GX
 have hflat:=an.flat.1 hel;obtain⟨vs,hvs,hcs⟩:=Z2.vals (c:=ctx G β w Z) hflat;have hvl:vs.length=es.length*k:=yu
 obtain⟨hr',hI,hL⟩:=jh hr (off:=j*k+q) (blk' :=.row k (es.set j (splice e q ts))) (a.eval y).cells.toList hg hb (.inl ⟨k,es,_,rfl,rfl,by simp⟩) (λhI hL=>by
  refine⟨hk0,λel hel'=>?_,.inr ⟨b',sz,hb,cZ _ _ _ _ hrow,by simpa using hsz,an.flat.2 ?_⟩⟩
  .rcases pk hel' with h|h
   .exact hkl el h
   subst h;rw[pj _ _ _ GY];exact hkl e (c7 he)
  rw[Z4n j q e ts hkl he mQ];refine ic (vs:=splice vs (j*k+q) (a.eval y).cells.toList) ?_ (λj' v hj'=>?_)
  .have h1:=VRs.step hI _ _ (λm _=>hL m) hvs;have h2:=VRs.step hI _ _ (λm _=>hL m) hcells;have:=h1.splice (j*k+q) h2;unfold splice at this⊢;simpa using this
  rw[aK];exact ji (w:=w) (λj v hj=>by have:=hcs j v hj;rwa[aK]at this) (by rw[hul,hvl];omega) j' v hj')
 have hrun2:(execOp a.eval o).run P w = .ok .skip (w.setCells b' (j*k+q) (a.eval y).cells.toList):=yt
 unfold Oper.wp;rw[hrun2,sQ,hd];have:=hK (.tuple #[]) (w.setCells b' (j*k+q) (a.eval y).cells.toList) ⟨β,hr',by simp[VR,VRs]⟩;rw[hd]at this;exact this
end
end Go.PW
namespace Go.PW
open Go.RowKit
def eX(β:Nat->Option Nat)(l:Nat):Nat->Option Nat:=λm=>if m=l then none else β m
def sb{G:Frm}{β:Nat->Option Nat}{n:Nat}{tm:List (Nat×PV)}{Z:List (Nat×Blk)}{a:Act}{w:World}(h:aF G β ⟨n,tm,Z⟩ a w)(l k:Nat)(hk:0<k)(hlab:1000<=l)
 (hf1:∀i q,get tm i=some q->q.has l=false) (hf2:∀m y,get Z m=some y->m≠l/\y.has l=false):aF G (eX β l) ⟨n,tm,(l,.row k [])::Z⟩ a w:=by
 have hβo:∀m,m≠l->eX β l m=β m:=λm hm=>by simp[eX,hm]
 have hβs:eX β l l=none:=by simp[eX]
 have hgl:∀m,m≠l->get ((l,Blk.row k [])::Z) m=get Z m:=λm hm=>by simp[get,dJ (cW hm)]
 have hgs:get ((l,Blk.row k [])::Z) l=some (.row k []):=mF
 have hI:∀b,(ctx G β w Z).I b->(ctx G (eX β l) w ((l,.row k [])::Z)).I b/\(ctx G (eX β l) w ((l,.row k [])::Z)).w.heap[b]?=(ctx G β w Z).w.heap[b]?:=λb hb=>by
  refine⟨?_,rfl⟩;obtain⟨h1,h2,h3⟩:=hb;refine⟨h1,h2,λm o hm=>?_⟩;by_cases hml:m=l
  .subst hml;have:some o=some (.row k []):=bD (bE hm) hgs;cases this;intro ho;have:=aA.flat (o :=.row _ _) trivial ho;rw[hβs]at this;cases this
  exact λho=>h3 m o ((hgl m hml).symm.trans hm) (ho.of (hβo m hml) (λ_ _=>rfl))
 have hL:∀m,m≠l->aX (ctx G β w Z) (ctx G (eX β l) w ((l,.row k [])::Z)) m:=λm hm=>aX.same (hgl m hm) (hβo m hm) (λ_ _=>rfl);have hne:∀m o b,get ((l,Blk.row k [])::Z) m=some o->aA (eX β l) w m o b->m≠l:=λm o b hm ho e=>by subst e;have:some o=some (.row k []):=bD (bE hm) hgs;cases this;have:=aA.flat (o :=.row _ _) trivial ho;rw[hβs]at this;cases this
 exact { defers:=h.defers,sz:=h.sz,base:=h.base,os:=h.os,tape:=h.tape,output:=h.output,old:=h.old,A:=h.A,gl:=h.gl,
         inj:=λm m' o o' b hm hm' hb hb'=>by have h1:=hne m o b hm hb;have h2:=hne m' o' b hm' hb';exact h.inj m m' o o' b ((hgl m h1).symm.trans hm) ((hgl m' h2).symm.trans hm') (hb.of (hβo m h1) (λ_ _=>rfl)) (hb'.of (hβo m' h2) (λ_ _=>rfl)),
         sep:=λm o b hm hb=>by have h1:=hne m o b hm hb;exact h.sep m o b ((hgl m h1).symm.trans hm) (hb.of (hβo m h1) (λ_ _=>rfl)),
         fix:=λm cs' h1 hm=>by
          have h2:m≠l:=bP
          rw[hβo m h2];exact h.fix m cs' h1 ((hgl m h2).symm.trans hm),
         row0:=h.row0.step (λm hm=>hL m O),
         blk:=λm o hm=>by
          by_cases h1:m=l
          .subst h1;have:some o=some (.row k []):=bD (bE hm) hgs;cases this;exact⟨hk,(λel h=>by cases h),.inl ⟨hβs,rfl⟩⟩
          have hm':get Z m=some o:=(hgl m h1).symm.trans hm;exact BR.step hI (hβo m h1) (λ_ _=>rfl) (λq hq=>hL q (λe=>by subst e;rw[(hf2 m o hm').2]at hq;cases hq)) (h.blk m o hm'),
         tm:=λi p hp=>⟨(h.tm i p hp).1,VR.step hI p _ (λq hq=>hL q (λe=>by subst e;rw[hf1 i p hp]at hq;cases hq)) (h.tm i p hp).2⟩ }
def ZaI{G:Frm}{β:Nat->Option Nat}{n:Nat}{tm:List (Nat×PV)}{Z:List (Nat×Blk)}{a:Act}{w:World}(h:aF G β ⟨n,tm,Z⟩ a w)(cs:Array Value)(e:TypeId){l k:Nat}{es es':List (List U)}
 (hg:get Z l=some (.row k es)) (hlt:es.length<es'.length)
 (hblk:(∀b,(ctx G β w Z).I b->(ctx G (dq β l w.heap.size) (w.alloc (.cells cs e)) (put Z l (.row k es'))).I b/\(ctx G (dq β l w.heap.size) (w.alloc (.cells cs e)) (put Z l (.row k es'))).w.heap[b]?=(ctx G β w Z).w.heap[b]?) ->
  ba (w.alloc (.cells cs e)) w.heap.size cs.size->BR (ctx G (dq β l w.heap.size) (w.alloc (.cells cs e)) (put Z l (.row k es'))) l (.row k es')) :
 aF G (dq β l w.heap.size) ⟨n,tm,put Z l (.row k es')⟩ a (w.alloc (.cells cs e))/\ba (w.alloc (.cells cs e)) w.heap.size cs.size:=by
 have hgl:∀m,m≠l->get (put Z l (.row k es')) m=get Z m:=λm hm=>fu Z _ (cW hm);have hgs:get (put Z l (.row k es')) l=some (.row k es'):=fh Z l _;have hltI:∀b,Imm G β w Z b->b<w.heap.size:=λb hb=>hb.1;have hO:∀m o,m≠l->get Z m=some o->∀b,aA (dq β l w.heap.size) (w.alloc (.cells cs e)) m o b->aA β w m o b:=λm o hm hg b ho=>ho.of (j1 β _ hm) (λb hb=>dG w _ b (h.sep m o b hg (.inl hb)).1);have hrow:ba (w.alloc (.cells cs e)) w.heap.size cs.size:=⟨cs,e,(0,0),jM w _,rfl,.inl rfl⟩;have hI:∀b,(ctx G β w Z).I b->(ctx G (dq β l w.heap.size) (w.alloc (.cells cs e)) (put Z l (.row k es'))).I b/\(ctx G (dq β l w.heap.size) (w.alloc (.cells cs e)) (put Z l (.row k es'))).w.heap[b]?=(ctx G β w Z).w.heap[b]?:=λb hb=>by
  refine⟨?_,dG w _ b (hltI b hb)⟩;have hbl:=hltI b hb;obtain⟨h1,h2,h3⟩:=hb;refine⟨by simp;omega,h2,λm o hm=>?_⟩;by_cases hml:m=l
  .subst hml;have:some o=some (.row k es'):=bD (bE hm) hgs;cases this;intro hh;have:=aA.flat (o :=.row _ _) trivial hh;rw[eI]at this;cases this;omega
  have hm':=(hgl m hml).symm.trans hm;exact λho=>h3 m o hm' (hO m o hml hm' b ho)
 have hL:∀m,aX (ctx G β w Z) (ctx G (dq β l w.heap.size) (w.alloc (.cells cs e)) (put Z l (.row k es'))) m:=λm=>by
  by_cases hml:m=l
  .subst hml;refine⟨λk' es'' hg'=>?_,λcs' hg'=>?_,λk' q' es'' hg'=>?_,λk' es'' hg'=>?_,λk' i' es'' cs' hg'=>?_⟩
   .have:some (Blk.row k' es'')=some (.row k es'):=bD (bE hg') hgs;cases this;exact⟨es,hg,tb hlt,λhe=>by omega⟩
   .have:some (Blk.box cs')=some (.row k es'):=bD (bE hg') hgs;cases this
   .have:some (Blk.mat k' q' es'')=some (.row k es'):=bD (bE hg') hgs;cases this
   .have:some (Blk.map k' es'')=some (.row k es'):=bD (bE hg') hgs;cases this
   have:some (Blk.prow k' i' es'' cs')=some (.row k es'):=bD (bE hg') hgs;cases this
  have hg':=hgl m hml;cases hgm:get Z m with
  |none=>exact aX.none (hg'.trans hgm)
  |some o=>exact aX.same hg' (j1 β _ hml) (λb hb=>dG w _ b (h.sep m o b hgm (.inl hb)).1)
 have hns:∀m o,m≠l->get (put Z l (.row k es')) m=some o->get Z m=some o:=λm o hm hg=>(hgl m hm).symm.trans hg;have hnew:∀o b,get (put Z l (.row k es')) l=some o->aA (dq β l w.heap.size) (w.alloc (.cells cs e)) l o b->w.heap.size=b:=λo b hm ho=>by have:some o=some (.row k es'):=bD (bE hm) hgs;cases this;have:=aA.flat (o :=.row _ _) trivial ho;rw[eI]at this;exact dA this
 refine⟨?_,hrow⟩
 exact { defers:=h.defers,sz:=h.sz,base:=by simp;have:=h.base;omega,os:=h.os,tape:=h.tape,output:=h.output,
         old:=λb hb ho=>(dG w _ b (dz hb h.base)).trans (h.old b hb ho),A:=h.A,gl:=h.gl,
         inj:=λm m' o o' b hm hm' hb hb'=>by
          by_cases h1:m=l
          .by_cases h2:m'=l
           .rw [h1,h2]
           subst h1;have hb:=hnew o b hm hb;have:=(h.sep m' o' b (hns m' o' h2 hm') (hO m' o' h2 (hns m' o' h2 hm') b hb')).1;omega
          by_cases h2:m'=l
          .subst h2;have hb':=hnew o' b hm' hb';have:=(h.sep m o b (hns m o h1 hm) (hO m o h1 (hns m o h1 hm) b hb)).1;omega
          exact h.inj m m' o o' b (hns m o h1 hm) (hns m' o' h2 hm') (hO m o h1 (hns m o h1 hm) b hb) (hO m' o' h2 (hns m' o' h2 hm') b hb'),
         sep:=λm o b hm hb=>by
          by_cases h1:m=l
          .subst h1;have hb:=hnew o b hm hb;subst hb;exact⟨by simp,.inl h.base⟩
          have:=h.sep m o b (hns m o h1 hm) (hO m o h1 (hns m o h1 hm) b hb);exact⟨by simp;omega,this.2⟩,
         fix:=λm cs' h1 hm=>by
          have h2:m≠l:=λe=>by subst e;have:some (Blk.box cs')=some (.row k es'):=bD (bE hm) hgs;cases this
          rw[j1 β _ h2];exact h.fix m cs' h1 (hns m _ h2 hm),
         row0:=h.row0.step (λm _=>hL m),
         blk:=λm o hm=>by
          by_cases h1:m=l
          .subst h1;have:some o=some (.row k es'):=bD (bE hm) hgs;cases this;exact hblk hI hrow
          have hm':=hns m o h1 hm;exact BR.step hI (j1 β _ h1) (λb hb=>dG w _ b (h.sep m o b hm' hb).1) (λq _=>hL q) (h.blk m o hm'),
         tm:=λi p hp=>⟨(h.tm i p hp).1,VR.step hI p _ (λq _=>hL q) (h.tm i p hp).2⟩ }
section
variable {P:Program} {o:Oper} {n:Nat} {tm:List (Nat×PV)} {Z:List (Nat×Blk)}
inductive fO (Z:List (Nat×Blk)):PV->List (List U)->Prop
 |tree (es:List (List U)):fO Z (.t (.sl es)) es
 |nils:fO Z .nils []
 |own (l m k:Nat) (es:List (List U)) (h:get Z l=some (.row k es)) (hm:es.length=m):fO Z (.osl l m) es
 |con (a:Option Addr) (c:Nat):fO Z (.t (.con (.slice a 0 c))) []
def fO.src{G:Frm}{β:Nat->Option Nat}{a:Act}{w:World}(hr:aF G β ⟨n,tm,Z⟩ a w){p:PV}{es:List (List U)}{v:Value}{k:Nat}{tx e:TypeId}(h:fO Z p es)(hv:VR (ctx G β w Z) p v)
 (hk:∀el,el∈es->el.length=k) (htx:P.underlying tx=some (.slice e)):∃news,Src P k tx v es.length news w/\VRs (ctx G β w Z) (es.flatten.map .t) news:=by
 have fromCells:∀(b off cap:Nat),an (ctx G β w Z).I (ctx G β w Z).w b es off->∃news,Src P k tx (.slice (some ⟨b,off,none⟩) es.length cap) es.length news w/\VRs (ctx G β w Z) (es.flatten.map .t) news:=by
  intro b off cap hel;obtain⟨vs,h1,h2⟩:=Z2.vals (an.flat.1 hel);refine⟨vs,Src.ofSlice w htx ⟨b,off,none⟩ es.length cap vs ?_ (λj u hu=>by rw[gd];exact h2 j u hu) ?_,h1⟩
  .rw [h1.length,db,iU hk]
  intro u hu;refine Z6q h1 ?_ u hu;rw[bH];intro x hx;obtain⟨t,_,rfl⟩:=gm.1 hx;rfl
 have empty:∀(a':Option Addr) (cap:Nat),es=[]->∃news,Src P k tx (.slice a' es.length cap) es.length news w/\VRs (ctx G β w Z) (es.flatten.map .t) news:=by
  intro a' cap he;subst he;cases a' with
  |none=>exact⟨[],Src.ofNil w htx cap,by simp[VRs]⟩
  |some ad=>exact⟨[],Src.ofSlice w htx ad 0 cap [] aj aj aj,by simp[VRs]⟩
 cases h with
 |tree es=>
  simp only[VR,Z6]at hv;obtain⟨a',cap,rfl,_,_,h⟩:=hv;rcases h with h|⟨b,off,rfl,_,hel⟩
  .exact empty a' cap h
  exact fromCells b off cap hel
 |nils=>
  simp only[VR]at hv;obtain⟨a',rfl⟩:=hv;exact empty a' 0 rfl
 |con a' c=>
  simp only[VR,Z6]at hv;rw[hv.1];exact empty a' c rfl
 |own l m k' es h hm=>
  simp only[VR]at hv;obtain⟨a',cap,rfl,_,_,h3⟩:=(hv.1 k' es h).2 hm.symm;obtain⟨_,_,hb⟩:=hr.blk l _ h;subst hm;rcases hb with⟨_,he⟩|⟨b,sz,hb,_,_,hel⟩
  .exact empty a' cap he
  rcases h3 with⟨hc,hb'⟩|⟨b',sz',ha,hb',_,_⟩
  .exact absurd (hb.symm.trans hb') aj
  have:b'=b:=cK
  subst this;subst ha;exact fromCells b' 0 cap hel
def Z27(w:World)(t tx ty e:TypeId)(i:TypeInfo)(ht:P.underlying t=some (.slice e))(hi:P.info? e=some i)(a:Option Addr)(m cap:Nat)(hm:m<=cap)(x:Value)(hs:Src P i.size tx x 0 [] w) :
 (Builtin.append_ #[t,tx] ty #[.slice a m cap,x]).run P w = .ok (.slice a m cap) w:=by
 have hc:=hs.cells;rcases hs.kind with⟨e',hk⟩|hk<;>cases a<;>simp[Builtin.append_,b7 ht,b7 hk,sizeOf,typeInfo,hi,hs.len,hm,hc,storeCells]
def LZ{c:Ctx}{b:Nat}{olds news:List Value}{es es2:List (List U)}(h1:VRs c (es.flatten.map .t) olds)(h2:VRs c (es2.flatten.map .t) news)
 (hc:∀j v,(olds++news)[j]?=some v->c.w.cell? ⟨b,j,none⟩=some v):an c.I c.w b (es++es2) 0:=by
 refine an.flat.2 (ic (vs:=olds++news) ?_ (λj v hj=>by rw[aK];exact hc j v hj));rw[nb,gb];exact h1.append h2
def ZW{ρ:List (Nat×PV)}{t tx e:TypeId}{x y:Operand}{k bytes:Nat}{zero:List PV}{es:List (List U)}{p:PV}{need:List Nat}(l:Nat)(hlab:1000<=l)(ho:o.op = .call { callee :=.builtin .append,args := #[x,y],argTypes := #[t,tx] })
 (hE:ElF P t e k bytes zero) (htx:∃e',P.underlying tx=some (.slice e')) (hx:af ρ x=some .nils) (hy:af ρ y=some p) (hsrc:fO Z p es) (hneed:∀m,p.has m=true->m∈need)
 (hk:∀el,el∈es->el.length=k) (h63:es.length<=9223372036854775807) (hby:es.length*bytes<=140737488355328):aQ P o ρ Z need (.osl l es.length) [(l,.row k es)]:=
 Z6p (λG β n tm Z' A w hop hnd hf1 hf2 hr=>by
  obtain⟨e1,_⟩:=hop x _ eH hx;obtain⟨e2,_⟩:=hop y _ eH hy;simp only[VR]at e1;obtain⟨a0,e1⟩:=e1;obtain⟨e',htx⟩:=htx;have hsrc':fO Z' p es:=by
   cases hsrc with
   |tree es=>exact .tree es
   |nils=>exact .nils
   |con a c=>exact .con a c
   |own l' m k' es h hm=>exact .own l' m k' es ((hnd l' (hneed l' fE)).trans h) hm
  obtain⟨news,hs,hnv⟩:=hsrc'.src (P:=P) (tx:=tx) hr e2 hk htx;have hnewsl:news.length=es.length*k:=hs.newsLen;cases hi:P.info? e with
  |none=>have:=hE.info;simp[hi]at this
  |some i=>
   have hik:i.size=k/\i.bytes=bytes:=tf
   have hz:=hE.z;unfold eR at hz;simp only[hi,bO,c9]at hz;obtain⟨z,hiz,hz⟩:=hz;have hzl:z.cells.size=k:=by have:=(hX (c:=ctx G β w Z') hz).length;rw[hE.len]at this;simpa using this
   have hexec:∀r,(Builtin.append_ #[t,tx] o.type #[.slice a0 0 0,A.eval y]).run P w=r->(execOp A.eval o).run P w=r.andThen λv w =>.ok (.value v) w:=by intro r hr;simp only[execOp,ho,resolve,invoke,builtin,aN,aS,aO,mD,cu,fx,e1,hr]
   by_cases hem:es.length=0
   .have hes:es=[]:=cX hem;subst hes;have hnil:news=[]:=cX AN;subst hnil;have hrun:=Z27 w t tx o.type e i hE.und hi a0 0 0 (bh _) (A.eval y) qy;refine⟨.slice a0 0 0,w,by rw[hexec _ hrun];rfl,eX β l,sb hr l k hE.pos hlab hf1 hf2,?_⟩;simp only[VR];refine⟨λk' es' hg=>?_,_,_,_,rfl⟩;have hgs:get ((l,Blk.row k [])::Z') l=some (.row k []):=by simp[get]
    have:some (Blk.row k' es')=some (.row k []):=bD (bE hg) hgs;cases this;exact⟨bh _,λ_=>⟨a0,0,rfl,bh _,by simp[maxLen],.inl ⟨rfl,by simp[ctx,eX]⟩⟩⟩
   have hpos:0<es.length:=Nat.pos_of_ne_zero hem;have hrun:=run_append_grow_src (P:=P) w t tx o.type e i z hE.und hi hiz a0 0 0 [] (by cases a0<;>simp[Builtin.firstCells,loadCells,loadCellsFrom]) (A.eval y) es.length news qy O O
    (by rw[hik.2];exact growslice_fits O (by simpa using hby))
   simp only[iD,aK]at hrun;generalize hcs:news.toArray++Builtin.zeroCells z.cells (grownCap w es.length 0 e-es.length)=cs at hrun;have hge:=qA w es.length 0 e;have hcm:grownCap w es.length 0 e<=maxLen:=qB w es.length 0 e qu;have hcsz:cs.size=grownCap w es.length 0 e*k:=by rw[<- hcs];simp only[qC,qD,qE,hzl,hnewsl,<- du];congr 1;omega
   obtain⟨hr',hrow,hI,hL⟩:=(aF.drew hr).allocOwn cs e l (.row k es) hlab trivial hf1 hf2 (λhI hL hrow=>
    ⟨hE.pos,hk,.inr ⟨w.heap.size,cs.size,eI _ _ _,hrow,by rw[hcsz];exact fA _ hge,by
     refine an.flat.2 (ic (vs:=news) ?_ (λj v hj=>?_))
     .exact VRs.step (c:=ctx G β w.drew Z') hI _ _ (λq hq=>by rw[gJ]at hq;cases hq) (VRs.step (c:=ctx G β w Z') (c':=ctx G β w.drew Z') (λb hb=>⟨hb,rfl⟩) _ _ (λq hq=>by rw[gJ]at hq;cases hq) hnv)
     show(w.drew.alloc _).cell? ⟨w.drew.heap.size,_,none⟩=_;rw[iE,aK,<- hcs];have hlt:=(bj.1 hj).1;rw[jl uk];simpa using hj⟩⟩)
   refine⟨.slice (some ⟨w.heap.size,0,none⟩) es.length (grownCap w es.length 0 e),_,by rw[hexec _ hrun];rfl,_,hr',?_⟩;simp only[VR];refine⟨λk' es' hg=>?_,_,_,_,rfl⟩;have hgs:get ((l,Blk.row k es)::Z') l=some (.row k es):=mF
   have:some (Blk.row k' es')=some (.row k es):=bD (bE hg) hgs;cases this;exact⟨bh _,λ_=>⟨_,_,rfl,hge,hcm,.inr ⟨w.heap.size,cs.size,rfl,eI _ _ _,hrow,by rw[hcsz];exact bh _⟩⟩⟩) (λ_ _ _ hx hq=>oG l hx hq)
def fO.need{Z Z':List (Nat×Blk)}{p:PV}{es:List (List U)}(h:fO Z p es)(hn:∀m,p.has m=true->get Z' m=get Z m):fO Z' p es:=by
 cases h with
 |tree es=>exact .tree es
 |nils=>exact .nils
 |con a c=>exact .con a c
 |own l' m k' es h hm=>exact .own l' m k' es ((hn l' fE).trans h) hm
def Zan{ρ:List (Nat×PV)}{σ0:List (Nat×Blk)}{need:List Nat}{t tx e:TypeId}{x y:Operand}{k bytes l m:Nat}{zero:List PV}{es0 es:List (List U)}{p:PV}(ho:o.op = .call { callee :=.builtin .append,args := #[x,y],argTypes := #[t,tx] })
 (hE:ElF P t e k bytes zero) (htx:∃e',P.underlying tx=some (.slice e')) (hx:af ρ x=some (.osl l m)) (hg0:get σ0 l=some (.row k es0)) (hm:es0.length=m) (hy:af ρ y=some p) (hsrc0:fO σ0 p es) (hneed:∀q,(q=l\/p.has q=true)->q∈need)
 (hk:∀el,el∈es->el.length=k) (h63:m+es.length<=9223372036854775807) (hby:(m+es.length)*bytes<=140737488355328) :
 OpF P o ρ σ0 need [l] (.osl l (m+es.length)) [(l,.row k (es0++es))]:=
 opF λG β n tm Z A w hop hnd hr=>by
  have e1:=hop x _ eH hx;have e2:=hop y _ eH hy;have hg:=(hnd l (hneed l (.inl rfl))).trans hg0;have hsrc:=hsrc0.need (Z':=Z) (λq hq=>hnd q (hneed q (.inr hq)));show ∃v w',(execOp A.eval o).run P w = .ok (.value v) w'/\∃β',aF G β' ⟨n,tm,put Z l (.row k (es0++es))⟩ A w'/\VR (ctx G β' w' (put Z l (.row k (es0++es)))) (.osl l (m+es.length)) v;simp only[VR]at e1;obtain⟨a0,cap,hv,hmc,hcm0,h3⟩:=(e1.1 k es0 hg).2 hm.symm;obtain⟨e',htx⟩:=htx;obtain⟨news,hs,hnv⟩:=hsrc.src (P:=P) (tx:=tx) hr e2 hk htx;have hnewsl:news.length=es.length*k:=hs.newsLen;have hnv1:∀u,u∈news->u.oneCell'=true:=hs.one;obtain⟨hk0,hkl,hbr⟩:=hr.blk l _ hg;have hkl':∀el,el∈es0++es->el.length=k:=λel hel=>(cN.1 hel).elim (hkl el) (hk el);cases hi:P.info? e with
  |none=>have:=hE.info;simp[hi]at this
  |some i=>
   have hik:i.size=k/\i.bytes=bytes:=tf
   have hz:=hE.z;unfold eR at hz;simp only[hi,bO,c9]at hz;obtain⟨z,hiz,hz⟩:=hz;have hzl:z.cells.size=k:=J8
   have hexec:∀r,(Builtin.append_ #[t,tx] o.type #[.slice a0 m cap,A.eval y]).run P w=r->(execOp A.eval o).run P w=r.andThen λv w =>.ok (.value v) w:=J6
   have holds:∃olds,VRs (ctx G β w Z) (es0.flatten.map .t) olds/\(Builtin.firstCells i.size m (.slice a0 m cap)).run P w.drew = .ok olds.toArray w.drew /\
    (∀b,β l=some b->∀j v,olds[j]?=some v->w.cell? ⟨b,j,none⟩=some v):=by
    rcases hbr with⟨hb,he⟩|⟨b,sz,hb,hrow,hsz,hel⟩
    .subst he;have hm0:m=0:=by simpa using hm.symm
     subst hm0;refine⟨[],by simp[VRs],by cases a0<;>simp[Builtin.firstCells,loadCells,loadCellsFrom],λb hb'=>?_⟩;intro j v hj;simp at hj
    obtain⟨vs,hv1,hv2⟩:=Z2.vals (c:=ctx G β w Z) (an.flat.1 hel);refine⟨vs,hv1,?_,λb' hb' j v hj=>?_⟩
    .rcases h3 with⟨_,hb'⟩|⟨b',sz',ha,hb',_,_⟩
     .exact absurd (hb.symm.trans hb') aj
     have:b'=b:=cK
     subst this;subst ha;refine run_firstCells_some w.drew i.size m ⟨b',0,none⟩ m cap vs ?_ (λj v hj=>?_)
     .rw [hv1.length,db,iU hkl,hm,hik.1]
     rw[gd];exact hv2 j v hj
    have:b'=b:=cK
    subst this;have:=hv2 j v hj;rwa[aK]at this
   obtain⟨olds,hov,hold,hoc⟩:=holds;have holl:olds.length=m*k:=by rw[hov.length,db,iU hkl,hm]
   by_cases hroom:m+es.length<=cap
   .rcases h3 with⟨hc0,hb⟩|⟨b,sz,ha,hb,hrow,hsz⟩
    ·-- nothing there,nothing appended
     have hem:es.length=0:=bP
     have hm0:m=0:=bP
     have hes:es=[]:=cX hem;subst hes;have hnil:news=[]:=cX AN;subst hnil;have hrun:=Z27 w t tx o.type e i hE.und hi a0 m cap hmc (A.eval y) qy;refine⟨.slice a0 m cap,w,qv,β,?_⟩;have hsame:∀q,get (put Z l (.row k (es0++[]))) q=get Z q:=λq=>by
      by_cases hq:q=l
      .subst hq;rw[fh,hg,cU]
      exact fu Z _ (cW hq)
     have hr2:aF G β ⟨n,tm,put Z l (.row k (es0++[]))⟩ A w:=hr.sub (bh _) (λi p hp=>⟨hp,(hr.tm i p hp).1⟩) (λq o hq=>by rw[<- hsame q];exact hq);refine⟨hr2,?_⟩;simp only[VR,bU,cF];refine⟨λk' es' hg'=>?_,_,_,_,rfl⟩;have hgl:get Z l=some (.row k' es'):=(hsame l).symm.trans hg';rw[hg]at hgl;cases hgl;exact⟨by omega,λ_=>⟨a0,cap,rfl,hmc,hcm0,.inl ⟨hc0,hb⟩⟩⟩
    ·-- in place
     subst ha;have hle:(m+es.length)*k<=sz:=cQ (fA _ hroom) hsz;rw[du]at hle;have hth:=jy hrow (o:=m*k) (n:=es.length*k) hle;have hrun:=run_append_room_src (P:=P) w t tx o.type e i hE.und hi b 0 m cap (A.eval y) es.length news qy hroom (λj hj=>by
      have:=(hth j O).1;rwa[hik.1,aK]) (λj hj=>by
      have:=(hth j O).2;rwa[hik.1,aK])
     rw[hik.1,aK]at hrun;obtain⟨hr',hI,hL⟩:=jh hr (off:=m*k) (blk' :=.row k (es0++es)) news hg hb (.inl ⟨k,es0,_,rfl,rfl,by simp⟩) (λhI hL=>by
      refine⟨hk0,hkl',.inr ⟨b,sz,hb,cZ _ _ _ _ hrow,?_,?_⟩⟩
      .rw [bn,du,hm];exact hle
      refine LZ (olds:=olds) (news:=news) (VRs.step hI _ _ (λq _=>hL q) hov) (VRs.step hI _ _ (λq _=>hL q) hnv) (λj v hj=>?_);show(w.setCells b (m*k) news).cell? _=_;rcases dF j olds.length with h|h
      .rw [dx h]at hj;rw[fM b news (m*k) w ⟨b,j,none⟩ (λ_ _ =>.inl bb)];exact hoc b hb j v hj
      rw[dD h]at hj;have hjl:=(bj.1 hj).1;have:=iT b news (m*k) w (λj' hj'=>(hth j' O).1) (j-olds.length) hjl;rw[show m*k+(j-olds.length)=j by omega]at this;rw[this,<- hj,bC hjl])
     refine⟨.slice (some ⟨b,0,none⟩) (m+es.length) cap,w.setCells b (m*k) news,qv,β,hr',?_⟩;simp only[VR];refine⟨λk' es' hg'=>?_,_,_,_,rfl⟩;have:some (Blk.row k' es')=some (.row k (es0++es)):=bD (bE hg') (fh Z l _);cases this;rw[bn,hm];exact⟨bh _,λ_=>⟨_,cap,rfl,hroom,hcm0,.inr ⟨b,sz,rfl,hb,cZ _ _ _ _ hrow,hsz⟩⟩⟩
   ·-- a new row
    have hgt:cap<m+es.length:=bP
    have hpos:0<es.length:=bP
    have hrun:=run_append_grow_src (P:=P) w t tx o.type e i z hE.und hi hiz a0 m cap olds hold (A.eval y) es.length news qy hgt O Kq;generalize hcs:(olds++news).toArray++Builtin.zeroCells z.cells (grownCap w (m+es.length) cap e-(m+es.length))=cs at hrun;have hge:=qA w (m+es.length) cap e;have hcm:grownCap w (m+es.length) cap e<=maxLen:=qB w (m+es.length) cap e qu;have hcsz:cs.size=grownCap w (m+es.length) cap e*k:=by rw[<- hcs];simp only[qC,qD,bn,qE,hzl,hnewsl,holl,<- du];congr 1;omega
    have hdrew:∀{ts:List U} {vs:List Value},VRs (ctx G β w Z) (ts.map .t) vs->VRs (ctx G β w.drew Z) (ts.map .t) vs:=λh=>VRs.step (c:=ctx G β w Z) (c':=ctx G β w.drew Z) (λb hb=>⟨hb,rfl⟩) _ _ (λq _=>aX.same rfl rfl (λ_ _=>rfl)) h;obtain⟨hr',hrow⟩:=ZaI (aF.drew hr) cs e (es':=es0++es) hg bb (λhI hrow=>⟨hk0,hkl',.inr ⟨w.heap.size,cs.size,eI _ _ _,hrow,by rw[hcsz,bn,hm];exact fA _ hge,by refine LZ (olds:=olds) (news:=news) (VRs.step hI _ _ (λq hq=>by rw[gJ]at hq;cases hq) (hdrew hov)) (VRs.step hI _ _ (λq hq=>by rw[gJ]at hq;cases hq) (hdrew hnv)) (λj v hj=>?_);show(w.drew.alloc _).cell? ⟨w.drew.heap.size,_,none⟩=_;rw[iE,<- hcs];have hlt:=(bj.1 hj).1;rw[jl uk];simpa using hj⟩⟩);refine⟨.slice (some ⟨w.heap.size,0,none⟩) (m+es.length) (grownCap w (m+es.length) cap e),_,qv,_,hr',?_⟩;simp only[VR];refine⟨λk' es' hg'=>?_,_,_,_,rfl⟩;have:some (Blk.row k' es')=some (.row k (es0++es)):=bD (bE hg') (fh Z l _);cases this;rw[bn,hm];exact⟨bh _,λ_=>⟨_,_,rfl,hge,hcm,.inr ⟨w.heap.size,cs.size,rfl,eI _ _ _,hrow,by rw[hcsz];exact bh _⟩⟩⟩
end
end Go.PW
namespace Go.PW
open Go.RowKit
def iz:List PV->Option (List U)
 |[]=>some []
 |.t x::ps=>(iz ps).map (x :: ·)
 |_::_=>none
def mf:∀{ps:List PV} {ts:List U},iz ps=some ts->ps=ts.map .t
 |[],ts,h=>by simp only[iz,ao]at h;subst h;rfl
 |p::ps,ts,h=>by
  cases p<;>simp only[iz]at h<;>try cases h
  simp only[ca]at h;obtain⟨ts',h,rfl⟩:=h;rw[mf h];rfl
def Zav{c c':Ctx}{l o:Nat}{ts:List U}{v:Value}(hb:BR c l (.box (ts.map .t)))(hg:get c.Z l=some (.box (ts.map .t)))(hv:VR c (.bptr l o) v)(hI:∀b,c.I b->c'.I b/\c'.w.heap[b]?=c.w.heap[b]?)(hf:∀b,c.β l=some b->c'.I b/\c'.w.heap[b]?=c.w.heap[b]?) :
 VR c' (.vptr (ts.drop o)) v:=by
 simp only[VR]at hv⊢;obtain⟨b,hb1,hv⟩:=hv.1 _ hg;obtain⟨b',vs,hb',_,hcs,hvs,_⟩:=hb;have:b'=b:=GH
 subst this;have h1:=ic (off:=0) hvs (λj v hj=>by rw[aK];exact hcs j v hj);have h2:=Z2.drop o ts 0 h1;rw[aK]at h2;exact⟨b',o,hv,λ_=>(hf b' hb1).1,Z2.mono hI (hf b' hb1).2 _ _ h2⟩
mutual
def Frz(Z Z':List (Nat×Blk)):PV->PV->Prop
 |.t x,q=>q = .t x
 |.nils,q=>q = .t (.sl [])\/q = .nils
 |.osl l n,q=>q = .osl l n\/∃k es,get Z l=some (.row k es)/\es.length=n/\get Z' l=none/\q = .t (.sl es)
 |.bptr l o,q=>q = .bptr l o\/∃ts:List U,get Z l=some (.box (ts.map .t))/\get Z' l=none/\q = .vptr (ts.drop o)
 |.rptr l n i o,q=>q = .rptr l n i o
 |.vptr cs,q=>q = .vptr cs
 |.agg cs,q=>∃ds,q = .agg ds/\aZ Z Z' cs ds
 |.tup cs,q=>∃ds,q = .tup ds/\aZ Z Z' cs ds
 |.fn f cs,q=>∃ds,q = .fn f ds/\aZ Z Z' cs ds
 |.own l d,q=>q = .own l d\/∃n k q0 es,d = .msl n/\get Z l=some (.mat k q0 es)/\es.length=n/\get Z' l=none/\q = .t (.sl es)
def aZ(Z Z':List (Nat×Blk)):List PV->List PV->Prop
 |[],qs=>qs=[]
 |p::ps,qs=>∃q rs,qs=q::rs/\Frz Z Z' p q/\aZ Z Z' ps rs
end
def bT(Z Z':List (Nat×Blk)):Blk->Blk->Prop
 |.row k es,b=>b = .row k es
 |.box cs,b=>∃ds,b = .box ds/\aZ Z Z' cs ds
 |.mat k q es,b=>b = .mat k q es
 |.map ag es,b=>b = .map ag es
 |.prow k i es cs,b=>∃ds,b = .prow k i es ds/\aZ Z Z' cs ds
structure FrzC (c c':Ctx):Prop where
 I:∀b,c.I b->c'.I b/\c'.w.heap[b]?=c.w.heap[b]?
 L:∀l,aX c c' l
 blk:∀l o,get c.Z l=some o->BR c l o
 fz:∀l o b,get c.Z l=some o->get c'.Z l=none->aA c.β c.w l o b->c'.I b/\c'.w.heap[b]?=c.w.heap[b]?
mutual
def Frz.ok{c c':Ctx}(h:FrzC c c'):∀(p q:PV) (v:Value),Frz c.Z c'.Z p q->VR c p v->VR c' q v
 |.t x,q,v,hf,hv=>by simp only[Frz]at hf;subst hf;exact VR.step h.I (.t x) v (λl _=>h.L l) hv
 |.nils,q,v,hf,hv=>by
  simp only[Frz]at hf;rcases hf with rfl|rfl
  .simp only[VR]at hv⊢;obtain⟨a,rfl⟩:=hv;simp only[Z6];exact⟨a,0,rfl,by simp,by simp[maxLen],.inl trivial⟩
  exact hv
 |.osl l n,q,v,hf,hv=>by
  simp only[Frz]at hf;rcases hf with rfl|⟨k,es,hg,hn,hg',rfl⟩
  .exact VR.step h.I (.osl l n) v (λl _=>h.L l) hv
  simp only[VR]at hv⊢;obtain⟨a,cap,rfl,hc1,hc2,h3⟩:=(hv.1 k es hg).2 hn.symm;simp only[Z6];subst hn;refine⟨a,cap,rfl,hc1,hc2,?_⟩;obtain⟨_,_,hb⟩:=h.blk l _ hg;rcases hb with⟨_,he⟩|⟨b,sz,hb,_,_,hel⟩
  .exact .inl he
  rcases h3 with⟨_,hb'⟩|⟨b',sz',ha,hb',_,_⟩
  .exact absurd (hb.symm.trans hb') aj
  have:b'=b:=cK
  subst this;obtain⟨hI,hh⟩:=h.fz l _ b' hg hg' (.inl hb);exact .inr ⟨b',0,ha,hI,an.mono h.I hh es 0 hel⟩
 |.bptr l o,q,v,hf,hv=>by
  simp only[Frz]at hf;rcases hf with rfl|⟨ts,hg,hg',rfl⟩
  .exact VR.step h.I (.bptr l o) v (λl _=>h.L l) hv
  exact Zav (h.blk l _ hg) hg hv h.I (λb hb=>h.fz l _ b hg hg' (.inl hb))
 |.rptr l n i o,q,v,hf,hv=>by simp only[Frz]at hf;subst hf;exact VR.step h.I (.rptr l n i o) v (λl _=>h.L l) hv
 |.vptr cs,q,v,hf,hv=>by simp only[Frz]at hf;subst hf;exact VR.step h.I (.vptr cs) v (λl _=>h.L l) hv
 |.agg cs,q,v,hf,hv=>Ag
 |.tup cs,q,v,hf,hv=>Ag
 |.fn f cs,q,v,hf,hv=>Ag
 |.own l d,q,v,hf,hv=>by
  simp only[Frz]at hf;rcases hf with rfl|⟨n,k,q0,es,rfl,hg,hn,hg',rfl⟩
  .exact VR.step h.I (.own l d) v (λl _=>h.L l) hv
  simp only[VR]at hv⊢;obtain⟨a,cap,rfl,hc1,hc2,h3⟩:=(hv.1 k q0 es hg).2 hn.symm;simp only[Z6];subst hn;refine⟨a,cap,rfl,hc1,hc2,?_⟩;obtain⟨_,_,hb⟩:=h.blk l _ hg;rcases hb with⟨_,he⟩|⟨b,sz,hb,_,_,hel,_⟩
  .exact .inl he
  rcases h3 with⟨_,hb'⟩|⟨b',sz',ha,hb',_,_⟩
  .exact absurd (hb.symm.trans hb') aj
  have:b'=b:=cK
  subst this;obtain⟨hI,hh⟩:=h.fz l _ b' hg hg' (.inl hb);refine .inr ⟨b',0,ha,hI,an.mono (λd hd=>?_) hh es 0 hel⟩;rcases hd with hd|hd
  .exact h.I d hd
  exact h.fz l _ d hg hg' (.inr ⟨b',hb,hd⟩)
def aZ.ok{c c':Ctx}(h:FrzC c c'):∀(ps qs:List PV) (vs:List Value),aZ c.Z c'.Z ps qs->VRs c ps vs->VRs c' qs vs
 |[],qs,vs,hf,hv=>by simp only[aZ]at hf;subst hf;exact hv
 |p::ps,qs,vs,hf,hv=>by simp only[aZ]at hf;obtain⟨q,rs,rfl,hq,hr⟩:=hf;simp only[VRs]at hv⊢;obtain⟨v,rest,rfl,hv,hrest⟩:=hv;exact⟨v,rest,rfl,Frz.ok h p q v hq hv,aZ.ok h ps rs rest hr hrest⟩
end
def Frz.one{Z Z':List (Nat×Blk)}{p q:PV}(h:Frz Z Z' p q)(h1:p.one=true):q.one=true:=by
 cases p<;>simp only[Frz]at h<;>simp only[PV.one,fa]at h1
 case t=>subst h;rfl
 case nils=>rcases h with rfl|rfl<;>rfl
 case osl=>rcases h with rfl|⟨_,_,_,_,_,rfl⟩<;>rfl
 case bptr=>rcases h with rfl|⟨_,_,_,rfl⟩<;>rfl
 case rptr=>subst h;rfl
 case vptr=>subst h;rfl
 case fn=>obtain⟨ds,rfl,_⟩:=h;rfl
 case own=>rcases h with rfl|⟨_,_,_,_,_,_,_,_,rfl⟩<;>rfl
def aZ.one{Z Z':List (Nat×Blk)}:∀{ps qs:List PV},aZ Z Z' ps qs->ps.all PV.one=true->qs.all PV.one=true
 |[],qs,h,_=>by simp only[aZ]at h;subst h;rfl
 |p::ps,qs,h,h1=>by simp only[aZ]at h;obtain⟨q,rs,rfl,hq,hr⟩:=h;simp only[iZ,aM]at h1⊢;exact⟨hq.one h1.1,aZ.one hr h1.2⟩
def aZ.length{Z Z':List (Nat×Blk)}:∀{ps qs:List PV},aZ Z Z' ps qs->qs.length=ps.length
 |[],qs,h=>by simp only[aZ]at h;subst h;rfl
 |p::ps,qs,h=>by simp only[aZ]at h;obtain⟨q,rs,rfl,_,hr⟩:=h;simp[aZ.length hr]
def aZ.trees{Z Z':List (Nat×Blk)}:∀(ts:List U),aZ Z Z' (ts.map .t) (ts.map .t)
 |[]=>by simp only[fx,aZ]
 |t::ts=>by simp only[cu,aZ];exact⟨_,_,rfl,rfl,aZ.trees ts⟩
def aZ.app{Z Z':List (Nat×Blk)}:∀{ps qs ps' qs':List PV},aZ Z Z' ps ps'->aZ Z Z' qs qs'->aZ Z Z' (ps++qs) (ps'++qs')
 |[],qs,ps',qs',h1,h2=>by simp only[aZ]at h1;subst h1;exact h2
 |p::ps,qs,ps',qs',h1,h2=>by simp only[aZ]at h1;obtain⟨q,rs,rfl,h3,h4⟩:=h1;simp only[eP,aZ];exact⟨q,_,rfl,h3,aZ.app h4 h2⟩
def aZ.prow{Z Z':List (Nat×Blk)}{i:Nat}{es:List (List U)}{cs ds:List PV}(h:aZ Z Z' cs ds):aZ Z Z' (ef i es cs) (ef i es ds):=(aZ.trees _).app (h.app (aZ.trees _))
mutual
def Frz.need{Z σ1 Z':List (Nat×Blk)}:∀(p q:PV),(∀m,p.has m=true->get σ1 m=get Z m)->Frz Z Z' p q->Frz σ1 Z' p q
 |.t _,_,_,h=>h
 |.nils,_,_,h=>h
 |.osl l n,q,hm,h=>by
  simp only[Frz]at h⊢;rcases h with h|⟨k,es,h1,h2,h3,h4⟩
  .exact .inl h
  exact .inr ⟨k,es,(hm l fE).trans h1,h2,h3,h4⟩
 |.bptr l _,q,hm,h=>by
  simp only[Frz]at h⊢;rcases h with h|⟨ts,h1,h2⟩
  .exact .inl h
  exact .inr ⟨ts,(hm l fE).trans h1,h2⟩
 |.rptr _ _ _ _,_,_,h=>h
 |.vptr _,_,_,h=>h
 |.agg cs,q,hm,h=>Ai
 |.tup cs,q,hm,h=>Ai
 |.fn f cs,q,hm,h=>Ai
 |.own l d,q,hm,h=>by
  simp only[Frz]at h⊢;rcases h with h|⟨n,k,q0,es,h0,h1,h2⟩
  .exact .inl h
  exact .inr ⟨n,k,q0,es,h0,(hm l fE).trans h1,h2⟩
def aZ.need{Z σ1 Z':List (Nat×Blk)}:∀(ps qs:List PV),(∀m,PV.hasAny m ps=true->get σ1 m=get Z m)->aZ Z Z' ps qs->aZ σ1 Z' ps qs
 |[],_,_,h=>h
 |p::ps,qs,hm,h=>by simp only[aZ]at h⊢;obtain⟨q,rs,h1,h2,h3⟩:=h;exact⟨q,rs,h1,Frz.need p q (λm hh=>hm m (by simp[PV.hasAny,hh])) h2,aZ.need ps rs (λm hh=>hm m (by simp[PV.hasAny,hh])) h3⟩
end
def gM(Z Z':List (Nat×Blk)):Prop:=∀l o',get Z' l=some o'->∃o,get Z l=some o/\bT Z Z' o o'
def bT.lstep{G:Frm}{β:Nat->Option Nat}{w:World}{Z Z':List (Nat×Blk)}(hσ:gM Z Z')(l:Nat):aX (ctx G β w Z) (ctx G β w Z') l:=by
 refine⟨λk es' hg=>?_,λcs' hg=>?_,λk q es' hg=>?_,λk es' hg=>?_,λk i es' cs' hg=>?_⟩
 .obtain⟨o,ho,hf⟩:=hσ l _ hg;cases o with
  |row k2 es2=>simp only[bT]at hf;cases hf;exact⟨es',ho,bh _,λ_=>⟨rfl,λ_ _ _ h=>h⟩⟩
  |box cs=>simp only[bT]at hf;obtain⟨ds,h,_⟩:=hf;cases h
  |mat k2 q2 es2=>simp only[bT]at hf;cases hf
  |map k2 es2=>simp only[bT]at hf;cases hf
  |prow k2 i2 es2 cs2=>simp only[bT]at hf;obtain⟨ds,h,_⟩:=hf;cases h
 .obtain⟨o,ho,hf⟩:=hσ l _ hg;cases o with
  |row k2 es2=>simp only[bT]at hf;cases hf
  |box cs=>exact⟨cs,ho,rfl⟩
  |mat k2 q2 es2=>simp only[bT]at hf;cases hf
  |map k2 es2=>simp only[bT]at hf;cases hf
  |prow k2 i2 es2 cs2=>simp only[bT]at hf;obtain⟨ds,h,_⟩:=hf;cases h
 .obtain⟨o,ho,hf⟩:=hσ l _ hg;cases o with
  |row k2 es2=>simp only[bT]at hf;cases hf
  |box cs=>simp only[bT]at hf;obtain⟨ds,h,_⟩:=hf;cases h
  |mat k2 q2 es2=>simp only[bT]at hf;cases hf;exact⟨es',ho,bh _,λ_=>⟨rfl,λ_ _=>⟨λ_ h=>h,λ_ _=>rfl⟩⟩⟩
  |map k2 es2=>simp only[bT]at hf;cases hf
  |prow k2 i2 es2 cs2=>simp only[bT]at hf;obtain⟨ds,h,_⟩:=hf;cases h
 .obtain⟨o,ho,hf⟩:=hσ l _ hg;cases o with
  |row k2 es2=>simp only[bT]at hf;cases hf
  |box cs=>simp only[bT]at hf;obtain⟨ds,h,_⟩:=hf;cases h
  |mat k2 q2 es2=>simp only[bT]at hf;cases hf
  |map k2 es2=>simp only[bT]at hf;cases hf;exact⟨_,es',ho,rfl⟩
  |prow k2 i2 es2 cs2=>simp only[bT]at hf;obtain⟨ds,h,_⟩:=hf;cases h
 obtain⟨o,ho,hf⟩:=hσ l _ hg;cases o with
 |row k2 es2=>simp only[bT]at hf;cases hf
 |box cs=>simp only[bT]at hf;obtain⟨ds,h,_⟩:=hf;cases h
 |mat k2 q2 es2=>simp only[bT]at hf;cases hf
 |map k2 es2=>simp only[bT]at hf;cases hf
 |prow k2 i2 es2 cs2=>simp only[bT]at hf;obtain⟨ds,h,_⟩:=hf;cases h;exact⟨_,cs2,ho,rfl,rfl,λ_ _ _ h=>h⟩
def bT.own{β:Nat->Option Nat}{w:World}{Z Z':List (Nat×Blk)}{l:Nat}{o o':Blk}{b:Nat}(hf:bT Z Z' o o')(h:aA β w l o' b):aA β w l o b:=by
 cases o with
 |row k es=>simp only[bT]at hf;subst hf;exact h
 |mat k q es=>simp only[bT]at hf;subst hf;exact h
 |map ag es=>simp only[bT]at hf;subst hf;exact h
 |prow k i es cs=>simp only[bT]at hf;obtain⟨ds,rfl,_⟩:=hf;exact .inl (aA.flat (o :=.prow k i es ds) trivial h)
 |box cs=>simp only[bT]at hf;obtain⟨ds,rfl,_⟩:=hf;exact .inl (aA.flat (o :=.box ds) trivial h)
def vl{G:Frm}{β:Nat->Option Nat}{n:Nat}{tm:List (Nat×PV)}{Z Z':List (Nat×Blk)}{a:Act}{w:World}(h:aF G β ⟨n,tm,Z⟩ a w)(hσ:gM Z Z'):FrzC (ctx G β w Z) (ctx G β w Z') where
 I:=λb hb=>⟨⟨hb.1,hb.2.1,λl o hl=>by obtain⟨o2,ho2,hf⟩:=hσ l o hl;exact λho=>hb.2.2 l o2 ho2 (hf.own ho)⟩,rfl⟩
 L:=bT.lstep hσ
 blk:=λl o hg=>h.blk l _ hg
 fz:=λl o b hg hg' hb=>by
  refine⟨⟨(h.sep l o b hg hb).1,?_,λl' o' hl' hb'=>?_⟩,rfl⟩
  .rcases (h.sep l o b hg hb).2 with h1|h1
   .exact .inl h1
   .exact .inr (.inr h1)
  .obtain⟨o2,ho2,hf⟩:=hσ l' o' hl'
   have:=h.inj l' l o2 o b ho2 hg (hf.own hb') hb
   subst this
   rw[show get Z' l'=none from hg']at hl';cases hl'
def rA{G:Frm}{β:Nat->Option Nat}{n:Nat}{tm tm':List (Nat×PV)}{Z Z':List (Nat×Blk)}{a:Act}{w:World}(h:aF G β ⟨n,tm,Z⟩ a w)(hσ:gM Z Z')
 (ht:∀i q,get tm' i=some q->∃p,get tm i=some p/\Frz Z Z' p q):aF G β ⟨n,tm',Z'⟩ a w:=by
 have hc:=vl h hσ
 exact { defers:=h.defers,sz:=h.sz,base:=h.base,os:=h.os,tape:=h.tape,output:=h.output,old:=h.old,A:=h.A,gl:=h.gl,
         inj:=λl l' o o' b hl hl' hb hb'=>by obtain⟨o1,h1,f1⟩:=hσ l o hl;obtain⟨o2,h2,f2⟩:=hσ l' o' hl';exact h.inj l l' o1 o2 b h1 h2 (f1.own hb) (f2.own hb'),
         sep:=λl o b hl hb=>by obtain⟨o1,h1,f1⟩:=hσ l o hl;exact h.sep l o1 b h1 (f1.own hb),
         fix:=λl cs h1 hl=>by
          obtain⟨o1,h2,hf⟩:=hσ l _ hl;cases o1 with
          |row k es=>simp only[bT]at hf;cases hf
          |mat k q es=>simp only[bT]at hf;cases hf
          |map ag es=>simp only[bT]at hf;cases hf
          |prow k i es cs=>simp only[bT]at hf;obtain⟨ds,h3,_⟩:=hf;cases h3
          |box cs0=>exact h.fix l cs0 h1 h2,
         row0:=h.row0.step (λm _=>hc.L m),
         blk:=λl o hl=>by
          obtain⟨o1,h2,hf⟩:=hσ l o hl;have hb:=h.blk l o1 h2;cases o1 with
          |row k es=>simp only[bT]at hf;subst hf;exact BR.step hc.I rfl (λ_ _=>rfl) (λm _=>hc.L m) hb
          |mat k q es=>simp only[bT]at hf;subst hf;exact BR.step hc.I rfl (λ_ _=>rfl) (λm _=>hc.L m) hb
          |map ag es=>simp only[bT]at hf;subst hf;exact BR.step hc.I rfl (λ_ _=>rfl) (λm _=>hc.L m) hb
          |prow k i es cs0=>
           simp only[bT]at hf;obtain⟨ds,rfl,hd⟩:=hf;obtain⟨h0,h1,h3,h4,h5,b,m,vs,h6,h7,h8,h9,h10⟩:=hb;exact⟨h0,h1,h3,by rw[hd.length];exact h4,hd.one h5,b,m,vs,h6,h7,h8,h9,aZ.ok hc _ _ _ (aZ.prow hd) h10⟩
          |box cs0=>
           simp only[bT]at hf;obtain⟨ds,rfl,hd⟩:=hf;obtain⟨b,vs,h3,h4,h5,h6,h7⟩:=hb;exact⟨b,vs,h3,by rw[hd.length];exact h4,h5,aZ.ok hc _ _ _ hd h6,hd.one h7⟩,
         tm:=λi q hq=>by obtain⟨p,hp,hf⟩:=ht i q hq;exact⟨(h.tm i p hp).1,Frz.ok hc p q _ hf (h.tm i p hp).2⟩ }
def Wk.frz{n:Nat}{tm tm':List (Nat×PV)}{Z Z':List (Nat×Blk)}(hσ:gM Z Z')(ht:∀i q,get tm' i=some q->∃p,get tm i=some p/\Frz Z Z' p q):Wk ⟨n,tm,Z⟩ ⟨n,tm',Z'⟩:=λ_ _ _ ⟨β,h⟩=>⟨β,rA h hσ ht⟩
def idx:Nat->List PV->List (Nat×PV)
 |_,[]=>[]
 |i,p::ps=>(i,p)::idx (i+1) ps
def mc:∀(ps:List PV) (i j:Nat),get (idx i ps) j=if i<=j then ps[j-i]? else none
 |[],i,j=>by simp[idx,get]
 |p::ps,i,j=>by
  simp only[idx,get];by_cases h:i=j
  .subst h;simp
  rw[dJ h,aB,mc ps (i+1) j];by_cases h1:i+1<=j
  .rw [bB h1,bB O,show j-i=(j-(i+1))+1 by omega,List.getElem?_cons_succ]
  rw[bl h1,bl O]
def FnOk (P:Program) (f:FuncId):Prop:=∃fn c,P.funcs[f]? = some fn/\fn.body=some c/\(fn.name == "runtime.NumGoroutine")=false
def Cg(β:Nat->Option Nat)(w:World)(Z:List (Nat×Blk))(b:Nat):Prop:=∃l o,get Z l=some o/\aA β w l o b
def bR(β:Nat->Option Nat)(Z:List (Nat×Blk))(A:Nat->Prop)(w:World):Frm:=⟨w.heap.size,w,Cg β w Z,A,β,get Z⟩
def FnG(P:Program)(f:FuncId)(Z:List (Nat×Blk))(args:List PV)(Z':List (Nat×Blk))(res:PV):Prop:=
 FnOk P f/\∀(A:Nat->Prop) (β:Nat->Option Nat) (w:World) (vals:List Value),vals.length=args.length ->
  aF (bR β Z A w) β ⟨args.length,idx 0 args,Z⟩ ⟨vals.toArray,[]⟩ w ->
  Calls P f vals.toArray w λe w'=>∃v β',e = .returned v/\aF (bR β Z A w) β' ⟨1,[(0,res)],Z'⟩ ⟨#[v],[]⟩ w'
def Fn(P:Program)(f:FuncId)(args:List PV)(res:PV):Prop:=FnG P f [] args [] res
inductive RV where
 |t (t:Nat)
 |c (a t:Nat) (agg:Bool) (size:Nat)
def RV.to:RV->ResultVar
 |.t i =>.tmp i
 |.c a i _ _ =>.cell a i
def BX(st:St):RV->Option PV
 |.t t=>get st.tm t
 |.c a _ agg size=>
  match get st.tm a with
  |some (.bptr l q)=>
   match get st.Z l with
   |some (.box cs)=>cG agg size q cs
   |_=>none
  |_=>none
def Z28(st:St):List RV->Option (List PV)
 |[]=>some []
 |r::rs=>
  match BX st r,Z28 st rs with
  |some p,some ps=>some (p::ps)
  |_,_=>none
def nQ(Z Z':List (Nat×Blk))(ps:List PV)(res:PV):Prop:=
 match ps with
 |[p]=>Frz Z Z' p res
 |ps=>∃ds,res = .tup ds/\aZ Z Z' ps ds
def jk(rs:List RV)(Z':List (Nat×Blk))(res:PV)(st:St):Prop:=∃ps,Z28 st rs=some ps/\gM st.Z Z'/\nQ st.Z Z' ps res
def gY(rs:List RV)(Z':List (Nat×Blk))(res:PV):Exit->St->Prop
 |.normal,st|.ret,st=>jk rs Z' res st
 |_,_=>False
def Zaw{P:Program}{G:Frm}{β:Nat->Option Nat}{st:St}{a:Act}{w:World}(hr:aF G β st a w){r:RV}{p:PV}(hty:∀x t ag sz,r = .c x t ag sz->TyF P t ag sz)(hs:BX st r=some p)
 (g:ResultVar->Sem Value) (h1:∀t,g (.tmp t)=pure (a.tmps.getD t undef)) (h2:∀x t,g (.cell x t)=(do loadVar t (<- asAddr (a.tmps.getD x undef)))):∃v,(g r.to).run P w = .ok v w/\VR (ctx G β w st.Z) p v:=by
 cases r with
 |t t=>exact⟨_,by simp only[RV.to,h1,aS],(hr.tm t p hs).2⟩
 |c x t ag sz=>
  simp only[BX]at hs;split at hs
  .rename_i l q hx;split at hs
   .rename_i cs hg;have e1:=(hr.tm x _ hx).2;simp only[VR]at e1;obtain⟨b,hb,hv⟩:=e1.1 cs hg;obtain⟨b',vs,hb',hrow,hc,hvs,_⟩:=hr.blk l _ hg;have:b'=b:=by have:=hb'.symm.trans hb;simpa using this
    subst this;obtain⟨v,hrun,hpv⟩:=kQ (q:=0) (hty x t ag sz rfl) w hvs (λj v hj=>by rw[aK];exact hc j v hj) hs;rw[aK]at hrun;have hrun':(loadVar t ⟨b',q,none⟩).run P w = .ok v w:=by have:=hrun;simp only[Instr.loadAt,Instr.sureAddr]at this;simpa using this
    exact⟨v,by simp only[RV.to,h2,hv,asAddr,aN,aS,aO,hrun'],hpv⟩
   cases hs
  cases hs
def CL{P:Program}{fn:Func}{rs:List RV}(h:fn.results=(rs.map RV.to).toArray)(hty:∀x t ag sz,RV.c x t ag sz∈rs->TyF P t ag sz){G:Frm}{β:Nat->Option Nat}{st:St}{a:Act}{w:World}(hr:aF G β st a w){ps:List PV}(hs:Z28 st rs=some ps) :
 ∃vs,VRs (ctx G β w st.Z) ps vs/\(results fn a.tmps).run P w = .ok (match vs with|[v]=>v|vs =>.tuple vs.toArray) w:=by
 have hm:∀(g:ResultVar->Sem Value),(∀t,g (.tmp t)=pure (a.tmps.getD t undef))->(∀x t,g (.cell x t)=(do loadVar t (<- asAddr (a.tmps.getD x undef))))->∀(rs:List RV) (ps:List PV),(∀x t ag sz,RV.c x t ag sz∈rs->TyF P t ag sz)->Z28 st rs=some ps ->
  ∃vs,VRs (ctx G β w st.Z) ps vs/\((rs.map RV.to).mapM g).run P w = .ok vs w:=by
  intro g h1 h2 rs;induction rs with
  |nil=>intro ps _ hs;simp only[Z28,ao]at hs;subst hs;exact⟨[],by simp[VRs],rfl⟩
  |cons r rs ih=>
   intro ps hty hs;simp only[Z28]at hs;split at hs
   .rename_i p qs hp hq;cases hs;obtain⟨v,hv1,hv2⟩:=Zaw hr (λx t ag sz e=>hty x t ag sz (by rw[e];simp)) hp g h1 h2;obtain⟨vs,h3,h4⟩:=ih qs (λx t ag sz hm=>hty x t ag sz (cC _ hm)) hq;refine⟨v::vs,by simp only[VRs];exact⟨v,vs,rfl,hv2,h3⟩,?_⟩;simp only[cu,jZ,aN,hv1,aO,h4,aS]
   cases hs
 obtain⟨g,hg,g1,g2⟩:∃g:ResultVar->Sem Value,results fn a.tmps=(do
  let vs <- fn.results.mapM g
  pure (if h:vs.size=1 then vs[0]else .tuple vs))/\(∀t,g (.tmp t)=pure (a.tmps.getD t undef))/\(∀x t,g (.cell x t)=(do loadVar t (<- asAddr (a.tmps.getD x undef)))):=
  ⟨_,rfl,λ_=>rfl,λ_ _=>rfl⟩
 rw[hg,h,Array.mapM_eq_mapM_toList];obtain⟨vs,h1,h2⟩:=hm g g1 g2 rs ps hty hs;refine⟨vs,h1,?_⟩;simp only[bind_map_left,aN,h2,aO,aS]
 match vs with
 |[]=>rfl
 |[r]=>rfl
 |r::r'::rs=>simp
def FnG.of_pw {P:Program} {f:FuncId} {Z Z':List (Nat×Blk)} {args:List PV} {res:PV} {fn:Func} {c:Code} (hf:P.funcs[f]? = some fn) (hb:fn.body=some c) (hname:(fn.name == "runtime.NumGoroutine")=false)
 (n:Nat) (hn:fn.ntmps=n) (hna:args.length<=n) (rs:List RV) (hres:fn.results=(rs.map RV.to).toArray) (hty:∀x t ag sz,RV.c x t ag sz∈rs->TyF P t ag sz) (h:PW P c (gY rs Z' res) ⟨n,idx 0 args,Z⟩):FnG P f Z args Z' res:=by
 refine⟨⟨fn,c,hf,hb,hname⟩,λA β w vals hvl hr=>?_⟩;refine calls_of_wp hf hb ?_;have hr':aF (bR β Z A w) β ⟨n,idx 0 args,Z⟩ { tmps:=vals.toArray++Array.replicate (fn.ntmps-vals.toArray.size) undef,defers:=[] } w:=
  { defers:=rfl,sz:=by simp;omega,base:=hr.base,os:=hr.os,tape:=hr.tape,output:=hr.output,old:=hr.old,A:=hr.A,gl:=hr.gl,inj:=hr.inj,sep:=hr.sep,fix:=hr.fix,row0:=hr.row0,blk:=hr.blk,
    tm:=λi p hp=>by
     obtain⟨h1,h2⟩:=hr.tm i p hp;refine⟨by simp at h1⊢;omega,?_⟩;have hlt:i<vals.length:=by simp at h1;omega
     have:(vals.toArray++Array.replicate (fn.ntmps-vals.toArray.size) undef).getD i undef=vals.toArray.getD i undef:=by simp[jl,hlt]
     rw[this];exact h2 }
 refine wp_mono (h _ _ w ⟨β,hr'⟩) ?_;rintro e a' w' ⟨st',hq,β',hrel⟩;have key:jk rs Z' res st'->a'.defers=[]/\∃v,(results fn a'.tmps).run P w' = .ok v w'/\∃v0 β',Ending.returned v = .returned v0/\aF (bR β Z A w) β' ⟨1,[(0,res)],Z'⟩ ⟨#[v0],[]⟩ w':=by
  rintro⟨ps,hs,hσ,hres'⟩;obtain⟨vs,hv,hrun⟩:=CL hres hty hrel hs;refine⟨hrel.defers,_,hrun,_,β',rfl,?_⟩;have hc:=vl (n:=st'.n) (tm:=st'.tm) (Z:=st'.Z) hrel hσ;have hempty:=rA (n:=st'.n) (tm:=st'.tm) (Z:=st'.Z) (tm':=[]) hrel hσ (λi q hq=>by simp[get]at hq);refine { defers:=rfl,sz:=by simp,base:=hempty.base,os:=hempty.os,tape:=hempty.tape,output:=hempty.output,old:=hempty.old,A:=hempty.A,gl:=hempty.gl,inj:=hempty.inj,sep:=hempty.sep,fix:=hempty.fix,row0:=hempty.row0,blk:=hempty.blk,tm:=λi p hp=>?_ };simp only[get]at hp;cases hi:Nat.beq 0 i with
  |false=>simp[hi]at hp
  |true=>
   have:i=0:=((aW _ _).1 hi).symm;subst this;simp only[hi,aD,ao]at hp;subst hp;refine⟨by simp,?_⟩;rw[show ∀X:Value,(#[X]:Array Value).getD 0 undef=X from λ_=>rfl];unfold nQ at hres'
   match vs,ps,hv,hres' with
   |[v],[p],hv,hres'=>
    simp only[VRs]at hv;obtain⟨v',rest,he,hv,_⟩:=hv;cases he;exact Frz.ok hc p res _ hres' hv
   |[],[],hv,hres'=>
    obtain⟨ds,rfl,hd⟩:=hres';simp only[VR];exact⟨_,rfl,aZ.ok hc _ _ _ hd hv⟩
   |v::v2::vs,p::p2::ps,hv,hres'=>
    obtain⟨ds,rfl,hd⟩:=hres';simp only[VR];exact⟨_,rfl,aZ.ok hc _ _ _ hd hv⟩
   |[],_::_,hv,_=>have:=hv.length;simp at this
   |[_],[],hv,_=>have:=hv.length;simp at this
   |[_],_::_::_,hv,_=>have:=hv.length;simp at this
   |_::_::_,[],hv,_=>have:=hv.length;simp at this
   |_::_::_,[_],hv,_=>have:=hv.length;simp at this
 cases e<;>simp only[gY]at hq
 case normal=>exact key hq
 case ret=>exact key hq
def gM.nil(Z:List (Nat×Blk)):gM Z []:=λl o h=>by simp[PW.get]at h
def LP{G:Frm}{β:Nat->Option Nat}{st:St}{a:Act}{w w':World}(h:aF G β st a w)(hs:w.heap.size<=w'.heap.size)(hh:∀b,b<w.heap.size->w'.heap[b]?=w.heap[b]?)
 (hos:w'.os=w.os) (htp:w'.tape=w.tape) (hout:w'.output=w.output):aF G β st a w' /\
 (∀b,(ctx G β w st.Z).I b->(ctx G β w' st.Z).I b/\(ctx G β w' st.Z).w.heap[b]?=(ctx G β w st.Z).w.heap[b]?)/\(∀l,aX (ctx G β w st.Z) (ctx G β w' st.Z) l):=by
 have hO:∀l o,get st.Z l=some o->∀b,aA β w' l o b->aA β w l o b:=λl o hl b ho=>ho.of_heap (λb hb=>hh b (h.sep l o b hl (.inl hb)).1);have hI:∀b,(ctx G β w st.Z).I b->(ctx G β w' st.Z).I b/\(ctx G β w' st.Z).w.heap[b]?=(ctx G β w st.Z).w.heap[b]?:=λb hb=>⟨⟨dz hb.1 hs,hb.2.1,λl o hl ho=>hb.2.2 l o hl (hO l o hl b ho)⟩,hh b hb.1⟩;have hL:∀l,aX (ctx G β w st.Z) (ctx G β w' st.Z) l:=λl=>by
  cases hg:get st.Z l with
  |none=>exact aX.none hg
  |some o=>exact aX.same rfl rfl (λb hb=>hh b (h.sep l o b hg (.inl hb)).1)
 refine⟨?_,hI,hL⟩
 exact { defers:=h.defers,sz:=h.sz,base:=cQ h.base hs,os:=hos.trans h.os,tape:=htp.trans h.tape,output:=hout.trans h.output,
         old:=λb hb ho=>(hh b (dz hb h.base)).trans (h.old b hb ho),A:=h.A,gl:=h.gl,inj:=λl l' o o' b hl hl' hb hb'=>h.inj l l' o o' b hl hl' (hO l o hl b hb) (hO l' o' hl' b hb'),
         sep:=λl o b hl hb=>by have:=h.sep l o b hl (hO l o hl b hb);exact⟨dz this.1 hs,this.2⟩,fix:=h.fix,row0:=h.row0.step (λm _=>hL m),
         blk:=λl o hl=>BR.step hI rfl (λb hb=>hh b (h.sep l o b hl hb).1) (λm _=>hL m) (h.blk l o hl),
         tm:=λi p hp=>⟨(h.tm i p hp).1,VR.step hI p _ (λm _=>hL m) (h.tm i p hp).2⟩ }
mutual
def PV.free:PV->Bool
 |.t _=>true
 |.nils=>true
 |.vptr _=>true
 |.agg cs=>PV.frees cs
 |.tup cs=>PV.frees cs
 |.fn _ cs=>PV.frees cs
 |_=>false
def PV.frees:List PV->Bool
 |[]=>true
 |p::ps=>p.free&&PV.frees ps
end
mutual
def PV.free_has(l:Nat):∀(p:PV),p.free=true->p.has l=false
 |.t _,_=>rfl
 |.nils,_=>rfl
 |.vptr _,_=>rfl
 |.agg cs,h=>Av
 |.tup cs,h=>Av
 |.fn _ cs,h=>Av
 |.osl _ _,h=>kF
 |.bptr _ _,h=>kF
 |.rptr _ _ _ _,h=>kF
def PV.frees_has(l:Nat):∀(ps:List PV),PV.frees ps=true->PV.hasAny l ps=false
 |[],_=>rfl
 |p::ps,h=>by simp only[PV.frees,aM]at h;simp[PV.hasAny,PV.free_has l p h.1,PV.frees_has l ps h.2]
end
mutual
def PV.scal:PV->Bool
 |.t x=>x.scal
 |.agg cs=>PV.scals cs
 |.tup cs=>PV.scals cs
 |_=>false
def PV.scals:List PV->Bool
 |[]=>true
 |p::ps=>p.scal&&PV.scals ps
end
mutual
def VR.scal{c c':Ctx}:∀(p:PV) (v:Value),p.scal=true->VR c p v->VR c' p v
 |.t x,v,h,hv=>by
  simp only[VR]at hv⊢;cases x
  case sl es=>
   cases es with
   |nil=>
    simp only[Z6]at hv⊢;obtain⟨a,cap,hv,h1,h2,_⟩:=hv;exact⟨a,cap,hv,h1,h2,.inl trivial⟩
   |cons e es=>simp[PV.scal,U.scal]at h
  all_goals simpa[Z6]using hv
 |.agg cs,v,h,hv=>J1
 |.tup cs,v,h,hv=>J1
 |.nils,_,h,_=>m9
 |.osl _ _,_,h,_=>m9
 |.bptr _ _,_,h,_=>m9
 |.rptr _ _ _ _,_,h,_=>m9
 |.vptr _,_,h,_=>m9
 |.fn _ _,_,h,_=>m9
def VRs.scals{c c':Ctx}:∀(ps:List PV) (vs:List Value),PV.scals ps=true->VRs c ps vs->VRs c' ps vs
 |[],vs,_,h=>h
 |p::ps,vs,hs,h=>by simp only[PV.scals,aM]at hs;simp only[VRs]at h⊢;obtain⟨v,rest,rfl,hv,hr⟩:=h;exact⟨v,rest,rfl,VR.scal p v hs.1 hv,VRs.scals ps rest hs.2 hr⟩
end
section
variable {P:Program} {o:Oper} {ρ:List (Nat×PV)} {Z:List (Nat×Blk)}
def Zax{f:FuncId}{fo:Operand}{xs:Array Operand}{ats:Array TypeId}{cv:Array Value}(hok:FnOk P f)(ho:o.op = .call { callee :=.value fo,args:=xs,argTypes:=ats })(A:Act)(w:World)(hfo:A.eval fo = .func (.func f) #[] cv) :
 (execOp A.eval o).run P w = .ok (.enter f (xs.map A.eval++cv)) w:=by
 obtain⟨fn,c,hf,hb,hn⟩:=hok;simp[execOp,ho,resolve,hfo,Deferred.ofValue,invoke,callFunc,hf,hb];simpa using hn
def Zay{G:Frm}{β:Nat->Option Nat}{n:Nat}{tm:List (Nat×PV)}{Z':List (Nat×Blk)}{a:Act}{w:World}{f:FuncId}{fo:Operand}{caps:List PV}{xs:Array Operand}{ats:Array TypeId}(hr:aF G β ⟨n,tm,Z'⟩ a w)
 (ho:o.op = .call { callee :=.value fo,args:=xs,argTypes:=ats }) (hfo:af ρ fo=some (.fn f caps)) (hag:∀t q,Operand.tmp t∈o.op.operands->PW.get ρ t=some q->PW.get tm t=some q):∃vs,a.eval fo = .func (.func f) #[] vs.toArray/\VRs (ctx G β w Z') caps vs:=by
 have hv:=gC hr hfo (λt r ht hr'=>hag t r (by subst ht;simp[ho,Op.operands,Call.operands]) hr');simp only[VR]at hv;exact hv
def Zaz{fo:Operand}{xs:Array Operand}{ats:Array TypeId}(ho:o.op = .call { callee :=.value fo,args:=xs,argTypes:=ats }){x:Operand}(hx:x∈xs.toList):x∈o.op.operands:=by simp only[ho,Op.operands,Call.operands];exact Array.mem_append.2 (.inr ow)
def LQ{c:Ctx}(f:Operand->Value):∀{xs:List Operand} {ps:List PV},xs.mapM (af ρ)=some ps->(∀x q,x∈xs->af ρ x=some q->VR c q (f x))->VRs c ps (xs.map f)
 |[],ps,h,_=>by simp at h;subst h;simp[VRs]
 |x::xs,ps,h,hall=>by rw[jZ]at h;simp only[bind,c9,pure,ao]at h;obtain⟨q,hq,qs,hqs,rfl⟩:=h;simp only[cu,VRs];exact⟨_,_,rfl,hall x q aj hq,LQ f hqs (λy r hy=>hall y r (cC _ hy))⟩
def VRs.app{c:Ctx}:∀{ps qs:List PV} {vs us:List Value},VRs c ps vs->VRs c qs us->VRs c (ps++qs) (vs++us)
 |[],qs,vs,us,h,k=>by simp only[VRs]at h;subst h;exact k
 |p::ps,qs,vs,us,h,k=>by simp only[VRs]at h;obtain⟨v,rest,rfl,hv,hr⟩:=h;simp only[eP,VRs];exact⟨v,_,rfl,hv,VRs.app hr k⟩
def Z8j{f:FuncId}{fo:Operand}{caps ps:List PV}{xs:Array Operand}{ats:Array TypeId}(ho:o.op = .call { callee :=.value fo,args:=xs,argTypes:=ats })(hfo:af ρ fo=some (.fn f caps))(hps:(xs.toList.mapM (af ρ)).map (· ++ caps)=some ps)
 {G:Frm} {β:Nat->Option Nat} {n:Nat} {tm:List (Nat×PV)} {Z':List (Nat×Blk)} {a:Act} {w:World} (hr:aF G β ⟨n,tm,Z'⟩ a w) (hag:∀t q,Operand.tmp t∈o.op.operands->PW.get ρ t=some q->PW.get tm t=some q) :
 ∃vals,VRs (ctx G β w Z') ps vals/\(FnOk P f->(execOp a.eval o).run P w = .ok (.enter f vals.toArray) w):=by
 obtain⟨vs,hev,hcv⟩:=Zay hr ho hfo hag;simp only[ca]at hps;obtain⟨ps0,hps,rfl⟩:=hps;have hv:=LQ (c:=ctx G β w Z') a.eval hps (λx q hx hq=>gC hr hq (λt r ht hr'=>hag t r (ht▸Zaz ho hx) hr'));refine⟨xs.toList.map a.eval++vs,hv.app hcv,λhok=>?_⟩;rw[Zax hok ho a w hev];simp
def AV{f:FuncId}{qs:List PV}{res:PV}(hfn:Fn P f qs res){w:World}{vals:List Value}(A:Nat->Prop)(hA:∀b,A b->b<w.heap.size)(hgA:∀g k,(g,k)∈gset->A g)(hgl:oh w)(hv:VRs ⟨λ_=>none,A,w,[]⟩ qs vals) :
 Calls P f vals.toArray w λe w'=>∃v,e = .returned v/\VR ⟨λ_=>none,λb=>b<w'.heap.size/\(w.heap.size<=b\/A b),w',[]⟩ res v/\w.heap.size<=w'.heap.size/\(∀b,b<w.heap.size->w'.heap[b]?=w.heap[b]?) /\
  w'.os=w.os/\w'.tape=w.tape/\w'.output=w.output:=by
 have hlen:=hv.length;refine(hfn.2 A (λ_=>none) w vals hlen ?_).mono ?_
 .refine { defers:=rfl,sz:=by simp[hlen],base:=bh _,os:=rfl,tape:=rfl,output:=rfl,old:=λ_ _ _=>rfl,A:=λb hb=>⟨hA b hb,λ⟨l,o,h,_⟩=>by simp[get]at h⟩,gl:=λg k hg=>⟨(hgl g k hg).1,λ⟨l,o,h,_⟩=>by simp[get]at h,hgA g k hg,(hgl g k hg).2⟩,inj:=λl _ o _ _ h=>by simp[get]at h,
           sep:=λl o _ h=>by simp[get]at h,fix:=λl _ _ h=>by simp[get]at h,row0:=λl _ _ _ h=>by simp[get]at h,blk:=λl o h=>by simp[get]at h,tm:=λi p hp=>?_ }
  rw[mc]at hp;simp only[gS,dk,Nat.sub_zero]at hp;obtain⟨v,hv1,hv2⟩:=hv.get i p hp;refine⟨(bj.1 hp).1,?_⟩;simp only[Array.getD_eq_getD_getElem?,ra,hv1,gi];exact VR.step (c:=⟨λ_=>none,A,w,[]⟩) (c':=ctx (bR (λ_=>none) [] A w) (λ_=>none) w []) (λb hb=>⟨⟨hA b hb,.inr (.inl hb),λl o h=>by simp[get]at h⟩,rfl⟩) p v (λl _=>aX.none rfl) hv2
 rintro e w' ⟨v,β',he,hr⟩;have hv:=(hr.tm 0 res mF).2;refine⟨v,he,?_,hr.base,λb hb=>hr.old b hb (λ⟨l,o,h,_⟩=>by simp[get]at h),hr.os,hr.tape,hr.output⟩;refine VR.step (c:=ctx (bR (λ_=>none) [] A w) β' w' []) (c':=⟨λ_=>none,λb=>b<w'.heap.size/\(w.heap.size<=b\/A b),w',[]⟩) (λb hb=>⟨⟨hb.1,?_⟩,rfl⟩) res v (λl _=>aX.none rfl) (by simpa using hv);rcases hb.2.1 with h|h|h
 .exact .inl h
 .exact .inr h
 obtain⟨l,o,h,_⟩:=h;simp[get]at h
def ZT{f:FuncId}{fo:Operand}{xs:Array Operand}{ats:Array TypeId}{caps ps qs:List PV}{res:PV}{need:List Nat}(hfn:Fn P f qs res)(ho:o.op = .call { callee :=.value fo,args:=xs,argTypes:=ats })(hfo:af ρ fo=some (.fn f caps))
 (hps:(xs.toList.mapM (af ρ)).map (· ++ caps)=some ps) (hfz:aZ Z [] ps qs) (hneed:∀m,PV.hasAny m ps=true->m∈need) (hs:res.scal=true):aQ P o ρ Z need res []:=by
 intro G n tm Z' a w K Q hag hnd _ hr hK;obtain⟨β,hr⟩:=hr;obtain⟨vals,hv,hrun⟩:=Z8j (P:=P) ho hfo hps hr hag;have hfz':aZ Z' [] ps qs:=aZ.need ps qs (λm hm=>hnd m (hneed m hm)) hfz;have hv2:VRs ⟨λ_=>none,λb=>b<w.heap.size,w,[]⟩ qs vals:=by refine aZ.ok (c:=ctx G β w Z') (c':=⟨λ_=>none,λb=>b<w.heap.size,w,[]⟩) ⟨λb hb=>⟨hb.1,rfl⟩,λl=>aX.none rfl,λl o hg=>hr.blk l _ hg,λl o b hg _ hb=>⟨(hr.sep l o b hg hb).1,rfl⟩⟩ ps qs _ hfz' hv
 have hcall:=AV hfn (λb=>b<w.heap.size) (λb hb=>hb) (λg k hg=>(hr.glw g k hg).1) hr.glw hv2;unfold Oper.wp;rw[hrun hfn.1,s4];refine hcall.mono ?_;rintro e w' ⟨v,rfl,hres,hsz,hh,h1,h2,h3⟩;obtain⟨hr',_,_⟩:=LP hr hsz hh h1 h2 h3;exact hK v w' ⟨β,hr',VR.scal res v hs hres⟩
def ZS{f:FuncId}{fo:Operand}{xs:Array Operand}{ats:Array TypeId}{caps ps qs:List PV}{res:PV}(hfn:Fn P f qs res)(ho:o.op = .call { callee :=.value fo,args:=xs,argTypes:=ats })(hfo:af ρ fo=some (.fn f caps))
 (hps:(xs.toList.mapM (af ρ)).map (· ++ caps)=some ps) (hfz:aZ [] [] ps qs) (hfree:res.free=true):aQ P o ρ Z [] res []:=by
 intro G n tm Z' a w K Q hag _ _ hr hK;obtain⟨β,hr⟩:=hr;obtain⟨vals,hv,hrun⟩:=Z8j (P:=P) ho hfo hps hr hag;have hv1:VRs ⟨λ_=>none,(ctx G β w Z').I,w,[]⟩ ps vals:=VRs.step (c:=ctx G β w Z') (c':=⟨λ_=>none,(ctx G β w Z').I,w,[]⟩) (λb hb=>⟨hb,rfl⟩) _ _ (λl _=>aX.none rfl) hv;have hv2:VRs ⟨λ_=>none,(ctx G β w Z').I,w,[]⟩ qs vals:=aZ.ok (c:=⟨λ_=>none,(ctx G β w Z').I,w,[]⟩) (c':=⟨λ_=>none,(ctx G β w Z').I,w,[]⟩) ⟨λb hb=>⟨hb,rfl⟩,λl=>aX.none rfl,λl o hg=>by simp[get]at hg,λl o b hg=>by simp[get]at hg⟩ ps qs _ hfz hv1;have hcall:=AV hfn (ctx G β w Z').I (λb hb=>hb.1) (λg k hg=>hr.glI hg) hr.glw hv2;unfold Oper.wp;rw[hrun hfn.1,s4];refine hcall.mono ?_;rintro e w' ⟨v,rfl,hres,hsz,hh,h1,h2,h3⟩;obtain⟨hr',hI,_⟩:=LP hr hsz hh h1 h2 h3;refine hK v w' ⟨β,hr',VR.step (c:=⟨λ_=>none,λb=>b<w'.heap.size/\(w.heap.size<=b\/(ctx G β w Z').I b),w',[]⟩) (c':=ctx G β w' Z') (λb hb=>⟨?_,rfl⟩) res v (λl hl=>?_) hres⟩
 .rcases hb.2 with h|h
  .exact⟨hb.1,.inl (cQ hr.base h),λl o hl hb'=>by have:=(hr.sep l o b hl (hb'.of_heap (λb hb=>hh b (hr.sep l o b hl (.inl hb)).1))).1;omega⟩
  exact(hI b h).1
 rw[PV.free_has l res hfree]at hl;cases hl
end
end Go.PW
