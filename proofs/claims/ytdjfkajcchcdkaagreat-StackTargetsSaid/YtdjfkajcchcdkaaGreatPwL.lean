import Derived.Orders
import Derived.Tactics
import Derived.Deep.MidRow
import Derived.Deep.AppendSrc
import Derived.Great.BuildSlice
import Derived.Below
import Derived.Scope
import Derived.Laws.StructEq
import Derived.ChangeKeysEq
import Derived.Laws.MakeOwn
set_option linter.all false
namespace Go.PW
section
variable{p:Prop}
def aK(h:p:=by simp[ho,Op.operands]):=h
def ar(h:p:=by kernel_rfl):=h
def c7(h:p:=by have:=hb'.symm.trans hb;simpa using this):=h
def aZ(h:p:=by simp;omega):=h
def aS(h:p:=by decide):=h
def fc(h:p:=by simp[ho,Op.operands,Call.operands]):=h
def xm(h:p:=by simp only[VR,PV.ren]at h⊢;obtain⟨vs,hv,hvs⟩:=h;exact⟨vs,hv,VRs.ren hI cs vs (by simpa[PV.sc]using hs) (λl h=>hl l (by simpa[PV.has]using h)) hvs⟩):=h
def B6(h:p:=by simp only[Frz]at hf;obtain⟨ds,rfl,hd⟩:=hf;simp only[VR]at hv⊢;obtain⟨vs,hv,hs⟩:=hv;exact⟨vs,hv,aX.ok h cs ds vs hd hs⟩):=h
def dI(h:p:=by exact sm):=h
def B7(h:p:=by simp only[VR]at h⊢;obtain⟨vs,hv,hs⟩:=h;exact⟨vs,hv,VRs.step hI cs vs (λl h=>hl l (by simpa[PV.has]using h)) hs⟩):=h
def B8(h:p:=by simp only[Frz]at h⊢;obtain⟨ds,h1,h2⟩:=h;exact⟨ds,h1,aX.need cs ds (λm hh=>hm m (by simpa[PV.has]using hh)) h2⟩):=h
def gn(h:p:=by simp[PV.has]):=h
def lF(h:p:=by simp only[iz,Frz];exact .inl trivial):=h
def gO(h:p:=by simp[ctx,PW.get]):=h
def di(h:p:=by cases h):=h
def dq(h:p:=by grind):=h
def AV(h:p:=by simp only[VR]at h⊢;obtain⟨vs,hv,hs⟩:=h;exact⟨vs,hv,VRs.stepM hI hL hM cs vs hm hs⟩):=h
def kV(h:p:=by simpa[ren,b7,hm]using e3):=h
def jI(h:p:=by rw[eh3_1];assumption):=h
def iI(h:p:=by simpa using hj):=h
def B9(h:p:=by simp only[eb];rw[Ca cs (λm hm=>h m (by simpa[PV.has,PV.deep]using hm))]):=h
def Cb(h:p:=by have:=ia hm hT n (some _) _ _ _ _ h hc hg;simpa only[post]using this):=h
def Cc(h:p:=by simp only[PV.has];exact PV.frees_has l cs (by simpa[PV.free]using h)):=h
def Cd(h:p:=by simp only[Instr.slice,aN,cy hu,aO,hbounds,Ce hsz,aT]):=h
def wi(h:p:=by simp only[PV.has,aU]at h;subst h;simp[Z19]):=h
def xi(h:p:=by simp only[PV.ren];rw[PV.rens_free cs (by simpa[PV.free]using h)]):=h
def qL(h:p:=by simpa[ho,Op.operands]using hx):=h
def zF(h:p:=by simp only[iz,Frz]at h⊢;exact⟨_,rfl,Z0w hg h0 cs h⟩):=h
def Cf(h:p:=by simp only[wj];exact wk cs (by simpa[PV.deep]using h)):=h
def Sp(h:p:=by simp only[VR]at hv⊢;obtain⟨vs,hv,hs⟩:=hv;exact⟨vs,hv,VRs.scals cs vs (by simpa[PV.scal]using h) hs⟩):=h
def Cg(h:p:=by simp only[Z19];exact kM cs (by simpa[PV.has]using h)):=h
def kS(h:p:=by simp[PV.free]at h):=h
def se(h:p:=by simp only[maxLen];omega):=h
def vE(h:p:=by have:=hE.info;simpa[hi]using this):=h
def zH(h:p:=by simp only[vbx,Frz];exact⟨_,rfl,Z6v hg h0 cs⟩):=h
def Sq(h:p:=by intro r hr;simp only[execOp,ho,resolve,invoke,builtin,aN,aT,aO,nJ,cw,fI,hv,hr]):=h
def AZ(h:p:=by simp only[execOp,ho,hv,aN,hrun,aO,aT]):=h
def sf(h:p:=by rw[hexec _ hrun];rfl):=h
def lg(h:p:=by simpa using hk):=h
def Ch(h:p:=by simp only[Frz];exact⟨cs,rfl,aX.refl cs⟩):=h
def nT(h:p:=by rw[hs];exact hq):=h
def od(h:p:=by simp[PV.scal]at h):=h
def oe(h:p:=by simp[PV.deep]at h):=h
def oS(h:p:=by rw[dm,bw _ _ O,aP rfl]):=h
def wm(h:p:=by simpa only[aM]using h6):=h
def nz(h:p:=by simpa using hl):=h
def sg(h:p:=by rw[hik.1];exact hs):=h
def sh(h:p:=by rw[h.cσ];exact hg):=h
def jb(h:p:=by simp at h):=h
def Kx(h:p:=by have:=Zfp (by assumption:Z4u _ v8 _) dh3;have:=(by assumption:SmT _).2.2.1;omega):=h
def qI(h:p:=by simp[ByteArray.size]):=h
def vr(h:p:=by rw[<- hgo q hql];exact hq):=h
def vG(h:p:=by rw[<- hgo m hml];exact hm):=h
def AU(h:p:=by rw[<- (aU _ _).1 hq];exact uN hm):=h
def Sr(h:p:=by obtain⟨i,h1,h2⟩:=cA.1 h;have:=(hT _ _ h1).k;rw[h2]at this;exact this):=h
def Ee(h:p:=by unfold c6;rw[av,hl,List.drop_zero,fC (by rw[hl];exact aW _)];rfl):=h
def Ss(h:p:=by have:=(iD (c:=ctx G β w Z) hz).length;rw[hE.len]at this;simpa using this):=h
def vq(h:p:=by rw[eV];exact aW _):=h
def vk(h:p:=by rw[<- hE.1];exact hq):=h
def qn(h:p:=by simpa using hx):=h
def qN(h:p:=by simpa using hu):=h
def ri(h:p:=by simpa using he):=h
def wo(h:p:=by simp[Program.elem,hu]):=h
def AY(h:p:=by rw[hneed l al];exact hg0):=h
def Su(h:p:=by simp only[cQ,aq,bG]at h;simp only[Frz];exact h.2.symm):=h
def tl(h:p:=by rw[hcells.length,hs]):=h
def sO(h:p:=by simp[PV.hasAny,h]):=h
def wq(h:p:=by rw[hel'];exact hu):=h
def A9(h:p:=by rw[hvs.length,da,jl hkl]):=h
def vD(h:p:=by rw[Z9n];exact hv):=h
def Sv(h:p:=by rw[Ca ps (λm hm=>hnd m (hneed m (.inr hm)))];exact hq):=h
def xR(h:p:=by unfold Region.wanted;rw[h3]):=h
def mC(h:p:=by simp[Frz]):=h
def Sw(h:p:=by simp only[Z2n]at h;simp only[post,Z6x];exact Z2o h hp):=h
def ql(h:p:=by simp[vbx,Frz]):=h
def qj(h:p:=by simp[iz,Frz]):=h
def tG(h:p:=by subst_vars;rfl):=h
def wb(h:p:=by simpa using hy):=h
def uH(h:p:=by simpa using hq):=h
def Ci(h:p:=by simp only[eb];rw[Z2h cs]):=h
def BZ(h:p:=by rw[hrd];exact vx ..):=h
def KU(h:p:=by first|assumption|exact(by assumption:SmT _).1):=h
def nL(h:p:=by simp[get]):=h
def MX(h:p:=by rw[hpre j O];rw[jP,aP hji]at h1;exact h1):=h
def u3(h:p:=by rw[dQ,eP]):=h
def Sx(h:p:=by simp[Instr.sliceBounds,run_sliceBound,h0,h1]):=h
def Sy(h:p:=by rw[show i+(j-i-1)+1=j by omega];exact hy):=h
def AO(h:p:=by rw[e];exact .inl hb):=h
def D9(h:p:=by simp only[execOp,h,hx,aN,hr,aO,aT]):=h
def MR(h:p:=by simp only[VR,VRs];exact⟨[],rfl,rfl⟩):=h
def EV(h:p:=by first|omega|(unfold minI;split<;>omega)):=h
def Cj(h:p:=by simpa using hnewsl):=h
def Sz(h:p:=by rw[hik.2];exact growslice_fits hgt hby):=h
def MQ(h:p:=by have:=hb'.symm.trans hb1;simpa using this):=h
def Mw(h:p:=by have:=hb0.symm.trans hb;simpa using this):=h
def Is(h:p:=by first|omega|(simp only[cg];omega)):=h
def Sc(h:p:=by rw[<- hpre j (hLm j hLj)];exact hoj):=h
def M0(h:p:=by have:=(aJ.1 hv).1;simp at this;omega):=h
def Ec(h:p:=by rw[dm,bw _ _ O,aP rfl,dm,h3]):=h
def K1(h:p:=by rw[<- hg];exact hneed l al):=h
def Sl(h:p:=by refine eU ?_;show(nU c 5).den=_;rfl):=h
def SB(h:p:=by unfold SD lt6;dsimp only;omega):=h
def SF(h:p:=by unfold SG lt6;dsimp only;omega):=h
def SH(h:p:=by unfold SI lt6;dsimp only;omega):=h
def GC(h:p:=by unfold GB lt6;dsimp only;omega):=h
def SJ(h:p:=by unfold SK lt6;dsimp only;omega):=h
def SL(h:p:=by unfold SM lt6;dsimp only;omega):=h
def SN(h:p:=by unfold SO lt6;dsimp only;omega):=h
def SP(h:p:=by unfold SQ lt6;dsimp only;omega):=h
def SR(h:p:=by unfold SS lt6;dsimp only;omega):=h
def SU(h:p:=by unfold SV lt6;dsimp only;omega):=h
def SW(h:p:=by unfold SX lt6;dsimp only;omega):=h
def SY(h:p:=by unfold SZ lt6;dsimp only;omega):=h
def K2(h:p:=by simp only[VRs]at h;subst h;simp[VRs]):=h
def M8(h:p:=by rw[hs,hkl e (cj he)];exact hq):=h
def xS(h:p:=by rw[h1];exact hd):=h
def S0(h:p:=by have:=Z3s (Z8q h hs hx hi).2.2;omega):=h
def FM(h:p:=by unfold FJ lt6;dsimp only;omega):=h
def Fp(h:p:=by unfold Fl lt6;dsimp only;omega):=h
def Fj(h:p:=by unfold Fg lt6;dsimp only;omega):=h
def S1(h:p:=by unfold S2 lt6;dsimp only;omega):=h
def S3(h:p:=by unfold S4 lt6;dsimp only;omega):=h
def S5(h:p:=by unfold S6 lt6;dsimp only;omega):=h
def KT(h:p:=by unfold KM lt6;dsimp only;omega):=h
def KF(h:p:=by unfold KD lt6;dsimp only;omega):=h
def JN(h:p:=by unfold JM lt6;dsimp only;omega):=h
def FI(h:p:=by unfold FH lt6;dsimp only;omega):=h
def S7(h:p:=by unfold S8 lt6;dsimp only;omega):=h
def Ko(h:p:=by unfold uV lt6;dsimp only;omega):=h
def JK(h:p:=by unfold Z9e lt6;dsimp only;omega):=h
def S9(h:p:=by unfold Z8z lt6;dsimp only;omega):=h
def Ta(h:p:=by unfold Z8y lt6;dsimp only;omega):=h
def Tb(h:p:=by unfold Z8x lt6;dsimp only;omega):=h
def Tc(h:p:=by unfold Z8v lt6;dsimp only;omega):=h
def Td(h:p:=by unfold Z8r lt6;dsimp only;omega):=h
def ES(h:p:=by unfold Z84 lt6;dsimp only;omega):=h
def Te(h:p:=by unfold Z83 lt6;dsimp only;omega):=h
def Tf(h:p:=by unfold Z82 lt6;dsimp only;omega):=h
def Tg(h:p:=by unfold Z80 lt6;dsimp only;omega):=h
def Th(h:p:=by unfold Z5m lt6;dsimp only;omega):=h
def Ti(h:p:=by unfold Z46 lt6;dsimp only;omega):=h
def Tj(h:p:=by unfold Z3t lt6;dsimp only;omega):=h
def F2(h:p:=by unfold Z1y lt6;dsimp only;omega):=h
def Fb(h:p:=by unfold Z1v lt6;dsimp only;omega):=h
def Tk(h:p:=by unfold Z1t lt6;dsimp only;omega):=h
def Tl(h:p:=by unfold Z1s lt6;dsimp only;omega):=h
def Tm(h:p:=by unfold Z1r lt6;dsimp only;omega):=h
def HV(h:p:=by unfold Z11 lt6;dsimp only;omega):=h
def AK(h:p:=by simpa using h1):=h
def Ck(h:p:=by rw[wt hq];rfl):=h
def tk(h:p:=by simp[hsz]):=h
def MY(h:p:=by rw[jP,aP hji]at h2;exact h2):=h
def Ml(h:p:=by have:=h.2.1;have:=h.2.2.1;omega):=h
def AT(h:p:=by simpa using hi):=h
def AL(h:p:=by simpa using h2):=h
def Tp(h:p:=by simp only[post,Z6x];exact wu h):=h
def M7(h:p:=by rw[hcells.length];simpa using hs):=h
def M4(h:p:=by rw[hul,hvs.length];exact hq):=h
def al(h:p:=by simp):=h
def bg(h:p:=by omega):=h
def tj(h:p:=by rw[dm,bw _ _ aZ,aP rfl]):=h
def si(h:p:=by rw[h]at hg;cases hg):=h
def wv(h:p:=by first|assumption|grind):=h
def Ed(h:p:=by rw[dm,bw _ _ aZ,aI aS,bw _ _ aZ,aP rfl]):=h
def K0(h:p:=by unfold jf at h;split at h<;>cases h<;>rfl):=h
def Kv(h:p:=by first|assumption|(subst_vars;rfl)):=h
def Ei(h:p:=by rw[dm,bw _ _ O,aI aS,h5]):=h
def AC(h:p:=by rw[hp];decide):=h
def Eh(h:p:=by rw[bw _ _ aZ,aP rfl]):=h
def Mx(h:p:=by intro h;cases h;exact h4 rfl):=h
def wx(h:p:=by simp only[VR]at h⊢;exact⟨h.1.step (hl l gn),h.2⟩):=h
def iK(h:p:=by simp only[eb]):=h
def iS(h:p:=by simpa using h):=h
def lE(h:p:=by simp at hl):=h
def Tq(h:p:=by rcases hm with hm|hm<;>simp[PV.hasAny,PV.deeps,hm]):=h
def AW(h:p:=by subst e;simp at hb):=h
def Cm(h:p:=by simp[PV.has]at h):=h
def wy(h:p:=by simpa using hlt):=h
def Tr(h:p:=by simp only[eb];rw[h l (.inl gn)]):=h
end
def aa:=trivial
def aq:=@Option.some.injEq
def au:=@cond_false
def av:=@cond_true
def aP:=@if_pos
def aI:=@if_neg
def aN:=@Go.Sem.run_bind
def aO:=@Go.Result.andThen_ok
def aM:=@Nat.zero_add
def aJ:=@List.getElem?_eq_some_iff
def aL:=@Bool.and_eq_true
def aT:=@Go.Sem.run_pure
def aW:=@Nat.le_refl
def bn:=@List.getElem?_eq_getElem
def bp:=@Option.bind_some
def bB:=@decide_eq_true
def bG:=@Prod.mk.injEq
def bF:=@List.length_append
def bO:=@decide_eq_false
def bP:=@Eq.trans
def bQ:=@Eq.symm
def bT:=@List.length_cons
def bU:=@List.all_eq_true
def cg:=@List.length_nil
def cj:=@List.mem_of_getElem?
def cy:=@Go.run_underlying
def cw:=@List.map_cons
def cn:=@List.mem_cons
def cA:=@Option.map_eq_some_iff
def cC:=@List.append_nil
def cD:=@List.mem_append
def cK:=@List.mem_cons_of_mem
def cX:=@Nat.le_trans
def da:=@List.length_map
def cZ:=@Nat.add_zero
def c9:=@Option.some.inj
def de:=@Ne.symm
def df:=@Nat.mul_one
def dQ:=@Nat.add_mul
def du:=@List.eq_nil_of_length_eq_zero
def dv:=@Bool.not_eq_true'
def dw:=@congrArg
def dy:=@List.getElem?_append_left
def dC:=@Option.bind_eq_some_iff
def dK:=@if_true
def dL:=@Nat.lt_of_lt_of_le
def dU:=@List.getElem?_append_right
def dW:=@Option.map_some
def dY:=@Nat.lt_or_ge
def eP:=@Nat.one_mul
def eI:=@decide_eq_true_eq
def eL:=@List.map_append
def eR:=@List.cons_append
def eY:=@dif_pos
def fb:=@Bool.false_eq_true
def fC:=@List.take_of_length_le
def fj:=@Go.World.cell?_of_block
def gE:=@of_decide_eq_true
def fI:=@List.map_nil
def fm:=@List.map_eq_nil_iff
def fy:=@if_false
def fE:=@Bool.true_and
def fF:=@Bool.not_false
def fH:=@List.length_take
def fW:=@Nat.zero_le
def fX:=@List.getElem?_map
def gj:=@Nat.mul_le_mul_right
def gq:=@List.length_set
def gv:=@Go.World.cell?_setCells_out
def gy:=@List.mem_filter
def gC:=@List.mem_singleton
def gD:=@Option.getD_some
def gF:=@Nat.blt_eq
def gG:=@Bool.not_true
def gI:=@List.append_assoc
def gJ:=@List.mem_map
def gQ:=@List.drop_drop
def gS:=@Go.Addr.add_mid
def gT:=@List.flatten_cons
def gX:=@Bool.or_eq_true
def ir:=@List.drop_eq_nil_of_le
def iw:=@List.mem_of_mem_take
def iG:=@List.getElem?_set_ne
def jP:=@List.getElem?_take
def iT:=@List.nil_append
def iU:=@Go.World.cell?_alloc_new
def iV:=@Array.length_toList
def ji:=@Go.World.cell?_setCells_in
def jk:=@List.length_drop
def jr:=@List.all_cons
def js:=@List.getElem?_cons_zero
def jw:=@and_true
def jz:=@Array.getElem?_append_left
def jM:=@Go.MapKept.run_getObj_map
def jN:=@beq_eq_false_iff_ne
def j2:=@List.getElem?_drop
def j3:=@List.filter_append
def j4:=@List.filter_cons
def j6:=@Go.heap_alloc_new
def j7:=@List.take_append_drop
def ko:=@List.mem_of_mem_drop
def kx:=@List.mapM_cons
def kE:=@Go.MapKept.run_checkKey
def kF:=@Go.MapKept.run_findKey
def kG:=@List.getElem?_set_self
def kW:=@Bool.false_or
def kX:=@Bool.eq_iff_iff
def kY:=@List.mem_range
def kZ:=@List.getElem_mem
def k9:=@ge_iff_le
def la:=@Bool.decide_and
def lf:=@List.take_add_one
def lh:=@List.getElem_of_mem
def lJ:=@Bool.and_assoc
def nJ:=@List.map_toArray
def lM:=@List.getElem?_eq_none
def lV:=@List.mem_or_eq_of_mem_set
def l9:=@Nat.add_assoc
def mT:=@Int.not_lt
def ny:=@List.map_take
def nA:=@beq_iff_eq
def nO:=@Option.map_none
def nP:=@Nat.zero_lt_one
def vx:=@List.mem_cons_self
def nS:=@false_or
def oh:=@List.flatten_append
def oE:=@List.drop_eq_getElem_cons
def oF:=@Int.not_le
def oL:=@decide_eq_false_iff_not
def oM:=@gt_iff_lt
def oO:=@Int.toNat_of_nonneg
def oR:=@List.getElem?_range
def oZ:=@List.not_mem_nil
def pa:=@Array.getElem?_eq_some_iff
def qg:=@List.map_drop
def qh:=@List.map_set
def qJ:=@Array.toList_map
def qK:=@List.drop_succ_cons
def qP:=@Nat.mod_eq_of_lt
def qV:=@List.filter_eq_self
def ra:=@Int.emod_eq_of_lt
def rf:=@List.any_eq_true
def rk:=@List.length_replicate
def sj:=@Go.grownCap_ge
def sk:=@Go.grownCap_le_maxLen
def sn:=@Array.size_append
def so:=@List.size_toArray
def sq:=@Go.size_zeroCells
def ss:=@Int.le_refl
def sw:=@List.countP_cons
def sx:=@List.countP_append
def sR:=@List.getElem?_toArray
def sW:=@decide_eq_decide
def s9:=@Bool.true_or
def ta:=@Option.toList_some
def tb:=@Nat.min_eq_left
def tc:=@List.filter_nil
def tf:=@Option.isNone_iff_eq_none
def tu:=@Option.isSome_iff_exists
def uI:=@List.take_append_of_le_length
def uL:=@List.set_cons_succ
def uZ:=@List.take_succ_cons
def u0:=@List.take_append
def u1:=@List.drop_append
def u5:=@Nat.zero_mul
def vj:=@Go.Oper.upon_skip
def vl:=@Go.MapKept.run_setObj_map
def vm:=@Array.getElem?_toList
def vo:=@Nat.le_mul_of_pos_right
def vu:=@Go.Oper.upon_enter
def vy:=@Bool.true_eq_false
def vA:=@Nat.le_of_lt
def vB:=@Decidable.byContradiction
def vC:=@Option.isSome_none
def vF:=@List.eq_of_mem_replicate
def wa:=@Go.getD_set_ne
def wc:=@Bool.false_and
def wz:=@Nat.testBit_succ
def wC:=@List.pairwise_iff_getElem
def O{p:Prop}(h:p:=by omega):=h
def V{p:Prop}(h:p:=by assumption):=h
open Go.RowKit
inductive U where
 |bool (b:Bool)
 |int (k:IntKind) (n:Int)
 |str (s:List UInt8)
 |con (v:Value)
 |sl (es:List (List U))
 deriving Inhabited
def U.scal:U->Bool
 |.sl es=>es.isEmpty
 |_=>true
mutual
def Z9(I:Nat->Prop)(w:World):U->Value->Prop
 |.bool b,v=>v = .bool b
 |.int k n,v=>v = .int k n
 |.str s,v=>v = .string ⟨s.toArray⟩
 |.con c,v=>v=c/\c.oneCell'=true
 |.sl es,v=>∃a cap,v = .slice a es.length cap/\es.length<=cap/\cap<=maxLen /\
  (es=[]\/∃b off,a=some ⟨b,off,none⟩/\I b/\ao I w b es off)
def ao(I:Nat->Prop)(w:World)(b:Nat):List (List U)->Nat->Prop
 |[],_=>True
 |e::es,off=>Z6 I w b e off/\ao I w b es (off+e.length)
def Z6(I:Nat->Prop)(w:World)(b:Nat):List U->Nat->Prop
 |[],_=>True
 |t::ts,off=>(∃c,w.cell? ⟨b,off,none⟩=some c/\Z9 I w t c)/\Z6 I w b ts (off+1)
end
def Z9.oneCell{I:Nat->Prop}{w:World}{t:U}{v:Value}(h:Z9 I w t v):v.oneCell'=true:=by
 cases t<;>simp only[Z9]at h
 case con c=>obtain⟨rfl,h⟩:=h;exact h
 case sl es=>obtain⟨a,cap,rfl,_⟩:=h;rfl
 all_goals (subst h;rfl)
mutual
def Z9.mono{I I':Nat->Prop}{w w':World}(hI:∀b,I b->I' b/\w'.heap[b]?=w.heap[b]?):∀(t:U) (v:Value),Z9 I w t v->Z9 I' w' t v
 |.bool _,_,h=>h
 |.int _ _,_,h=>h
 |.str _,_,h=>h
 |.con _,_,h=>h
 |.sl es,v,h=>by
  simp only[Z9]at h⊢;obtain⟨a,cap,hv,h1,h2,h3⟩:=h;refine⟨a,cap,hv,h1,h2,?_⟩;rcases h3 with h3|⟨b,off,ha,hb,he⟩
  .exact .inl h3
  exact .inr ⟨b,off,ha,(hI b hb).1,ao.mono hI (hI b hb).2 es off he⟩
def ao.mono{I I':Nat->Prop}{w w':World}(hI:∀b,I b->I' b/\w'.heap[b]?=w.heap[b]?){b:Nat}(hb:w'.heap[b]?=w.heap[b]?) :
 ∀(es:List (List U)) (off:Nat),ao I w b es off->ao I' w' b es off
 |[],_,_=>trivial
 |e::es,off,h=>by simp only[ao]at h⊢;exact⟨Z6.mono hI hb e off h.1,ao.mono hI hb es _ h.2⟩
def Z6.mono{I I':Nat->Prop}{w w':World}(hI:∀b,I b->I' b/\w'.heap[b]?=w.heap[b]?){b:Nat}(hb:w'.heap[b]?=w.heap[b]?) :
 ∀(ts:List U) (off:Nat),Z6 I w b ts off->Z6 I' w' b ts off
 |[],_,_=>trivial
 |t::ts,off,h=>by simp only[Z6]at h⊢;obtain⟨⟨c,hc,ht⟩,hr⟩:=h;exact⟨⟨c,(fj (w:=w) hb).trans hc,Z9.mono hI t c ht⟩,Z6.mono hI hb ts _ hr⟩
end
inductive OD where
 |tail (n i:Nat)
 |msl (n:Nat)
 |mpt (n j off:Nat)
 |mrow (n j:Nat)
 |mel (n j i:Nat)
 |map
 |pw (n:Nat)
 |pp (n off:Nat)
 deriving Inhabited
inductive PV where
 |t (x:U)
 |nils
 |osl (l n:Nat)
 |bptr (l off:Nat)
 |rptr (l n i off:Nat)
 |vptr (cs:List U)
 |agg (cs:List PV)
 |tup (cs:List PV)
 |fn (f:FuncId) (caps:List PV)
 |own (l:Nat) (d:OD)
 deriving Inhabited
inductive MK where
 |v (ag:Bool)
 |rows (k:Nat) (hole:Option Int)
 deriving Inhabited
inductive Blk where
 |box (cs:List PV)
 |row (k:Nat) (es:List (List U))
 |mat (k q:Nat) (es:List (List U))
 |map (mk:MK) (es:List (Int×List U))
 |prow (k i:Nat) (es:List (List U)) (cs:List PV)
 deriving Inhabited
def get{α:Type}:List (Nat×α)->Nat->Option α
 |[],_=>none
 |(j,x)::l,i=>bif Nat.beq j i then some x else get l i
def del{α:Type}:List (Nat×α)->Nat->List (Nat×α)
 |[],_=>[]
 |(j,x)::l,i=>bif Nat.beq j i then del l i else(j,x)::del l i
def put{α:Type}(l:List (Nat×α))(i:Nat)(x:α):List (Nat×α):=(i,x)::del l i
def Z6w:List Nat->Nat->Bool
 |[],_=>false
 |j::l,i=>bif Nat.beq j i then true else Z6w l i
def aU(a b:Nat):Nat.beq a b=true↔a=b:=by rw[Nat.beq_eq]
def ed{a b:Nat}(h:a≠b):Nat.beq a b=false:=by
 cases hb:Nat.beq a b with
 |false=>rfl
 |true=>exact absurd ((aU a b).1 hb) h
def Zfq{α:Type}(l:List (Nat×α))(i:Nat):get (del l i) i=none:=by
 induction l with
 |nil=>rfl
 |cons p l ih=>
  obtain⟨j,x⟩:=p;simp only[del];cases hb:Nat.beq j i with
  |true=>simpa using ih
  |false=>simp only[au,get,hb];exact ih
def Z36{α:Type}(l:List (Nat×α)){i j:Nat}(h:i≠j):get (del l i) j=get l j:=by
 induction l with
 |nil=>rfl
 |cons p l ih=>
  obtain⟨m,x⟩:=p;simp only[del];cases hb:Nat.beq m i with
  |true=>have:m=i:=(aU _ _).1 hb;subst this;simp only[av,get,ed h,au];exact ih
  |false=>simp only[au,get];rw[ih]
def fO{α:Type}(l:List (Nat×α))(i:Nat)(x:α):get (put l i x) i=some x:=by simp[put,get]
def gd{α:Type}(l:List (Nat×α)){i j:Nat}(x:α)(h:i≠j):get (put l i x) j=get l j:=by simp only[put,get,ed h,au];exact Z36 l h
mutual
def PV.has(l:Nat):PV->Bool
 |.t _=>false
 |.nils=>false
 |.osl m _=>Nat.beq m l
 |.bptr m _=>Nat.beq m l
 |.rptr m _ _ _=>Nat.beq m l
 |.vptr _=>false
 |.agg cs=>PV.hasAny l cs
 |.tup cs=>PV.hasAny l cs
 |.fn _ cs=>PV.hasAny l cs
 |.own m _=>Nat.beq m l
def PV.hasAny(l:Nat):List PV->Bool
 |[]=>false
 |p::ps=>p.has l||PV.hasAny l ps
end
def Blk.has(l:Nat):Blk->Bool
 |.box cs=>PV.hasAny l cs
 |.row _ _=>false
 |.mat _ _ _=>false
 |.map _ _=>false
 |.prow _ _ _ cs=>PV.hasAny l cs
structure Ctx where
 β:Nat->Option Nat
 I:Nat->Prop
 w:World
 Z:List (Nat×Blk)
def aY(w:World)(b m:Nat):Prop:=∃cs e fr,w.heap[b]?=some (.cells cs e fr)/\cs.size=m/\(fr=(0,0)\/False)
def gK(w:World)(b:Nat)(vs:List Value):Prop:=∀j v,vs[j]?=some v->w.cell? ⟨b,j,none⟩=some v
def OSl(c:Ctx)(l n:Nat)(v:Value):Prop:=
 ∀k es,get c.Z l=some (.row k es)->n<=es.length/\(n=es.length ->
  ∃a cap,v = .slice a n cap/\n<=cap/\cap<=maxLen /\
   ((cap=0/\c.β l=none)\/∃b m,a=some ⟨b,0,none⟩/\c.β l=some b/\aY c.w b m/\cap*k<=m))
def BPt(c:Ctx)(l off:Nat)(v:Value):Prop:=∀cs,get c.Z l=some (.box cs)->∃b,c.β l=some b/\v = .pointer (some ⟨b,off,none⟩)
def RPt(c:Ctx)(l n i off:Nat)(v:Value):Prop:=∀k es,get c.Z l=some (.row k es)->n<=es.length/\(n=es.length->∃b,c.β l=some b/\v = .pointer (some ⟨b,i*k+off,none⟩))
def Subs(w:World)(b k q n:Nat)(d:Nat):Prop:=∃j,j<n/\∃len cap,len≠0/\w.cell? ⟨b,j*k+q,none⟩=some (.slice (some ⟨d,0,none⟩) len cap)
def ODR(c:Ctx)(l:Nat)(v:Value):OD->Prop
 |.tail n i=>∀k es,get c.Z l=some (.row k es)->n<=es.length/\(n=es.length ->
  ∃a cap,v = .slice a (n-i) cap/\cap<=maxLen/\((n-i=0/\cap=0)\/∃b m,a=some ⟨b,i*k,none⟩/\c.β l=some b/\aY c.w b m/\i*k+cap*k<=m))
 |.msl n=>∀k q es,get c.Z l=some (.mat k q es)->n<=es.length/\(n=es.length ->
  ∃a cap,v = .slice a n cap/\n<=cap/\cap<=maxLen/\((cap=0/\c.β l=none)\/∃b m,a=some ⟨b,0,none⟩/\c.β l=some b/\aY c.w b m/\cap*k<=m))
 |.mpt n j off=>∀k q es,get c.Z l=some (.mat k q es)->n<=es.length/\(n=es.length->∃b,c.β l=some b/\v = .pointer (some ⟨b,j*k+off,none⟩))
 |.mrow n j=>j<n/\∀k q es,get c.Z l=some (.mat k q es)->n<=es.length/\(n=es.length->∃b,c.β l=some b/\c.w.cell? ⟨b,j*k+q,none⟩=some v)
 |.mel n j i=>j<n/\∀k q es,get c.Z l=some (.mat k q es)->n<=es.length/\(n=es.length ->
  ∃b d len cap,c.β l=some b/\c.w.cell? ⟨b,j*k+q,none⟩=some (.slice (some ⟨d,0,none⟩) len cap)/\v = .pointer (some ⟨d,i,none⟩))
 |.map=>∀ag es,get c.Z l=some (.map ag es)->∃b,c.β l=some b/\v = .map (some b)
 |.pw n=>∀k i es cs,get c.Z l=some (.prow k i es cs)->n<=es.length/\(n=es.length->∃b m cap,v = .slice (some ⟨b,0,none⟩) n cap/\n<=cap/\cap<=maxLen/\c.β l=some b/\aY c.w b m/\cap*k<=m)
 |.pp n off=>∀k i es cs,get c.Z l=some (.prow k i es cs)->n<=es.length/\(n=es.length->∃b,c.β l=some b/\v = .pointer (some ⟨b,i*k+off,none⟩))
mutual
def VR(c:Ctx):PV->Value->Prop
 |.t x,v=>Z9 c.I c.w x v
 |.nils,v=>∃a,v = .slice a 0 0
 |.osl l n,v=>OSl c l n v/\∃a m cap,v = .slice a m cap
 |.bptr l off,v=>BPt c l off v/\∃a,v = .pointer a
 |.rptr l n i off,v=>RPt c l n i off v/\∃a,v = .pointer a
 |.vptr cs,v=>∃b off,v = .pointer (some ⟨b,off,none⟩)/\(cs≠[]->c.I b)/\Z6 c.I c.w b cs off
 |.agg cs,v=>∃vs,v = .agg vs.toArray/\VRs c cs vs
 |.tup cs,v=>∃vs,v = .tuple vs.toArray/\VRs c cs vs
 |.fn f cs,v=>∃vs,v = .func (.func f) #[] vs.toArray/\VRs c cs vs
 |.own l d,v=>ODR c l v d/\v.oneCell'=true
def VRs(c:Ctx):List PV->List Value->Prop
 |[],vs=>vs=[]
 |p::ps,vs=>∃v rest,vs=v::rest/\VR c p v/\VRs c ps rest
end
def PV.one:PV->Bool
 |.agg _|.tup _=>false
 |_=>true
def VR.oneCell{c:Ctx}{p:PV}{v:Value}(h:VR c p v)(h1:p.one=true):v.oneCell'=true:=by
 cases p<;>simp only[VR]at h<;>simp only[PV.one]at h1
 case t x=>exact h.oneCell
 case nils=>obtain⟨a,rfl⟩:=h;rfl
 case osl=>obtain⟨_,a,m,cap,rfl⟩:=h;rfl
 case bptr=>obtain⟨_,a,rfl⟩:=h;rfl
 case rptr=>obtain⟨_,a,rfl⟩:=h;rfl
 case vptr=>obtain⟨b,off,rfl,_⟩:=h;rfl
 case agg=>cases h1
 case tup=>cases h1
 case fn=>obtain⟨vs,rfl,_⟩:=h;rfl
 case own=>exact h.2
def VRs.length{c:Ctx}:∀{ps:List PV} {vs:List Value},VRs c ps vs->vs.length=ps.length
 |[],vs,h=>by simp only[VRs]at h;subst h;rfl
 |p::ps,vs,h=>by simp only[VRs]at h;obtain⟨v,rest,rfl,_,hr⟩:=h;simp[VRs.length hr]
def VRs.get{c:Ctx}:∀{ps:List PV} {vs:List Value} (_:VRs c ps vs) (j:Nat) (p:PV),ps[j]?=some p->∃v,vs[j]?=some v/\VR c p v
 |[],_,_,j,p,hp=>by simp at hp
 |p::ps,vs,h,j,q,hq=>by
  simp only[VRs]at h;obtain⟨v,rest,rfl,hv,hr⟩:=h;cases j with
  |zero=>simp at hq;subst hq;exact⟨v,rfl,hv⟩
  |succ j=>simpa using VRs.get hr j q uH
def VRs.of_get{c:Ctx}:∀{ps:List PV} {vs:List Value},vs.length=ps.length->(∀(j:Nat) (p:PV) (v:Value),ps[j]?=some p->vs[j]?=some v->VR c p v)->VRs c ps vs
 |[],vs,hl,_=>by simp only[VRs];exact du hl
 |p::ps,vs,hl,h=>by
  cases vs with
  |nil=>simp at hl
  |cons v rest=>
   simp only[VRs];exact⟨v,rest,rfl,h 0 p v rfl rfl,VRs.of_get nz (λj q u hq hu=>h (j+1) q u uH qN)⟩
def aV(c c':Ctx)(l:Nat):Prop:=
 (∀k es',get c'.Z l=some (.row k es')->∃es,get c.Z l=some (.row k es)/\es.length<=es'.length /\
  (es.length=es'.length->c'.β l=c.β l/\∀b m,c.β l=some b->aY c.w b m->aY c'.w b m)) /\
 (∀cs',get c'.Z l=some (.box cs')->∃cs,get c.Z l=some (.box cs)/\c'.β l=c.β l) /\
 (∀k q es',get c'.Z l=some (.mat k q es')->∃es,get c.Z l=some (.mat k q es)/\es.length<=es'.length /\
  (es.length=es'.length->c'.β l=c.β l/\∀b,c.β l=some b->(∀m,aY c.w b m->aY c'.w b m)/\∀j,j<es.length->c'.w.cell? ⟨b,j*k+q,none⟩=c.w.cell? ⟨b,j*k+q,none⟩)) /\
 (∀mk' es',get c'.Z l=some (.map mk' es')->∃mk es,get c.Z l=some (.map mk es)/\c'.β l=c.β l) /\
 (∀k i es' cs',get c'.Z l=some (.prow k i es' cs')->∃es cs,get c.Z l=some (.prow k i es cs)/\es.length=es'.length/\c'.β l=c.β l/\∀b m,c.β l=some b->aY c.w b m->aY c'.w b m)
def OSl.step{c c':Ctx}{l n:Nat}{v:Value}(hl:aV c c' l)(h:OSl c l n v):OSl c' l n v:=by
 intro k es' hg;obtain⟨es,hg0,hle,heq⟩:=hl.1 k es' hg;obtain⟨h1,h2⟩:=h k es hg0;refine⟨cX h1 hle,λhn=>?_⟩;have hee:es.length=es'.length:=bg
 obtain⟨hβ,hh⟩:=heq hee;obtain⟨a,cap,hv,hc1,hc2,h3⟩:=h2 O;refine⟨a,cap,hv,hc1,hc2,?_⟩;rcases h3 with⟨hc,hb⟩|⟨b,m,ha,hb,hcs,hsz⟩
 .exact .inl ⟨hc,hβ.trans hb⟩
 exact .inr ⟨b,m,ha,hβ.trans hb,hh b m hb hcs,hsz⟩
def BPt.step{c c':Ctx}{l off:Nat}{v:Value}(hl:aV c c' l)(h:BPt c l off v):BPt c' l off v:=by intro cs' hg;obtain⟨cs,hg0,hβ⟩:=hl.2.1 cs' hg;obtain⟨b,hb,hv⟩:=h cs hg0;exact⟨b,hβ.trans hb,hv⟩
def RPt.step{c c':Ctx}{l n i off:Nat}{v:Value}(hl:aV c c' l)(h:RPt c l n i off v):RPt c' l n i off v:=by
 intro k es' hg;obtain⟨es,hg0,hle,heq⟩:=hl.1 k es' hg;obtain⟨h1,h2⟩:=h k es hg0;refine⟨cX h1 hle,λhn=>?_⟩;have hee:es.length=es'.length:=bg
 obtain⟨hβ,_⟩:=heq hee;obtain⟨b,hb,hv⟩:=h2 O;exact⟨b,hβ.trans hb,hv⟩
def ODR.step{c c':Ctx}{l:Nat}{v:Value}(hl:aV c c' l):∀{d:OD},ODR c l v d->ODR c' l v d
 |.tail n i,h=>λk es' hg=>by
  obtain⟨es,hg0,hle,heq⟩:=hl.1 k es' hg;obtain⟨h1,h2⟩:=h k es hg0;refine⟨cX h1 hle,λhn=>?_⟩;have hee:es.length=es'.length:=bg
  obtain⟨hβ,hh⟩:=heq hee;obtain⟨a,cap,hv,hc2,h3⟩:=h2 O;refine⟨a,cap,hv,hc2,?_⟩;rcases h3 with hc|⟨b,m,ha,hb,hcs,hsz⟩
  .exact .inl hc
  exact .inr ⟨b,m,ha,hβ.trans hb,hh b m hb hcs,hsz⟩
 |.msl n,h=>λk q es' hg=>by
  obtain⟨es,hg0,hle,heq⟩:=hl.2.2.1 k q es' hg;obtain⟨h1,h2⟩:=h k q es hg0;refine⟨cX h1 hle,λhn=>?_⟩;have hee:es.length=es'.length:=bg
  obtain⟨hβ,hh⟩:=heq hee;obtain⟨a,cap,hv,hc1,hc2,h3⟩:=h2 O;refine⟨a,cap,hv,hc1,hc2,?_⟩;rcases h3 with⟨hc,hb⟩|⟨b,m,ha,hb,hcs,hsz⟩
  .exact .inl ⟨hc,hβ.trans hb⟩
  exact .inr ⟨b,m,ha,hβ.trans hb,(hh b hb).1 m hcs,hsz⟩
 |.mpt n j off,h=>λk q es' hg=>by obtain⟨es,hg0,hle,heq⟩:=hl.2.2.1 k q es' hg;obtain⟨h1,h2⟩:=h k q es hg0;refine⟨cX h1 hle,λhn=>?_⟩;obtain⟨hβ,hh⟩:=heq O;obtain⟨b,hb,hv⟩:=h2 O;exact⟨b,hβ.trans hb,hv⟩
 |.mrow n j,h=>⟨h.1,λk q es' hg=>by obtain⟨es,hg0,hle,heq⟩:=hl.2.2.1 k q es' hg;obtain⟨h1,h2⟩:=h.2 k q es hg0;refine⟨cX h1 hle,λhn=>?_⟩;obtain⟨hβ,hh⟩:=heq O;obtain⟨b,hb,hv⟩:=h2 O;exact⟨b,hβ.trans hb,((hh b hb).2 j (by have:=h.1;omega)).trans hv⟩⟩
 |.mel n j i,h=>⟨h.1,λk q es' hg=>by obtain⟨es,hg0,hle,heq⟩:=hl.2.2.1 k q es' hg;obtain⟨h1,h2⟩:=h.2 k q es hg0;refine⟨cX h1 hle,λhn=>?_⟩;obtain⟨hβ,hh⟩:=heq O;obtain⟨b,d,len,cap,hb,hv,hp⟩:=h2 O;exact⟨b,d,len,cap,hβ.trans hb,((hh b hb).2 j (by have:=h.1;omega)).trans hv,hp⟩⟩
 |.map,h=>λag es' hg=>by obtain⟨ag0,es,hg0,hβ⟩:=hl.2.2.2.1 ag es' hg;obtain⟨b,hb,hv⟩:=h ag0 es hg0;exact⟨b,hβ.trans hb,hv⟩
 |.pw n,h=>λk i es' cs' hg=>by obtain⟨es,cs,hg0,hle,hβ,hh⟩:=hl.2.2.2.2 k i es' cs' hg;obtain⟨h1,h2⟩:=h k i es cs hg0;refine⟨by omega,λhn=>?_⟩;obtain⟨b,m,cap,hv,hc1,hc2,hb,hr,hs⟩:=h2 O;exact⟨b,m,cap,hv,hc1,hc2,hβ.trans hb,hh b m hb hr,hs⟩
 |.pp n off,h=>λk i es' cs' hg=>by obtain⟨es,cs,hg0,hle,hβ,_⟩:=hl.2.2.2.2 k i es' cs' hg;obtain⟨h1,h2⟩:=h k i es cs hg0;refine⟨by omega,λhn=>?_⟩;obtain⟨b,hb,hv⟩:=h2 O;exact⟨b,hβ.trans hb,hv⟩
mutual
def VR.step{c c':Ctx}(hI:∀b,c.I b->c'.I b/\c'.w.heap[b]?=c.w.heap[b]?):∀(p:PV) (v:Value),(∀l,p.has l=true->aV c c' l)->VR c p v->VR c' p v
 |.t x,v,_,h=>by simp only[VR]at h⊢;exact Z9.mono hI x v h
 |.nils,v,_,h=>h
 |.osl l n,v,hl,h=>wx
 |.bptr l off,v,hl,h=>wx
 |.rptr l n i off,v,hl,h=>wx
 |.vptr cs,v,_,h=>by
  simp only[VR]at h⊢;obtain⟨b,off,hv,hb,hc⟩:=h;refine⟨b,off,hv,λhne=>(hI b (hb hne)).1,?_⟩;cases cs with
  |nil=>trivial
  |cons t ts=>exact Z6.mono hI (hI b (hb al)).2 _ _ hc
 |.agg cs,v,hl,h=>B7
 |.tup cs,v,hl,h=>B7
 |.fn f cs,v,hl,h=>B7
 |.own l d,v,hl,h=>wx
def VRs.step{c c':Ctx}(hI:∀b,c.I b->c'.I b/\c'.w.heap[b]?=c.w.heap[b]?):∀(ps:List PV) (vs:List Value),(∀l,PV.hasAny l ps=true->aV c c' l)->VRs c ps vs->VRs c' ps vs
 |[],vs,_,h=>h
 |p::ps,vs,hl,h=>by simp only[VRs]at h⊢;obtain⟨v,rest,rfl,hv,hr⟩:=h;exact⟨v,rest,rfl,VR.step hI p v (λl h=>hl l sO) hv,VRs.step hI ps rest (λl h=>hl l sO) hr⟩
end
def mvP(ag:Bool)(ts:List U):PV:=bif ag then .agg (ts.map .t)else(match ts with|[x] =>.t x|_ =>.agg (ts.map .t))
def ib(l:Nat):∀(ts:List U),PV.hasAny l (ts.map .t)=false
 |[]=>rfl
 |t::ts=>by simp only[cw,PV.hasAny,PV.has,ib l ts,Bool.or_false]
def Zfr(ag:Bool)(l:Nat)(ts:List U):(mvP ag ts).has l=false:=by
 unfold mvP;cases ag with
 |true=>simp only[av,PV.has,ib]
 |false=>
  simp only[au];split
  .rfl
  simp only[PV.has,ib]
def ea(c:Ctx)(ag:Bool):List MapEntry->List (Int×List U)->Prop
 |[],xs=>xs=[]
 |e::es,xs=>∃n ts r,xs=(n,ts)::r/\e.key = .int .i64 n/\VR c (mvP ag ts) e.val/\ea c ag es r
def ea.step{c c':Ctx}{ag:Bool}(hI:∀b,c.I b->c'.I b/\c'.w.heap[b]?=c.w.heap[b]?):∀{es:List MapEntry} {xs:List (Int×List U)},ea c ag es xs->ea c' ag es xs
 |[],_,h=>h
 |e::es,xs,h=>by obtain⟨n,ts,r,h1,h2,h3,h4⟩:=h;exact⟨n,ts,r,h1,h2,VR.step hI _ _ (λl hl=>by rw[Zfr]at hl;cases hl) h3,ea.step hI h4⟩
def RowV(c:Ctx)(k:Nat)(rows:List (List U))(v:Value):Prop:=(∀el,el∈rows->el.length=k)/\∃a cap,v = .slice a rows.length cap/\rows.length<=cap/\cap<=maxLen/\(cap=0\/∃d m,a=some ⟨d,0,none⟩/\aY c.w d m/\cap*k<=m/\ao c.I c.w d rows 0)
def MapEntry.inn(hole:Option Int)(e:MapEntry):Prop:=∀n,e.key = .int .i64 n->hole≠some n
def sy(c:Ctx)(k:Nat)(hole:Option Int)(es:List MapEntry)(xs:List (Int×List U)):Prop:=es.length=xs.length/\∀(i:Nat) e x,es[i]?=some e->xs[i]?=some x->e.key = .int .i64 x.1/\∃rows,x.2=[.sl rows]/\(hole≠some x.1->RowV c k rows e.val)
def sA(w:World)(b:Nat)(hole:Option Int)(d:Nat):Prop:=∃ents clock e len cap,w.heap[b]?=some (.map ents clock)/\e∈ents.toList/\MapEntry.inn hole e/\cap≠0/\e.val = .slice (some ⟨d,0,none⟩) len cap
def MapR(c:Ctx):MK->List MapEntry->List (Int×List U)->Prop
 |.v ag,es,xs=>ea c ag es xs
 |.rows k hole,es,xs=>0<k/\sy c k hole es xs/\(xs.map Prod.fst).Nodup /\
  ∀(i j:Nat) ei ej d l l' cap cap',es[i]?=some ei->es[j]?=some ej->MapEntry.inn hole ei->MapEntry.inn hole ej->cap≠0->cap'≠0->ei.val = .slice (some ⟨d,0,none⟩) l cap->ej.val = .slice (some ⟨d,0,none⟩) l' cap'->i=j
def eE(i:Nat)(es:List (List U))(cs:List PV):List PV:=((es.take i).flatten.map .t)++(cs++((es.drop (i+1)).flatten.map .t))
def Z37(l:Nat):∀(ps qs:List PV),PV.hasAny l (ps++qs)=(PV.hasAny l ps||PV.hasAny l qs)
 |[],_=>rfl
 |p::ps,qs=>by simp only[eR,PV.hasAny,Z37 l ps qs,Bool.or_assoc]
def xn(l i:Nat)(es:List (List U))(cs:List PV):PV.hasAny l (eE i es cs)=PV.hasAny l cs:=by unfold eE;rw[Z37,Z37,ib,ib,Bool.or_false,kW]
def BR(c:Ctx)(l:Nat):Blk->Prop
 |.box ps=>∃b vs,c.β l=some b/\aY c.w b ps.length/\gK c.w b vs/\VRs c ps vs/\ps.all PV.one=true
 |.row k es=>0<k/\(∀el,el∈es->el.length=k)/\((c.β l=none/\es=[]) \/
  ∃b m,c.β l=some b/\aY c.w b m/\es.length*k<=m/\ao c.I c.w b es 0)
 |.mat k q es=>q<k/\(∀el,el∈es->el.length=k)/\((c.β l=none/\es=[]) \/
  ∃b m,c.β l=some b/\aY c.w b m/\es.length*k<=m/\ao (λd=>c.I d\/Subs c.w b k q es.length d) c.w b es 0 /\
   (∀i j d len len' cap cap',i<es.length->j<es.length->len≠0->len'≠0->c.w.cell? ⟨b,i*k+q,none⟩=some (.slice (some ⟨d,0,none⟩) len cap)->c.w.cell? ⟨b,j*k+q,none⟩=some (.slice (some ⟨d,0,none⟩) len' cap')->i=j) /\
   (∀j e,es[j]?=some e->∃inner a len cap,e[q]?=some (.sl inner)/\(∀x,x∈inner->∃t,x=[t]/\t.scal=true)/\c.w.cell? ⟨b,j*k+q,none⟩=some (.slice a len cap) /\
    (len≠0->∃d m',a=some ⟨d,0,none⟩/\d≠b/\aY c.w d m'/\cap<=m')))
 |.map mk es=>∃b ents clock,c.β l=some b/\c.w.heap[b]?=some (.map ents clock)/\MapR c mk ents.toList es
 |.prow k i es cs=>0<k/\(∀el,el∈es->el.length=k)/\i<es.length/\cs.length=k/\cs.all PV.one=true /\
  ∃b m vs,c.β l=some b/\aY c.w b m/\es.length*k<=m/\gK c.w b vs/\VRs c (eE i es cs) vs
structure Frm where
 base:Nat
 w0:World
 own:Nat->Prop
 A:Nat->Prop
 β0:Nat->Option Nat
 σ0:Nat->Option Blk
structure St where
 n:Nat
 tm:List (Nat×PV)
 Z:List (Nat×Blk)
def Blk.subs(w:World)(b0 b:Nat):Blk->Prop
 |.mat k q es=>Subs w b0 k q es.length b
 |.map (.rows _ hole) _=>sA w b0 hole b
 |_=>False
def aA(β:Nat->Option Nat)(w:World)(l:Nat)(o:Blk)(b:Nat):Prop:=β l=some b\/∃b0,β l=some b0/\o.subs w b0 b
def Imm(G:Frm)(β:Nat->Option Nat)(w:World)(Z:List (Nat×Blk))(b:Nat):Prop:=b<w.heap.size/\(G.base<=b\/G.A b\/G.own b)/\∀l o,get Z l=some o->¬aA β w l o b
def ctx(G:Frm)(β:Nat->Option Nat)(w:World)(Z:List (Nat×Blk)):Ctx:=⟨β,Imm G β w Z,w,Z⟩
inductive GK where
 |anyInt
 |cells (ts:List U)
structure Ts where
 gs:List (Nat×GK)
instance:Inhabited Ts:=⟨⟨[(0,.anyInt)]⟩⟩
def gset:List (Nat×GK):=(default:Ts).gs
def GAt(w:World)(g:Nat):GK->Prop
 |.anyInt=>∃m,w.cell? ⟨g,0,none⟩=some (.int .i64 m)
 |.cells ts=>Z6 (λ_=>False) w g ts 0
def GAt.mono{w w':World}{g:Nat}{k:GK}(hh:w'.heap[g]?=w.heap[g]?)(h:GAt w g k):GAt w' g k:=by
 cases k with
 |anyInt=>
  obtain⟨m,h⟩:=h;exact⟨m,(fj (w:=w) hh).trans h⟩
 |cells ts=>exact Z6.mono (λb hb=>hb.elim) hh ts 0 h
def qi(w:World):Prop:=∀g k,(g,k)∈gset->g<w.heap.size/\GAt w g k
def R0(G:Frm)(β:Nat->Option Nat)(w:World)(Z:List (Nat×Blk)):Prop:=∀l k es',l<1000->get Z l=some (.row k es') ->
 ∃es,G.σ0 l=some (.row k es)/\es.length<=es'.length/\(es.length=es'.length->β l=G.β0 l/\∀b m,G.β0 l=some b->aY G.w0 b m->aY w b m)
def R0.one{G:Frm}{β β':Nat->Option Nat}{w w':World}{Z Z':List (Nat×Blk)}{l k:Nat}{es':List (List U)}(h:R0 G β w Z)(hL:aV (ctx G β w Z) (ctx G β' w' Z') l)(hl:l<1000)(hg:get Z' l=some (.row k es')) :
 ∃es,G.σ0 l=some (.row k es)/\es.length<=es'.length/\(es.length=es'.length->β' l=G.β0 l/\∀b m,G.β0 l=some b->aY G.w0 b m->aY w' b m):=by
 obtain⟨es1,h1,h2,h3⟩:=hL.1 k es' hg;obtain⟨es,g1,g2,g3⟩:=h l k es1 hl h1;refine⟨es,g1,cX g2 h2,λhe=>?_⟩;obtain⟨a1,a2⟩:=g3 O;obtain⟨b1,b2⟩:=h3 O;exact⟨b1.trans a1,λb m hb hr=>b2 b m (a1.trans hb) (a2 b m hb hr)⟩
def R0.step{G:Frm}{β β':Nat->Option Nat}{w w':World}{Z Z':List (Nat×Blk)}(h:R0 G β w Z)(hL:∀l,l<1000->aV (ctx G β w Z) (ctx G β' w' Z') l):R0 G β' w' Z':=λl k es' hl hg=>h.one (hL l hl) hl hg
def R0.sub{G:Frm}{β:Nat->Option Nat}{w:World}{Z Z':List (Nat×Blk)}(hσ:∀l o,get Z' l=some o->get Z l=some o)(h:R0 G β w Z):R0 G β w Z':=λl k es' hl hg=>h l k es' hl (hσ l _ hg)
structure aE (G:Frm) (β:Nat->Option Nat) (st:St) (a:Act) (w:World):Prop where
 defers:a.defers=[]
 sz:st.n<=a.tmps.size
 base:G.base<=w.heap.size
 os:w.os=G.w0.os
 tape:w.tape=G.w0.tape
 output:w.output=G.w0.output
 old:∀b,b<G.base->¬G.own b->w.heap[b]?=G.w0.heap[b]?
 A:∀b,G.A b->b<G.base/\¬G.own b
 gl:∀g k,(g,k)∈gset->g<G.base/\¬G.own g/\G.A g/\GAt G.w0 g k
 inj:∀l l' o o' b,get st.Z l=some o->get st.Z l'=some o'->aA β w l o b->aA β w l' o' b->l=l'
 sep:∀l o b,get st.Z l=some o->aA β w l o b->b<w.heap.size/\(G.base<=b\/G.own b)
 fix:∀l cs,l<1000->get st.Z l=some (.box cs)->β l=G.β0 l
 row0:R0 G β w st.Z
 blk:∀l o,get st.Z l=some o->BR (ctx G β w st.Z) l o
 tm:∀i p,get st.tm i=some p->i<st.n/\VR (ctx G β w st.Z) p (a.tmps.getD i undef)
def aE.glw{G:Frm}{β:Nat->Option Nat}{st:St}{a:Act}{w:World}(h:aE G β st a w):qi w:=λg k hg=>by obtain⟨h1,h2,_,h3⟩:=h.gl g k hg;exact⟨dL h1 h.base,GAt.mono (h.old g h1 h2) h3⟩
def aE.glI{G:Frm}{β:Nat->Option Nat}{st:St}{a:Act}{w:World}(h:aE G β st a w){g:Nat}{k:GK}(hg:(g,k)∈gset):Imm G β w st.Z g:=by
 obtain⟨h1,h2,h3,_⟩:=h.gl g k hg;refine⟨dL h1 h.base,.inr (.inl h3),λl o hl hb=>?_⟩;rcases(h.sep l o g hl hb).2 with h4|h4
 .exact absurd h1 (Nat.not_lt_of_le h4)
 exact h2 h4
def Rel(G:Frm)(st:St)(a:Act)(w:World):Prop:=∃β,aE G β st a w
def PW(P:Program)(c:Code)(Q:Exit->St->Prop)(st:St):Prop:=∀G a w,Rel G st a w->c.wp P (λe a' w'=>∃st',Q e st'/\Rel G st' a' w') a w
end Go.PW
namespace Go.PW
open Go.RowKit
def Imm.sub{G:Frm}{β:Nat->Option Nat}{w:World}{Z Z':List (Nat×Blk)}(hσ:∀l o,get Z' l=some o->get Z l=some o)(b:Nat)(h:Imm G β w Z b):Imm G β w Z' b:=by obtain⟨h1,h2,h3⟩:=h;exact⟨h1,h2,λl o hl=>h3 l o (hσ l o hl)⟩
def aV.sub{G:Frm}{β:Nat->Option Nat}{w:World}{Z Z':List (Nat×Blk)}(hσ:∀l o,get Z' l=some o->get Z l=some o)(l:Nat):aV (ctx G β w Z) (ctx G β w Z') l:=⟨λ_ es' h=>⟨es',hσ l _ h,aW _,λ_=>⟨rfl,λ_ _ _ h=>h⟩⟩,λcs' h=>⟨cs',hσ l _ h,rfl⟩,λ_ _ es' h=>⟨es',hσ l _ h,aW _,λ_=>⟨rfl,λ_ _=>⟨λ_ h=>h,λ_ _=>rfl⟩⟩⟩,λmk' es' h=>⟨mk',es',hσ l _ h,rfl⟩,λ_ _ es' cs' h=>⟨es',cs',hσ l _ h,rfl,rfl,λ_ _ _ h=>h⟩⟩
def Subs.of_heap{w w':World}{b k q n d:Nat}(h:w'.heap[b]?=w.heap[b]?)(hs:Subs w' b k q n d):Subs w b k q n d:=by obtain⟨j,hj,len,cap,hl,hc⟩:=hs;exact⟨j,hj,len,cap,hl,(fj (w:=w) h).symm.trans hc⟩
def sA.of_heap{w w':World}{b d:Nat}{hole:Option Int}(h:w'.heap[b]?=w.heap[b]?)(hs:sA w' b hole d):sA w b hole d:=by obtain⟨ents,clock,e,len,cap,h1,h2⟩:=hs;exact⟨ents,clock,e,len,cap,h.symm.trans h1,h2⟩
def Blk.subs_heap{w w':World}{b0 b:Nat}{o:Blk}(h:w'.heap[b0]?=w.heap[b0]?)(hs:o.subs w' b0 b):o.subs w b0 b:=by
 cases o with
 |mat k q es=>exact Subs.of_heap h hs
 |map mk es=>cases mk with
  |v ag=>exact hs
  |rows k hole=>exact sA.of_heap h hs
 |box|row|prow=>exact hs
def aA.of_heap{β:Nat->Option Nat}{w w':World}{l:Nat}{o:Blk}{b:Nat}(h:∀b,β l=some b->w'.heap[b]?=w.heap[b]?)(ho:aA β w' l o b):aA β w l o b:=by
 rcases ho with ho|⟨b0,h2,h3⟩
 .exact .inl ho
 exact .inr ⟨b0,h2,Blk.subs_heap (h b0 h2) h3⟩
def aA.of{β β':Nat->Option Nat}{w w':World}{l:Nat}{o:Blk}{b:Nat}(hβ:β' l=β l)(h:∀b,β l=some b->w'.heap[b]?=w.heap[b]?)(ho:aA β' w' l o b):aA β w l o b:=by
 rcases ho with ho|⟨b0,h2,h3⟩
 .exact .inl (hβ▸ho)
 rw[hβ]at h2;exact .inr ⟨b0,h2,Blk.subs_heap (h b0 h2) h3⟩
def aA.of_cell{β:Nat->Option Nat}{w w':World}{l:Nat}{o:Blk}{b:Nat}(h:∀a:Nat,w'.heap[a]?=w.heap[a]?)(ho:aA β w' l o b):aA β w l o b:=ho.of_heap λb _=>h b
def Blk.flat:Blk->Prop
 |.mat _ _ _=>False
 |.map (.rows _ _) _=>False
 |_=>True
def aA.flat{β:Nat->Option Nat}{w:World}{l:Nat}{o:Blk}{b:Nat}(hf:o.flat)(ho:aA β w l o b):β l=some b:=by
 rcases ho with ho|⟨b0,_,hs⟩
 .exact ho
 cases o with
 |mat=>exact hf.elim
 |map mk=>cases mk with
  |v=>exact hs.elim
  |rows=>exact hf.elim
 |box|row|prow=>exact hs.elim
def aY.of_heap{w w':World}{b m:Nat}(h:w'.heap[b]?=w.heap[b]?)(hr:aY w b m):aY w' b m:=by unfold aY;rw[h];exact hr
def RowV.step{c c':Ctx}(hI:∀b,c.I b->c'.I b/\c'.w.heap[b]?=c.w.heap[b]?){k:Nat}{rows:List (List U)}{v:Value}(hd:∀d len cap,cap≠0->v = .slice (some ⟨d,0,none⟩) len cap->c'.w.heap[d]?=c.w.heap[d]?)(h:RowV c k rows v):RowV c' k rows v:=by
 obtain⟨h1,a,cap,h2,h3,h4,h5⟩:=h;refine⟨h1,a,cap,h2,h3,h4,?_⟩;rcases h5 with h5|⟨d,m,h6,h7,h8,h9⟩
 .exact .inl h5
 by_cases h0:cap=0
 .exact .inl h0
 have:=hd d _ cap h0 (by rw[h2,h6]);exact .inr ⟨d,m,h6,h7.of_heap this,h8,ao.mono hI this _ _ h9⟩
def sy.step{c c':Ctx}(hI:∀b,c.I b->c'.I b/\c'.w.heap[b]?=c.w.heap[b]?){k:Nat}{hole:Option Int}{es:List MapEntry}{xs:List (Int×List U)}(hd:∀e d len cap,e∈es->MapEntry.inn hole e->cap≠0->e.val = .slice (some ⟨d,0,none⟩) len cap->c'.w.heap[d]?=c.w.heap[d]?)(h:sy c k hole es xs):sy c' k hole es xs:=by refine⟨h.1,λi e x he hx=>?_⟩;obtain⟨h1,rows,h2,h3⟩:=h.2 i e x he hx;refine⟨h1,rows,h2,λhn=>(h3 hn).step hI (λd len cap h0 hv=>hd e d len cap (cj he) (λn' hn'=>?_) h0 hv)⟩;rw[h1]at hn';cases hn';exact hn
def MK.own(es:List MapEntry)(d:Nat):MK->Prop
 |.v _=>False
 |.rows _ hole=>∃e len cap,e∈es/\MapEntry.inn hole e/\cap≠0/\e.val = .slice (some ⟨d,0,none⟩) len cap
def MapR.step{c c':Ctx}(hI:∀b,c.I b->c'.I b/\c'.w.heap[b]?=c.w.heap[b]?){mk:MK}{es:List MapEntry}{xs:List (Int×List U)}(hd:∀d,mk.own es d->c'.w.heap[d]?=c.w.heap[d]?)(h:MapR c mk es xs):MapR c' mk es xs:=by
 cases mk with
 |v ag=>exact ea.step hI h
 |rows k hole=>exact⟨h.1,sy.step hI (λe d len cap h1 h2 h3 h4=>hd d ⟨e,len,cap,h1,h2,h3,h4⟩) h.2.1,h.2.2⟩
def BR.step{c c':Ctx}(hI:∀b,c.I b->c'.I b/\c'.w.heap[b]?=c.w.heap[b]?){l:Nat}{o:Blk}(hβ:c'.β l=c.β l)(hh:∀b,aA c.β c.w l o b->c'.w.heap[b]?=c.w.heap[b]?)
 (hl:∀m,o.has m=true->aV c c' m) (h:BR c l o):BR c' l o:=by
 have hrow:∀b m,c.β l=some b->aY c.w b m->aY c'.w b m:=λb m hb h=>h.of_heap (hh b (.inl hb));cases o with
 |box ps=>
  obtain⟨b,vs,hb,hr,hcs,hv,h1⟩:=h;exact⟨b,vs,hβ.trans hb,hrow b _ hb hr,λj v hj=>(fj (w:=c.w) (hh b (.inl hb))).trans (hcs j v hj),VRs.step hI _ _ (λm hm=>hl m hm) hv,h1⟩
 |row k es=>
  obtain⟨h0,hk,h⟩:=h;refine⟨h0,hk,?_⟩;rcases h with⟨hb,he⟩|⟨b,m,hb,hr,hsz,het⟩
  .exact .inl ⟨hβ.trans hb,he⟩
  exact .inr ⟨b,m,hβ.trans hb,hrow b m hb hr,hsz,ao.mono hI (hh b (.inl hb)) _ _ het⟩
 |mat k q es=>
  obtain⟨h0,hk,h⟩:=h;refine⟨h0,hk,?_⟩;rcases h with⟨hb,he⟩|⟨b,m,hb,hr,hsz,het,hd,hin⟩
  .exact .inl ⟨hβ.trans hb,he⟩
  have hbh:=hh b (.inl hb);have hc:∀j,c'.w.cell? ⟨b,j*k+q,none⟩=c.w.cell? ⟨b,j*k+q,none⟩:=λj=>fj (w:=c.w) hbh;refine .inr ⟨b,m,hβ.trans hb,hrow b m hb hr,hsz,ao.mono (λd hd=>?_) hbh _ _ het,λi j d len len' cap cap' hi hj hl hl' h1 h2=>hd i j d len len' cap cap' hi hj hl hl' ((hc i).symm.trans h1) ((hc j).symm.trans h2),λj e he=>?_⟩
  .rcases hd with hd|hd
   .exact⟨.inl (hI d hd).1,(hI d hd).2⟩
   refine⟨.inr ?_,hh d (.inr ⟨b,hb,hd⟩)⟩;obtain⟨j,hj,len,cap,hl,hcc⟩:=hd;exact⟨j,hj,len,cap,hl,(hc j).trans hcc⟩
  obtain⟨inner,a,len,cap,h1,h2,h3,h4⟩:=hin j e he;refine⟨inner,a,len,cap,h1,h2,(hc j).trans h3,λhl=>?_⟩;obtain⟨d,m',h5,h6,h7,h8⟩:=h4 hl;have hj:=(aJ.1 he).1;exact⟨d,m',h5,h6,h7.of_heap (hh d (.inr ⟨b,hb,j,hj,len,cap,hl,by rw[h3,h5]⟩)),h8⟩
 |map ag es=>
  obtain⟨b,ents,clock,hb,hm,he⟩:=h;exact⟨b,ents,clock,hβ.trans hb,(hh b (.inl hb)).trans hm,MapR.step hI (λd hs=>hh d (by
   cases ag with
   |v=>exact hs.elim
   |rows k hole=>obtain⟨e,len,cap,h1,h2,h3,h4⟩:=hs;exact .inr ⟨b,hb,ents,clock,e,len,cap,hm,h1,h2,h3,h4⟩)) he⟩
 |prow k i es cs=>
  obtain⟨h0,hk,hi,hc,h1,b,m,vs,hb,hr,hsz,hcs,hv⟩:=h;exact⟨h0,hk,hi,hc,h1,b,m,vs,hβ.trans hb,hrow b m hb hr,hsz,λj v hj=>(fj (w:=c.w) (hh b (.inl hb))).trans (hcs j v hj),VRs.step hI _ _ (λq hq=>hl q (by rw[xn]at hq;exact hq)) hv⟩
def aV.none{c c':Ctx}{l:Nat}(h:get c'.Z l=none):aV c c' l:=⟨λ_ _ hg=>si,λ_ hg=>si,λ_ _ _ hg=>si,λ_ _ hg=>si,λ_ _ _ _ hg=>si⟩
def aV.same{c c':Ctx}{l:Nat}(hσ:get c'.Z l=get c.Z l)(hβ:c'.β l=c.β l)(hw:∀b,c.β l=some b->c'.w.heap[b]?=c.w.heap[b]?):aV c c' l:=
 ⟨λ_ es' h=>⟨es',hσ▸h,aW _,λ_=>⟨hβ,λb _ hb hr=>hr.of_heap (hw b hb)⟩⟩,λcs' h=>⟨cs',hσ▸h,hβ⟩,
  λ_ _ es' h=>⟨es',hσ▸h,aW _,λ_=>⟨hβ,λb hb=>⟨λ_ hr=>hr.of_heap (hw b hb),λ_ _=>fj (w:=c.w) (hw b hb)⟩⟩⟩,λmk' es' h=>⟨mk',es',hσ▸h,hβ⟩,λ_ _ es' cs' h=>⟨es',cs',hσ▸h,rfl,hβ,λb _ hb hr=>hr.of_heap (hw b hb)⟩⟩
def aE.sub{G:Frm}{β:Nat->Option Nat}{st st':St}{a:Act}{w:World}(h:aE G β st a w)(hn:st'.n<=st.n)(ht:∀i p,get st'.tm i=some p->get st.tm i=some p/\i<st'.n)
 (hσ:∀l o,get st'.Z l=some o->get st.Z l=some o):aE G β st' a w:=by
 have hI:∀b,(ctx G β w st.Z).I b->(ctx G β w st'.Z).I b/\(ctx G β w st'.Z).w.heap[b]?=(ctx G β w st.Z).w.heap[b]?:=λb hb=>⟨Imm.sub hσ b hb,rfl⟩
 exact { defers:=h.defers,sz:=cX hn h.sz,base:=h.base,os:=h.os,tape:=h.tape,output:=h.output,old:=h.old,A:=h.A,gl:=h.gl,
         inj:=λl l' o o' b hl hl'=>h.inj l l' o o' b (hσ l o hl) (hσ l' o' hl'),
         sep:=λl o b hl=>h.sep l o b (hσ l o hl),
         fix:=λl cs h1 hl=>h.fix l cs h1 (hσ l _ hl),row0:=h.row0.sub hσ,
         blk:=λl o hl=>BR.step hI rfl (λ_ _=>rfl) (λm _=>aV.sub hσ m) (h.blk l o (hσ l o hl)),
         tm:=λi p hi=>⟨(ht i p hi).2,VR.step hI p _ (λm _=>aV.sub hσ m) (h.tm i p (ht i p hi).1).2⟩ }
def Wk(st st':St):Prop:=∀G a w,Rel G st a w->Rel G st' a w
def Wk.refl(st:St):Wk st st:=λ_ _ _ h=>h
def Wk.trans{a b c:St}(h:Wk a b)(k:Wk b c):Wk a c:=λG x w r=>k G x w (h G x w r)
section rules
variable {P:Program} {Q Q':Exit->St->Prop} {st:St}
def PW.weaken{c:Code}{st':St}(hw:Wk st st')(h:PW P c Q st'):PW P c Q st:=λG a w hr=>h G a w (hw G a w hr)
def PW.skip(h:Q .normal st):PW P .skip Q st:=λ_ _ _ hr=>wp_skip ⟨st,h,hr⟩
def PW.label{l:Nat}(h:Q .normal st):PW P (.label l) Q st:=λ_ _ _ hr=>wp_label ⟨st,h,hr⟩
def PW.exit{id:Nat}(h:Q (.exit id) st):PW P (.exit id) Q st:=λ_ _ _ hr=>wp_exit ⟨st,h,hr⟩
def PW.ret(h:Q .ret st):PW P .ret Q st:=λ_ _ _ hr=>wp_ret ⟨st,h,hr⟩
def Z6x(next:St->Prop)(Q:Exit->St->Prop):Exit->St->Prop
 |.normal,st=>next st
 |e,st=>Q e st
def PW.seq{x y:Code}(h:PW P x (Z6x (PW P y Q) Q) st):PW P (.seq x y) Q st:=by
 intro G a w hr;refine wp_seq (wp_mono (h G a w hr) ?_);rintro e a' w' ⟨st',hq,hr'⟩;cases e<;>simp only[Z6x,Exit.then]at hq⊢
 case normal=>exact hq G a' w' hr'
 all_goals exact⟨st',hq,hr'⟩
def PW.cond{c:Operand}{x y:Code}{t:Nat}{b:Bool}(hc:c = .tmp t)(hg:get st.tm t=some (.t (.bool b)))(ht:b=true->PW P x Q st)(hf:b=false->PW P y Q st) :
 PW P (.cond c x y) Q st:=by
 intro G a w hr;obtain⟨β,h⟩:=hr;have hv:=(h.tm t _ hg).2;simp only[VR,Z9]at hv;subst hc;exact wp_cond_split (t:=b) hv (λhb=>ht hb G a w ⟨β,h⟩) (λhb=>hf hb G a w ⟨β,h⟩)
def PW.condConst{x y:Code}{b:Bool}(ht:b=true->PW P x Q st)(hf:b=false->PW P y Q st) :
 PW P (.cond (.const (.bool b)) x y) Q st:=by
 intro G a w hr;exact wp_cond_split (t:=b) rfl (λhb=>ht hb G a w hr) (λhb=>hf hb G a w hr)
def Z6t(id:Nat)(Q:Exit->St->Prop):Exit->St->Prop
 |.exit id',st=>if id'=id then Q .normal st else Q (.exit id') st
 |e,st=>Q e st
def PW.block{id:Nat}{c:Code}(h:PW P c (Z6t id Q) st):PW P (.block id c) Q st:=by
 intro G a w hr;refine wp_block (wp_mono (h G a w hr) ?_);rintro e a' w' ⟨st',hq,hr'⟩;cases e<;>simp only[Z6t,Exit.inBlock]at hq⊢
 case exit id'=>
  split
  .rename_i he;simp only[he,dK]at hq;exact⟨st',hq,hr'⟩
  rename_i he;simp only[he,fy]at hq;exact⟨st',hq,hr'⟩
 all_goals exact⟨st',hq,hr'⟩
def NoGo(Q:Exit->St->Prop):Exit->St->Prop
 |.goto _,_=>False
 |e,st=>Q e st
def PW.scope{c:Code}(h:PW P c (NoGo Q) st):PW P (.scope c) Q st:=by intro G a w hr;refine wp_scope_straight (wp_mono (h G a w hr) ?_);rintro e a' w' ⟨st',hq,hr'⟩;cases e<;>simp only[NoGo,Exit.noGoto]at hq⊢;all_goals exact⟨st',hq,hr'⟩
end rules
def aQ(P:Program)(o:Oper)(ρ:List (Nat×PV))(Z:List (Nat×Blk))(need:List Nat)(p:PV)(news:List (Nat×Blk)):Prop:=
 ∀(G:Frm) (n:Nat) (tm:List (Nat×PV)) (Z':List (Nat×Blk)) (a:Act) (w:World) (K:Act->World->Prop) (Q:Exit->Act->World->Prop),
  (∀t q,Operand.tmp t∈o.op.operands->get ρ t=some q->get tm t=some q) ->
  (∀l,l∈need->get Z' l=get Z l) ->
  (∀l x,(l,x)∈news->(∀i q,get tm i=some q->q.has l=false)/\(∀m y,get Z' m=some y->m≠l/\y.has l=false)) ->
  Rel G ⟨n,tm,Z'⟩ a w ->
  (∀v w',(∃β,aE G β ⟨n,tm,news++Z'⟩ a w'/\VR (ctx G β w' (news++Z')) p v)->K (a.put o.dst v) w') ->
  o.wp P a w K Q
def Z38(P:Program)(o:Oper)(st st':St):Prop:=∀(G:Frm) (a:Act) (w:World) (K:Act->World->Prop) (Q:Exit->Act->World->Prop),Rel G st a w->(∀a' w',Rel G st' a' w'->K a' w')->o.wp P a w K Q
def aE.put{G:Frm}{β:Nat->Option Nat}{n:Nat}{tm:List (Nat×PV)}{Z:List (Nat×Blk)}{a:Act}{w:World}{d:Nat}{p:PV}{v:Value}
 (h:aE G β ⟨n,tm,Z⟩ a w) (hd:d<n) (hv:VR (ctx G β w Z) p v):aE G β ⟨n,put tm d p,Z⟩ (a.put (some d) v) w:=by
 have hsz:d<a.tmps.size:=dL hd h.sz
 exact { defers:=h.defers,sz:=by simpa[Act.put]using h.sz,base:=h.base,os:=h.os,tape:=h.tape,output:=h.output,old:=h.old,A:=h.A,gl:=h.gl,inj:=h.inj,sep:=h.sep,fix:=h.fix,row0:=h.row0,blk:=h.blk,
         tm:=λi q hq=>by
          by_cases hi:d=i
          .subst hi;rw[fO]at hq;cases hq;refine⟨hd,?_⟩;simpa[Act.put,hsz]using hv
          rw[gd _ _ hi]at hq;refine⟨(h.tm i q hq).1,?_⟩;have:=(h.tm i q hq).2;simpa[Act.put,Array.getElem?_setIfInBounds_ne hi]using this }
def bb{α:Type}:List Nat->List (Nat×α)->List (Nat×α)
 |[],Z=>Z
 |l::ls,Z=>bb ls (del Z l)
def kU{α:Type}:∀{ls:List Nat} {Z:List (Nat×α)} {m:Nat} {o:α},get (bb ls Z) m=some o->m∉ls/\get Z m=some o
 |[],Z,m,o,h=>⟨by simp,h⟩
 |l::ls,Z,m,o,h=>by
  obtain⟨h1,h2⟩:=kU (ls:=ls) h;by_cases hm:l=m
  .subst hm;rw[Zfq]at h2;cases h2
  rw[Z36 _ hm]at h2;exact⟨by simp[h1,de hm],h2⟩
def Z6d{α:Type}:∀{ls:List Nat} {Z:List (Nat×α)} {m:Nat},m∉ls->get (bb ls Z) m=get Z m
 |[],Z,m,_=>rfl
 |l::ls,Z,m,h=>by simp only[cn,not_or]at h;rw[bb,Z6d h.2,Z36 _ (de h.1)]
def OpF(P:Program)(o:Oper)(ρ:List (Nat×PV))(Z:List (Nat×Blk))(need rm:List Nat)(p:PV)(news:List (Nat×Blk)):Prop:=
 ∀(G:Frm) (n:Nat) (tm:List (Nat×PV)) (Z':List (Nat×Blk)) (a:Act) (w:World) (K:Act->World->Prop) (Q:Exit->Act->World->Prop),
  (∀t q,Operand.tmp t∈o.op.operands->get ρ t=some q->get tm t=some q) ->
  (∀l,l∈need->get Z' l=get Z l) ->
  (∀l x,(l,x)∈news->l∉rm->(∀i q,get tm i=some q->q.has l=false)/\(∀m y,get Z' m=some y->m≠l/\y.has l=false)) ->
  Rel G ⟨n,tm,Z'⟩ a w ->
  (∀v w',(∃β,aE G β ⟨n,tm,news++bb rm Z'⟩ a w'/\VR (ctx G β w' (news++bb rm Z')) p v)->K (a.put o.dst v) w') ->
  o.wp P a w K Q
def aQ.toF{P:Program}{o:Oper}{ρ:List (Nat×PV)}{Z:List (Nat×Blk)}{need:List Nat}{p:PV}{news:List (Nat×Blk)}(h:aQ P o ρ Z need p news):OpF P o ρ Z need [] p news:=λG n tm Z' a w K Q h1 h2 h3 hr hK=>h G n tm Z' a w K Q h1 h2 (λl x hx=>h3 l x hx al) hr hK
end Go.PW
namespace Go.PW
open Go.RowKit
def cO(P:Program)(ops:Array Oper)(R:St->Prop):List Oper->St->Prop
 |[],st=>∃st',Wk st st'/\R st'
 |o::l,st=>∀G a w,Rel G st a w->∀(K:Act->World->Prop) (Q:Exit->Act->World->Prop),(∀a' w' st',cO P ops R l st'->Rel G st' a' w'->K a' w') ->
  if Region.wanted o (yielded ops a.tmps)then o.wp P a w K Q else K (a.put o.dst undef) w
def iB(ops:Array Oper)(tm:List (Nat×PV))(o:Oper):Option Bool:=
 match o.guard with
 |none=>some true
 |some (g,want)=>
  match(ops[g]?).bind (·.dst)with
  |none=>none
  |some d=>
   match get tm d with
   |some (.t (.bool b))=>some (b==want)
   |some (.tup [])=>some false
   |_=>none
section
variable {P:Program} {ops:Array Oper} {R:St->Prop} {st:St} {o:Oper} {l:List Oper}
def Z13{G:Frm}{β:Nat->Option Nat}{n:Nat}{tm:List (Nat×PV)}{Z:List (Nat×Blk)}{a:Act}{w:World}(h:aE G β ⟨n,tm,Z⟩ a w){r:Bool}(hg:iB ops tm o=some r) :
 Region.wanted o (yielded ops a.tmps)=r:=by
 unfold iB at hg;unfold Region.wanted;cases hgu:o.guard with
 |none=>simp[hgu]at hg;simp[hg]
 |some gw=>
  obtain⟨g,want⟩:=gw;simp only[hgu]at hg⊢;unfold yielded;cases hd:(ops[g]?).bind (·.dst)with
  |none=>simp[hd]at hg
  |some d=>
   simp only[hd]at hg;simp only[bp];cases hq:get tm d with
   |none=>simp[hq]at hg
   |some q=>
    obtain⟨hlt,hv⟩:=h.tm d q hq;have hsz:d<a.tmps.size:=dL hlt h.sz;have hgd:a.tmps[d]?=some (a.tmps.getD d undef):=tk
    rw[hgd];simp only[hq]at hg;split at hg
    .rename_i b heq;cases heq;simp only[VR,Z9]at hv;rw[hv];cases hg;rfl
    .rename_i heq;cases heq;simp only[VR,VRs]at hv;obtain⟨vs,hv,rfl⟩:=hv;rw[hv];cases hg;rfl
    cases hg
def cO.wpList{Q:Exit->St->Prop}:∀(l:List Oper) (st:St),cO P ops (Q .normal) l st->∀G a w,Rel G st a w ->
 Go.wpList P ops (λe a' w'=>∃st',Q e st'/\Rel G st' a' w') l a w
 |[],st,h,G,a,w,hr=>by obtain⟨st',hw,h⟩:=h;exact⟨st',h,hw G a w hr⟩
 |o::l,st,h,G,a,w,hr=>by
  have:=h G a w hr (Go.wpList P ops (λe a' w'=>∃st',Q e st'/\Rel G st' a' w') l) (λe a' w'=>∃st',Q e st'/\Rel G st' a' w')
   (λa' w' st' hs hr'=>cO.wpList l st' hs G a' w' hr')
  unfold Go.wpList;split
  .rename_i hw;simp only[hw,dK]at this;exact .inl this
  rename_i hw;simpa[hw]using this
def PW.region{Q:Exit->St->Prop}{id:Nat}(h:cO P ops (Q .normal) ops.toList st):PW P (.region id ops false) Q st:=λG a w hr=>wp_region_list (cO.wpList ops.toList st h G a w hr)
def cO.nil(h:R st):cO P ops R [] st:=⟨st,Wk.refl st,h⟩
def cO.weaken{st':St}(hw:Wk st st')(h:cO P ops R l st'):cO P ops R l st:=by
 cases l with
 |nil=>obtain⟨s,hs,h⟩:=h;exact⟨s,hw.trans hs,h⟩
 |cons o l=>exact λG a w hr=>h G a w (hw G a w hr)
def cO.step{st':St}(hg:iB ops st.tm o=some true)(hu:Z38 P o st st')(h:cO P ops R l st'):cO P ops R (o::l) st:=by intro G a w hr K Q hK;obtain⟨β,hrr⟩:=hr;rw[Z13 hrr hg];simp only[dK];exact hu G a w K Q ⟨β,hrr⟩ (λa' w' hr'=>hK a' w' st' h hr')
def cO.skip{d:Nat}(hd:o.dst=some d)(hn:d<st.n)(hg:iB ops st.tm o=some false)(h:cO P ops R l ⟨st.n,put st.tm d (.tup []),st.Z⟩):cO P ops R (o::l) st:=by intro G a w hr K Q hK;obtain⟨β,hrr⟩:=hr;rw[Z13 hrr hg];simp only[fy,fb];refine hK _ _ _ h ⟨β,?_⟩;rw[hd];exact hrr.put hn MR
def cO.skipNone(hd:o.dst=none)(hg:iB ops st.tm o=some false)(h:cO P ops R l st):cO P ops R (o::l) st:=by intro G a w hr K Q hK;obtain⟨β,hrr⟩:=hr;rw[Z13 hrr hg];simp only[fy,fb];refine hK _ _ _ h ⟨β,?_⟩;rw[hd];exact hrr
end
structure Stp where
 need:List Nat
 p:PV
 news:List (Nat×Blk)
structure Stm where
 s:Stp
 rm:List Nat
def resP:Option Stm->PV
 |some x=>x.s.p
 |none =>.tup []
def dV:Option Stm->List (Nat×Blk)
 |some x=>x.s.news
 |none=>[]
def Z0u:Option Stm->List Nat
 |some x=>x.rm
 |none=>[]
def resQ:Option Stm->List Nat
 |some x=>x.s.need
 |none=>[]
def Z39(tm:List (Nat×PV))(d:Option Nat)(p:PV):List (Nat×PV):=match d with|some d=>put tm d p|none=>tm
def eo(P:Program)(ops:Array Oper)(n:Nat):List Oper->List (Option Stm)->List (Nat×PV)->List (Nat×Blk)->Prop
 |[],[],_,_=>True
 |o::os,x::xs,tm,Z=>((∀d,o.dst=some d->d<n)/\iB ops tm o=some x.isSome/\(∀s,x=some s->OpF P o tm Z s.s.need s.rm s.s.p s.s.news) /\
  eo P ops n os xs (Z39 tm o.dst (resP x)) (dV x++bb (Z0u x) Z))
 |_,_,_,_=>False
def eZ:List Oper->List (Option Stm)->List (Nat×PV)->List (Nat×PV)
 |o::os,x::xs,tm=>eZ os xs (Z39 tm o.dst (resP x))
 |_,_,tm=>tm
def gg:List (Option Stm)->List (Nat×Blk)->List (Nat×Blk)
 |x::xs,Z=>gg xs (dV x++bb (Z0u x) Z)
 |[],Z=>Z
end Go.PW
namespace Go.PW
open Go.RowKit
def jO(ops:Array Oper)(i j:Nat):Bool:=
 match ops[i]? with
 |some o=>o.after.toList.any λe=>Region.binds .any e&&Nat.beq e.on j
 |none=>false
def eD(ops:Array Oper):Nat->Nat->Nat->Bool
 |0,_,_=>false
 |f+1,i,j=>
  match ops[i]? with
  |some o=>o.after.toList.any λe=>Region.binds .any e&&(Nat.beq e.on j||eD ops f e.on j)
  |none=>false
def re(o:Oper)(t:Nat):Bool:=o.op.operands.toList.any λx=>match x with|.tmp u=>Nat.beq u t|_=>false
def MS(o:Oper)(t:Nat):Bool:=match o.dst with|some d=>Nat.beq d t|none=>false
def lZ(o:Oper)(i:Nat):Bool:=o.after.toList.all λe => !Region.binds .any e||Nat.blt e.on i
def wrB(x:Option Stm)(l:Nat):Bool:=((dV x).any λp=>Nat.beq p.1 l)||Z6w (Z0u x) l
def vv(xs:List (Option Stm))(j l:Nat):Bool:=match xs[j]? with|some x=>wrB x l|none=>false
def ordB(ops:Array Oper)(i j:Nat):Bool:=bif Nat.blt j i then eD ops ops.size i j else eD ops ops.size j i
def nQ(ops:Array Oper)(xs:List (Option Stm))(tm:List (Nat×PV))(Z:List (Nat×Blk))(m:Nat)(i:Nat)(o:Oper)(x:Option Stm):Bool:=
 lZ o i &&
 (match o.dst with
  |none=>true
  |some d => !re o d&&(List.range m).all λj=>Nat.beq j i||match ops[j]? with
   |some oj => !MS oj d&&(!re oj d||(bif Nat.blt i j then jO ops j i else jO ops i j))
   |none=>true) &&
 (match o.guard with|none=>true|some (g,_)=>Nat.blt g i&&jO ops i g) &&
 ((resQ x).all λl=>(List.range m).all λj=>Nat.beq j i || !vv xs j l||ordB ops i j) &&
 (((dV x).map (·.1)++Z0u x).all λl=>(List.range m).all λj=>Nat.beq j i || !vv xs j l||ordB ops i j) &&
 ((dV x).all λp=>Z6w (Z0u x) p.1||((tm.all λq => !q.2.has p.1)&&(Z.all λq => !Nat.beq q.1 p.1 && !q.2.has p.1) &&
  (List.range m).all λj=>Nat.beq j i||(match xs[j]? with
   |some y=>((!(resP y).has p.1 && !wrB y p.1&&(dV y).all λq => !q.2.has p.1)||eD ops ops.size j i)
   |none=>true)))
def Z2f(ops:Array Oper)(xs:List (Option Stm))(tm:List (Nat×PV))(Z:List (Nat×Blk)):Bool:=
 ((List.range xs.length).all λi=>match ops[i]?,xs[i]? with
  |some o,some x=>nQ ops xs tm Z xs.length i o x
  |_,_=>false) &&
 ((List.range ops.size).all λj=>Nat.blt j xs.length||(match ops[j]? with
  |some o=>lZ o j&&(List.range j).all λi=>eD ops ops.size j i
  |none=>false))
def kI(a b:Nat):Nat.blt a b=true↔a<b:=by rw[gF]
section
variable {P:Program} {ops:Array Oper}
def MT{i j:Nat}(h:jO ops i j=true):∃o,ops[i]?=some o/\∃e∈o.after,Region.binds .any e=true/\e.on=j:=by
 unfold jO at h;split at h
 .rename_i o ho;obtain⟨e,he,hb⟩:=rf.1 h;simp only[aL,aU]at hb;exact⟨o,ho,e,by simpa using he,hb.1,hb.2⟩
 cases h
def vw(ops:Array Oper)(L:Nat->Prop):Prop:=∀i o,L i->ops[i]?=some o->∀e∈o.after,Region.binds .any e=true->L e.on
def rh{L:Nat->Prop}(hL:vw ops L):∀(f i j:Nat),(∀o,ops[i]?=some o->∀e∈o.after,Region.binds .any e=true->L e.on)->eD ops f i j=true->L j
 |0,_,_,_,h=>by simp[eD]at h
 |f+1,i,j,hi,h=>by
  simp only[eD]at h;split at h
  .rename_i o ho;obtain⟨e,he,hb⟩:=rf.1 h;simp only[aL,gX,aU]at hb;have hon:L e.on:=hi o ho e ri hb.1;rcases hb.2 with h|h
   .subst h;exact hon
   exact rh hL f e.on j (λo' ho' e' he' hb'=>hL e.on o' hon ho' e' he' hb') h
  cases h
def Zdv{o:Oper}{t:Nat}(h:Operand.tmp t∈o.op.operands):re o t=true:=by unfold re;exact rf.2 ⟨.tmp t,by simpa using h,by simp⟩
def j1{α:Type}(a b:List (Nat×α))(i:Nat):get (a++b) i=match get a i with|some x=>some x|none=>get b i:=by
 induction a with
 |nil=>rfl
 |cons p a ih=>
  obtain⟨j,x⟩:=p;simp only[eR,get];cases Nat.beq j i with
  |true=>rfl
  |false=>simpa using ih
def ew{α:Type}:∀{l:List (Nat×α)} {i:Nat} {x:α},get l i=some x->(i,x)∈l
 |(j,y)::l,i,x,h=>by
  simp only[get]at h;cases hb:Nat.beq j i with
  |true=>
   simp only[hb,av,aq]at h;rw[(aU _ _).1 hb,h];exact vx ..
  |false=>simp only[hb,au]at h;exact cK _ (ew h)
def rj:∀(l:List Oper) (xs:List (Option Stm)) (tm:List (Nat×PV)) (t:Nat) (q:PV),l.length=xs.length->get (eZ l xs tm) t=some q ->
 (∃j:Nat,∃o x,l[j]?=some o/\xs[j]?=some x/\o.dst=some t/\q=resP x)\/(get tm t=some q/\∀(j:Nat) o,l[j]?=some o->o.dst≠some t)
 |[],[],tm,t,q,_,h =>.inr ⟨by simpa[eZ]using h,by simp⟩
 |[],_::_,_,_,_,hl,_=>lE
 |_::_,[],_,_,_,hl,_=>lE
 |o::l,x::xs,tm,t,q,hl,h=>by
  simp only[eZ]at h;rcases rj l xs _ t q nz h with⟨j,oj,xj,h1,h2,h3,h4⟩|⟨h1,h2⟩
  .exact .inl ⟨j+1,oj,xj,by simpa using h1,by simpa using h2,h3,h4⟩
  cases hd:o.dst with
  |none=>
   simp only[hd,Z39]at h1;refine .inr ⟨h1,λj oj hj=>?_⟩;cases j with
   |zero=>simp at hj;subst hj;simp[hd]
   |succ j=>exact h2 j oj iI
  |some d=>
   simp only[hd,Z39]at h1;by_cases hdt:d=t
   .subst hdt;rw[fO]at h1;exact .inl ⟨0,o,x,rfl,rfl,hd,by simpa using h1.symm⟩
   rw[gd _ _ hdt]at h1;refine .inr ⟨h1,λj oj hj=>?_⟩;cases j with
   |zero=>simp at hj;subst hj;simp[hd,hdt]
   |succ j=>exact h2 j oj iI
def uP{ls:List Nat}{l:Nat}:Z6w ls l=true↔l∈ls:=by
 induction ls with
 |nil=>simp[Z6w]
 |cons x r ih=>
  simp only[Z6w];cases hb:Nat.beq x l with
  |true=>simp[(aU _ _).1 hb]
  |false=>
   have:x≠l:=λe=>AW
   simp[ih,de this]
def MU(x:Option Stm):∀(xs:List (Option Stm)) (Z:List (Nat×Blk)),gg (xs++[x]) Z=dV x++bb (Z0u x) (gg xs Z)
 |[],Z=>rfl
 |y::xs,Z=>by simp only[eR,gg];exact MU x xs _
def Wr(x:Option Stm)(l:Nat):Prop:=get (dV x) l≠none\/l∈Z0u x
def MV{x:Option Stm}{l:Nat}:wrB x l=true↔Wr x l:=by
 unfold wrB Wr;rw[gX,uP];refine or_congr ?_ Iff.rfl;constructor
 .intro h hn;obtain⟨p,hp,hb⟩:=rf.1 h;have hb:=(aU _ _).1 hb;obtain⟨k,y⟩:=p;simp only at hb;subst hb;have:∀(L:List (Nat×Blk)),(k,y)∈L->get L k≠none:=by
   intro L;induction L with
   |nil=>intro h;cases h
   |cons q L ih=>
    obtain⟨m,z⟩:=q;intro h;simp only[get];cases hm:Nat.beq m k with
    |true=>simp
    |false=>
     simp only[au];rcases cn.1 h with h|h
     .cases h;simp at hm
     exact ih h
  exact this _ hp hn
 intro h;cases hg:get (dV x) l with
 |none=>exact absurd hg h
 |some y=>exact rf.2 ⟨(l,y),ew hg,by simp⟩
def Val(xs:List (Option Stm))(σ0:List (Nat×Blk))(L:Nat->Prop)(Z:List (Nat×Blk)):Prop:=∀l,
 (∃(j:Nat) (x:Option Stm),L j/\xs[j]?=some x/\Wr x l/\(∀(k:Nat) (y:Option Stm),L k->xs[k]?=some y->Wr y l->k<=j)/\get Z l=get (dV x) l) \/
 ((∀(j:Nat) (x:Option Stm),L j->xs[j]?=some x->¬Wr x l)/\get Z l=get σ0 l)
def Val.next{xs:List (Option Stm)}{σ0 Z:List (Nat×Blk)}{L:Nat->Prop}(h:Val xs σ0 L Z){i:Nat}{x:Option Stm}(hx:xs[i]?=some x)(hR:∀l,Wr x l->∀(j:Nat) z,L j->xs[j]?=some z->Wr z l->j<=i) :
 Val xs σ0 (λj=>L j\/j=i) (dV x++bb (Z0u x) Z):=by
 intro l;by_cases hw:Wr x l
 .refine .inl ⟨i,x,.inr rfl,hx,hw,λk y hk hy hyw=>?_,?_⟩
  .rcases hk with hk|hk
   .exact hR l hw k y hk hy hyw
   exact Nat.le_of_eq hk
  rw[j1];cases hg:get (dV x) l with
  |some y=>rfl
  |none=>
   rcases hw with hw|hw
   .exact absurd hg hw
   cases hd:get (bb (Z0u x) Z) l with
   |none=>rfl
   |some y=>exact absurd hw (kU hd).1
 have hg:get (dV x) l=none:=by
  cases hg:get (dV x) l with
  |none=>rfl
  |some y=>exact absurd (.inl (by rw[hg];simp)) hw
 have hl:l∉Z0u x:=λhl=>hw (.inr hl);have he:get (dV x++bb (Z0u x) Z) l=get Z l:=by rw[j1,hg,Z6d hl]
 rw[he];rcases h l with⟨j,z,h1,h2,h3,h4,h5⟩|⟨h1,h2⟩
 .refine .inl ⟨j,z,.inl h1,h2,h3,λk y hk hy hyw=>?_,h5⟩;rcases hk with hk|hk
  .exact h4 k y hk hy hyw
  subst hk;rw[hx]at hy;cases hy;exact absurd hyw hw
 refine .inr ⟨λj z hj hz hzw=>?_,h2⟩;rcases hj with hj|hj
 .exact h1 j z hj hz hzw
 subst hj;rw[hx]at hz;cases hz;exact hw hzw
def Val.congr{xs:List (Option Stm)}{σ0 Z:List (Nat×Blk)}{L L':Nat->Prop}(h:Val xs σ0 L Z)(hL:∀j,L j↔L' j):Val xs σ0 L' Z:=by have:L=L':=funext λj=>propext (hL j);subst this;exact h
def Val.agree{xs:List (Option Stm)}{σ0 Z Z':List (Nat×Blk)}{L L':Nat->Prop}(h:Val xs σ0 L Z)(h':Val xs σ0 L' Z')(l:Nat)
 (ht:∀(j:Nat) x,xs[j]?=some x->Wr x l->(L j↔L' j)):get Z l=get Z' l:=by
 rcases h l with⟨j,z,h1,h2,h3,h4,h5⟩|⟨h1,h2⟩<;>rcases h' l with⟨j',z',h1',h2',h3',h4',h5'⟩|⟨h1',h2'⟩
 .have e1:=h4 j' z' ((ht j' z' h2' h3').2 h1') h2' h3';have e2:=h4' j z ((ht j z h2 h3).1 h1) h2 h3;have:j=j':=by omega
  subst this;rw[h2]at h2';cases h2';rw[h5,h5']
 .exact absurd h3 (h1' j z ((ht j z h2 h3).1 h1) h2)
 .exact absurd h3' (h1 j' z' ((ht j' z' h2' h3').2 h1') h2')
 rw[h2,h2']
def Val.get{xs:List (Option Stm)}{σ0 Z:List (Nat×Blk)}{L:Nat->Prop}(h:Val xs σ0 L Z){m:Nat}{z:Blk}(hg:PW.get Z m=some z):PW.get σ0 m=some z\/∃(j:Nat) (x:Option Stm),L j/\xs[j]?=some x/\PW.get (dV x) m=some z:=by
 rcases h m with⟨j,x,h1,h2,h3,h4,h5⟩|⟨_,h3⟩
 .rw [hg]at h5;exact .inr ⟨j,x,h1,h2,h5.symm⟩
 exact .inl (h3.symm.trans hg)
def eo.at_{n:Nat}:∀(l:List Oper) (xs:List (Option Stm)) (tm:List (Nat×PV)) (Z:List (Nat×Blk)),eo P ops n l xs tm Z->∀(i:Nat) o x,l[i]?=some o->xs[i]?=some x ->
 (∀d,o.dst=some d->d<n)/\iB ops (eZ (l.take i) (xs.take i) tm) o=some x.isSome /\
  (∀s,x=some s->OpF P o (eZ (l.take i) (xs.take i) tm) (gg (xs.take i) Z) s.s.need s.rm s.s.p s.s.news)
 |[],_,_,_,_,i,o,x,h,_=>jb
 |_::_,[],_,_,hp,_,_,_,_,_=>by simp[eo]at hp
 |o::l,x::xs,tm,Z,hp,i,o',x',ho,hx=>by
  simp only[eo]at hp;obtain⟨hdn,hg,hop,hrest⟩:=hp;cases i with
  |zero=>
   simp at ho hx;subst ho;subst hx;exact⟨hdn,by simpa[eZ]using hg,by simpa[eZ,gg]using hop⟩
  |succ i=>have:=eo.at_ l xs _ _ hrest i o' x' (by simpa using ho) qn;simpa[eZ,gg]using this
def eo.length{n:Nat}:∀(l:List Oper) (xs:List (Option Stm)) (tm:List (Nat×PV)) (Z:List (Nat×Blk)),eo P ops n l xs tm Z->l.length=xs.length
 |[],[],_,_,_=>rfl
 |[],_::_,_,_,h=>by simp[eo]at h
 |_::_,[],_,_,h=>by simp[eo]at h
 |o::l,x::xs,tm,Z,hp=>by simp only[eo]at hp;obtain⟨_,_,_,hrest⟩:=hp;simpa using eo.length l xs _ _ hrest
structure Mid (ops:Array Oper) (xs:List (Option Stm)) (tm0:List (Nat×PV)) (σ0:List (Nat×Blk)) (L:Nat->Prop) (tm:List (Nat×PV)) (Z:List (Nat×Blk)):Prop where
 closed:vw ops L
 T1:∀(j:Nat) o x d,L j->ops[j]?=some o->xs[j]?=some x->o.dst=some d->get tm d=some (resP x)
 T2:∀t q,(∀(j:Nat) o,L j->ops[j]?=some o->o.dst≠some t)->get tm0 t=some q->get tm t=some q
 T3:∀t q,get tm t=some q->get tm0 t=some q\/∃j:Nat,∃x,L j/\xs[j]?=some x/\q=resP x
 S:Val xs σ0 L Z
structure nR (ops:Array Oper) (xs:List (Option Stm)) (tm0:List (Nat×PV)) (σ0:List (Nat×Blk)) (i:Nat) (o:Oper) (x:Option Stm):Prop where
 all:∀d,o.dst=some d->∀(j:Nat) oj,j≠i->j<xs.length->ops[j]?=some oj->oj.dst≠some d/\(re oj d=true->(i<j->jO ops j i=true)/\(¬i<j->jO ops i j=true))
 need:∀l,l∈resQ x->∀(j:Nat) z,xs[j]?=some z->j≠i->Wr z l->(j<i->eD ops ops.size i j=true)/\(¬j<i->eD ops ops.size j i=true)
 ord:∀l,Wr x l->∀(j:Nat) z,xs[j]?=some z->j≠i->Wr z l->(j<i->eD ops ops.size i j=true)/\(¬j<i->eD ops ops.size j i=true)
 fresh:∀p,p∈dV x->p.1∉Z0u x->(∀q,q∈tm0->q.2.has p.1=false)/\(∀q,q∈σ0->q.1≠p.1/\q.2.has p.1=false) /\
  ∀(j:Nat) y,j<xs.length->j≠i->xs[j]?=some y->((resP y).has p.1=false/\¬Wr y p.1/\∀q,q∈dV y->q.2.has p.1=false)\/eD ops ops.size j i=true
def MW{a b:Nat}(h:¬a<b):Nat.blt a b=false:=by
 cases hb:Nat.blt a b with
 |false=>rfl
 |true=>exact absurd ((kI _ _).1 hb) h
def Z9k{xs:List (Option Stm)}{tm0:List (Nat×PV)}{σ0:List (Nat×Blk)}(hs:Z2f ops xs tm0 σ0=true){i:Nat}{x:Option Stm}(hx:xs[i]?=some x) :
 ∃o,ops[i]?=some o/\nQ ops xs tm0 σ0 xs.length i o x=true:=by
 simp only[Z2f,aL]at hs;have him:i<xs.length:=(aJ.1 hx).1;have hat:=bU.1 hs.1 i (by simpa using him);cases ho:ops[i]? with
 |none=>simp[ho]at hat
 |some o=>
  simp only[ho,hx]at hat;exact⟨o,rfl,hat⟩
def Zdw{i j:Nat}(h:ordB ops i j=true):(j<i->eD ops ops.size i j=true)/\(¬j<i->eD ops ops.size j i=true):=by
 unfold ordB at h;refine⟨λhij=>?_,λhij=>?_⟩
 .rw [(kI j i).2 hij]at h;simpa using h
 rw[MW hij]at h;simpa using h
def Zdx{x:Option Stm}{l:Nat}{y:Blk}(h:get (dV x) l=some y):Wr x l :=.inl (by rw[h];simp)
def nR.of{xs:List (Option Stm)}{tm0:List (Nat×PV)}{σ0:List (Nat×Blk)}{i:Nat}{o:Oper}{x:Option Stm}(h:nQ ops xs tm0 σ0 xs.length i o x=true):nR ops xs tm0 σ0 i o x:=by
 simp only[nQ,aL]at h;obtain⟨⟨⟨⟨⟨_,hall⟩,_⟩,hneed⟩,hord⟩,hnews⟩:=h;have key:∀{l:Nat},((List.range xs.length).all λj=>Nat.beq j i || !vv xs j l||ordB ops i j)=true->∀(j:Nat) z,xs[j]?=some z->j≠i->Wr z l->(j<i->eD ops ops.size i j=true)/\(¬j<i->eD ops ops.size j i=true):=by intro l h j z hz hji hw;have hj:=(aJ.1 hz).1;have:=bU.1 h j iI;simp only[gX,aU,hji,nS,vv,hz,dv,MV.2 hw,vy]at this;exact Zdw this
 refine { all:=λd hd j oj hji hj hoj=>?_,need:=λl hl=>key (bU.1 hneed l hl),ord:=λl hw=>key (bU.1 hord l ?_),fresh:=λp hp hnr=>?_ }
 .simp only[hd,aL]at hall;have:=bU.1 hall.2 j iI;simp only[gX,aU,hji,nS,hoj,aL,dv]at this;obtain⟨h1,h2⟩:=this;refine⟨λe=>by simp[MS,e]at h1,λhrd=>?_⟩;rcases h2 with h2|h2
  .rw [hrd]at h2;cases h2
  refine⟨λhij=>?_,λhij=>?_⟩
  .rw [(kI i j).2 hij]at h2;simpa using h2
  rw[MW hij]at h2;simpa using h2
 .rcases hw with hw|hw
  .cases hg:get (dV x) l with
   |none=>exact absurd hg hw
   |some y=>exact cD.2 (.inl (gJ.2 ⟨(l,y),ew hg,rfl⟩))
  exact cD.2 (.inr hw)
 have:=bU.1 hnews p hp;simp only[gX,aL]at this;rcases this with h|h
 .exact absurd (uP.1 h) hnr
 obtain⟨⟨h1,h2⟩,h3⟩:=h;refine⟨λq hq=>by simpa using bU.1 h1 q hq,λq hq=>?_,λj y hj hji hy=>?_⟩
 .have:=bU.1 h2 q hq;simp only[aL,dv]at this;exact⟨λe=>by rw[e]at this;simp at this,this.2⟩
 have:=bU.1 h3 j iI;simp only[gX,aU,hji,nS,hy,aL,dv]at this;rcases this with h|h
 .exact .inl ⟨h.1.1,λhw=>by rw[MV.2 hw]at h;exact absurd h.1.2 al,λq hq=>by simpa using bU.1 h.2 q hq⟩
 exact .inr h
def vz{xs:List (Option Stm)}{σ0:List (Nat×Blk)}:∀(k:Nat),k<=xs.length->Val xs σ0 (λj=>j<k) (gg (xs.take k) σ0)
 |0,_=>λl =>.inr ⟨λj _ h=>absurd h (Nat.not_lt_zero j),rfl⟩
 |k+1,hk=>by have hx:xs[k]?=some (xs[k]'(by omega)):=bn O;have:=(vz (σ0:=σ0) k O).next hx (λl _ j z hj _ _=>vA hj);rw[lf,hx,ta,MU];exact this.congr (λj=>by omega)
def Mid.next{xs:List (Option Stm)}{tm0:List (Nat×PV)}{σ0:List (Nat×Blk)}{L:Nat->Prop}{tm:List (Nat×PV)}{Z:List (Nat×Blk)}{n:Nat}{pre:List Oper}{suf:List Oper}
 (hops:ops.toList=pre++suf) (hplan:eo P ops n pre xs tm0 σ0) (hs0:Z2f ops xs tm0 σ0=true) (hm:Mid ops xs tm0 σ0 L tm Z)
 {i:Nat} {o:Oper} {x:Option Stm} (ho:ops[i]?=some o) (hx:xs[i]?=some x) (hi:¬L i) (hLm:∀j,L j->j<xs.length) (hready:∀e∈o.after,Region.binds .any e=true->L e.on)
 {G:Frm} {a:Act} {w:World} (hr:Rel G ⟨n,tm,Z⟩ a w) {K:Act->World->Prop} {Q:Exit->Act->World->Prop}
 (hK:∀a' w' tm' Z',Mid ops xs tm0 σ0 (λj=>L j\/j=i) tm' Z'->Rel G ⟨n,tm',Z'⟩ a' w'->K a' w'):wpOp P ops Q i K a w:=by
 have hlen:=eo.length _ _ _ _ hplan;have him:i<xs.length:=(aJ.1 hx).1;have hpre:∀(j:Nat),j<xs.length->ops[j]?=pre[j]?:=λj hj=>by rw[<- vm,hops,dy O]
 obtain⟨hdn,hgd,hop⟩:=hplan.at_ _ _ _ _ i o x (by rw[<- hpre i him];exact ho) hx;obtain⟨o1,ho1,hat⟩:=Z9k hs0 hx;rw[ho]at ho1;cases ho1;have hF:=nR.of hat;have hguard:(match o.guard with|none=>true|some (g,_)=>Nat.blt g i&&jO ops i g)=true:=by simp only[nQ,aL]at hat;exact hat.1.1.1.2
 have hdir:∀j,jO ops i j=true->L j:=by intro j hj;obtain⟨o',ho',e,he,hb,hon⟩:=MT hj;rw[ho]at ho';cases ho';rw[<- hon];exact hready e he hb
 have hreach:∀f j,eD ops f i j=true->L j:=λf j h=>rh hm.closed f i j (λo' ho' e he hb=>by rw[ho]at ho';cases ho';exact hready e he hb) h;have hnreach:∀f j,eD ops f j i=true->¬L j:=λf j h hLj=>hi (rh hm.closed f j i (λo' ho' e he hb=>hm.closed j o' hLj ho' e he hb) h);have hopnd:∀t q,Operand.tmp t∈o.op.operands->get (eZ (pre.take i) (xs.take i) tm0) t=some q->get tm t=some q:=by
  intro t q ht hq;have hrd:=Zdv ht;rcases rj _ _ _ t q aZ hq with⟨j,oj,xj,h1,h2,h3,h4⟩|⟨h1,h2⟩
  .have hji:j<i:=by
    have:=(aJ.1 h1).1;simp at this;omega
   have hoj:ops[j]?=some oj:=MX
   have hxj:xs[j]?=some xj:=MY
   obtain⟨o2,ho2,hatj⟩:=Z9k hs0 hxj;rw[hoj]at ho2;cases ho2;have hallj:=((nR.of hatj).all t h3 i o (Nat.ne_of_lt hji).symm him ho).2 hrd;subst h4;exact hm.T1 j oj xj t (hdir j (hallj.1 hji)) hoj hxj h3
  refine hm.T2 t q (λj oj hLj hoj hdst=>?_) h1;have hjm:=hLm j hLj;have hji:j≠i:=λe=>hi (e▸hLj);rcases dY j i with hlt|hge
  .exact h2 j oj (by rw[jP,aP hlt,<- hpre j hjm];exact hoj) hdst
  ·-- a later writer must wait for i
   have hxj:xs[j]?=some xs[j]:=bn hjm;obtain⟨o2,ho2,hatj⟩:=Z9k hs0 hxj;rw[hoj]at ho2;cases ho2;have hallj:=((nR.of hatj).all t hdst i o hji.symm him ho).2 hrd;obtain⟨o',ho',e,he,hb,hon⟩:=MT (hallj.2 (Nat.not_lt_of_le hge));exact hi (hon▸hm.closed j o' hLj ho' e he hb)
 have hgd':iB ops tm o=some x.isSome:=by
  unfold iB at hgd⊢;cases hgu:o.guard with
  |none=>simpa[hgu]using hgd
  |some gw=>
   obtain⟨g,want⟩:=gw;simp only[hgu]at hgd hguard⊢;simp only[aL,kI]at hguard;have hLg:=hdir g hguard.2;cases hgo:(ops[g]?).bind (·.dst)with
   |none=>simp[hgo]at hgd
   |some dg=>
    simp only[hgo]at hgd⊢;obtain⟨og,hog,hdg⟩:=dC.1 hgo;have hgm:=hLm g hLg;have hxg:xs[g]?=some xs[g]:=bn hgm;have htm:=hm.T1 g og _ dg hLg hog hxg hdg;cases hq:get (eZ (pre.take i) (xs.take i) tm0) dg with
    |none=>simp[hq]at hgd
    |some q=>
     rcases rj _ _ _ dg q aZ hq with⟨j,oj,xj,h1,h2,h3,h4⟩|⟨h1,h2⟩
     .have hji:j<i:=by
       have:=(aJ.1 h1).1;simp at this;omega
      have hoj:ops[j]?=some oj:=MX
      have hxj:xs[j]?=some xj:=MY
      have hjg:j=g:=by apply vB;intro hne;obtain⟨o2,ho2,hatj⟩:=Z9k hs0 hxj;rw[hoj]at ho2;cases ho2;exact((nR.of hatj).all dg h3 g og (de hne) hgm hog).1 hdg
      subst hjg;rw[hxj]at hxg;cases hxg;rw[hq,h4]at hgd;rw[htm];exact hgd
     exact absurd hdg (h2 g og (by rw[jP,aP hguard.1,<- hpre g hgm];exact hog))
 have hclosed:vw ops (λj=>L j\/j=i):=by
  rintro j oj (hj|hj) hoj e he hb
  .exact .inl (hm.closed j oj hj hoj e he hb)
  subst hj;rw[ho]at hoj;cases hoj;exact .inl (hready e he hb)
 have hlast:∀l,Wr x l->∀(j:Nat) z,L j->xs[j]?=some z->Wr z l->j<=i:=by intro l hw j z hj hz hzw;apply vB;intro hn;have hji:j≠i:=λe=>hi (e▸hj);exact hnreach _ j ((hF.ord l hw j z hz hji hzw).2 O) hj
 have hmid:Mid ops xs tm0 σ0 (λj=>L j\/j=i) (Z39 tm o.dst (resP x)) (dV x++bb (Z0u x) Z):=by
  refine⟨hclosed,?_,?_,?_,hm.S.next hx hlast⟩
  .rintro j oj xj dj (hj|hj) hoj hxj hdj
   .have hji:j≠i:=λe=>hi (e▸hj);have h0:=hm.T1 j oj xj dj hj hoj hxj hdj;cases hd:o.dst with
    |none=>exact h0
    |some d=>have:=(hF.all d hd j oj hji (hLm j hj) hoj).1;have hne:d≠dj:=λe=>this (e▸hdj);simp only[Z39];rw[gd _ _ hne];exact h0
   subst hj;rw[ho]at hoj;cases hoj;rw[hx]at hxj;cases hxj;rw[hdj];exact fO ..
  .intro t q hnw hq;have h0:=hm.T2 t q (λj oj hj hoj=>hnw j oj (.inl hj) hoj) hq;cases hd:o.dst with
   |none=>exact h0
   |some d=>have hne:d≠t:=λe=>hnw i o (.inr rfl) ho (e▸hd);simp only[Z39];rw[gd _ _ hne];exact h0
  intro t q hq;have old:get tm t=some q->get tm0 t=some q\/∃j:Nat,∃x,(L j\/j=i)/\xs[j]?=some x/\q=resP x:=λhq=>by
   rcases hm.T3 t q hq with h|⟨j,z,h1,h2,h3⟩
   .exact .inl h
   exact .inr ⟨j,z,.inl h1,h2,h3⟩
  cases hd:o.dst with
  |none=>rw[hd]at hq;exact old hq
  |some d=>
   rw[hd]at hq;simp only[Z39]at hq;by_cases hdt:d=t
   .subst hdt;rw[fO]at hq;cases hq;exact .inr ⟨i,x,.inr rfl,hx,rfl⟩
   rw[gd _ _ hdt]at hq;exact old hq
 obtain⟨β,hrr⟩:=hr;unfold wpOp;simp only[ho];rw[Z13 hrr hgd'];cases x with
 |none=>
  simp only[vC,fb,fy];refine hK _ _ _ _ hmid ⟨β,?_⟩;cases hd:o.dst with
  |none=>exact hrr
  |some d=>exact hrr.put (p :=.tup []) (hdn d hd) (v:=undef) MR
 |some s=>
  simp only[Option.isSome_some,dK];refine .inl (hop s rfl G n tm Z a w K Q hopnd ?_ ?_ ⟨β,hrr⟩ ?_)
  .intro l hl;refine hm.S.agree (vz i (vA him)) l (λj z hz hw=>?_);by_cases hji:j=i
   .subst hji;exact⟨λh=>absurd h hi,λh=>absurd h (Nat.lt_irrefl _)⟩
   obtain⟨h1,h2⟩:=hF.need l hl j z hz hji hw;constructor
   .intro hLj;apply vB;intro hge;exact hnreach _ j (h2 hge) hLj
   intro hlt;exact hreach _ j (h1 hlt)
  .intro l y hly hnr;obtain⟨f1,f2,f3⟩:=hF.fresh (l,y) hly hnr;have hj':∀(j:Nat) z,L j->xs[j]?=some z->(resP z).has l=false/\(∀q∈dV z,q.2.has l=false)/\get (dV z) l=none:=by
    intro j z hLj hz;have hji:j≠i:=λe=>hi (e▸hLj);rcases f3 j z (hLm j hLj) hji hz with h|h
    .refine⟨h.1,h.2.2,?_⟩;cases hg:get (dV z) l with
     |none=>rfl
     |some u=>exact absurd (Zdx hg) h.2.1
    exact absurd hLj (hnreach _ j h)
   refine⟨λt q hq=>?_,λm z hz=>?_⟩
   .rcases hm.T3 t q hq with h|⟨j,z,h1,h2,h3⟩
    .exact f1 _ (ew h)
    subst h3;exact(hj' j z h1 h2).1
   rcases hm.S.get hz with h|⟨j,u,h1,h2,h3⟩
   .exact f2 _ (ew h)
   refine⟨λe=>?_,(hj' j u h1 h2).2.1 _ (ew h3)⟩;subst e;rw[(hj' j u h1 h2).2.2]at h3;cases h3
  rintro v w' ⟨β',hβ',hv⟩;refine hK _ _ _ _ hmid ⟨β',?_⟩;cases hd:o.dst with
  |none=>exact hβ'
  |some d=>exact hβ'.put (hdn d hd) hv
end
end Go.PW
namespace Go.PW
open Go.RowKit
section
variable {P:Program} {ops:Array Oper}
def unl(ops:Array Oper)(listed:Array Bool):Nat:=((List.range ops.size).filter λj => !listed.getD j false).length
def Ze7{listed:Array Bool}{i:Nat}(hi:i<ops.size)(hs:listed.size=ops.size)(hu:listed.getD i false=false):unl ops (listed.setIfInBounds i true)<unl ops listed:=by
 unfold unl;have h1:(List.range ops.size).filter (λj => !(listed.setIfInBounds i true).getD j false)=((List.range ops.size).filter λj => !listed.getD j false).filter (λj=>j != i):=by
  rw[List.filter_filter];refine List.filter_congr λj hj=>?_;by_cases hji:j=i
  .subst hji;simp[hs,hi]
  have:(listed.setIfInBounds i true).getD j false=listed.getD j false:=wa false (de hji);rw[this];simp[hji]
 rw[h1,List.length_filter_lt_length_iff_exists];exact⟨i,by simp only[gy,kY];exact⟨hi,by rw[hu];rfl⟩,by simp⟩
def Ze8{listed:Array Bool}(h:unl ops listed=0):∀j,j<ops.size->listed.getD j false=true:=by
 intro j hj;unfold unl at h;have:=du h;cases hb:listed.getD j false with
 |true=>rfl
 |false=>
  have hm:j∈(List.range ops.size).filter λj => !listed.getD j false:=by simp only[gy,kY];exact⟨hj,by rw[hb];rfl⟩
  rw[this]at hm;cases hm
def BY{listed:Array Bool}{j:Nat}(hj:j<listed.size):listed.getD j true=listed.getD j false:=by simp[hj]
def mem_ready'{listed:Array Bool}(hs:listed.size=ops.size){j:Nat}(h:j∈Region.ready .any ops listed):j<ops.size/\listed.getD j false=false/\∃o,ops[j]?=some o/\∀e∈o.after,Region.binds .any e=true->listed.getD e.on false=true:=by obtain⟨h0,o,ho,hall⟩:=mem_ready.1 h;have hj:j<ops.size:=(pa.1 ho).1;exact⟨hj,by rw[<- BY O];exact h0,o,ho,hall⟩
def Sb{Q:Exit->St->Prop}{m:Nat}(hbacks:∀j,j<ops.size->∃o,ops[j]?=some o/\lZ o j=true)(htail:∀j,m<=j->j<ops.size->∃o,ops[j]?=some o/\lZ o j=true/\∀i,i<j->eD ops ops.size j i=true)(G:Frm) :
 ∀(fuel j:Nat) (listed:Array Bool) (st:St) (a:Act) (w:World),m<=j->ops.size<=j+fuel->listed.size=ops.size->(∀i,i<ops.size->(listed.getD i false=true↔i<j)) ->
  cO P ops (Q .normal) (ops.toList.drop j) st->Rel G st a w ->
  wpAny P .any ops (λe a' w'=>∃st',Q e st'/\Rel G st' a' w') fuel listed a w
 |0,j,listed,st,a,w,hmj,hf,hs,hl,hp,hr=>by
  have hdrop:ops.toList.drop j=[]:=ir aZ;rw[hdrop]at hp;obtain⟨st',hw,hq⟩:=hp;refine⟨?_,st',hq,hw G a w hr⟩;cases hrd:Region.ready .any ops listed with
  |nil=>rfl
  |cons i l=>
   obtain⟨hi,hu,_⟩:=mem_ready' hs (j:=i) BZ;rw[(hl i hi).2 O]at hu;cases hu
 |fuel+1,j,listed,st,a,w,hmj,hf,hs,hl,hp,hr=>by
  rcases dY j ops.size with hj|hj
  case inr=>
   have hdrop:ops.toList.drop j=[]:=ir aZ;rw[hdrop]at hp;obtain⟨st',hw,hq⟩:=hp;have hnil:Region.ready .any ops listed=[]:=by
    cases hrd:Region.ready .any ops listed with
    |nil=>rfl
    |cons i l=>
     obtain⟨hi,hu,_⟩:=mem_ready' hs (j:=i) BZ;rw[(hl i hi).2 O]at hu;cases hu
   exact⟨λ_=>⟨st',hq,hw G a w hr⟩,λi hi=>by rw[hnil]at hi;cases hi⟩
  obtain⟨o,ho,hback,_⟩:=htail j hmj hj;have hrj:j∈Region.ready .any ops listed:=by
   refine mem_ready.2 ⟨?_,o,ho,λe he hb=>?_⟩
   .rw [BY O];cases hb:listed.getD j false with
    |false=>rfl
    |true=>have:=(hl j hj).1 hb;omega
   have:=bU.1 hback e ri;simp only[gX,dv,hb,vy,nS,kI]at this;exact(hl e.on O).2 this
  refine⟨λh=>(by rw[h]at hrj;cases hrj),λi hi=>?_⟩;obtain⟨hin,hu,oi,hoi,hall⟩:=mem_ready' hs hi;have hij:i=j:=by
   rcases Nat.lt_trichotomy i j with h|h|h
   .rw [(hl i hin).2 h]at hu;cases hu
   .exact h
   obtain⟨o',ho',_,hd⟩:=htail i O hin;have hback1:∀(k:Nat) ok,ops[k]?=some ok->∀e∈ok.after,Region.binds .any e=true->e.on<k:=λk ok hok e he hb=>by obtain⟨o3,ho3,hb3⟩:=hbacks k (pa.1 hok).1;rw[hok]at ho3;cases ho3;have:=bU.1 hb3 e ri;simpa only[gX,dv,hb,vy,nS,kI]using this
   have hclosed:vw ops (λk=>k<j):=λk ok hk hok e he hb=>Nat.lt_trans (hback1 k ok hok e he hb) hk;have:=rh hclosed ops.size i j (λo3 ho3 e he hb=>by rw[hoi]at ho3;cases ho3;have h1:=hall e he hb;have h2:=hback1 i oi hoi e he hb;exact(hl e.on O).1 h1) (hd j h);omega
  subst hij;rw[ho]at hoi;cases hoi;have hcons:ops.toList.drop i=o::ops.toList.drop (i+1):=by
   have h1:ops.toList[i]?=some o:=by simpa using ho
   have hi':i<ops.toList.length:=iI
   have h2:=bn hi';rw[h1]at h2;rw[oE hi',<- c9 h2]
  rw[hcons]at hp;have hlisted:∀k,k<ops.size->((listed.setIfInBounds i true).getD k false=true↔k<i+1):=by
   intro k hk;by_cases hki:k=i
   .subst hki;simp[hs,hk]
   rw[wa false (de hki),hl k hk];omega
  unfold wpOp;simp only[ho];have:=hp G a w hr (wpAny P .any ops (λe a' w'=>∃st',Q e st'/\Rel G st' a' w') fuel (listed.setIfInBounds i true)) (λe a' w'=>∃st',Q e st'/\Rel G st' a' w')
   (λa' w' st' hs' hr'=>Sb hbacks htail G fuel (i+1) _ st' a' w' O O (by simpa using hs) hlisted hs' hr')
  split
  .rename_i hw;simp only[hw,dK]at this;exact .inl this
  rename_i hw;simpa[hw]using this
def Ze9{Q:Exit->St->Prop}{n:Nat}{xs:List (Option Stm)}{tm0:List (Nat×PV)}{σ0:List (Nat×Blk)}{pre suf:List Oper}
 (hops:ops.toList=pre++suf) (hplan:eo P ops n pre xs tm0 σ0) (hs:Z2f ops xs tm0 σ0=true) (hp:cO P ops (Q .normal) suf ⟨n,eZ pre xs tm0,gg xs σ0⟩) (G:Frm) :
 ∀(fuel:Nat) (listed:Array Bool) (tm:List (Nat×PV)) (Z:List (Nat×Blk)) (a:Act) (w:World),unl ops listed<=fuel->listed.size=ops.size->(∀j,listed.getD j false=true->j<xs.length) ->
  Mid ops xs tm0 σ0 (λj=>listed.getD j false=true) tm Z->Rel G ⟨n,tm,Z⟩ a w ->
  wpAny P .any ops (λe a' w'=>∃st',Q e st'/\Rel G st' a' w') fuel listed a w:=by
 have hlen:=eo.length _ _ _ _ hplan;have hsz:ops.size=pre.length+suf.length:=by rw[<- iV,hops,bF]
 have hpre:∀(j:Nat),j<xs.length->ops[j]?=pre[j]?:=λj hj=>by rw[<- vm,hops,dy O]
 have hs':=hs;simp only[Z2f,aL]at hs';have htail:∀j,xs.length<=j->j<ops.size->∃o,ops[j]?=some o/\lZ o j=true/\∀i,i<j->eD ops ops.size j i=true:=by
  intro j hj hjn;have:=bU.1 hs'.2 j (by simpa using hjn);have hnb:Nat.blt j xs.length=false:=by
   cases hb:Nat.blt j xs.length with
   |false=>rfl
   |true=>have:=(kI _ _).1 hb;omega
  simp only[hnb,kW]at this;split at this
  .rename_i o ho;simp only[aL]at this;exact⟨o,ho,this.1,λi hi=>bU.1 this.2 i AT⟩
  cases this
 have hbackP:∀j,j<xs.length->∃o,ops[j]?=some o/\lZ o j=true:=by
  intro j hj;have:=bU.1 hs'.1 j iI;split at this
  .rename_i o x ho hx;simp only[nQ,aL]at this;exact⟨o,ho,this.1.1.1.1.1⟩
  cases this
 have hbacks:∀j,j<ops.size->∃o,ops[j]?=some o/\lZ o j=true:=λj hj=>by
  rcases dY j xs.length with h|h
  .exact hbackP j h
  obtain⟨o,ho,hb,_⟩:=htail j h hj;exact⟨o,ho,hb⟩
 intro fuel;induction fuel with
 |zero=>
  intro listed tm Z a w hf hls hLm hm hr;have hall:=Ze8 (Nat.le_zero.1 hf);have hsuf:suf=[]:=by
   cases suf with
   |nil=>rfl
   |cons o l=>exfalso;have:=hLm xs.length (hall _ (by simp at hsz;omega));omega
  refine⟨?_,?_⟩
  .cases hrd:Region.ready .any ops listed with
   |nil=>rfl
   |cons i l=>
    obtain⟨hi,hu,_⟩:=mem_ready' hls (j:=i) BZ;rw[hall i hi]at hu;cases hu
  subst hsuf;obtain⟨st',hw,hq⟩:=hp;refine⟨st',hq,hw G a w ?_⟩;obtain⟨β,hrr⟩:=hr;refine⟨β,hrr.sub (aW _) (λt q hq=>?_) (λl y hl=>?_)⟩
  .have hgt:get tm t=some q:=by
    rcases rj _ _ _ t q hlen hq with⟨j,oj,xj,h1,h2,h3,h4⟩|⟨h1,h2⟩
    .have hj:j<xs.length:=(aJ.1 h2).1;subst h4;exact hm.T1 j oj xj t (hall j O) (by rw[hpre j hj];exact h1) h2 h3
    exact hm.T2 t q (λj oj hLj hoj=>h2 j oj Sc) h1
   exact⟨hgt,(hrr.tm t q hgt).1⟩
  rw[hm.S.agree (vz xs.length (aW _)) l (λj z hz _=>⟨λh=>hLm j h,λh=>hall j O⟩),List.take_length];exact hl
 |succ fuel ih=>
  intro listed tm Z a w hf hls hLm hm hr;by_cases hfull:∀j,j<xs.length->listed.getD j false=true
  ·-- the head is done
   have hl:∀i,i<ops.size->(listed.getD i false=true↔i<xs.length):=λi _=>⟨hLm i,hfull i⟩;have hcount:ops.size<=xs.length+(fuel+1):=by
    have h1:(List.range ops.size).filter (λj => !listed.getD j false)=(List.range' xs.length (ops.size-xs.length)):=by
     have hr1:List.range ops.size=List.range' 0 xs.length++List.range' xs.length (ops.size-xs.length):=by rw[List.range_eq_range'];have:=List.range'_append (s:=0) (m:=xs.length) (n:=ops.size-xs.length) (step:=1);simp only[eP,aM]at this;rw[this];congr 1;omega
     rw[hr1,j3];have e1:(List.range' 0 xs.length).filter (λj => !listed.getD j false)=[]:=by rw[List.filter_eq_nil_iff];intro j hj;simp only[List.mem_range'_1]at hj;rw[hfull j O];simp
     have e2:(List.range' xs.length (ops.size-xs.length)).filter (λj => !listed.getD j false)=List.range' xs.length (ops.size-xs.length):=by
      rw[qV];intro j hj;simp only[List.mem_range'_1]at hj;cases hb:listed.getD j false with
      |false=>rfl
      |true=>have:=hLm j hb;omega
     rw[e1,e2,iT]
    unfold unl at hf;rw[h1,List.length_range']at hf;omega
   refine Sb (m:=xs.length) hbacks htail G (fuel+1) xs.length listed _ a w (aW _) hcount hls hl (by rw[hops,<- hlen,List.drop_left];exact hp) ?_;obtain⟨β,hrr⟩:=hr;refine⟨β,hrr.sub (aW _) (λt q hq=>?_) (λl y hl=>?_)⟩
   .have hgt:get tm t=some q:=by
     rcases rj _ _ _ t q hlen hq with⟨j,oj,xj,h1,h2,h3,h4⟩|⟨h1,h2⟩
     .have hj:j<xs.length:=(aJ.1 h2).1;subst h4;exact hm.T1 j oj xj t (hfull j hj) (by rw[hpre j hj];exact h1) h2 h3
     exact hm.T2 t q (λj oj hLj hoj=>h2 j oj Sc) h1
    exact⟨hgt,(hrr.tm t q hgt).1⟩
   rw[hm.S.agree (vz xs.length (aW _)) l (λj z hz _=>⟨λh=>hLm j h,λh=>hfull j h⟩),List.take_length];exact hl
  ·-- the head is not done:the first that is not carried out is ready
   have hex:∃j,j<xs.length/\listed.getD j false=false/\∀i,i<j->listed.getD i false=true:=by
    apply vB;intro hno;apply hfull;intro j;induction j using Nat.strongRecOn with
    |_ j ihj=>
     intro hj;cases hb:listed.getD j false with
     |true=>rfl
     |false=>exact absurd ⟨j,hj,hb,λi hi=>ihj i hi O⟩ hno
   obtain⟨j,hj,hjf,hjl⟩:=hex;obtain⟨oj,hoj,hbj⟩:=hbackP j hj;have hrj:j∈Region.ready .any ops listed:=by
    refine mem_ready.2 ⟨?_,oj,hoj,λe he hb=>?_⟩
    .rw [BY O];exact hjf
    have:=bU.1 hbj e ri;simp only[gX,dv,hb,vy,nS,kI]at this;exact hjl _ this
   refine⟨λh=>(by rw[h]at hrj;cases hrj),λi hi=>?_⟩;obtain⟨hin,hu,oi,hoi,hall⟩:=mem_ready' hls hi;have him:i<xs.length:=by
    rcases dY i xs.length with h|h
    .exact h
    obtain⟨o',ho',_,hd⟩:=htail i h hin;have:=rh hm.closed ops.size i j (λo3 ho3 e he hb=>by rw[hoi]at ho3;cases ho3;exact hall e he hb) (hd j O);rw[hjf]at this;cases this
   have hxi:xs[i]?=some xs[i]:=bn him;refine hm.next hops hplan hs hoi hxi (by rw[hu];simp) hLm hall hr ?_;intro a' w' tm' Z' hm' hr';have hfun:(λk=>listed.getD k false=true\/k=i)=(λk=>(listed.setIfInBounds i true).getD k false=true):=by
    funext k;by_cases hki:k=i
    .subst hki;simp[hls,hin]
    rw[wa false (de hki)];simp[hki]
   rw[hfun]at hm';have hlt:=Ze7 hin hls hu;refine ih _ tm' Z' a' w' O (by simpa using hls) (λk hk=>?_) hm' hr';by_cases hki:k=i
   .subst hki;exact him
   rw[wa false (de hki)]at hk;exact hLm k hk
def aE.drew{G:Frm}{β:Nat->Option Nat}{st:St}{a:Act}{w:World}(h:aE G β st a w):aE G β st a w.drew:=by
 have hI:∀b,(ctx G β w st.Z).I b->(ctx G β w.drew st.Z).I b/\(ctx G β w.drew st.Z).w.heap[b]?=(ctx G β w st.Z).w.heap[b]?:=λb hb=>⟨hb,rfl⟩;have hL:∀l,aV (ctx G β w st.Z) (ctx G β w.drew st.Z) l:=λl=>aV.same rfl rfl (λ_ _=>rfl)
 exact { defers:=h.defers,sz:=h.sz,base:=h.base,os:=h.os,tape:=h.tape,output:=h.output,old:=h.old,A:=h.A,gl:=h.gl,inj:=h.inj,sep:=h.sep,fix:=h.fix,row0:=h.row0.step (λl _=>hL l),
         blk:=λl o hl=>BR.step hI rfl (λ_ _=>rfl) (λm _=>hL m) (h.blk l o hl),
         tm:=λi p hp=>⟨(h.tm i p hp).1,VR.step hI _ _ (λm _=>hL m) (h.tm i p hp).2⟩ }
def Zfa{Q:Exit->St->Prop}{st:St}(xs:List (Option Stm))(pre suf:List Oper)(hops:ops.toList=pre++suf)
 (hplan:eo P ops st.n pre xs st.tm st.Z) (hs:Z2f ops xs st.tm st.Z=true) (hp:cO P ops (Q .normal) suf ⟨st.n,eZ pre xs st.tm,gg xs st.Z⟩) {G:Frm} {a:Act} {w:World} (hr:Rel G st a w) :
 wpAny P .any ops (λe a' w'=>∃st',Q e st'/\Rel G st' a' w') ops.size (Array.replicate ops.size false) a w.drew:=by
 have hr':Rel G st a w.drew:=by obtain⟨β,h⟩:=hr;exact⟨β,h.drew⟩
 refine Ze9 (Q:=Q) hops hplan hs hp G ops.size (Array.replicate ops.size false) st.tm st.Z a w.drew ?_ al (λj hj=>?_) ?_ hr'
 .unfold unl;rw[qV.2]
  .simp
  intro j hj;simp only[kY]at hj;simp[hj]
 .exfalso;rcases dY j ops.size with h|h<;>simp[h]at hj
 have hno:∀j,¬((Array.replicate ops.size false).getD j false=true):=by intro j hj;rcases dY j ops.size with h|h<;>simp[h]at hj
 exact⟨λi _ hi=>absurd hi (hno i),λj _ _ _ hj=>absurd hj (hno j),λ_ _ _ h=>h,λ_ _ h =>.inl h,λl =>.inr ⟨λj _ hj=>absurd hj (hno j),rfl⟩⟩
def PW.region_draw{Q:Exit->St->Prop}{id:Nat}{st:St}(hm:P.follows .mixedOrders=true)(xs:List (Option Stm))(pre suf:List Oper)(hops:ops.toList=pre++suf)
 (hplan:eo P ops st.n pre xs st.tm st.Z) (hs:Z2f ops xs st.tm st.Z=true) (hp:cO P ops (Q .normal) suf ⟨st.n,eZ pre xs st.tm,gg xs st.Z⟩) :
 PW P (.region id ops true) Q st:=λ_ _ _ hr=>wp_region_any hm (Zfa xs pre suf hops hplan hs hp hr)
end
end Go.PW
namespace Go.PW
open Go.RowKit
inductive LK where
 |b|i (k:IntKind)|s
 deriving DecidableEq
def LK.fits:LK->U->Bool
 |.b,.bool _=>true
 |.i k,.int k' _=>decide (k=k')
 |.s,.str _=>true
 |_,_=>false
def fits:List LK->List U->Bool
 |[],[]=>true
 |k::ks,t::ts=>k.fits t&&fits ks ts
 |_,_=>false
def eO:U->Value
 |.bool b =>.bool b
 |.int k n =>.int k n
 |.str s =>.string ⟨s.toArray⟩
 |.con v=>v
 |.sl _=>undef
def hU:U->U->Bool
 |.bool a,.bool b=>a==b
 |.int _ a,.int _ b=>a==b
 |.str a,.str b=>a==b
 |_,_=>false
def az:List U->List U->Bool
 |[],[]=>true
 |a::Zks,b::bs=>hU a b&&az Zks bs
 |_,_=>false
def n9(P:Program)(F:TypeId->Option (List LK)):List Field->Nat->Option (List LK)
 |[],_=>some []
 |f::fs,off=>if f.name = "_" \/ f.offset≠off then none else
  match F f.type with
  |none=>none
  |some l=>if P.cellsOf f.type≠l.length then none else(n9 P F fs (off+l.length)).map (l ++ ·)
def eS(P:Program):Nat->TypeId->Option (List LK)
 |0,_=>none
 |d+1,t=>
  match P.underlying t with
  |some .bool=>some [.b]
  |some (.int k)=>some [.i k]
  |some .string=>some [.s]
  |some (.array n e)=>
   match eS P d e with
   |some l=>if P.cellsOf e=l.length/\(P.info? e).isSome then some (List.replicate n l).flatten else none
   |none=>none
  |some (.struct fs)=>if P.stoodInHeld t then none else n9 P (eS P d) fs.toList 0
  |_=>none
def gh(P:Program)(t:TypeId)(xs:List U):Value:=
 match P.underlying t with
 |some (.struct _)|some (.array _ _) =>.agg (xs.map eO).toArray
 |_=>eO (xs.headD default)
def Z14{a b:List LK}:∀{xs:List U},fits (a++b) xs=true->fits a (xs.take a.length)=true/\fits b (xs.drop a.length)=true/\a.length<=xs.length:=by
 induction a with
 |nil=>intro xs h;exact⟨by simp[fits],by simpa using h,by simp⟩
 |cons k a ih=>
  intro xs h;cases xs with
  |nil=>simp[fits]at h
  |cons x xs=>
   simp only[eR,fits,aL]at h;obtain⟨h1,h2,h3⟩:=ih h.2;exact⟨by simp[fits,h.1,h1],by simpa using h2,by simpa using h3⟩
def Z15{a:List LK}:∀{xs:List U},fits a xs=true->xs.length=a.length:=by
 induction a with
 |nil=>intro xs h;cases xs<;>simp[fits]at h⊢
 |cons k a ih=>
  intro xs h;cases xs with
  |nil=>simp[fits]at h
  |cons x xs=>simp only[fits,aL]at h;simp[ih h.2]
def Se{k:IntKind}{xs:List U}(h:fits [.i k] xs=true):∃a,xs=[.int k a]:=by
 cases xs with
 |nil=>simp[fits]at h
 |cons x xs=>
  simp only[fits,aL]at h;have hn:xs=[]:=by cases xs<;>simp[fits]at h⊢
  subst hn;cases x<;>simp only[LK.fits,fb,false_and]at h;rename_i k' a;have hk:k=k':=gE h.1;subst hk;exact⟨a,rfl⟩
def Z16:∀(Zks bs cs ds:List U),Zks.length=bs.length->az (Zks++cs) (bs++ds)=(az Zks bs&&az cs ds)
 |[],[],cs,ds,_=>by simp[az]
 |a::Zks,b::bs,cs,ds,h=>by simp[az,Z16 Zks bs cs ds iS,lJ]
 |[],_::_,_,_,h=>jb
 |_::_,[],_,_,h=>jb
def Z9l{P:Program}(w:World){t:TypeId}{l:List LK}{d:Nat}(hf:eS P d t=some l)(hc:P.cellsOf t=l.length)(xs:List U)(off:Nat)(h:off+l.length<=xs.length) :
 (part t (xs.map eO).toArray off).run P w = .ok (gh P t ((xs.drop off).take l.length)) w:=by
 cases d with
 |zero=>simp[eS]at hf
 |succ d=>
  have hinfo:∃i,P.info? t=some i:=by
   unfold eS at hf;cases hu:P.underlying t with
   |none=>simp[hu]at hf
   |some _=>exact info_of_underlying hu
  obtain⟨i,hi⟩:=hinfo;have hsz:i.size=l.length:=by simpa[Program.cellsOf,hi]using hc
  have one:l.length=1->(xs.map eO).toArray[off]?=some (eO (((xs.drop off).take l.length).headD default)):=by
   intro h1;rw[h1]at h⊢;have hlt:off<xs.length:=bg
   simp[List.headD_eq_head?_getD,List.head?_take,hlt]
  unfold eS at hf;cases hu:P.underlying t with
  |none=>simp[hu]at hf
  |some kd=>
   cases kd<;>simp only[hu]at hf<;>try (cases hf;done)
   case struct fs=>simp[part,isAgg,cy hu,sizeOf,typeInfo,hi,hsz,gh,hu]
   case array n e=>simp[part,isAgg,cy hu,sizeOf,typeInfo,hi,hsz,gh,hu]
   all_goals
    cases hf;have:=one rfl;simp only[part,isAgg,aN,cy hu,aO,aT,fb,fy,this,gh,hu]
def B0(P:Program)(d:Nat)(t:TypeId)(l:List LK):Prop:=∀(w:World) (xs ys:List U),fits l xs=true->fits l ys=true->(Op.equalIn d t (gh P t xs) (gh P t ys)).run P w = .ok (az xs ys) w
def Sf{P:Program}(D d:Nat)(IH:∀t l,eS P d t=some l->B0 P (D+d) t l)(X Y:List U):∀(fs:List Field) (off:Nat) (ks:List LK),
 n9 P (eS P d) fs off=some ks->fits ks (X.drop off)=true->fits ks (Y.drop off)=true->off<=X.length->off<=Y.length->∀w,
 (Op.eqFields (D+d) (X.map eO).toArray (Y.map eO).toArray fs).run P w = .ok (az (X.drop off) (Y.drop off)) w
 |[],off,ks,h,hx,hy,_,_,w=>by simp only[n9,aq]at h;subst h;have h1:=Z15 hx;have h2:=Z15 hy;rw[du h1,du h2];simp[Op.eqFields,az]
 |f::fs,off,ks,h,hx,hy,hox,hoy,w=>by
  simp only[n9]at h;split at h
  .cases h
  rename_i hn;simp only[not_or,ne_eq,Decidable.not_not]at hn;cases hF:eS P d f.type with
  |none=>simp[hF]at h
  |some l=>
   simp only[hF]at h;split at h
   .cases h
   rename_i hc;simp only[ne_eq,Decidable.not_not]at hc;cases hr:n9 P (eS P d) fs (off+l.length)with
   |none=>simp[hr]at h
   |some rs=>
    simp only[hr,dW,aq]at h;subst h;obtain⟨hx1,hx2,hx3⟩:=Z14 hx;obtain⟨hy1,hy2,hy3⟩:=Z14 hy;simp only[jk]at hx3 hy3;rw[gQ]at hx2 hy2;have hpx:=Z9l w hF hc X off O;have hpy:=Z9l w hF hc Y off O;have heq:=IH _ _ hF w _ _ hx1 hy1;have ih:=Sf D d IH X Y fs (off+l.length) rs hr hx2 hy2 O O w;have hsplit:az (X.drop off) (Y.drop off)=(az ((X.drop off).take l.length) ((Y.drop off).take l.length)&&az (X.drop (off+l.length)) (Y.drop (off+l.length))):=by
     conv=>lhs;rw[<- j7 l.length (X.drop off),<- j7 l.length (Y.drop off)]
     rw[Z16 _ _ _ _ aZ,gQ,gQ]
    simp only[Op.eqFields,ne_eq,hn.1,not_false_eq_true,dK,aN,hn.2,hpx,hpy,heq,aO];cases hb:az ((X.drop off).take l.length) ((Y.drop off).take l.length)with
    |false=>simp[hsplit,hb]
    |true=>simp[hsplit,hb,ih]
def Sh{P:Program}(D d:Nat){e:TypeId}{l:List LK}(he:eS P d e=some l)(hc:P.cellsOf e=l.length)(IH:B0 P (D+d) e l)(X Y:List U)(w:World):∀(n i:Nat),
 fits (List.replicate n l).flatten (X.drop (i*l.length))=true->fits (List.replicate n l).flatten (Y.drop (i*l.length))=true->i*l.length<=X.length->i*l.length<=Y.length ->
 (Op.eqItems (D+d) e (P.cellsOf e) (X.map eO).toArray (Y.map eO).toArray (List.range' i n)).run P w = .ok (az (X.drop (i*l.length)) (Y.drop (i*l.length))) w
 |0,i,hx,hy,_,_=>by have h1:=Z15 hx;have h2:=Z15 hy;simp only[List.replicate_zero,List.flatten_nil,cg]at h1 h2;rw[du h1,du h2];simp[Op.eqItems,az]
 |n+1,i,hx,hy,hox,hoy=>by
  rw[List.replicate_succ,gT]at hx hy;obtain⟨hx1,hx2,hx3⟩:=Z14 hx;obtain⟨hy1,hy2,hy3⟩:=Z14 hy;simp only[jk]at hx3 hy3;rw[gQ]at hx2 hy2;have hpx:=Z9l w he hc X (i*l.length) O;have hpy:=Z9l w he hc Y (i*l.length) O;have heq:=IH w _ _ hx1 hy1;have hmul:(i+1)*l.length=i*l.length+l.length:=u3
  have ih:=Sh D d he hc IH X Y w n (i+1) (by rw[hmul];exact hx2) (by rw[hmul];exact hy2) O O;rw[hmul]at ih;have hsplit:az (X.drop (i*l.length)) (Y.drop (i*l.length))=(az ((X.drop (i*l.length)).take l.length) ((Y.drop (i*l.length)).take l.length)&&az (X.drop (i*l.length+l.length)) (Y.drop (i*l.length+l.length))):=by
   conv=>lhs;rw[<- j7 l.length (X.drop (i*l.length)),<- j7 l.length (Y.drop (i*l.length))]
   rw[Z16 _ _ _ _ aZ,gQ,gQ]
  rw[hc]at ih⊢;simp only[List.range'_succ,Op.eqItems,aN,hpx,hpy,heq,aO];cases hb:az ((X.drop (i*l.length)).take l.length) ((Y.drop (i*l.length)).take l.length)with
  |false=>simp[hsplit,hb]
  |true=>simp[hsplit,hb,ih]
def Am{P:Program}(D:Nat):∀(d:Nat) (t:TypeId) (l:List LK),eS P d t=some l->B0 P (D+d) t l
 |0,_,_,h=>by simp[eS]at h
 |d+1,t,l,h=>by
  intro w xs ys hx hy;have h0:=h;unfold eS at h;cases hu:P.underlying t with
  |none=>simp[hu]at h
  |some kd=>
   cases kd<;>simp only[hu]at h<;>try (cases h;done)
   case bool=>
    cases h
    match xs,ys,hx,hy with
    |[.bool a],[.bool b],_,_=>simp only[gh,hu,List.headD_cons,eO,az,hU,Bool.and_true];exact run_equalIn_bool' w (D+d) t a b hu
   case int k=>
    cases h;obtain⟨a,rfl⟩:=Se hx;obtain⟨b,rfl⟩:=Se hy;simp only[gh,hu,List.headD_cons,eO,az,hU,Bool.and_true];exact run_equalIn_int w (D+d) t _ _ a b hu
   case string=>
    cases h
    match xs,ys,hx,hy with
    |[.str a],[.str b],_,_=>
     simp only[gh,hu,List.headD_cons,eO,az,hU,Bool.and_true];rw[show D+(d+1)=(D+d)+1 from rfl,run_equalIn_string w (D+d) t _ _ hu,ByteArray.toList_eq,ByteArray.toList_eq]
   case array n e=>
    cases he:eS P d e with
    |none=>simp[he]at h
    |some le=>
     simp only[he]at h;split at h
     .rename_i hc;cases h;obtain⟨i,hi⟩:=tu.1 hc.2;simp only[gh,hu];rw[show D+(d+1)=(D+d)+1 from rfl,run_equalIn_array w (D+d) _ _ hu hi,List.range_eq_range'];simpa using Sh D d he hc.1 (Am D d e le he) xs ys w n 0 qn wb al al
     cases h
   case struct fs=>
    split at h
    .cases h
    rename_i hst;simp only[gh,hu];have hfs:P.fieldsOf t=fs:=by simp[Program.fieldsOf,hu]
    rw[show D+(d+1)=(D+d)+1 from rfl,run_equalIn_struct w (D+d) t _ _ (by rw[hfs];exact hu) (by simpa using hst),hfs];simpa using Sf D d (λt' l' h'=>Am D d t' l' h') xs ys fs.toList 0 l h qn wb al al w
end Go.PW
namespace Go.PW
open Go.RowKit
def jf:Value->Option PV
 |.bool b=>some (.t (.bool b))
 |.int k n=>some (.t (.int k n))
 |.string s=>some (.t (.str s.data.toList))
 |.slice none 0 0=>some .nils
 |.pointer none=>some (.t (.con (.pointer none)))
 |.nilFunc=>some (.t (.con .nilFunc))
 |.nilIface=>some (.t (.con .nilIface))
 |.map none=>some (.t (.con (.map none)))
 |_=>none
def nI:List (Nat×GK)->Nat->Option PV
 |[],_=>none
 |(j,.cells ts)::l,g=>bif Nat.beq j g then some (.vptr ts)else nI l g
 |(_,.anyInt)::l,g=>nI l g
def Z9m:∀{l:List (Nat×GK)} {g:Nat} {p:PV},nI l g=some p->∃ts,(g,GK.cells ts)∈l/\p = .vptr ts
 |[],g,p,h=>di
 |(j,.cells ts)::l,g,p,h=>by
  simp only[nI]at h;cases hb:Nat.beq j g with
  |true=>
   simp only[hb,av,aq]at h;have:=(aU _ _).1 hb;subst this;exact⟨ts,by simp,h.symm⟩
  |false=>
   simp only[hb,au]at h;obtain⟨ts',h1,h2⟩:=Z9m h;exact⟨ts',cK _ h1,h2⟩
 |(_,.anyInt)::l,g,p,h=>by simp only[nI]at h;obtain⟨ts',h1,h2⟩:=Z9m h;exact⟨ts',cK _ h1,h2⟩
def af(ρ:List (Nat×PV)):Operand->Option PV
 |.tmp t=>get ρ t
 |.const v=>jf v
 |.func f=>some (.fn f [])
 |.global g=>nI gset g
def KZ{c:Ctx}{v:Value}{p:PV}(h:jf v=some p):VR c p v:=by unfold jf at h;split at h<;>cases h<;>simp[VR,Z9,Value.oneCell']
def Zbl{v:Value}{p:PV}(h:jf v=some p):p.one=true:=K0
def hP{G:Frm}{β:Nat->Option Nat}{n:Nat}{ρ tm:List (Nat×PV)}{Z:List (Nat×Blk)}{a:Act}{w:World}(h:aE G β ⟨n,tm,Z⟩ a w){x:Operand}{p:PV}
 (hx:af ρ x=some p) (hag:∀t q,x = .tmp t->get ρ t=some q->get tm t=some q):VR (ctx G β w Z) p (a.eval x):=by
 cases x with
 |tmp t=>exact(h.tm t p (hag t p rfl hx)).2
 |const v=>exact KZ hx
 |func f=>simp only[af,aq]at hx;subst hx;simp only[VR,VRs,Act.eval];exact⟨[],rfl,rfl⟩
 |global g=>
  simp only[af]at hx;obtain⟨ts,hm,rfl⟩:=Z9m hx;have h1:=h.glI hm;have h2:=(h.glw g _ hm).2;simp only[VR,Act.eval];exact⟨g,0,rfl,λ_=>h1,Z6.mono (λb hb=>hb.elim) rfl ts 0 h2⟩
section
variable {P:Program} {o:Oper} {ρ:List (Nat×PV)} {Z:List (Nat×Blk)}
def bE {need:List Nat} {p:PV} (h:∀(G:Frm) (β:Nat->Option Nat) (n:Nat) (tm:List (Nat×PV)) (Z':List (Nat×Blk)) (a:Act) (w:World),
      (∀x q,x∈o.op.operands->af ρ x=some q->VR (ctx G β w Z') q (a.eval x))->(∀l,l∈need->get Z' l=get Z l)->aE G β ⟨n,tm,Z'⟩ a w ->
      ∃v,(execOp a.eval o).run P w = .ok (.value v) w/\VR (ctx G β w Z') p v):aQ P o ρ Z need p []:=by
 intro G n tm Z' a w K Q hag hneed _ hr hK;obtain⟨β,hr⟩:=hr;obtain⟨v,hv,hp⟩:=h G β n tm Z' a w (λx q hx hq=>hP hr hq (λt r ht hr'=>hag t r (ht▸hx) hr')) hneed hr;unfold Oper.wp;rw[hv];exact hK v w ⟨β,hr,hp⟩
def Zbm{x:Operand}{p:PV}(ho:o.op = .move x)(hx:af ρ x=some p):aQ P o ρ Z [] p []:=bE λG β n tm Z' a w hop _ _=>⟨a.eval x,by simp[execOp,ho],hop x p aK hx⟩
def Zbn{x:Operand}{p:PV}(ho:o.op = .assign x)(hx:af ρ x=some p):aQ P o ρ Z [] p []:=bE λG β n tm Z' a w hop _ _=>⟨a.eval x,by simp[execOp,ho],hop x p aK hx⟩
def Zbo{c x y:Operand}{b:Bool}{p:PV}(ho:o.op = .pick c x y)(hc:af ρ c=some (.t (.bool b)))(hp:af ρ (bif b then x else y)=some p):aQ P o ρ Z [] p []:=
 bE λG β n tm Z' a w hop _ _=>by
  have h1:=hop c _ aK hc;simp only[VR,Z9]at h1;refine⟨if b then a.eval x else a.eval y,by cases b<;>simp[execOp,ho,h1,asBool],?_⟩;cases b
  .exact hop y p aK hp
  exact hop x p aK hp
def bJ(op:BinOp)(k:IntKind)(a b:Int):Int:=
 k.wrap (match op with
  |.and=>(BitVec.ofInt k.bits a &&& BitVec.ofInt k.bits b).toNat
  |.or=>(BitVec.ofInt k.bits a ||| BitVec.ofInt k.bits b).toNat
  |.xor=>(BitVec.ofInt k.bits a ^^^ BitVec.ofInt k.bits b).toNat
  |_=>(BitVec.ofInt k.bits a &&& ~~~BitVec.ofInt k.bits b).toNat)
def oz(op:BinOp)(k:IntKind)(a b:Int):Option U:=
 match op with
 |.add=>some (.int k (k.wrap (a+b)))
 |.sub=>some (.int k (k.wrap (a-b)))
 |.mul=>some (.int k (k.wrap (a*b)))
 |.quo=>if b=0 then none else some (.int k (k.wrap (a.tdiv b)))
 |.rem=>if b=0 then none else some (.int k (a.tmod b))
 |.and=>some (.int k (bJ .and k a b))
 |.or=>some (.int k (bJ .or k a b))
 |.xor=>some (.int k (bJ .xor k a b))
 |.andNot=>some (.int k (bJ .andNot k a b))
 |.eql=>some (.bool (a==b))
 |.neq=>some (.bool (a != b))
 |.lss=>some (.bool (decide (a<b)))
 |.leq=>some (.bool (decide (a<=b)))
 |.gtr=>some (.bool (decide (a>b)))
 |.geq=>some (.bool (decide (a>=b)))
 |_=>none
def sS(op:BinOp)(k:IntKind)(a b:Int):Option U:=
 if b<0 then none else
 match op with
 |.shl=>some (.int k (k.wrap (a*2 ^ (min b.toNat k.bits))))
 |.shr=>some (.int k (a.fdiv (2 ^ (min b.toNat k.bits))))
 |_=>none
def xt(op:BinOp)(a b:List UInt8):Option U:=
 match op with
 |.eql=>some (.bool (a==b))
 |.neq=>some (.bool (!(a==b)))
 |.lss=>some (.bool (Op.bytesLess a b))
 |.leq=>some (.bool (Op.bytesLess a b||a==b))
 |.gtr=>some (.bool (!(Op.bytesLess a b||a==b)))
 |.geq=>some (.bool (!Op.bytesLess a b))
 |_=>none
def iR{op:BinOp}{t:TypeId}{x y:Operand}{u v:Value}(w:World)(h:match u,v with|.nilIface,.nilIface=>False|.agg _,.agg _=>False|_,_=>True) :
 (eqGuard op t x y u v).run P w = .ok () w:=by
 unfold eqGuard;cases op<;>simp only[gG,fF,dK,fb,fy,aN,aT,aO] <;>
  (cases u<;>cases v<;>first|exact h.elim|rfl)
def xu{op:BinOp}{xT yT:TypeId}{x y:Operand}{k:IntKind}{a b:Int}{r:U}(ho:o.op = .binOp op xT x y yT)(hx:af ρ x=some (.t (.int k a)))(hy:af ρ y=some (.t (.int k b)))
 (hr:oz op k a b=some r):aQ P o ρ Z [] (.t r) []:=
 bE λG β n tm Z' A w hop _ _=>by
  have h1:=hop x _ aK hx;have h2:=hop y _ aK hy;simp only[VR,Z9]at h1 h2;have hg:=iR (P:=P) (op:=op) (t:=xT) (x:=x) (y:=y) (u :=.int k a) (v :=.int k b) w trivial;cases op<;>simp only[oz]at hr
  case quo=>
   split at hr
   .cases hr
   rename_i hb;cases hr;exact⟨_,by simp[execOp,ho,h1,h2,hg,binOp,Op.intDiv,hb];rfl,by simp[VR,Z9]⟩
  case rem=>
   split at hr
   .cases hr
   rename_i hb;cases hr;exact⟨_,by simp[execOp,ho,h1,h2,hg,binOp,Op.intDiv,hb];rfl,by simp[VR,Z9]⟩
  case shl=>cases hr
  case shr=>cases hr
  all_goals
   cases hr;exact⟨_,by simp[execOp,ho,h1,h2,hg,binOp,Op.intArith,Op.intBits,Op.intCmp];rfl,by simp[VR,Z9,bJ]⟩
def DG{op:BinOp}{xT yT:TypeId}{x y:Operand}{k k':IntKind}{a b:Int}{r:U}(ho:o.op = .binOp op xT x y yT)(hx:af ρ x=some (.t (.int k a)))(hy:af ρ y=some (.t (.int k' b)))
 (hr:sS op k a b=some r):aQ P o ρ Z [] (.t r) []:=
 bE λG β n tm Z' A w hop _ _=>by
  have h1:=hop x _ aK hx;have h2:=hop y _ aK hy;simp only[VR,Z9]at h1 h2;have hg:=iR (P:=P) (op:=op) (t:=xT) (x:=x) (y:=y) (u :=.int k a) (v :=.int k' b) w trivial;unfold sS at hr;split at hr
  .cases hr
  rename_i hb;cases op<;>simp only at hr<;>cases hr;all_goals exact⟨_,by simp[execOp,ho,h1,h2,hg,binOp,Op.shift,hb];rfl,by simp[VR,Z9]⟩
def Wm{op:BinOp}{xT yT:TypeId}{x y:Operand}{a b:List UInt8}{r:U}(ho:o.op = .binOp op xT x y yT)(hx:af ρ x=some (.t (.str a)))(hy:af ρ y=some (.t (.str b)))
 (hr:xt op a b=some r):aQ P o ρ Z [] (.t r) []:=
 bE λG β n tm Z' A w hop _ _=>by have h1:=hop x _ aK hx;have h2:=hop y _ aK hy;simp only[VR,Z9]at h1 h2;have hg:=iR (P:=P) (op:=op) (t:=xT) (x:=x) (y:=y) (u :=.string ⟨a.toArray⟩) (v :=.string ⟨b.toArray⟩) w trivial;cases op<;>simp only[xt]at hr<;>cases hr;all_goals exact⟨_,by simp[execOp,ho,h1,h2,hg,binOp,Op.stringOp,ByteArray.toList_eq];rfl,by simp[VR,Z9]⟩
def Wl{xT yT:TypeId}{x y:Operand}{a b:List UInt8}(ho:o.op = .binOp .add xT x y yT)(hx:af ρ x=some (.t (.str a)))(hy:af ρ y=some (.t (.str b)))
 (hl:a.length+b.length<=9223372036854775807):aQ P o ρ Z [] (.t (.str (a++b))) []:=
 bE λG β n tm Z' A w hop _ _=>by
  have h1:=hop x _ aK hx;have h2:=hop y _ aK hy;simp only[VR,Z9]at h1 h2;have hg:=iR (P:=P) (op :=.add) (t:=xT) (x:=x) (y:=y) (u :=.string ⟨a.toArray⟩) (v :=.string ⟨b.toArray⟩) w trivial;have hsz:¬(((⟨a.toArray⟩:ByteArray).size+(⟨b.toArray⟩:ByteArray).size:Nat):Int)>IntKind.i64.max:=by
   have e1:(⟨a.toArray⟩:ByteArray).size=a.length:=qI
   have e2:(⟨b.toArray⟩:ByteArray).size=b.length:=qI
   rw[e1,e2];have:IntKind.i64.max=9223372036854775807:=by rfl
   omega
  refine⟨.string ⟨(a++b).toArray⟩,?_,by simp[VR,Z9]⟩;have happ:(⟨a.toArray⟩:ByteArray)++(⟨b.toArray⟩:ByteArray)=⟨(a++b).toArray⟩:=by apply ByteArray.ext;simp
  simp only[execOp,ho,h1,h2,aN,hg,aO,binOp,Op.stringOp,hsz,fy,aT,happ]
def DH{op:BinOp}{xT yT:TypeId}{x y:Operand}{a b r:Bool}(ho:o.op = .binOp op xT x y yT)(hT:P.underlying xT=some .bool)(hx:af ρ x=some (.t (.bool a)))(hy:af ρ y=some (.t (.bool b)))
 (hr:(op = .eql/\r=(a==b))\/(op = .neq/\r = !(a==b))):aQ P o ρ Z [] (.t (.bool r)) []:=
 bE λG β n tm Z' A w hop _ _=>by have h1:=hop x _ aK hx;have h2:=hop y _ aK hy;simp only[VR,Z9]at h1 h2;have hg:=iR (P:=P) (op:=op) (t:=xT) (x:=x) (y:=y) (u :=.bool a) (v :=.bool b) w trivial;have he:(Op.equal xT (.bool a) (.bool b)).run P w = .ok (a==b) w:=run_equalIn_bool' w 9999 xT a b hT;refine⟨.bool r,?_,by simp[VR,Z9]⟩;rcases hr with⟨rfl,rfl⟩|⟨rfl,rfl⟩<;>simp[execOp,ho,h1,h2,hg,binOp,he]
def Al{c:Ctx}:∀{ts:List U} {vs:List Value} {ks:List LK},VRs c (ts.map PV.t) vs->fits ks ts=true->vs=ts.map eO
 |[],vs,_,h,_=>by simpa[VRs]using h
 |t::ts,vs,ks,h,hf=>by
  cases ks with
  |nil=>simp[fits]at hf
  |cons k ks=>
   simp only[cw,VRs]at h;obtain⟨v,rest,rfl,hv,hr⟩:=h;simp only[fits,aL]at hf;rw[Al hr hf.2];have:v=eO t:=by simp only[VR]at hv;cases t<;>cases k<;>simp only[LK.fits,fb,false_and]at hf<;>simpa[Z9,eO]using hv
   rw[this];rfl
def eqOp(op:BinOp)(r:Bool):Option Bool:=
 match op with
 |.eql=>some r
 |.neq=>some (!r)
 |_=>none
def Wn{op:BinOp}{xT yT:TypeId}{x y:Operand}{Zks bs:List U}{r:Bool}(d:Nat)(ks:List LK)(ho:o.op = .binOp op xT x y yT)(hd:d<=10000)(hT:eS P d xT=some ks)
 (hagg:∃k,P.underlying xT=some k/\k.isRow=true) (hgt:P.eqGuardType P.depth xT=false)
 (hx:af ρ x=some (.agg (Zks.map .t))) (hy:af ρ y=some (.agg (bs.map .t))) (ha:fits ks Zks=true) (hb:fits ks bs=true) (hr:eqOp op (az Zks bs)=some r):aQ P o ρ Z [] (.t (.bool r)) []:=
 bE λG β n tm Z' A w hop _ _=>by
  have h1:=hop x _ aK hx;have h2:=hop y _ aK hy;simp only[VR]at h1 h2;obtain⟨vs,h1,hv1⟩:=h1;obtain⟨us,h2,hv2⟩:=h2;have e1:=Al hv1 ha;have e2:=Al hv2 hb;subst e1;subst e2;obtain⟨k,hk,hrow⟩:=hagg;have hp1:gh P xT Zks = .agg (Zks.map eO).toArray:=by cases k<;>simp_all[gh]
  have hp2:gh P xT bs = .agg (bs.map eO).toArray:=by cases k<;>simp_all[gh]
  have he:=Am (P:=P) (10000-d) d xT ks hT w Zks bs ha hb;rw[show 10000-d+d=10000 by omega,hp1,hp2]at he;have hg:=run_eqGuard_agg (P:=P) w op xT x y (Zks.map eO).toArray (bs.map eO).toArray hgt;refine⟨.bool r,?_,by simp[VR,Z9]⟩;cases op<;>simp only[eqOp]at hr<;>cases hr
  .simp only[execOp,ho,h1,h2,aN,hg,aO,run_eql_struct,he,aT]
  simp only[execOp,ho,h1,h2,aN,hg,aO,run_neq_struct,he,aT]
def Zbp{t:TypeId}{x:Operand}{b:Bool}(ho:o.op = .unOp .not t x)(hx:af ρ x=some (.t (.bool b))):aQ P o ρ Z [] (.t (.bool (!b))) []:=bE λG β n tm Z' A w hop _ _=>by have h1:=hop x _ aK hx;simp only[VR,Z9]at h1;exact⟨_,by simp[execOp,ho,h1,Op.unary];rfl,by simp[VR,Z9]⟩
def Zbq{t:TypeId}{x:Operand}{k:IntKind}{a:Int}(ho:o.op = .unOp .neg t x)(hx:af ρ x=some (.t (.int k a))):aQ P o ρ Z [] (.t (.int k (k.wrap (0-a)))) []:=bE λG β n tm Z' A w hop _ _=>by have h1:=hop x _ aK hx;simp only[VR,Z9]at h1;exact⟨.int k (k.wrap (0-a)),by simp only[execOp,ho,h1,Op.unary,Op.intArith,aN,aT,aO],by simp[VR,Z9]⟩
def Zbr{t:TypeId}{x:Operand}{k:IntKind}{a:Int}(ho:o.op = .unOp .xor t x)(hx:af ρ x=some (.t (.int k a))):aQ P o ρ Z [] (.t (.int k (bJ .xor k (if k.signed then-1 else k.max) a))) []:=bE λG β n tm Z' A w hop _ _=>by have h1:=hop x _ aK hx;simp only[VR,Z9]at h1;exact⟨.int k (bJ .xor k (if k.signed then-1 else k.max) a),by simp only[execOp,ho,h1,Op.unary,Op.intBits,aN,aT,aO,bJ],by simp[VR,Z9]⟩
def Zbs{s d:TypeId}{x:Operand}{k k':IntKind}{a:Int}(ho:o.op = .convert s d x)(hs:∃ds,P.underlying s=some ds)(hd:P.underlying d=some (.int k'))(hx:af ρ x=some (.t (.int k a))) :
 aQ P o ρ Z [] (.t (.int k' (k'.wrap a))) []:=
 bE λG β n tm Z' A w hop _ _=>by have h1:=hop x _ aK hx;simp only[VR,Z9]at h1;obtain⟨ds,hs⟩:=hs;refine⟨.int k' (k'.wrap a),?_,by simp[VR,Z9]⟩;simp only[execOp,ho,h1,convert,aN,cy hs,cy hd,aO,Conv.intToInt,aT]
def Zbt{s d:TypeId}{x:Operand}{a:List UInt8}(ho:o.op = .convert s d x)(hs:P.underlying s=some .string)(hd:P.underlying d=some .string)(hx:af ρ x=some (.t (.str a))) :
 aQ P o ρ Z [] (.t (.str a)) []:=
 bE λG β n tm Z' A w hop _ _=>by have h1:=hop x _ aK hx;simp only[VR,Z9]at h1;refine⟨.string ⟨a.toArray⟩,?_,by simp[VR,Z9]⟩;simp only[execOp,ho,h1,convert,aN,cy hs,cy hd,aO,aT]
def Zbu{t:TypeId}{x:Operand}{es:List (List U)}{e:TypeId}(ho:o.op = .call { callee :=.builtin .len,args := #[x],argTypes := #[t] })(hT:P.underlying t=some (.slice e))(hx:af ρ x=some (.t (.sl es))) :
 aQ P o ρ Z [] (.t (.int .i64 es.length)) []:=
 bE λG β n tm Z' A w hop _ _=>by have h1:=hop x _ fc hx;simp only[VR,Z9]at h1;obtain⟨a,cap,h1,_⟩:=h1;exact⟨.int .i64 es.length,by simp[execOp,ho,resolve,invoke,builtin,Builtin.len_,h1,cy hT,goInt],by simp[VR,Z9]⟩
def Zbv{t:TypeId}{x:Operand}{e:TypeId}(ho:o.op = .call { callee :=.builtin .len,args := #[x],argTypes := #[t] })(hT:P.underlying t=some (.slice e))(hx:af ρ x=some .nils) :
 aQ P o ρ Z [] (.t (.int .i64 0)) []:=
 bE λG β n tm Z' A w hop _ _=>by have h1:=hop x _ fc hx;simp only[VR]at h1;obtain⟨a,h1⟩:=h1;exact⟨.int .i64 0,by simp[execOp,ho,resolve,invoke,builtin,Builtin.len_,h1,cy hT,goInt],by simp[VR,Z9]⟩
def Zbw{t:TypeId}{x:Operand}{e:TypeId}{l m k:Nat}{es:List (List U)}(ho:o.op = .call { callee :=.builtin .len,args := #[x],argTypes := #[t] })(hT:P.underlying t=some (.slice e))
 (hx:af ρ x=some (.osl l m)) (hg:get Z l=some (.row k es)) (hm:es.length=m):aQ P o ρ Z [l] (.t (.int .i64 m)) []:=
 bE λG β n tm Z' A w hop hneed _=>by have h1:=hop x _ fc hx;simp only[VR]at h1;obtain⟨a,cap,hv,_⟩:=(h1.1 k es K1).2 hm.symm;exact⟨.int .i64 m,by simp[execOp,ho,resolve,invoke,builtin,Builtin.len_,hv,cy hT,goInt],by simp[VR,Z9]⟩
def Zbx{t:TypeId}{x:Operand}{s:List UInt8}(ho:o.op = .call { callee :=.builtin .len,args := #[x],argTypes := #[t] })(hT:P.underlying t=some .string)(hx:af ρ x=some (.t (.str s))) :
 aQ P o ρ Z [] (.t (.int .i64 s.length)) []:=
 bE λG β n tm Z' A w hop _ _=>by
  have h1:=hop x _ fc hx;simp only[VR,Z9]at h1;have e:((⟨s.toArray⟩:ByteArray).size:Nat)=s.length:=qI
  refine⟨.int .i64 s.length,?_,by simp[VR,Z9]⟩;simp only[execOp,ho,resolve,invoke,builtin,Builtin.len_,nJ,cw,fI,aN,aT,aO,h1];simp[cy hT,goInt,e]
def VRs.drop{c:Ctx}:∀{ps:List PV} {vs:List Value} (n:Nat),VRs c ps vs->VRs c (ps.drop n) (vs.drop n)
 |ps,vs,0,h=>iS
 |[],vs,n+1,h=>K2
 |p::ps,vs,n+1,h=>by simp only[VRs]at h;obtain⟨v,rest,rfl,_,hr⟩:=h;simpa using VRs.drop n hr
def VRs.take{c:Ctx}:∀{ps:List PV} {vs:List Value} (n:Nat),VRs c ps vs->VRs c (ps.take n) (vs.take n)
 |ps,vs,0,_=>by simp[VRs]
 |[],vs,n+1,h=>K2
 |p::ps,vs,n+1,h=>by simp only[VRs]at h;obtain⟨v,rest,rfl,hv,hr⟩:=h;simp only[uZ,VRs];exact⟨v,_,rfl,hv,VRs.take n hr⟩
structure TyF (P:Program) (t:TypeId) (agg:Bool) (size:Nat):Prop where
 und:∃d,P.underlying t=some d/\d.isRow=agg
 size:(P.info? t).map (·.size)=some size
def TyF.info{P:Program}{t:TypeId}{agg:Bool}{size:Nat}(h:TyF P t agg size):∃i,P.info? t=some i/\i.size=size:=by
 cases hi:P.info? t with
 |none=>have:=h.size;simp[hi]at this
 |some i=>exact⟨i,rfl,by have:=h.size;simpa[hi]using this⟩
def TyF.run_isAgg{P:Program}{t:TypeId}{agg:Bool}{size:Nat}(h:TyF P t agg size)(w:World):(isAgg t).run P w = .ok agg w:=by obtain⟨d,hu,hd⟩:=h.und;unfold isAgg;rw[aN,cy hu w];cases d<;>simp_all
def TyF.run_sizeOf{P:Program}{t:TypeId}{agg:Bool}{size:Nat}(h:TyF P t agg size)(w:World):(sizeOf t).run P w = .ok size w:=by obtain⟨i,hi,hs⟩:=h.info;simp[sizeOf,typeInfo,hi,hs]
def c6(agg:Bool)(size off:Nat)(cs:List PV):Option PV:=bif agg then(bif Nat.ble (off+size) cs.length then some (.agg ((cs.drop off).take size))else none)else cs[off]?
def K3{c:Ctx}{t:TypeId}{agg:Bool}{size off:Nat}(hT:TyF P t agg size)(w:World){ps:List PV}{vs:List Value}(hv:VRs c ps vs){p:PV}(hp:c6 agg size off ps=some p) :
 ∃v,(part t vs.toArray off).run P w = .ok v w/\VR c p v:=by
 have hl:=hv.length;cases agg with
 |false=>
  simp only[c6,au]at hp;obtain⟨v,hv1,hv2⟩:=hv.get off p hp;exact⟨v,by simp[part,hT.run_isAgg w,hv1],hv2⟩
 |true=>
  simp only[c6,av]at hp;cases hb:Nat.ble (off+size) ps.length with
  |false=>simp[hb]at hp
  |true=>
   simp only[hb,av,aq]at hp;subst hp;refine⟨.agg ((vs.drop off).take size).toArray,?_,?_⟩
   .simp [part,hT.run_isAgg w,hT.run_sizeOf w]
   simp only[VR];exact⟨_,rfl,(hv.drop off).take size⟩
def Zby{xT fT:TypeId}{x:Operand}{i off:Nat}{cs:List PV}{p:PV}{agg:Bool}{size:Nat}(fs:Array Field)(f:Field)(ho:o.op = .field xT x i)(hT:P.underlying xT=some (.struct fs))(hf:fs[i]?=some f)
 (hft:f.type=fT) (hfo:f.offset=off) (hF:TyF P fT agg size) (hx:af ρ x=some (.agg cs)) (hp:c6 agg size off cs=some p):aQ P o ρ Z [] p []:=
 bE λG β n tm Z' A w hop _ _=>by have h1:=hop x _ aK hx;simp only[VR]at h1;obtain⟨vs,h1,hv⟩:=h1;subst hft;subst hfo;obtain⟨v,hr,hv⟩:=K3 hF w hv hp;refine⟨v,?_,hv⟩;simp only[execOp,ho,h1,Instr.field,aN,cy hT,aO,hf,asAgg,aT,hr]
def Zbz{x:Operand}{i:Nat}{cs:List PV}{p:PV}(ho:o.op = .extract x i)(hx:af ρ x=some (.tup cs))(hp:cs[i]?=some p):aQ P o ρ Z [] p []:=bE λG β n tm Z' A w hop _ _=>by have h1:=hop x _ aK hx;simp only[VR]at h1;obtain⟨vs,h1,hv⟩:=h1;obtain⟨v,hv1,hv2⟩:=hv.get i p hp;refine⟨v,?_,hv2⟩;simp[execOp,ho,h1,Instr.extract,hv1]
def ZbA{x:Operand}{p:PV}(ho:o.op = .nilCheck x)(hx:af ρ x=some p)(hp:match p with|.bptr _ _=>False|.rptr _ _ _ _=>False|.vptr _=>True|_=>False):aQ P o ρ Z [] p []:=bE λG β n tm Z' A w hop _ _=>by have h1:=hop x _ aK hx;cases p<;>simp only at hp;simp only[VR]at h1⊢;obtain⟨b,off,hv,h⟩:=h1;exact⟨.pointer (some ⟨b,off,none⟩),by simp[execOp,ho,hv],b,off,rfl,h⟩
def ZbB{t:TypeId}{f:FuncId}{caps:Array Operand}{ps:List PV}(ho:o.op = .makeFunc (.func f) #[] caps)(hx:caps.toList.mapM (af ρ)=some ps):aQ P o ρ Z [] (.fn f ps) []:=
 bE λG β n tm Z' A w hop _ _=>by
  refine⟨.func (.func f) #[] (caps.map A.eval),by simp[execOp,ho,Instr.makeFunc],?_⟩;simp only[VR];refine⟨caps.toList.map A.eval,by rw[<- qJ],?_⟩;have hall:∀x∈caps.toList,∀q,af ρ x=some q->VR (ctx G β w Z') q (A.eval x):=λx hx q hq=>hop x q (by simp only[ho,Op.operands];simpa using hx) hq;generalize caps.toList=l at hx hall;clear hop ho t;induction l generalizing ps with
  |nil=>simp at hx;subst hx;simp[VRs]
  |cons x l ih=>
   rw[kx]at hx;simp only[bind,dC,pure,aq]at hx;obtain⟨q,hq,qs,hqs,rfl⟩:=hx;simp only[cw,VRs];exact⟨_,_,rfl,hall x al q hq,ih hqs (λy hy=>hall y (cK _ hy))⟩
end
end Go.PW
namespace Go.PW
open Go.RowKit
def Z7:PV->List PV
 |.agg cs=>cs
 |p=>[p]
def splice{α:Type}(cells:List α)(off:Nat)(cs:List α):List α:=cells.take off++cs++cells.drop (off+cs.length)
def gu(places:List (Nat×Nat))(cells:List PV):List (Nat×PV)->Option (List PV)
 |[]=>some cells
 |(i,p)::rest=>
  match places[i]? with
  |none=>none
  |some (off,size)=>bif Nat.beq (Z7 p).length size&&Nat.ble (off+size) cells.length then gu places (splice cells off (Z7 p)) rest else none
def VR.cells{c:Ctx}{p:PV}{v:Value}(h:VR c p v):VRs c (Z7 p) v.cells.toList:=by
 cases p
 case agg cs=>simp only[VR]at h;obtain⟨vs,rfl,h⟩:=h;simpa[Z7,Value.cells]using h
 all_goals
  simp only[Z7,VRs];refine⟨v,[],?_,h,rfl⟩;cases v<;>first
   |rfl
   |(exfalso;simp only[VR]at h;first
    |(have:=Z9.oneCell h;simp[Value.oneCell']at this;done)
    |(obtain⟨a,h⟩:=h;cases h;done)
    |(obtain⟨_,a,m,cap,h⟩:=h;cases h;done)
    |(obtain⟨_,a,h⟩:=h;cases h;done)
    |(obtain⟨b,off,h,_⟩:=h;cases h;done)
    |(obtain⟨vs,h,_⟩:=h;cases h;done)
    |(cases h;done))
def K4(off:Nat):∀(L:List Value) (k:Nat) (A:Array Value),off+k+L.length<=A.size ->
 ((L.zipIdx k).foldl (λcs (x:Value×Nat)=>cs.setIfInBounds (off+x.2) x.1) A).toList=A.toList.take (off+k)++L++A.toList.drop (off+k+L.length)
 |[],k,A,_=>al
 |v::L,k,A,h=>by
  simp only[bT]at h;simp only[List.zipIdx_cons,List.foldl_cons];rw[K4 off L (k+1) _ aZ];have hlt:off+k<A.toList.length:=aZ
  have e1:(A.setIfInBounds (off+k) v).toList=A.toList.take (off+k)++v::A.toList.drop (off+k+1):=by rw[Array.toList_setIfInBounds,List.set_eq_take_append_cons_drop,aP hlt]
  rw[e1];have hl:(A.toList.take (off+k)).length=off+k:=by rw[fH];omega
  rw[show off+(k+1)=off+k+1 by omega];have t1:(A.toList.take (off+k)++v::A.toList.drop (off+k+1)).take (off+k+1)=A.toList.take (off+k)++[v]:=by rw[u0,hl,show off+k+1-(off+k)=1 by omega,fC (by rw[hl];omega)];rfl
  have t2:(A.toList.take (off+k)++v::A.toList.drop (off+k+1)).drop (off+k+1+L.length)=A.toList.drop (off+k+(L.length+1)):=by rw[u1,hl,ir (by rw[hl];omega),iT,show off+k+1+L.length-(off+k)=L.length+1 by omega,qK,gQ];congr 1;omega
  rw[t1,t2];simp
def VRs.append{c:Ctx}:∀{ps qs:List PV} {vs us:List Value},VRs c ps vs->VRs c qs us->VRs c (ps++qs) (vs++us)
 |[],qs,vs,us,h,k=>by simp only[VRs]at h;subst h;simpa using k
 |p::ps,qs,vs,us,h,k=>by simp only[VRs]at h;obtain⟨v,rest,rfl,hv,hr⟩:=h;simp only[eR,VRs];exact⟨v,_,rfl,hv,hr.append k⟩
def VPs(c:Ctx):List (Nat×PV)->List (Nat×Value)->Prop
 |[],vs=>vs=[]
 |(i,p)::ps,vs=>∃v rest,vs=(i,v)::rest/\VR c p v/\VPs c ps rest
def u2{c:Ctx}(pl:List (Nat×Nat))(f:Nat->Option (Nat×Nat))(hf:∀i x,pl[i]?=some x->f i=some x):∀(parts:List (Nat×PV)) (vals:List (Nat×Value)) (cells:List PV) (vs:List Value) (out:List PV),
 VPs c parts vals->VRs c cells vs->gu pl cells parts=some out->∃us,Instr.fill f vs.toArray vals=some us.toArray/\VRs c out us
 |[],vals,cells,vs,out,hp,hv,h=>by simp only[VPs]at hp;subst hp;simp only[gu,aq]at h;subst h;exact⟨vs,rfl,hv⟩
 |(i,p)::parts,vals,cells,vs,out,hp,hv,h=>by
  simp only[VPs]at hp;obtain⟨v,rest,rfl,hpv,hr⟩:=hp;simp only[gu]at h;cases hpl:pl[i]? with
  |none=>simp[hpl]at h
  |some x=>
   obtain⟨off,size⟩:=x;simp only[hpl]at h;have hc:=hpv.cells;have hcl:=hc.length;have hvl:=hv.length;cases hb:Nat.beq (Z7 p).length size&&Nat.ble (off+size) cells.length with
   |false=>simp[hb]at h
   |true=>
    simp only[hb,av]at h;simp only[aL,aU,Nat.ble_eq]at hb;have hsz:v.cells.size=size:=by rw[<- iV,hcl,hb.1]
    have hfill:(v.cells.zipIdx.foldl (λcs (x:Value×Nat)=>cs.setIfInBounds (off+x.2) x.1) vs.toArray)=(splice vs off v.cells.toList).toArray:=by apply Array.ext';rw[<- Array.foldl_toList,Array.toList_zipIdx,K4 off v.cells.toList 0 vs.toArray aZ];simp[splice]
    obtain⟨us,hu,hus⟩:=u2 pl f hf parts rest (splice cells off (Z7 p)) (splice vs off v.cells.toList) out hr (((hv.take off).append hc).append (by rw[hcl];exact hv.drop _)) h;refine⟨us,?_,hus⟩;simp only[Instr.fill,hf i _ hpl];have hn:¬(v.cells.size≠size\/off+v.cells.size>vs.toArray.size):=aZ
    have hcond:(decide (v.cells.size≠size)||decide (off+v.cells.size>vs.toArray.size))=false:=aZ
    rw[aI (by simpa using hn)];rw[hfill];exact hu
def oY(P:Program)(t:TypeId):Option (List (Nat×Nat)):=
 match P.underlying t with
 |some (.struct fs)=>fs.toList.mapM λf=>(P.info? f.type).map λi=>(f.offset,i.size)
 |_=>none
def An(P:Program)(t:TypeId):Option (List (Nat×Nat)):=
 match P.underlying t with
 |some (.array n e)=>(P.info? e).map λi=>(List.range n).map λj=>(j*i.size,i.size)
 |_=>none
def fk(P:Program)(t:TypeId):Option (List PV):=((P.info? t).bind (·.zero)).bind λz=>z.cells.toList.mapM jf
def iD{c:Ctx}:∀{vs:List Value} {ps:List PV},vs.mapM jf=some ps->VRs c ps vs
 |[],ps,h=>by simp at h;subst h;simp[VRs]
 |v::vs,ps,h=>by rw[kx]at h;simp only[bind,dC,pure,aq]at h;obtain⟨p,hp,qs,hq,rfl⟩:=h;simp only[VRs];exact⟨v,vs,rfl,KZ hp,iD hq⟩
structure BuF (P:Program) (t:TypeId) (places:List (Nat×Nat)) (zero:List PV):Prop where
 pl:oY P t=some places\/An P t=some places
 z:fk P t=some zero
def BuF.run{P:Program}{t:TypeId}{places:List (Nat×Nat)}{zero out:List PV}(h:BuF P t places zero){c:Ctx}(w:World){parts:List (Nat×PV)}{vals:Array (Nat×Value)}
 (hp:VPs c parts vals.toList) (hf:gu places zero parts=some out):∃us,(Instr.build t vals).run P w = .ok (.agg us.toArray) w/\VRs c out us:=by
 have hz:=h.z;unfold fk at hz;simp only[dC]at hz;obtain⟨z,⟨i,hi,hiz⟩,hz⟩:=hz;have hzv:VRs c zero z.cells.toList:=iD hz;rcases h.pl with hpl|hpl
 .unfold oY at hpl;split at hpl
  .rename_i fs hu;obtain⟨us,h1,h2⟩:=u2 (c:=c) places (λx=>places.toArray[x]?) (λj x hx=>by simpa using hx) parts vals.toList zero z.cells.toList out hp hzv hf;refine⟨us,run_build w t vals us.toArray ?_,h2⟩;simp only[Program.built,hi,hu,hiz,hpl];simpa using h1
  cases hpl
 unfold An at hpl;split at hpl
 .rename_i n e hu;simp only[cA]at hpl;obtain⟨ie,hie,rfl⟩:=hpl;obtain⟨us,h1,h2⟩:=u2 (c:=c) _ (λj=>some (j*ie.size,ie.size)) (λj x hx=>by
   simp only[fX,cA]at hx;obtain⟨j',hj,rfl⟩:=hx;have:j'=j:=by
    rcases dY j n with h|h
    .simpa [h]using hj.symm
    simp[h]at hj
   rw[this]) parts vals.toList zero z.cells.toList out hp hzv hf
  refine⟨us,run_build w t vals us.toArray ?_,h2⟩;simp only[Program.built,hi,hu,hiz,hie];simpa using h1
 cases hpl
def gi(ρ:List (Nat×PV)):List (Nat×Operand)->Option (List (Nat×PV))
 |[]=>some []
 |(i,x)::l=>
  match af ρ x,gi ρ l with
  |some p,some ps=>some ((i,p)::ps)
  |_,_=>none
section
variable {P:Program} {o:Oper} {ρ:List (Nat×PV)} {Z:List (Nat×Blk)}
def nK{c:Ctx}(f:Operand->Value):∀(l:List (Nat×Operand)) (ps:List (Nat×PV)),(∀x q,x∈l.map (·.2)->af ρ x=some q->VR c q (f x))->gi ρ l=some ps->VPs c ps (l.map λ(i,x)=>(i,f x))
 |[],ps,_,h=>by simp only[gi,aq]at h;subst h;simp[VPs]
 |(i,x)::l,ps,hop,h=>by
  simp only[gi]at h;split at h
  .rename_i p qs hp hqs;cases h;simp only[cw,VPs];exact⟨f x,_,rfl,hop x p al hp,nK f l qs (λy q hy=>hop y q (by simp only[cw,cn];exact .inr hy)) hqs⟩
  cases h
def K5{t:TypeId}{parts:Array (Nat×Operand)}{places:List (Nat×Nat)}{zero out:List PV}{ps:List (Nat×PV)}(ho:o.op = .build t parts)(hB:BuF P t places zero)
 (hp:gi ρ parts.toList=some ps) (hf:gu places zero ps=some out):aQ P o ρ Z [] (.agg out) []:=
 bE λG β n tm Z' A w hop _ _=>by have hv:=nK (ρ:=ρ) (c:=ctx G β w Z') A.eval parts.toList ps (λx q hx hq=>hop x q qL hq) hp;obtain⟨us,h1,h2⟩:=hB.run (c:=ctx G β w Z') (vals:=parts.map λ(i,x)=>(i,A.eval x)) w (by rw[qJ];exact hv) hf;refine⟨.agg us.toArray,?_,by simp only[VR];exact⟨us,rfl,h2⟩⟩;simp only[execOp,ho,aN,h1,aO,aT]
def dZ(w:World)(ob:Obj)(b:Nat)(h:b<w.heap.size):(w.alloc ob).heap[b]?=w.heap[b]?:=Below.heap_alloc w ob b h
def aE.allocImm{G:Frm}{β:Nat->Option Nat}{st:St}{a:Act}{w:World}(h:aE G β st a w)(ob:Obj):aE G β st a (w.alloc ob) /\
 (∀b,(ctx G β w st.Z).I b->(ctx G β (w.alloc ob) st.Z).I b/\(ctx G β (w.alloc ob) st.Z).w.heap[b]?=(ctx G β w st.Z).w.heap[b]?)/\(ctx G β (w.alloc ob) st.Z).I w.heap.size /\
 (∀l,aV (ctx G β w st.Z) (ctx G β (w.alloc ob) st.Z) l):=by
 have hlt:∀b,Imm G β w st.Z b->b<w.heap.size:=λb hb=>hb.1;have hO:∀l o,get st.Z l=some o->∀b,aA β (w.alloc ob) l o b->aA β w l o b:=λl o hl b ho=>ho.of_heap (λb hb=>dZ w ob b (h.sep l o b hl (.inl hb)).1);have hI:∀b,(ctx G β w st.Z).I b->(ctx G β (w.alloc ob) st.Z).I b/\(ctx G β (w.alloc ob) st.Z).w.heap[b]?=(ctx G β w st.Z).w.heap[b]?:=λb hb=>by refine⟨?_,dZ w ob b (hlt b hb)⟩;exact⟨by have:=hb.1;simp;omega,hb.2.1,λl o hl ho=>hb.2.2 l o hl (hO l o hl b ho)⟩
 have hL:∀l,aV (ctx G β w st.Z) (ctx G β (w.alloc ob) st.Z) l:=λl=>by
  cases hg:get st.Z l with
  |none=>exact aV.none hg
  |some o=>exact aV.same rfl rfl (λb hb=>dZ w ob b (h.sep l o b hg (.inl hb)).1)
 refine⟨?_,hI,⟨by simp[ctx],.inl h.base,λl o hl hb=>by have:=(h.sep l o _ hl (hO l o hl _ hb)).1;omega⟩,hL⟩
 exact { defers:=h.defers,sz:=h.sz,base:=by simp;have:=h.base;omega,os:=h.os,tape:=h.tape,output:=h.output,
         old:=λb hb ho=>(dZ w ob b (dL hb h.base)).trans (h.old b hb ho),A:=h.A,gl:=h.gl,inj:=λl l' o o' b hl hl' hb hb'=>h.inj l l' o o' b hl hl' (hO l o hl b hb) (hO l' o' hl' b hb'),
         sep:=λl o b hl hb=>by have:=h.sep l o b hl (hO l o hl b hb);exact⟨by simp;omega,this.2⟩,
         fix:=h.fix,row0:=h.row0.step (λl _=>hL l),
         blk:=λl o hl=>BR.step hI rfl (λb hb=>dZ w ob b (h.sep l o b hl hb).1) (λm _=>hL m) (h.blk l o hl),
         tm:=λi p hp=>⟨(h.tm i p hp).1,VR.step hI p _ (λm _=>hL m) (h.tm i p hp).2⟩ }
def dP(β:Nat->Option Nat)(l b:Nat):Nat->Option Nat:=λm=>if m=l then some b else β m
def fe(β:Nat->Option Nat)(l b:Nat):dP β l b l=some b:=by simp[dP]
def ky(β:Nat->Option Nat){l m:Nat}(b:Nat)(h:m≠l):dP β l b m=β m:=by simp[dP,h]
def aE.allocOwn{G:Frm}{β:Nat->Option Nat}{n:Nat}{tm:List (Nat×PV)}{Z:List (Nat×Blk)}{a:Act}{w:World}(h:aE G β ⟨n,tm,Z⟩ a w)(cs:Array Value)(e:TypeId)(l:Nat)(blk:Blk)(hlab:1000<=l)(hflat:blk.flat)
 (hf1:∀i q,get tm i=some q->q.has l=false) (hf2:∀m y,get Z m=some y->m≠l/\y.has l=false)
 (hblk:(∀b,(ctx G β w Z).I b->(ctx G (dP β l w.heap.size) (w.alloc (.cells cs e)) ((l,blk)::Z)).I b/\(ctx G (dP β l w.heap.size) (w.alloc (.cells cs e)) ((l,blk)::Z)).w.heap[b]?=(ctx G β w Z).w.heap[b]?) ->
  (∀m,m≠l->aV (ctx G β w Z) (ctx G (dP β l w.heap.size) (w.alloc (.cells cs e)) ((l,blk)::Z)) m)->aY (w.alloc (.cells cs e)) w.heap.size cs.size ->
  BR (ctx G (dP β l w.heap.size) (w.alloc (.cells cs e)) ((l,blk)::Z)) l blk) :
 aE G (dP β l w.heap.size) ⟨n,tm,(l,blk)::Z⟩ a (w.alloc (.cells cs e))/\aY (w.alloc (.cells cs e)) w.heap.size cs.size /\
 (∀b,(ctx G β w Z).I b->(ctx G (dP β l w.heap.size) (w.alloc (.cells cs e)) ((l,blk)::Z)).I b/\(ctx G (dP β l w.heap.size) (w.alloc (.cells cs e)) ((l,blk)::Z)).w.heap[b]?=(ctx G β w Z).w.heap[b]?) /\
 (∀m,m≠l->aV (ctx G β w Z) (ctx G (dP β l w.heap.size) (w.alloc (.cells cs e)) ((l,blk)::Z)) m):=by
 have hgl:∀m,m≠l->get ((l,blk)::Z) m=get Z m:=λm hm=>by simp[get,ed (de hm)]
 have hgs:get ((l,blk)::Z) l=some blk:=nL
 have hgn:get Z l=none:=by
  cases hg:get Z l with
  |none=>rfl
  |some y=>exact absurd rfl (hf2 l y hg).1
 have hlt:∀b,Imm G β w Z b->b<w.heap.size:=λb hb=>hb.1;have hO:∀m o,m≠l->get Z m=some o->∀b,aA (dP β l w.heap.size) (w.alloc (.cells cs e)) m o b->aA β w m o b:=λm o hm hg b ho=>ho.of (ky β _ hm) (λb hb=>dZ w _ b (h.sep m o b hg (.inl hb)).1);have hrow:aY (w.alloc (.cells cs e)) w.heap.size cs.size:=⟨cs,e,(0,0),j6 w _,rfl,.inl rfl⟩;have hI:∀b,(ctx G β w Z).I b->(ctx G (dP β l w.heap.size) (w.alloc (.cells cs e)) ((l,blk)::Z)).I b/\(ctx G (dP β l w.heap.size) (w.alloc (.cells cs e)) ((l,blk)::Z)).w.heap[b]?=(ctx G β w Z).w.heap[b]?:=λb hb=>by
  refine⟨?_,dZ w _ b (hlt b hb)⟩;have hbl:=hlt b hb;obtain⟨h1,h2,h3⟩:=hb;refine⟨by simp;omega,h2,λm o hm=>?_⟩;by_cases hml:m=l
  .subst hml;rw[hgs]at hm;cases hm;intro hh;have:=hh.flat hflat;rw[fe]at this;cases this;omega
  have hm':get Z m=some o:=by rw[<- hgl m hml];exact hm
  exact λho=>h3 m o hm' (hO m o hml hm' b ho)
 have hL:∀m,m≠l->aV (ctx G β w Z) (ctx G (dP β l w.heap.size) (w.alloc (.cells cs e)) ((l,blk)::Z)) m:=λm hm=>by
  have hg':get ((l,blk)::Z) m=get Z m:=hgl m hm;cases hg:get Z m with
  |none=>exact aV.none (hg'.trans hg)
  |some o=>exact aV.same hg' (ky β _ hm) (λb hb=>dZ w _ b (h.sep m o b hg (.inl hb)).1)
 refine⟨?_,hrow,hI,hL⟩;have hns:∀m o,m≠l->get ((l,blk)::Z) m=some o->get Z m=some o:=λm o hm hg=>(hgl m hm).symm.trans hg
 exact { defers:=h.defers,sz:=h.sz,base:=by simp;have:=h.base;omega,os:=h.os,tape:=h.tape,output:=h.output,
         old:=λb hb ho=>(dZ w _ b (dL hb h.base)).trans (h.old b hb ho),A:=h.A,gl:=h.gl,
         inj:=λm m' o o' b hm hm' hb hb'=>by
          by_cases h1:m=l
          .by_cases h2:m'=l
           .rw [h1,h2]
           subst h1;rw[hgs]at hm;cases hm;have hb:=hb.flat hflat;simp only[fe,aq]at hb;have:=(h.sep m' o' b (hns m' o' h2 hm') (hO m' o' h2 (hns m' o' h2 hm') b hb')).1;omega
          by_cases h2:m'=l
          .subst h2;rw[hgs]at hm';cases hm';have hb':=hb'.flat hflat;simp only[fe,aq]at hb';have:=(h.sep m o b (hns m o h1 hm) (hO m o h1 (hns m o h1 hm) b hb)).1;omega
          exact h.inj m m' o o' b (hns m o h1 hm) (hns m' o' h2 hm') (hO m o h1 (hns m o h1 hm) b hb) (hO m' o' h2 (hns m' o' h2 hm') b hb'),
         sep:=λm o b hm hb=>by
          by_cases h1:m=l
          .subst h1;rw[hgs]at hm;cases hm;have hb:=hb.flat hflat;simp only[fe,aq]at hb;subst hb;exact⟨by simp,.inl h.base⟩
          have:=h.sep m o b (hns m o h1 hm) (hO m o h1 (hns m o h1 hm) b hb);exact⟨by simp;omega,this.2⟩,
         fix:=λm cs' h1 hm=>by
          have h2:m≠l:=bg
          rw[ky β _ h2];exact h.fix m cs' h1 (hns m _ h2 hm),
         row0:=h.row0.step (λm hm=>hL m O),
         blk:=λm o hm=>by
          by_cases h1:m=l
          .subst h1;simp only[hgs,aq]at hm;subst hm;exact hblk hI hL hrow
          have hm':=hns m o h1 hm;exact BR.step hI (ky β _ h1) (λb hb=>dZ w _ b (h.sep m o b hm' hb).1) (λq hq=>hL q (λe=>by subst e;rw[(hf2 m o hm').2]at hq;cases hq)) (h.blk m o hm'),
         tm:=λi p hp=>⟨(h.tm i p hp).1,VR.step hI p _ (λq hq=>hL q (λe=>by subst e;rw[hf1 i p hp]at hq;cases hq)) (h.tm i p hp).2⟩ }
def qM {need:List Nat} {p:PV} {l:Nat} {blk:Blk} (h:∀(G:Frm) (β:Nat->Option Nat) (n:Nat) (tm:List (Nat×PV)) (Z':List (Nat×Blk)) (a:Act) (w:World),
      (∀x q,x∈o.op.operands->af ρ x=some q->VR (ctx G β w Z') q (a.eval x)/\q.has l=false)->(∀m,m∈need->get Z' m=get Z m) ->
      (∀i q,get tm i=some q->q.has l=false)->(∀m y,get Z' m=some y->m≠l/\y.has l=false)->aE G β ⟨n,tm,Z'⟩ a w ->
      ∃v w',(execOp a.eval o).run P w = .ok (.value v) w'/\∃β',aE G β' ⟨n,tm,(l,blk)::Z'⟩ a w'/\VR (ctx G β' w' ((l,blk)::Z')) p v)
 (hcl:∀x q,x∈o.op.operands->(∀t,x ≠ .tmp t)->af ρ x=some q->q.has l=false):aQ P o ρ Z need p [(l,blk)]:=by
 intro G n tm Z' a w K Q hag hneed hfresh hr hK;obtain⟨β,hr⟩:=hr;obtain⟨hf1,hf2⟩:=hfresh l blk al;obtain⟨v,w',hv,hp⟩:=h G β n tm Z' a w (λx q hx hq=>⟨hP hr hq (λt r ht hr'=>hag t r (ht▸hx) hr'),by
  cases x with
  |tmp t=>exact hf1 t q (hag t q hx hq)
  |const _=>exact hcl _ q hx (λt e=>by cases e) hq
  |global _=>exact hcl _ q hx (λt e=>by cases e) hq
  |func _=>exact hcl _ q hx (λt e=>by cases e) hq⟩) hneed hf1 hf2 hr
 unfold Oper.wp;rw[hv];exact hK v w' hp
def ZbC{v:Value}{p:PV}(h:jf v=some p)(l:Nat):p.has l=false:=K0
def Z6y{x:Operand}{q:PV}(l:Nat)(hx:∀t,x ≠ .tmp t)(h:af ρ x=some q):q.has l=false:=by
 cases x with
 |tmp t=>exact absurd rfl (hx t)
 |const v=>exact ZbC h l
 |func f=>simp only[af,aq]at h;subst h;rfl
 |global g=>
  simp only[af]at h;obtain⟨ts,_,rfl⟩:=Z9m h;rfl
def VRs.cellsAt(w:World)(vs:List Value)(e:TypeId):gK (w.alloc (.cells vs.toArray e)) w.heap.size vs:=λj v hv=>by rw[iU];simpa using hv
def ZbD{p:PV}{l:Nat}(h:p.has l=false):PV.hasAny l (Z7 p)=false:=by cases p<;>simp_all[Z7,PV.has,PV.hasAny]
def ZbE{T:TypeId}{x:Operand}{p:PV}(l:Nat)(hlab:1000<=l)(ho:o.op = .box T x)(hx:af ρ x=some p)(h1:(Z7 p).all PV.one=true):aQ P o ρ Z [] (.bptr l 0) [(l,.box (Z7 p))]:=
 qM (λG β n tm Z' A w hop _ hf1 hf2 hr=>by
  obtain⟨hv,hhas⟩:=hop x p aK hx;have hc:=hv.cells;obtain⟨hr',hrow,hI,hL⟩:=hr.allocOwn (A.eval x).cells T l (.box (Z7 p)) hlab trivial hf1 hf2 (λhI hL hrow=>⟨w.heap.size,(A.eval x).cells.toList,fe _ _ _,by rw[<- hc.length,iV];exact hrow,
   λj v hv'=>by show(w.alloc _).cell? _=_;rw[iU];simpa using hv',VRs.step hI _ _ (λq hq=>hL q (λe=>by subst e;rw[ZbD hhas]at hq;cases hq)) hc,h1⟩)
  refine⟨.pointer (some ⟨w.heap.size,0,none⟩),w.alloc (.cells (A.eval x).cells T),?_,_,hr',?_⟩
  .simp [execOp,ho,Instr.box,newVar,newRow]
  simp only[VR];exact⟨λcs hcs=>⟨w.heap.size,fe _ _ _,rfl⟩,_,rfl⟩) (λ_ _ _ hx hq=>Z6y l hx hq)
def ZbF{T:TypeId}{zero:List PV}(l:Nat)(hlab:1000<=l)(ho:o.op = .alloc T)(hz:fk P T=some zero):aQ P o ρ Z [] (.bptr l 0) [(l,.box zero)]:=
 qM (λG β n tm Z' A w hop _ hf1 hf2 hr=>by
  unfold fk at hz;simp only[dC]at hz;obtain⟨z,⟨i,hi,hiz⟩,hz⟩:=hz;have h1:zero.all PV.one=true:=by
   generalize z.cells.toList=vs at hz;clear hf1 hf2 hop hr;induction vs generalizing zero with
   |nil=>simp at hz;subst hz;rfl
   |cons v vs ih=>
    rw[kx]at hz;simp only[bind,dC,pure,aq]at hz;obtain⟨p,hp,qs,hq,rfl⟩:=hz;simp[Zbl hp,ih hq]
  have hc:∀c:Ctx,VRs c zero z.cells.toList:=λc=>iD hz;obtain⟨hr',hrow,hI,hL⟩:=hr.allocOwn z.cells T l (.box zero) hlab trivial hf1 hf2 (λhI hL hrow=>⟨w.heap.size,z.cells.toList,fe _ _ _,by rw[<- (hc (ctx G β w Z')).length,iV];exact hrow,
   λj v hv'=>by show(w.alloc _).cell? _=_;rw[iU];simpa using hv',hc _,h1⟩)
  refine⟨.pointer (some ⟨w.heap.size,0,none⟩),w.alloc (.cells z.cells T),?_,_,hr',?_⟩
  .simp [execOp,ho,Instr.alloc,zeroValue,typeInfo,hi,hiz,newVar,newRow]
  simp only[VR];exact⟨λcs hcs=>⟨w.heap.size,fe _ _ _,rfl⟩,_,rfl⟩) (λ_ _ _ hx hq=>Z6y l hx hq)
def toT:PV->Option U
 |.t x=>some x
 |.nils=>some (.sl [])
 |_=>none
def cH:List PV->Option (List U)
 |[]=>some []
 |p::ps=>
  match toT p,cH ps with
  |some t,some ts=>some (t::ts)
  |_,_=>none
def chunk(k:Nat):Nat->List U->List (List U)
 |0,_=>[]
 |n+1,ts=>ts.take k::chunk k n (ts.drop k)
def Ao{c:Ctx}{p:PV}{t:U}{v:Value}(h:toT p=some t)(hv:VR c p v):Z9 c.I c.w t v:=by
 cases p<;>simp only[toT,aq]at h<;>first|(subst h)|(cases h)
 .simpa [VR]using hv
 simp only[VR]at hv;obtain⟨a,rfl⟩:=hv;simp only[Z9];exact⟨a,0,rfl,by simp,by simp[maxLen],.inl trivial⟩
def Ap{c:Ctx}{b:Nat}:∀{ps:List PV} {ts:List U} {vs:List Value} (off:Nat),cH ps=some ts->VRs c ps vs->(∀j v,vs[j]?=some v->c.w.cell? ⟨b,off+j,none⟩=some v)->Z6 c.I c.w b ts off
 |[],ts,vs,off,h,_,_=>by simp only[cH,aq]at h;subst h;simp[Z6]
 |p::ps,ts,vs,off,h,hv,hc=>by
  simp only[cH]at h;split at h
  .rename_i t ts' ht hts;cases h;simp only[VRs]at hv;obtain⟨v,rest,rfl,hv,hr⟩:=hv;simp only[Z6];refine⟨⟨v,by simpa using hc 0 v rfl,Ao ht hv⟩,Ap (off+1) hts hr λj u hu=>?_⟩;have:=hc (j+1) u qN;rwa[show off+(j+1)=off+1+j by omega]at this
  cases h
def Z6.split{I:Nat->Prop}{w:World}{b:Nat}:∀(k:Nat) (ts:List U) (off:Nat),Z6 I w b ts off->Z6 I w b (ts.take k) off/\Z6 I w b (ts.drop k) (off+(ts.take k).length)
 |0,ts,off,h=>by simpa[Z6]using h
 |k+1,[],off,h=>by simp[Z6]
 |k+1,t::ts,off,h=>by simp only[Z6]at h;obtain⟨h1,h2⟩:=Z6.split k ts (off+1) h.2;simp only[uZ,qK,Z6,bT];exact⟨⟨h.1,h1⟩,by rwa[show off+((ts.take k).length+1)=off+1+(ts.take k).length by omega]⟩
def ao.chunk{I:Nat->Prop}{w:World}{b k:Nat}:∀(n:Nat) (ts:List U) (off:Nat),Z6 I w b ts off->ao I w b (chunk k n ts) off
 |0,_,_,_=>by simp[PW.chunk,ao]
 |n+1,ts,off,h=>by obtain⟨h1,h2⟩:=Z6.split k ts off h;simp only[PW.chunk,ao];exact⟨h1,ao.chunk n _ _ h2⟩
def qO(k:Nat):∀(n:Nat) (ts:List U),(chunk k n ts).length=n
 |0,_=>rfl
 |n+1,ts=>by simp[PW.chunk,qO k n]
def K6(k:Nat):∀(n:Nat) (ts:List U),ts.length=n*k->∀el,el∈chunk k n ts->el.length=k
 |0,_,_,el,h=>by simp[PW.chunk]at h
 |n+1,ts,hl,el,h=>by
  rw[dQ,eP]at hl;simp only[PW.chunk,cn]at h;rcases h with h|h
  .subst h;simp;omega
  exact K6 k n _ aZ el h
structure ElF (P:Program) (t e:TypeId) (k bytes:Nat) (zero:List PV):Prop where
 und:P.underlying t=some (.slice e)
 info:(P.info? e).map (λi=>(i.size,i.bytes))=some (k,bytes)
 z:fk P e=some zero
 pos:0<k
 len:zero.length=k
def rep{α:Type}:Nat->List α->List α
 |0,_=>[]
 |n+1,l=>l++rep n l
def kC(k n:Nat):List (Nat×Nat):=(List.range n).map λj=>(j*k,k)
def K7{z:Array Value}{k:Nat}(hz:z.size=k)(hk:0<k):∀n,(madeCells z (n*k)).toList=rep n z.toList
 |0=>by simp[madeCells,rep]
 |n+1=>by
  rw[rep,<- K7 hz hk n];apply List.ext_getElem?;intro j;simp only[madeCells,qJ,Array.toList_range,fX];rcases dY j k with h|h
  .rw [dy aZ];have h1:j<(n+1)*k:=by rw[dQ];omega
   simp[h1,hz,qP h,h]
  rw[dU aZ];simp only[iV,hz,fX];have e1:(n+1)*k=n*k+k:=u3
  by_cases h2:j<(n+1)*k
  .have h3:j-k<n*k:=by omega
   rw[oR h2,oR h3];simp only[dW];have:j%k=(j-k)%k:=by rw[Nat.mod_eq_sub_mod h]
   rw[this]
  have h3:¬j-k<n*k:=bg
  rw[lM aZ,lM aZ]
def VRs.rep{c:Ctx}{ps:List PV}{vs:List Value}(h:VRs c ps vs):∀n,VRs c (PW.rep n ps) (PW.rep n vs)
 |0=>by simp[PW.rep,VRs]
 |n+1=>by simp only[PW.rep];exact h.append (h.rep n)
def u4{t e:TypeId}{k bytes:Nat}{zero:List PV}(hE:ElF P t e k bytes zero){c:Ctx}(w:World){len:Nat}{parts:List (Nat×PV)}{vals:Array (Nat×Value)}{out:List PV}(hp:VPs c parts vals.toList)
 (hsmall:len*k<=16777216) (hf:gu (kC k len) (rep len zero) parts=some out) :
 ∃us,(Instr.buildSlice t len vals).run P w = .ok (.slice (some ⟨w.heap.size,0,none⟩) len len) (w.alloc (.cells us.toArray e))/\VRs c out us:=by
 cases hi:P.info? e with
 |none=>have:=hE.info;simp[hi]at this
 |some i=>
  have hik:i.size=k:=by have:=hE.info;simp[hi]at this;exact this.1
  have hz:=hE.z;unfold fk at hz;simp only[hi,bp,dC]at hz;obtain⟨z,hiz,hz⟩:=hz;have hzv:VRs c zero z.cells.toList:=iD hz;have hzl:z.cells.size=k:=by have:=hzv.length;rw[hE.len]at this;simpa using this
  have hpos:=hE.pos;have hrep:=hzv.rep len;rw[<- K7 hzl hpos len]at hrep;obtain⟨us,h1,h2⟩:=u2 (c:=c) (kC k len) (λj=>some (j*k,k)) (λj x hx=>by
   simp only[kC,fX,cA]at hx;obtain⟨j',hj,rfl⟩:=hx;have:j'=j:=by
    rcases dY j len with h|h
    .simpa [h]using hj.symm
    simp[h]at hj
   rw[this]) parts vals.toList (rep len zero) _ out hp hrep hf
  refine⟨us,?_,h2⟩;by_cases hn:len=0
  .subst hn;have hmade:madeCells z.cells (0*k) = #[]:=by simp[madeCells]
   have h1':Instr.fill (λj=>some (j*k,k)) #[] vals.toList=some us.toArray:=by rw[hmade]at h1;simpa using h1
   simp only[Instr.buildSlice,aN,cy hE.und,aO,sizeOf,typeInfo,run_program,hi,aT,u5,hik];have hmap:∀f:Nat->Value,Array.map f (Array.range 0) = #[]:=λf=>al
   simp only[Nat.not_lt_zero,oM,fy,dK,aN,aT,aO,hmap,h1',newRow];simp
  have hne:¬len*i.size=0:=by rw[hik];exact Nat.ne_of_gt (Nat.mul_pos O hpos)
  refine run_buildSlice w t e len vals us.toArray i z hE.und hi hiz (by rw[hik];omega) hne ?_;rw[hik];rw[Array.toArray_toList]at h1;exact h1
end
end Go.PW
namespace Go.PW
open Go.RowKit
section
variable {P:Program} {o:Oper} {ρ:List (Nat×PV)} {Z:List (Nat×Blk)}
def MZ {need:List Nat} {p:PV} (h:∀(G:Frm) (β:Nat->Option Nat) (n:Nat) (tm:List (Nat×PV)) (Z':List (Nat×Blk)) (a:Act) (w:World),
      (∀x q,x∈o.op.operands->af ρ x=some q->VR (ctx G β w Z') q (a.eval x))->(∀l,l∈need->get Z' l=get Z l)->aE G β ⟨n,tm,Z'⟩ a w ->
      ∃v w',(execOp a.eval o).run P w = .ok (.value v) w'/\aE G β ⟨n,tm,Z'⟩ a w'/\VR (ctx G β w' Z') p v):aQ P o ρ Z need p []:=by
 intro G n tm Z' a w K Q hag hneed _ hr hK;obtain⟨β,hr⟩:=hr;obtain⟨v,w',hv,hr',hp⟩:=h G β n tm Z' a w (λx q hx hq=>hP hr hq (λt r ht hr'=>hag t r (ht▸hx) hr')) hneed hr;unfold Oper.wp;rw[hv];exact hK v w' ⟨β,hr',hp⟩
def Z9n(A:Act)(parts:Array (Nat×Operand)):(parts.map λ(i,x)=>(i,A.eval x)).toList=parts.toList.map λ(i,x)=>(i,A.eval x):=qJ
def Zdy{t e:TypeId}{len k bytes:Nat}{zero out:List PV}{ts:List U}{parts:Array (Nat×Operand)}{ps:List (Nat×PV)}(ho:o.op = .buildSlice t len parts)(hE:ElF P t e k bytes zero)
 (hp:gi ρ parts.toList=some ps) (hsmall:len*k<=16777216) (hf:gu (kC k len) (rep len zero) ps=some out) (hts:cH out=some ts):aQ P o ρ Z [] (.t (.sl (chunk k len ts))) []:=
 MZ λG β n tm Z' A w hop _ hr=>by
  have hv:=nK (ρ:=ρ) (c:=ctx G β w Z') A.eval parts.toList ps (λx q hx hq=>hop x q qL hq) hp;obtain⟨us,h1,h2⟩:=u4 hE (c:=ctx G β w Z') w (vals:=parts.map λ(i,x)=>(i,A.eval x)) vD hsmall hf;obtain⟨hr',hI,hnew,hL⟩:=hr.allocImm (.cells us.toArray e);refine⟨.slice (some ⟨w.heap.size,0,none⟩) len len,w.alloc (.cells us.toArray e),?_,hr',?_⟩
  .simp only[execOp,ho,aN,h1,aO,aT]
  simp only[VR,Z9];refine⟨some ⟨w.heap.size,0,none⟩,len,by rw[qO],by rw[qO];exact aW _,?_,.inr ⟨w.heap.size,0,rfl,hnew,ao.chunk _ _ _ ?_⟩⟩
  .have:=hE.pos;have:len<=len*k:=vo _ this;simp only[maxLen];omega
  have h3:=VRs.step hI _ _ (λl _=>hL l) h2;exact Ap 0 hts h3 (λj v hj=>by rw[aM];exact VRs.cellsAt w us e j v hj)
def Zdz{t e:TypeId}{len k bytes:Nat}{zero out:List PV}{ts:List U}{parts:Array (Nat×Operand)}{ps:List (Nat×PV)}(l:Nat)(hlab:1000<=l)(ho:o.op = .buildSlice t len parts)(hE:ElF P t e k bytes zero)
 (hp:gi ρ parts.toList=some ps) (hsmall:len*k<=16777216) (hf:gu (kC k len) (rep len zero) ps=some out) (hts:cH out=some ts) (hlen:ts.length=len*k) :
 aQ P o ρ Z [] (.osl l len) [(l,.row k (chunk k len ts))]:=
 qM (λG β n tm Z' A w hop _ hf1 hf2 hr=>by
  have hv:=nK (ρ:=ρ) (c:=ctx G β w Z') A.eval parts.toList ps (λx q hx hq=>(hop x q qL hq).1) hp;obtain⟨us,h1,h2⟩:=u4 hE (c:=ctx G β w Z') w (vals:=parts.map λ(i,x)=>(i,A.eval x)) vD hsmall hf;have houtlen:=h2.length;have htl:∀{qs:List PV} {us:List U},cH qs=some us->us.length=qs.length:=by
   intro qs;induction qs with
   |nil=>intro us h;simp only[cH,aq]at h;subst h;rfl
   |cons q qs ih=>
    intro us h;simp only[cH]at h;split at h
    .rename_i t ts' _ hts';cases h;simp[ih hts']
    cases h
  have husl:us.length=len*k:=by rw[houtlen,<- htl hts,hlen]
  have hcells:∀(c':Ctx),(∀b,(ctx G β w Z').I b->c'.I b/\c'.w.heap[b]?=(ctx G β w Z').w.heap[b]?)->c'.w=w.alloc (.cells us.toArray e)->Z6 c'.I c'.w w.heap.size ts 0:=by
   intro c' hI hw;have hgen:∀(qs:List PV) (rs:List U) (vs:List Value) (off:Nat),cH qs=some rs->VRs (ctx G β w Z') qs vs->(∀j v,vs[j]?=some v->c'.w.cell? ⟨w.heap.size,off+j,none⟩=some v)->Z6 c'.I c'.w w.heap.size rs off:=by
    intro qs;induction qs with
    |nil=>intro rs vs off h _ _;simp only[cH,aq]at h;subst h;simp[Z6]
    |cons q qs ih=>
     intro rs vs off h hv hc;simp only[cH]at h;split at h
     .rename_i t rs' ht hrs;cases h;simp only[VRs]at hv;obtain⟨v,rest,rfl,hv,hr⟩:=hv;simp only[Z6];refine⟨⟨v,by simpa using hc 0 v rfl,Z9.mono hI t v (Ao ht hv)⟩,ih rs' rest (off+1) hrs hr λj u hu=>?_⟩;have:=hc (j+1) u qN;rwa[show off+(j+1)=off+1+j by omega]at this
     cases h
   exact hgen out ts us 0 hts h2 (λj v hj=>by rw[hw,aM];exact VRs.cellsAt w us e j v hj)
  obtain⟨hr',hrow,hI,hL⟩:=hr.allocOwn us.toArray e l (.row k (chunk k len ts)) hlab trivial hf1 hf2 (λhI _ hrow=>⟨hE.pos,K6 k len ts hlen,.inr ⟨w.heap.size,_,fe _ _ _,hrow,by rw[qO];simp[husl],ao.chunk _ _ _ (hcells _ hI rfl)⟩⟩);refine⟨.slice (some ⟨w.heap.size,0,none⟩) len len,w.alloc (.cells us.toArray e),?_,_,hr',?_⟩
  .simp only[execOp,ho,aN,h1,aO,aT]
  simp only[VR];refine⟨λk' es' hg=>?_,_,_,_,rfl⟩;have hgs:get ((l,Blk.row k (chunk k len ts))::Z') l=some (.row k (chunk k len ts)):=nL
  have hg':some (Blk.row k' es')=some (.row k (chunk k len ts)):=hg.symm.trans hgs;cases hg';rw[qO];refine⟨aW _,λ_=>⟨_,len,rfl,aW _,?_,.inr ⟨w.heap.size,_,rfl,fe _ _ _,hrow,by simp[husl]⟩⟩⟩;have:=hE.pos;have:len<=len*k:=vo _ this;simp only[maxLen];omega) (λ_ _ _ hx hq=>Z6y l hx hq)
def Z6.rep{I:Nat->Prop}{w:World}{b:Nat}{z:List U}:∀(n:Nat) (off:Nat),(∀j off',j<n->off'=off+j*z.length->Z6 I w b z off')->ao I w b (List.replicate n z) off
 |0,_,_=>by simp[ao]
 |n+1,off,h=>by simp only[List.replicate_succ,ao];refine⟨h 0 off O al,Z6.rep n (off+z.length) λj off' hj he=>h (j+1) off' O ?_⟩;rw[he,dQ,eP];omega
def ZdA{t e:TypeId}{x y:Operand}{k bytes:Nat}{zero:List PV}{zs:List U}{kl kc:IntKind}{m c:Int}(l:Nat)(hlab:1000<=l)(ho:o.op = .makeSlice t x y)(hE:ElF P t e k bytes zero)(hzs:cH zero=some zs)
 (hx:af ρ x=some (.t (.int kl m))) (hy:af ρ y=some (.t (.int kc c))) (h0:0<=m) (hmc:m<=c) (hb:(bytes:Int)*c<=281474976710656) (h63:c<=9223372036854775807) :
 aQ P o ρ Z [] (.osl l m.toNat) [(l,.row k (List.replicate m.toNat zs))]:=
 qM (λG β n tm Z' A w hop _ hf1 hf2 hr=>by
  have h1:=(hop x _ aK hx).1;have h2:=(hop y _ aK hy).1;simp only[VR,Z9]at h1 h2;cases hi:P.info? e with
  |none=>have:=hE.info;simp[hi]at this
  |some i=>
   have hik:i.size=k/\i.bytes=bytes:=vE
   have hz:=hE.z;unfold fk at hz;simp only[hi,bp,dC]at hz;obtain⟨z,hiz,hz⟩:=hz;have hzv:∀c,VRs c zero z.cells.toList:=λc=>iD hz;have hzl:z.cells.size=k:=by have:=(hzv (ctx G β w Z')).length;rw[hE.len]at this;simpa using this
   have hzsl:zs.length=k:=by
    rw[<- hE.len];have htl:∀{qs:List PV} {us:List U},cH qs=some us->us.length=qs.length:=by
     intro qs;induction qs with
     |nil=>intro us h;simp only[cH,aq]at h;subst h;rfl
     |cons q qs ih=>
      intro us h;simp only[cH]at h;split at h
      .rename_i t ts' _ hts';cases h;simp[ih hts']
      cases h
    exact htl hzs
   have hrun:=run_make (P:=P) w t e i z hE.und hi hiz kl kc m c h0 hmc (by rw[hik.2];exact hb) h63;rw[hik.1]at hrun;have hsz:(madeCells z.cells (c.toNat*k)).size=c.toNat*k:=size_madeCells _ _;have hcell:∀j i',i'<c.toNat->j<k->(madeCells z.cells (c.toNat*k))[i'*k+j]?=z.cells[j]?:=by
    intro j i' hi' hj;have hlt:i'*k+j<c.toNat*k:=by have:(i'+1)*k<=c.toNat*k:=gj _ hi';rw[dQ,eP]at this;omega
    simp only[madeCells,Array.getElem?_map,Array.getElem?_range,hlt,dK,dW,hzl];rw[Nat.mul_comm i' k,Nat.mul_add_mod,qP hj];have:j<z.cells.size:=bg
    simp[this]
   obtain⟨hr',hrow,hI,hL⟩:=hr.allocOwn (madeCells z.cells (c.toNat*k)) e l (.row k (List.replicate m.toNat zs)) hlab trivial hf1 hf2 (λhI _ hrow=>
    ⟨hE.pos,λel hel=>by rw[vF hel];exact hzsl,.inr ⟨w.heap.size,_,fe _ _ _,hrow,by rw[rk,hsz];exact gj _ O,Z6.rep _ _ λj off' hj he=>by
     refine Ap (vs:=z.cells.toList) off' hzs (hzv _) λj' v hv=>?_;show(w.alloc _).cell? _=_;have hj':j'<k:=M0
     rw[iU,he,aM,hzsl,hcell j' j O hj'];simpa using hv⟩⟩)
   refine⟨.slice (some ⟨w.heap.size,0,none⟩) m.toNat c.toNat,_,?_,_,hr',?_⟩
   .simp only[execOp,ho,h1,h2,aN,hrun,aO,aT]
   simp only[VR];refine⟨λk' es' hg=>?_,_,_,_,rfl⟩;have hgs:get ((l,Blk.row k (List.replicate m.toNat zs))::Z') l=some (.row k (List.replicate m.toNat zs)):=nL
   have hg':some (Blk.row k' es')=some (.row k (List.replicate m.toNat zs)):=hg.symm.trans hgs;cases hg';rw[rk];exact⟨aW _,λ_=>⟨_,c.toNat,rfl,by omega,by simp only[maxLen];omega,.inr ⟨w.heap.size,_,rfl,fe _ _ _,hrow,by rw[hsz];exact aW _⟩⟩⟩) (λ_ _ _ hx hq=>Z6y l hx hq)
def fieldInfo(P:Program)(s:TypeId)(i:Nat):Option (Nat×Nat):=
 match P.underlying s with
 |some (.struct fs)=>(fs[i]?).bind λf=>(P.info? f.type).map λinf=>(f.offset,inf.size)
 |_=>none
def oV{s:TypeId}{i off size b q:Nat}(w:World)(hf:fieldInfo P s i=some (off,size))(hs:size≠0) :
 (Instr.fieldAt s (.pointer (some ⟨b,q,none⟩)) i).run P w = .ok (.pointer (some ⟨b,q+off,none⟩)) w:=by
 unfold fieldInfo at hf;split at hf
 .rename_i fs hu;simp only[dC,cA]at hf;obtain⟨f,hf,inf,hi,he⟩:=hf;cases he;simp[Instr.fieldAt,cy hu,hf,Instr.sureAddr,fieldPlace,sizeOf,typeInfo,hi,hs,gS]
 cases hf
def ZdB{s:TypeId}{x:Operand}{i l q off size:Nat}{cs:List PV}(ho:o.op = .fieldAddr s x i)(hf:fieldInfo P s i=some (off,size))(hs:size≠0)(hx:af ρ x=some (.bptr l q))(hg:get Z l=some (.box cs)) :
 aQ P o ρ Z [l] (.bptr l (q+off)) []:=
 bE λG β n tm Z' A w hop hneed _=>by have h1:=hop x _ aK hx;simp only[VR]at h1⊢;have hgl:get Z' l=some (.box cs):=(hneed l al).trans hg;obtain⟨b,hb,hv⟩:=h1.1 cs hgl;refine⟨.pointer (some ⟨b,q+off,none⟩),?_,λcs' hcs'=>⟨b,hb,rfl⟩,_,rfl⟩;simp only[execOp,ho,hv,aN,oV w hf hs,aO,aT]
def ZdC{s:TypeId}{x:Operand}{i l m j q off size k:Nat}{es:List (List U)}(ho:o.op = .fieldAddr s x i)(hf:fieldInfo P s i=some (off,size))(hs:size≠0)(hx:af ρ x=some (.rptr l m j q))
 (hg:get Z l=some (.row k es)) (hm:es.length=m):aQ P o ρ Z [l] (.rptr l m j (q+off)) []:=
 bE λG β n tm Z' A w hop hneed _=>by
  have h1:=hop x _ aK hx;simp only[VR]at h1⊢;have hgl:get Z' l=some (.row k es):=(hneed l al).trans hg;obtain⟨b,hb,hv⟩:=(h1.1 k es hgl).2 hm.symm;refine⟨.pointer (some ⟨b,j*k+q+off,none⟩),?_,λk' es' hes'=>?_,_,rfl⟩
  .simp only[execOp,ho,hv,aN,oV w hf hs,aO,aT]
  have:some (Blk.row k' es')=some (.row k es):=bP (bQ hes') hgl;cases this;exact⟨by omega,λ_=>⟨b,hb,by rw[l9]⟩⟩
def Z6.drop{I:Nat->Prop}{w:World}{b:Nat}:∀(k:Nat) (ts:List U) (off:Nat),Z6 I w b ts off->Z6 I w b (ts.drop k) (off+k)
 |0,ts,off,h=>iS
 |k+1,[],off,_=>by simp[Z6]
 |k+1,t::ts,off,h=>by simp only[Z6]at h;have:=Z6.drop k ts (off+1) h.2;rwa[qK,show off+(k+1)=off+1+k by omega]
def ZdD{s:TypeId}{x:Operand}{i off size:Nat}{cs:List U}(ho:o.op = .fieldAddr s x i)(hf:fieldInfo P s i=some (off,size))(hs:size≠0)(hx:af ρ x=some (.vptr cs)):aQ P o ρ Z [] (.vptr (cs.drop off)) []:=bE λG β n tm Z' A w hop _ _=>by have h1:=hop x _ aK hx;simp only[VR]at h1⊢;obtain⟨b,q,hv,hI,hc⟩:=h1;refine⟨.pointer (some ⟨b,q+off,none⟩),?_,b,q+off,rfl,λhne=>hI (λe=>hne (by rw[e];simp)),hc.drop off⟩;simp only[execOp,ho,hv,aN,oV w hf hs,aO,aT]
def arrInfo(P:Program)(t:TypeId):Option (Nat×Nat):=
 match P.underlying t with
 |some (.array n e)=>(P.info? e).map λi=>(n,i.size)
 |_=>none
def AX{t:TypeId}{len es b q:Nat}{k:IntKind}{i:Int}(w:World)(ha:arrInfo P t=some (len,es))(h0:0<=i)(h1:i<len) :
 (Instr.indexAt t (.pointer (some ⟨b,q,none⟩)) (.int k i)).run P w = .ok (.pointer (some ⟨b,q+i.toNat*es,none⟩)) w:=by
 unfold arrInfo at ha;split at ha
 .rename_i n e hu;simp only[cA]at ha;obtain⟨inf,hi,he⟩:=ha;cases he;have hn:0<=i/\i<len:=⟨h0,h1⟩;simp[Instr.indexAt,asIntOf,cy hu,Instr.sureAddr,hn,sizeOf,typeInfo,hi,gS]
 cases ha
def ZdE{t:TypeId}{x y:Operand}{l q len es:Nat}{cs:List PV}{k:IntKind}{i:Int}(ho:o.op = .indexAddr t x y)(ha:arrInfo P t=some (len,es))(hx:af ρ x=some (.bptr l q))(hy:af ρ y=some (.t (.int k i)))
 (hg:get Z l=some (.box cs)) (h0:0<=i) (h1:i<len):aQ P o ρ Z [l] (.bptr l (q+i.toNat*es)) []:=
 bE λG β n tm Z' A w hop hneed _=>by have e1:=hop x _ aK hx;have e2:=hop y _ aK hy;simp only[VR,Z9]at e1 e2⊢;have hgl:get Z' l=some (.box cs):=(hneed l al).trans hg;obtain⟨b,hb,hv⟩:=e1.1 cs hgl;refine⟨.pointer (some ⟨b,q+i.toNat*es,none⟩),?_,λcs' hcs'=>⟨b,hb,rfl⟩,_,rfl⟩;simp only[execOp,ho,hv,e2,aN,AX w ha h0 h1,aO,aT]
def ZdF{t:TypeId}{x y:Operand}{l m j q len es k:Nat}{els:List (List U)}{ki:IntKind}{i:Int}(ho:o.op = .indexAddr t x y)(ha:arrInfo P t=some (len,es))(hx:af ρ x=some (.rptr l m j q))(hy:af ρ y=some (.t (.int ki i)))
 (hg:get Z l=some (.row k els)) (hm:els.length=m) (h0:0<=i) (h1:i<len):aQ P o ρ Z [l] (.rptr l m j (q+i.toNat*es)) []:=
 bE λG β n tm Z' A w hop hneed _=>by
  have e1:=hop x _ aK hx;have e2:=hop y _ aK hy;simp only[VR,Z9]at e1 e2⊢;have hgl:get Z' l=some (.row k els):=(hneed l al).trans hg;obtain⟨b,hb,hv⟩:=(e1.1 k els hgl).2 hm.symm;refine⟨.pointer (some ⟨b,j*k+q+i.toNat*es,none⟩),?_,λk' es' hes'=>?_,_,rfl⟩
  .simp only[execOp,ho,hv,e2,aN,AX w ha h0 h1,aO,aT]
  have:some (Blk.row k' es')=some (.row k els):=bP (bQ hes') hgl;cases this;exact⟨by omega,λ_=>⟨b,hb,by rw[l9]⟩⟩
def ZdG{t:TypeId}{x y:Operand}{len es:Nat}{cs:List U}{k:IntKind}{i:Int}(ho:o.op = .indexAddr t x y)(ha:arrInfo P t=some (len,es))(hx:af ρ x=some (.vptr cs))(hy:af ρ y=some (.t (.int k i)))
 (h0:0<=i) (h1:i<len):aQ P o ρ Z [] (.vptr (cs.drop (i.toNat*es))) []:=
 bE λG β n tm Z' A w hop _ _=>by have e1:=hop x _ aK hx;have e2:=hop y _ aK hy;simp only[VR,Z9]at e1 e2⊢;obtain⟨b,q,hv,hI,hc⟩:=e1;refine⟨.pointer (some ⟨b,q+i.toNat*es,none⟩),?_,b,q+i.toNat*es,rfl,λhne=>hI (λe=>hne (by rw[e];simp)),hc.drop _⟩;simp only[execOp,ho,hv,e2,aN,AX w ha h0 h1,aO,aT]
def slInfo(P:Program)(t:TypeId):Option Nat:=
 match P.underlying t with
 |some (.slice e)=>(P.info? e).map λi=>i.size
 |_=>none
def oQ{t:TypeId}{es b q len cap:Nat}{k:IntKind}{i:Int}(w:World)(ha:slInfo P t=some es)(h0:0<=i)(h1:i<len) :
 (Instr.indexAt t (.slice (some ⟨b,q,none⟩) len cap) (.int k i)).run P w = .ok (.pointer (some ⟨b,q+i.toNat*es,none⟩)) w:=by
 unfold slInfo at ha;split at ha
 .rename_i e hu;simp only[cA]at ha;obtain⟨inf,hi,he⟩:=ha;cases he;have hn:0<=i/\i<len:=⟨h0,h1⟩;simp[Instr.indexAt,asIntOf,cy hu,hn,sizeOf,typeInfo,hi,gS]
 cases ha
def ao.get{I:Nat->Prop}{w:World}{b k:Nat}:∀{es:List (List U)} {off:Nat} (i:Nat) (e:List U),ao I w b es off->(∀el,el∈es->el.length=k)->es[i]?=some e->Z6 I w b e (off+i*k)
 |[],_,i,e,_,_,h=>jb
 |e0::es,off,0,e,h,_,he=>by simp only[ao]at h;simp at he;subst he;simpa using h.1
 |e0::es,off,i+1,e,h,hk,he=>by simp only[ao]at h;have h0:=hk e0 al;have:=ao.get i e h.2 (λel hel=>hk el (cK _ hel)) ri;rw[h0]at this;rwa[show off+(i+1)*k=off+k+i*k by rw[dQ,eP];omega]
def ZdH{t:TypeId}{x y:Operand}{k:Nat}{es:List (List U)}{e:List U}{ki:IntKind}{i:Int}(ho:o.op = .indexAddr t x y)(ha:slInfo P t=some k)(hx:af ρ x=some (.t (.sl es)))(hy:af ρ y=some (.t (.int ki i)))
 (hk:∀el,el∈es->el.length=k) (h0:0<=i) (he:es[i.toNat]?=some e):aQ P o ρ Z [] (.vptr e) []:=
 bE λG β n tm Z' A w hop _ _=>by
  have e1:=hop x _ aK hx;have e2:=hop y _ aK hy;simp only[VR,Z9]at e1 e2⊢;obtain⟨a,cap,hv,hlc,hcm,h⟩:=e1;have hlt:i.toNat<es.length:=(aJ.1 he).1;rcases h with h|⟨b,q,ha',hI,hel⟩
  .subst h;simp at he
  subst ha';refine⟨.pointer (some ⟨b,q+i.toNat*k,none⟩),?_,b,q+i.toNat*k,rfl,λ_=>hI,hel.get _ e hk he⟩;simp only[execOp,ho,hv,e2,aN,oQ w ha h0 (by omega:i<es.length),aO,aT]
def ZdI{t:TypeId}{x y:Operand}{k l m:Nat}{es:List (List U)}{ki:IntKind}{i:Int}(ho:o.op = .indexAddr t x y)(ha:slInfo P t=some k)(hx:af ρ x=some (.osl l m))(hy:af ρ y=some (.t (.int ki i)))
 (hg:get Z l=some (.row k es)) (hm:es.length=m) (h0:0<=i) (h1:i<m):aQ P o ρ Z [l] (.rptr l m i.toNat 0) []:=
 bE λG β n tm Z' A w hop hneed _=>by
  have e1:=hop x _ aK hx;have e2:=hop y _ aK hy;simp only[VR,Z9]at e1 e2⊢;have hgl:get Z' l=some (.row k es):=(hneed l al).trans hg;obtain⟨a,cap,hv,hmc,hcm,h⟩:=(e1.1 k es hgl).2 hm.symm;rcases h with⟨hc,_⟩|⟨b,sz,ha',hb,hrow,hsz⟩
  .omega
  subst ha';refine⟨.pointer (some ⟨b,i.toNat*k,none⟩),?_,λk' es' hes'=>?_,_,rfl⟩
  .simp only[execOp,ho,hv,e2,aN,oQ w ha h0 h1,aO,aT,aM]
  have:some (Blk.row k' es')=some (.row k es):=bP (bQ hes') hgl;cases this;exact⟨by omega,λ_=>⟨b,hb,by simp⟩⟩
def ZdJ{t e:TypeId}{x y:Operand}{len size:Nat}{agg:Bool}{cs:List PV}{p:PV}{k:IntKind}{i:Int}(ho:o.op = .index t x y)(hT:P.underlying t=some (.array len e))(hF:TyF P e agg size)(hx:af ρ x=some (.agg cs))(hy:af ρ y=some (.t (.int k i)))
 (h0:0<=i) (h1:i<len) (hp:c6 agg size (i.toNat*size) cs=some p):aQ P o ρ Z [] p []:=
 bE λG β n tm Z' A w hop _ _=>by have e1:=hop x _ aK hx;have e2:=hop y _ aK hy;simp only[VR,Z9]at e1 e2;obtain⟨vs,e1,hv⟩:=e1;obtain⟨v,hr,hv⟩:=K3 hF w hv hp;refine⟨v,?_,hv⟩;have hn:0<=i/\i<len:=⟨h0,h1⟩;simp only[execOp,ho,e1,e2,Instr.index,asIntOf,aN,aT,cy hT,aO,hn,and_self,dK,hF.run_sizeOf w,hr]
def ZdK{t:TypeId}{x y:Operand}{s:List UInt8}{b:UInt8}{k:IntKind}{i:Int}(ho:o.op = .index t x y)(hT:P.underlying t=some .string)(hx:af ρ x=some (.t (.str s)))(hy:af ρ y=some (.t (.int k i)))
 (h0:0<=i) (hb:s[i.toNat]?=some b):aQ P o ρ Z [] (.t (.int .u8 b.toNat)) []:=
 bE λG β n tm Z' A w hop _ _=>by
  have e1:=hop x _ aK hx;have e2:=hop y _ aK hy;simp only[VR,Z9]at e1 e2⊢;have hlt:=(aJ.1 hb).1;have hbb:=(aJ.1 hb).2;refine⟨.int .u8 b.toNat,?_,rfl⟩;have hgb:(⟨s.toArray⟩:ByteArray)[i.toNat]?=some b:=by rw[getElem?_pos (⟨s.toArray⟩:ByteArray) i.toNat (by simpa[ByteArray.size]using hlt)];show some (s.toArray[i.toNat]'_)=_;simp[hbb]
  simp only[execOp,ho,e1,e2,Instr.index,asIntOf,aN,aT,cy hT,aO,h0,dK,hgb]
def lj{c:Ctx}{t:TypeId}{agg:Bool}{size b q off:Nat}(hT:TyF P t agg size)(w:World){ps:List PV}{vs:List Value}(hv:VRs c ps vs)(hc:∀j v,vs[j]?=some v->w.cell? ⟨b,q+j,none⟩=some v){p:PV}(hp:c6 agg size off ps=some p) :
 ∃v,(Instr.loadAt t (.pointer (some ⟨b,q+off,none⟩))).run P w = .ok v w/\VR c p v:=by
 cases agg with
 |false=>
  simp only[c6,au]at hp;obtain⟨v,hv1,hv2⟩:=hv.get off p hp;have:=hc off v hv1;exact⟨v,by simp[Instr.loadAt,Instr.sureAddr,loadVar,hT.run_isAgg w,this],hv2⟩
 |true=>
  simp only[c6,av]at hp;cases hb:Nat.ble (off+size) ps.length with
  |false=>simp[hb]at hp
  |true=>
   simp only[hb,av,aq]at hp;subst hp;rw[Nat.ble_eq]at hb;have hl:=hv.length;obtain⟨d,hu,hd⟩:=hT.und;have hlen:((vs.drop off).take size).length=size:=aZ
   refine⟨.agg ((vs.drop off).take size).toArray,run_loadAt_mid w b (q+off) t _ d (λj v hj=>?_) hu hd (by rw[hlen];exact hT.size),?_⟩
   .rw [jP]at hj;split at hj
    .rw [j2]at hj;rw[l9];exact hc _ v hj
    cases hj
   simp only[VR];exact⟨_,rfl,(hv.drop off).take size⟩
def Z6.vals{c:Ctx}{b:Nat}:∀{ts:List U} {off:Nat},Z6 c.I c.w b ts off->∃vs,VRs c (ts.map .t) vs/\∀j v,vs[j]?=some v->c.w.cell? ⟨b,off+j,none⟩=some v
 |[],_,_=>⟨[],by simp[VRs],by simp⟩
 |t::ts,off,h=>by
  simp only[Z6]at h;obtain⟨⟨v,hv,ht⟩,hr⟩:=h;obtain⟨vs,h1,h2⟩:=Z6.vals hr;refine⟨v::vs,by simp only[cw,VRs];exact⟨v,vs,rfl,by simpa[VR]using ht,h1⟩,λj u hu=>?_⟩;cases j with
  |zero=>simp at hu;subst hu;simpa using hv
  |succ j=>have:=h2 j u qN;rwa[show off+(j+1)=off+1+j by omega]
def M1{t:TypeId}{x:Operand}{l q size:Nat}{agg:Bool}{cs:List PV}{p:PV}(ho:o.op = .load t x)(hT:TyF P t agg size)(hx:af ρ x=some (.bptr l q))(hg:get Z l=some (.box cs))(hp:c6 agg size q cs=some p):aQ P o ρ Z [l] p []:=
 bE λG β n tm Z' A w hop hneed hr=>by
  have e1:=hop x _ aK hx;simp only[VR]at e1;have hgl:get Z' l=some (.box cs):=(hneed l al).trans hg;obtain⟨b,hb,hv⟩:=e1.1 cs hgl;obtain⟨b',vs,hb',hrow,hc,hvs,_⟩:=hr.blk l _ hgl;have:b'=b:=c7
  subst this;obtain⟨v,hrun,hpv⟩:=lj (q:=0) hT w hvs (λj v hj=>by rw[aM];exact hc j v hj) hp;rw[aM]at hrun;exact⟨v,by simp only[execOp,ho,hv,aN,hrun,aO,aT],hpv⟩
def ZdL{t:TypeId}{x:Operand}{l m j q size k:Nat}{agg:Bool}{es:List (List U)}{e:List U}{p:PV}(ho:o.op = .load t x)(hT:TyF P t agg size)(hx:af ρ x=some (.rptr l m j q))(hg:get Z l=some (.row k es))(hm:es.length=m)
 (he:es[j]?=some e) (hp:c6 agg size q (e.map .t)=some p):aQ P o ρ Z [l] p []:=
 bE λG β n tm Z' A w hop hneed hr=>by
  have e1:=hop x _ aK hx;simp only[VR]at e1;have hgl:get Z' l=some (.row k es):=(hneed l al).trans hg;obtain⟨b,hb,hv⟩:=(e1.1 k es hgl).2 hm.symm;obtain⟨hk0,hkl,h⟩:=hr.blk l _ hgl;rcases h with⟨_,h⟩|⟨b',sz,hb',hrow,hsz,hel⟩
  .subst h;simp at he
  have:b'=b:=c7
  subst this;have hc:=hel.get j e hkl he;obtain⟨vs,h1,h2⟩:=Z6.vals (c:=ctx G β w Z') hc;obtain⟨v,hrun,hpv⟩:=lj (q:=0+j*k) hT w h1 h2 hp;rw[aM]at hrun;exact⟨v,by simp only[execOp,ho,hv,aN,hrun,aO,aT],hpv⟩
def M3{t:TypeId}{x:Operand}{size:Nat}{agg:Bool}{cs:List U}{p:PV}(ho:o.op = .load t x)(hT:TyF P t agg size)(hx:af ρ x=some (.vptr cs))(hp:c6 agg size 0 (cs.map .t)=some p):aQ P o ρ Z [] p []:=bE λG β n tm Z' A w hop _ hr=>by have e1:=hop x _ aK hx;simp only[VR]at e1;obtain⟨b,q,hv,hI,hc⟩:=e1;obtain⟨vs,h1,h2⟩:=Z6.vals (c:=ctx G β w Z') hc;obtain⟨v,hrun,hpv⟩:=lj (q:=q) hT w h1 h2 hp;rw[cZ]at hrun;exact⟨v,by simp only[execOp,ho,hv,aN,hrun,aO,aT],hpv⟩
end
end Go.PW
namespace Go.PW
open Go.RowKit
def eM(b:Nat):∀(vs:List Value) (o:Nat) (w:World) (k:Nat),k≠b->(w.setCells b o vs).heap[k]?=w.heap[k]?
 |[],_,_,_,_=>rfl
 |v::vs,o,w,k,h=>by simp only[World.setCells];rw[eM b vs (o+1) _ k h,Below.heap_setCell _ _ _ _ h]
def eV(b:Nat):∀(vs:List Value) (o:Nat) (w:World),(w.setCells b o vs).heap.size=w.heap.size
 |[],_,_=>rfl
 |v::vs,o,w=>by simp only[World.setCells];rw[eV b vs];simp
def dH(b:Nat):∀(vs:List Value) (o:Nat) (w:World),(w.setCells b o vs).os=w.os/\(w.setCells b o vs).tape=w.tape/\(w.setCells b o vs).output=w.output
 |[],_,_=>⟨rfl,rfl,rfl⟩
 |v::vs,o,w=>by simp only[World.setCells];have:=dH b vs (o+1) (w.setCell ⟨b,o,none⟩ v);exact this
def ZdM{w:World}{b m:Nat}(a:Addr)(v:Value)(h:aY w b m):aY (w.setCell a v) b m:=by
 obtain⟨cs,e,fr,h1,h2,h3⟩:=h;by_cases hb:a.block=b
 .subst hb;refine⟨if a.spot.isSome then cs else cs.setIfInBounds a.off v,e,fr,?_,?_,h3⟩
  .simp only[World.setCell,Array.getElem?_modify,h1,dW,dK]
  split<;>simp[h2]
 exact⟨cs,e,fr,(Below.heap_setCell w a v b (de hb)).trans h1,h2,h3⟩
def dx{b m:Nat}(b':Nat):∀(vs:List Value) (o:Nat) (w:World),aY w b m->aY (w.setCells b' o vs) b m
 |[],_,_,h=>h
 |v::vs,o,w,h=>dx b' vs (o+1) _ (ZdM _ v h)
def jQ{w:World}{b m o n:Nat}(h:aY w b m)(hn:o+n<=m):w.there b o n:=by
 obtain⟨cs,e,fr,h1,h2,h3⟩:=h;intro j hj;constructor
 .rw [cell_of_row w b (o+j) cs e fr h1];have:o+j<cs.size:=by omega
  simp[this]
 unfold World.frozen?;simp only[h1];rcases h3 with h3|h3
 .rw [h3];simp
 exact h3.elim
def jx{G:Frm}{β:Nat->Option Nat}{n:Nat}{tm:List (Nat×PV)}{Z:List (Nat×Blk)}{a:Act}{w:World}(h:aE G β ⟨n,tm,Z⟩ a w){l b off:Nat}{blk blk':Blk}(vs:List Value)
 (hg:get Z l=some blk) (hb:β l=some b)
 (hkind:(∃k es es',blk = .row k es/\blk' = .row k es'/\es.length<=es'.length)\/(∃cs cs',blk = .box cs/\blk' = .box cs')\/(∃k i es cs cs',blk = .prow k i es cs/\blk' = .prow k i es cs'))
 (hblk:(∀b',(ctx G β w Z).I b'->(ctx G β (w.setCells b off vs) (put Z l blk')).I b'/\(ctx G β (w.setCells b off vs) (put Z l blk')).w.heap[b']?=(ctx G β w Z).w.heap[b']?) ->
  (∀m,aV (ctx G β w Z) (ctx G β (w.setCells b off vs) (put Z l blk')) m)->BR (ctx G β (w.setCells b off vs) (put Z l blk')) l blk') :
 aE G β ⟨n,tm,put Z l blk'⟩ a (w.setCells b off vs) /\
 (∀b',(ctx G β w Z).I b'->(ctx G β (w.setCells b off vs) (put Z l blk')).I b'/\(ctx G β (w.setCells b off vs) (put Z l blk')).w.heap[b']?=(ctx G β w Z).w.heap[b']?) /\
 (∀m,aV (ctx G β w Z) (ctx G β (w.setCells b off vs) (put Z l blk')) m):=by
 have hgs:get (put Z l blk') l=some blk':=fO Z l blk';have hfl:blk.flat/\blk'.flat:=by rcases hkind with⟨k,es,es',rfl,rfl,_⟩|⟨cs,cs',rfl,rfl⟩|⟨k,i,es,cs,cs',rfl,rfl⟩<;>exact⟨aa,aa⟩
 have hgo:∀m,m≠l->get (put Z l blk') m=get Z m:=λm hm=>gd Z blk' (de hm);have hsep:=h.sep l blk b hg (.inl hb);have hnI:∀b',Imm G β w Z b'->b'≠b:=by rintro b' ⟨h1,h2,h3⟩ rfl;exact h3 l blk hg (.inl hb)
 have hO:∀m o,m≠l->get Z m=some o->∀b',aA β (w.setCells b off vs) m o b'->aA β w m o b':=λm o hm hgm b' ho=>ho.of_heap (λb2 hb2=>eM b vs off w b2 (λe=>by subst e;exact hm (h.inj m l o blk _ hgm hg (.inl hb2) (.inl hb))));have hO':∀b',aA β (w.setCells b off vs) l blk' b'->aA β w l blk b':=λb' ho =>.inl (ho.flat hfl.2);have hI:∀b',(ctx G β w Z).I b'->(ctx G β (w.setCells b off vs) (put Z l blk')).I b'/\(ctx G β (w.setCells b off vs) (put Z l blk')).w.heap[b']?=(ctx G β w Z).w.heap[b']?:=λb' hb'=>by
  refine⟨?_,eM b vs off w b' (hnI b' hb')⟩;obtain⟨h1,h2,h3⟩:=hb';refine⟨by rw[eV];exact h1,h2,λm o hm=>?_⟩;by_cases hml:m=l
  .subst hml;have:some o=some blk':=bP (bQ hm) hgs;cases this;exact λho=>h3 m blk hg (hO' b' ho)
  have hm':get Z m=some o:=vG
  exact λho=>h3 m o hm' (hO m o hml hm' b' ho)
 have hL:∀m,aV (ctx G β w Z) (ctx G β (w.setCells b off vs) (put Z l blk')) m:=λm=>by
  by_cases hml:m=l
  .subst hml;rcases hkind with⟨k,es,es',h1,h2,h3⟩|⟨cs,cs',h1,h2⟩|⟨k,i,es,cs,cs',h1,h2⟩
   .subst h1;subst h2;have bad:∀{x:Blk},get (put Z m (Blk.row k es')) m=some x->x = .row k es':=λhg'=>c9 (bP (bQ hg') hgs);refine⟨λk' es'' hg'=>?_,λcs' hg'=>absurd (bad hg') al,λk' q' es'' hg'=>absurd (bad hg') al,λk' es'' hg'=>absurd (bad hg') al,λ_ _ _ _ hg'=>absurd (bad hg') al⟩;cases bad hg';exact⟨es,hg,h3,λ_=>⟨rfl,λb' sz _ hr=>dx b vs off w hr⟩⟩
   .subst h1;subst h2;have bad:∀{x:Blk},get (put Z m (Blk.box cs')) m=some x->x = .box cs':=λhg'=>c9 (bP (bQ hg') hgs);exact⟨λk' es'' hg'=>absurd (bad hg') al,λcs'' hg'=>⟨cs,hg,rfl⟩,λk' q' es'' hg'=>absurd (bad hg') al,λk' es'' hg'=>absurd (bad hg') al,λ_ _ _ _ hg'=>absurd (bad hg') al⟩
   subst h1;subst h2;have bad:∀{x:Blk},get (put Z m (Blk.prow k i es cs')) m=some x->x = .prow k i es cs':=λhg'=>c9 (bP (bQ hg') hgs);refine⟨λk' es'' hg'=>absurd (bad hg') al,λcs'' hg'=>absurd (bad hg') al,λk' q' es'' hg'=>absurd (bad hg') al,λk' es'' hg'=>absurd (bad hg') al,λ_ _ _ _ hg'=>?_⟩;cases bad hg';exact⟨es,cs,hg,rfl,rfl,λb' sz _ hr=>dx b vs off w hr⟩
  have hg':get (put Z l blk') m=get Z m:=hgo m hml;cases hgm:get Z m with
  |none=>exact aV.none (hg'.trans hgm)
  |some o=>exact aV.same hg' rfl (λb2 hb2=>eM b vs off w b2 (λe=>by subst e;exact hml (h.inj m l o blk _ hgm hg (.inl hb2) (.inl hb))))
 refine⟨?_,hI,hL⟩;have key:∀m o b',get (put Z l blk') m=some o->aA β (w.setCells b off vs) m o b'->∃o2,get Z m=some o2/\aA β w m o2 b':=λm o b' hm hb'=>by
  by_cases hml:m=l
  .subst hml;have:some o=some blk':=bP (bQ hm) hgs;cases this;exact⟨blk,hg,hO' b' hb'⟩
  have hm':get Z m=some o:=vG
  exact⟨o,hm',hO m o hml hm' b' hb'⟩
 obtain⟨e1,e2,e3⟩:=dH b vs off w
 exact { defers:=h.defers,sz:=h.sz,base:=by rw[eV];exact h.base,os:=e1.trans h.os,tape:=e2.trans h.tape,output:=e3.trans h.output,
         old:=λb' hb' ho=>by
          have:b'≠b:=by
           rintro rfl;rcases hsep.2 with h4|h4
           .omega
           exact ho h4
          exact(eM b vs off w b' this).trans (h.old b' hb' ho),
         A:=h.A,gl:=h.gl,
         inj:=λm m' o o' b' hm hm' hb1 hb2=>by obtain⟨o1,h1,k1⟩:=key m o b' hm hb1;obtain⟨o2,h2,k2⟩:=key m' o' b' hm' hb2;exact h.inj m m' o1 o2 b' h1 h2 k1 k2,
         sep:=λm o b' hm hb'=>by rw[eV];obtain⟨o1,h1,k1⟩:=key m o b' hm hb';exact h.sep m o1 b' h1 k1,
         fix:=λm cs' h1 hm=>by
          by_cases hml:m=l
          .subst hml;have:some (Blk.box cs')=some blk':=bP (bQ hm) hgs;cases this;rcases hkind with⟨k,es,es',h2,h3,_⟩|⟨cs,cs2,h2,h3⟩|⟨_,_,_,_,_,_,h3⟩
           .cases h3
           .subst h2;exact h.fix m cs h1 hg
           cases h3
          exact h.fix m cs' h1 vG,
         row0:=h.row0.step (λm _=>hL m),
         blk:=λm o hm=>by
          by_cases hml:m=l
          .subst hml;have:some o=some blk':=bP (bQ hm) hgs;cases this;exact hblk hI hL
          have hm':get Z m=some o:=vG
          refine BR.step hI rfl (λb' hb'=>eM b vs off w b' ?_) (λq _=>hL q) (h.blk m o hm');rintro rfl;exact hml (h.inj m l o blk b' hm' hg hb' (.inl hb)),
         tm:=λi p hp=>⟨(h.tm i p hp).1,VR.step hI p _ (λq _=>hL q) (h.tm i p hp).2⟩ }
section
variable {P:Program} {o:Oper} {n:Nat} {tm:List (Nat×PV)} {Z:List (Nat×Blk)}
def opup {st':St} (h:∀(G:Frm) (β:Nat->Option Nat) (a:Act) (w:World),(∀x q,af tm x=some q->VR (ctx G β w Z) q (a.eval x))->aE G β ⟨n,tm,Z⟩ a w ->
      ∃v w',((execOp a.eval o).run P w = .ok (.value v) w'\/((execOp a.eval o).run P w = .ok .skip w'/\v=undef))/\∃β',aE G β' st' (a.put o.dst v) w'):Z38 P o ⟨n,tm,Z⟩ st':=by
 intro G a w K Q hr hK;obtain⟨β,hr⟩:=hr;obtain⟨v,w',hv,β',hr'⟩:=h G β a w (λx q hq=>hP hr hq (λt r _ hr'=>hr')) hr;unfold Oper.wp;rcases hv with hv|⟨hv,rfl⟩
 .rw [hv];exact hK _ _ ⟨β',hr'⟩
 rw[hv];exact hK _ _ ⟨β',hr'⟩
def opF {ρ:List (Nat×PV)} {need rm:List Nat} {p:PV} {news:List (Nat×Blk)} (h:∀(G:Frm) (β:Nat->Option Nat) (n:Nat) (tm:List (Nat×PV)) (Z':List (Nat×Blk)) (a:Act) (w:World),
      (∀x q,x∈o.op.operands->af ρ x=some q->VR (ctx G β w Z') q (a.eval x))->(∀l,l∈need->get Z' l=get Z l)->aE G β ⟨n,tm,Z'⟩ a w ->
      ∃v w',(execOp a.eval o).run P w = .ok (.value v) w'/\∃β',aE G β' ⟨n,tm,news++bb rm Z'⟩ a w'/\VR (ctx G β' w' (news++bb rm Z')) p v):OpF P o ρ Z need rm p news:=by
 intro G n tm Z' a w K Q hag hneed _ hr hK;obtain⟨β,hr⟩:=hr;obtain⟨v,w',hv,hp⟩:=h G β n tm Z' a w (λx q hx hq=>hP hr hq (λt r ht hr'=>hag t r (ht▸hx) hr')) hneed hr;unfold Oper.wp;rw[hv];exact hK v w' hp
def rp{c:Ctx}{ps:List PV}{vs:List Value}(h:VRs c ps vs)(h1:ps.all PV.one=true):∀v,v∈vs->v.oneCell'=true:=by
 induction ps generalizing vs with
 |nil=>simp only[VRs]at h;subst h;intro v hv;cases hv
 |cons p ps ih=>
  simp only[VRs]at h;obtain⟨v,rest,rfl,hv,hr⟩:=h;simp only[jr,aL]at h1;intro u hu;rcases cn.1 hu with hu|hu
  .subst hu;exact hv.oneCell h1.1
  exact ih hr h1.2 u hu
def gU{c:Ctx}{t:TypeId}{agg:Bool}{size b q m:Nat}(hT:TyF P t agg size)(w:World){p:PV}{v:Value}(hv:VR c p v)(hs:(Z7 p).length=size)(h1:(Z7 p).all PV.one=true)(hr:aY w b m)(hm:q+size<=m) :
 (Instr.storeAt t (.pointer (some ⟨b,q,none⟩)) v).run P w = .ok () (w.setCells b q v.cells.toList):=by
 have hc:=hv.cells;have hl:v.cells.size=size:=by rw[<- iV,hc.length,hs]
 have hst:=run_storeCells_cells (P:=P) b q v.cells.toList 0 w (λj hj=>by
  have:=jQ hr hm j (by simp at hj;omega);rw[cZ];exact this.1) (λj hj=>by
  have:=jQ hr hm j (by simp at hj;omega);rw[cZ];exact this.2) (rp hc h1)
 rw[cZ]at hst;simp only[Instr.storeAt,Instr.sureAddr,aN,aT,aO,storeVar,hT.run_sizeOf w,hl,ne_eq,not_true_eq_false,fy,hst]
def jy{w:World}{b q:Nat}{vs us:List Value}(hc:gK w b vs)(hq:q+us.length<=vs.length):gK (w.setCells b q us) b (PW.splice vs q us):=by
 have hthere:∀j,j<us.length->(w.cell? ⟨b,q+j,none⟩).isSome=true:=λj hj=>by have:vs[q+j]?=some vs[q+j]:=bn O;rw[hc _ _ this];rfl
 intro j v hj;unfold PW.splice at hj;rcases dY j q with h|h
 .rw [gv b us q w ⟨b,j,none⟩ (λ_ _ =>.inl h)];rw[gI,dy aZ,jP,aP h]at hj;exact hc j v hj
 rcases dY j (q+us.length)with h'|h'
 .have:=ji b us q w hthere (j-q) O;rw[show q+(j-q)=j by omega]at this;rw[this];rw[gI,dU aZ,dy aZ]at hj;have e:j-(vs.take q).length=j-q:=by simp;omega
  rw[e,bn O]at hj;exact hj
 rw[gv b us q w ⟨b,j,none⟩ (λ_ _ =>.inr h')];rw[dU aZ,j2]at hj;have e:q+us.length+(j-(vs.take q++us).length)=j:=aZ
 rw[e]at hj;exact hc j v hj
def VRs.splice{c:Ctx}{ps qs:List PV}{vs us:List Value}(q:Nat)(h:VRs c ps vs)(k:VRs c qs us):VRs c (PW.splice ps q qs) (PW.splice vs q us):=by unfold PW.splice;rw[k.length];exact((h.take q).append k).append (h.drop _)
def rq{α:Type}(cs:List α)(q:Nat)(ds:List α)(h:q+ds.length<=cs.length):(splice cs q ds).length=cs.length:=by simp[splice];omega
def Ji{t:TypeId}{x y:Operand}{l q size:Nat}{agg:Bool}{cs:List PV}{p:PV}(ho:o.op = .store t x y)(hd:o.dst=none)(hT:TyF P t agg size)(hx:af tm x=some (.bptr l q))(hy:af tm y=some p)(hg:get Z l=some (.box cs))
 (hs:(Z7 p).length=size) (h1:(Z7 p).all PV.one=true) (hq:q+size<=cs.length):Z38 P o ⟨n,tm,Z⟩ ⟨n,tm,put Z l (.box (splice cs q (Z7 p)))⟩:=
 opup λG β a w hop hr=>by
  have e1:=hop x _ hx;have e2:=hop y _ hy;simp only[VR]at e1;obtain⟨b,hb,hv⟩:=e1.1 cs hg;obtain⟨b',vs,hb',hrow,hc,hvs,hall⟩:=hr.blk l _ hg;have:b'=b:=c7
  subst this;have hrun:=gU hT w e2 hs h1 hrow hq;have hcells:=e2.cells;have hul:(a.eval y).cells.toList.length=size:=tl
  obtain⟨hr',hI,hL⟩:=jx hr (off:=q) (blk' :=.box (splice cs q (Z7 p))) (a.eval y).cells.toList hg hb (.inr (.inl ⟨cs,_,rfl,rfl⟩)) (λhI hL=>
   ⟨b',splice vs q (a.eval y).cells.toList,hb,by rw[rq _ _ _ nT];exact dx _ _ _ _ hrow,jy hc M4,
    (VRs.step hI _ _ (λm _=>hL m) hvs).splice q (VRs.step hI _ _ (λm _=>hL m) hcells),by unfold splice;simp only[List.all_append,aL];exact⟨⟨bU.2 λz hz=>bU.1 hall z (iw hz),h1⟩,bU.2 λz hz=>bU.1 hall z (ko hz)⟩⟩)
  refine⟨undef,w.setCells b' q (a.eval y).cells.toList,.inr ⟨?_,rfl⟩,β,?_⟩
  .simp only[execOp,ho,hv,aN,hrun,aO,aT]
  rw[hd];exact hr'
def M5{ρ:List (Nat×PV)}{σ0:List (Nat×Blk)}{t:TypeId}{x y:Operand}{l q size:Nat}{agg:Bool}{cs:List PV}{p:PV}(ho:o.op = .store t x y)(hd:o.dst=none)(hT:TyF P t agg size)(hx:af ρ x=some (.bptr l q))(hy:af ρ y=some p)(hg0:get σ0 l=some (.box cs))
 (hs:(Z7 p).length=size) (h1:(Z7 p).all PV.one=true) (hq:q+size<=cs.length):OpF P o ρ σ0 [l] [l] (.tup []) [(l,.box (splice cs q (Z7 p)))]:=by
 rintro G n tm Z a w K Q hag hneed _ ⟨β,hr⟩ hK;have hg:get Z l=some (.box cs):=AY
 have hop:∀x q,x∈o.op.operands->af ρ x=some q->VR (ctx G β w Z) q (a.eval x):=λx q hx hq=>hP hr hq (λt r ht hr'=>hag t r (ht▸hx) hr');have e1:=hop x _ aK hx;have e2:=hop y _ aK hy;simp only[VR]at e1;obtain⟨b,hb,hv⟩:=e1.1 cs hg;obtain⟨b',vs,hb',hrow,hc,hvs,hall⟩:=hr.blk l _ hg;have:b'=b:=c7
 subst this;have hrun:=gU hT w e2 hs h1 hrow hq;have hcells:=e2.cells;have hul:(a.eval y).cells.toList.length=size:=tl
 obtain⟨hr',hI,hL⟩:=jx hr (off:=q) (blk' :=.box (splice cs q (Z7 p))) (a.eval y).cells.toList hg hb (.inr (.inl ⟨cs,_,rfl,rfl⟩)) (λhI hL=>
  ⟨b',splice vs q (a.eval y).cells.toList,hb,by rw[rq _ _ _ nT];exact dx _ _ _ _ hrow,jy hc M4,
   (VRs.step hI _ _ (λm _=>hL m) hvs).splice q (VRs.step hI _ _ (λm _=>hL m) hcells),by unfold splice;simp only[List.all_append,aL];exact⟨⟨bU.2 λz hz=>bU.1 hall z (iw hz),h1⟩,bU.2 λz hz=>bU.1 hall z (ko hz)⟩⟩)
 have hrun2:(execOp a.eval o).run P w = .ok .skip (w.setCells b' q (a.eval y).cells.toList):=AZ
 unfold Oper.wp;rw[hrun2,vj,hd];have:=hK (.tuple #[]) (w.setCells b' q (a.eval y).cells.toList) ⟨β,hr',by simp[VR,VRs]⟩;rw[hd]at this;exact this
def A0{qs:List PV}:∀{us:List U},cH qs=some us->us.length=qs.length:=by
 induction qs with
 |nil=>intro us h;simp only[cH,aq]at h;subst h;rfl
 |cons q qs ih=>
  intro us h;simp only[cH]at h;split at h
  .rename_i t ts' _ hts';cases h;simp[ih hts']
  cases h
def lX{c:Ctx}:∀{ps:List PV} {ts:List U} {vs:List Value},cH ps=some ts->VRs c ps vs->VRs c (ts.map .t) vs
 |[],ts,vs,h,hv=>by simp only[cH,aq]at h;subst h;exact hv
 |p::ps,ts,vs,h,hv=>by
  simp only[cH]at h;split at h
  .rename_i t ts' ht hts;cases h;simp only[VRs]at hv;obtain⟨v,rest,rfl,hv,hr⟩:=hv;simp only[cw,VRs];exact⟨v,rest,rfl,by simpa[VR]using Ao ht hv,lX hts hr⟩
  cases h
def iH{c:Ctx}{b:Nat}:∀{ts:List U} {vs:List Value} {off:Nat},VRs c (ts.map .t) vs->(∀j v,vs[j]?=some v->c.w.cell? ⟨b,off+j,none⟩=some v)->Z6 c.I c.w b ts off
 |[],_,_,_,_=>by simp[Z6]
 |t::ts,vs,off,h,hc=>by simp only[cw,VRs]at h;obtain⟨v,rest,rfl,hv,hr⟩:=h;simp only[Z6];refine⟨⟨v,by simpa using hc 0 v rfl,by simpa[VR]using hv⟩,iH hr λj u hu=>?_⟩;have:=hc (j+1) u qN;rwa[show off+(j+1)=off+1+j by omega]at this
def Z6.append{I:Nat->Prop}{w:World}{b:Nat}:∀{ts us:List U} {off:Nat},Z6 I w b (ts++us) off↔Z6 I w b ts off/\Z6 I w b us (off+ts.length)
 |[],us,off=>by simp[Z6]
 |t::ts,us,off=>by simp only[eR,Z6,Z6.append (ts:=ts),bT,and_assoc];rw[show off+(ts.length+1)=off+1+ts.length by omega]
def ao.flat{I:Nat->Prop}{w:World}{b:Nat}:∀{es:List (List U)} {off:Nat},ao I w b es off↔Z6 I w b es.flatten off
 |[],off=>by simp[ao,Z6]
 |e::es,off=>by simp only[ao,gT,Z6.append,ao.flat (es:=es)]
def jl{k:Nat}:∀{es:List (List U)},(∀el,el∈es->el.length=k)->es.flatten.length=es.length*k
 |[],_=>al
 |e::es,h=>by rw[gT,bF,jl (λel hel=>h el (cK _ hel)),h e al,bT,dQ,eP];omega
def A1{k:Nat}:∀{es:List (List U)} (j q:Nat) (e ts:List U),(∀el,el∈es->el.length=k)->es[j]?=some e->q+ts.length<=k->(es.set j (splice e q ts)).flatten=splice es.flatten (j*k+q) ts
 |[],j,q,e,ts,_,h,_=>jb
 |e0::es,0,q,e,ts,hk,h,hq=>by simp at h;subst h;have h0:=hk e0 al;simp only[List.set_cons_zero,gT,splice,u5,aM];rw[uI O,List.drop_append_of_le_length O];simp
 |e0::es,j+1,q,e,ts,hk,h,hq=>by
  have h0:=hk e0 al;have ih:=A1 j q e ts (λel hel=>hk el (cK _ hel)) iS hq;rw[uL,gT,ih];simp only[gT,splice];have e1:(j+1)*k+q=k+(j*k+q):=by rw[dQ,eP];omega
  rw[e1,u0,u1,h0];have t1:e0.take (k+(j*k+q))=e0:=fC O;have t2:e0.drop (k+(j*k+q)+ts.length)=[]:=ir O;rw[t1,t2,show k+(j*k+q)-k=j*k+q by omega,show k+(j*k+q)+ts.length-k=j*k+q+ts.length by omega];simp
def ZS{t:TypeId}{x y:Operand}{l m j q size k:Nat}{agg:Bool}{es:List (List U)}{e ts:List U}{p:PV}(ho:o.op = .store t x y)(hd:o.dst=none)(hT:TyF P t agg size)(hx:af tm x=some (.rptr l m j q))(hy:af tm y=some p)
 (hg:get Z l=some (.row k es)) (hm:es.length=m) (he:es[j]?=some e) (hts:cH (Z7 p)=some ts) (hs:ts.length=size) (hq:q+size<=k) :
 Z38 P o ⟨n,tm,Z⟩ ⟨n,tm,put Z l (.row k (es.set j (splice e q ts)))⟩:=
 opup λG β a w hop hr=>by
  have e1:=hop x _ hx;have e2:=hop y _ hy;simp only[VR]at e1;obtain⟨b,hb,hv⟩:=(e1.1 k es hg).2 hm.symm;obtain⟨hk0,hkl,h⟩:=hr.blk l _ hg;rcases h with⟨_,h⟩|⟨b',sz,hb',hrow,hsz,hel⟩
  .subst h;simp at he
  have:b'=b:=c7
  subst this;have hlt:j<es.length:=(aJ.1 he).1;have hle:(j+1)*k<=es.length*k:=gj _ hlt;rw[dQ,eP]at hle;have hcl:(Z7 p).length=size:=by rw[<- A0 hts,hs]
  have hone:(Z7 p).all PV.one=true:=by
   rw[bU];intro z hz;have:∀{qs:List PV} {us:List U},cH qs=some us->∀z,z∈qs->z.one=true:=by
    intro qs;induction qs with
    |nil=>intro us _ z hz;cases hz
    |cons q qs ih=>
     intro us h z hz;simp only[cH]at h;split at h
     .rename_i t ts' ht hts';rcases cn.1 hz with hz|hz
      .subst hz;cases z<;>simp_all[toT,PV.one]
      exact ih hts' z hz
     cases h
   exact this hts z hz
  have hrun:=gU hT w e2 hcl hone hrow (q:=j*k+q) O;have hcells:=lX hts e2.cells;have hul:(a.eval y).cells.toList.length=size:=M7
  have hflat:=ao.flat.1 hel;obtain⟨vs,hvs,hcs⟩:=Z6.vals (c:=ctx G β w Z) hflat;have hvl:vs.length=es.length*k:=A9
  obtain⟨hr',hI,hL⟩:=jx hr (off:=j*k+q) (blk' :=.row k (es.set j (splice e q ts))) (a.eval y).cells.toList hg hb (.inl ⟨k,es,_,rfl,rfl,by simp⟩) (λhI hL=>by
   refine⟨hk0,λel hel'=>?_,.inr ⟨b',sz,hb,dx _ _ _ _ hrow,by simpa using hsz,ao.flat.2 ?_⟩⟩
   .rcases lV hel' with h|h
    .exact hkl el h
    subst h;rw[rq _ _ _ M8];exact hkl e (cj he)
   rw[A1 j q e ts hkl he nT];refine iH (vs:=splice vs (j*k+q) (a.eval y).cells.toList) ?_ (λj' v hj'=>?_)
   .have h1:=VRs.step hI _ _ (λm _=>hL m) hvs;have h2:=VRs.step hI _ _ (λm _=>hL m) hcells;have:=h1.splice (j*k+q) h2;unfold splice at this⊢;simpa using this
   rw[aM];exact jy (w:=w) (λj v hj=>by have:=hcs j v hj;rwa[aM]at this) (by rw[hul,hvl];omega) j' v hj')
  refine⟨undef,w.setCells b' (j*k+q) (a.eval y).cells.toList,.inr ⟨?_,rfl⟩,β,?_⟩
  .simp only[execOp,ho,hv,aN,hrun,aO,aT]
  rw[hd];exact hr'
def ZdN{ρ:List (Nat×PV)}{σ0:List (Nat×Blk)}{t:TypeId}{x y:Operand}{l m j q size k:Nat}{agg:Bool}{es:List (List U)}{e ts:List U}{p:PV}(ho:o.op = .store t x y)(hd:o.dst=none)(hT:TyF P t agg size)(hx:af ρ x=some (.rptr l m j q))(hy:af ρ y=some p)
 (hg0:get σ0 l=some (.row k es)) (hm:es.length=m) (he:es[j]?=some e) (hts:cH (Z7 p)=some ts) (hs:ts.length=size) (hq:q+size<=k) :
 OpF P o ρ σ0 [l] [l] (.tup []) [(l,.row k (es.set j (splice e q ts)))]:=by
 rintro G n tm Z a w K Q hag hneed _ ⟨β,hr⟩ hK;have hg:get Z l=some (.row k es):=AY
 have hop:∀x q,x∈o.op.operands->af ρ x=some q->VR (ctx G β w Z) q (a.eval x):=λx q hx hq=>hP hr hq (λt r ht hr'=>hag t r (ht▸hx) hr');have e1:=hop x _ aK hx;have e2:=hop y _ aK hy;simp only[VR]at e1;obtain⟨b,hb,hv⟩:=(e1.1 k es hg).2 hm.symm;obtain⟨hk0,hkl,h⟩:=hr.blk l _ hg;rcases h with⟨_,h⟩|⟨b',sz,hb',hrow,hsz,hel⟩
 .subst h;simp at he
 have:b'=b:=c7
 subst this;have hlt:j<es.length:=(aJ.1 he).1;have hle:(j+1)*k<=es.length*k:=gj _ hlt;rw[dQ,eP]at hle;have hcl:(Z7 p).length=size:=by rw[<- A0 hts,hs]
 have hone:(Z7 p).all PV.one=true:=by
  rw[bU];intro z hz;have:∀{qs:List PV} {us:List U},cH qs=some us->∀z,z∈qs->z.one=true:=by
   intro qs;induction qs with
   |nil=>intro us _ z hz;cases hz
   |cons q qs ih=>
    intro us h z hz;simp only[cH]at h;split at h
    .rename_i t ts' ht hts';rcases cn.1 hz with hz|hz
     .subst hz;cases z<;>simp_all[toT,PV.one]
     exact ih hts' z hz
    cases h
  exact this hts z hz
 have hrun:=gU hT w e2 hcl hone hrow (q:=j*k+q) O;have hcells:=lX hts e2.cells;have hul:(a.eval y).cells.toList.length=size:=M7
 have hflat:=ao.flat.1 hel;obtain⟨vs,hvs,hcs⟩:=Z6.vals (c:=ctx G β w Z) hflat;have hvl:vs.length=es.length*k:=A9
 obtain⟨hr',hI,hL⟩:=jx hr (off:=j*k+q) (blk' :=.row k (es.set j (splice e q ts))) (a.eval y).cells.toList hg hb (.inl ⟨k,es,_,rfl,rfl,by simp⟩) (λhI hL=>by
  refine⟨hk0,λel hel'=>?_,.inr ⟨b',sz,hb,dx _ _ _ _ hrow,by simpa using hsz,ao.flat.2 ?_⟩⟩
  .rcases lV hel' with h|h
   .exact hkl el h
   subst h;rw[rq _ _ _ M8];exact hkl e (cj he)
  rw[A1 j q e ts hkl he nT];refine iH (vs:=splice vs (j*k+q) (a.eval y).cells.toList) ?_ (λj' v hj'=>?_)
  .have h1:=VRs.step hI _ _ (λm _=>hL m) hvs;have h2:=VRs.step hI _ _ (λm _=>hL m) hcells;have:=h1.splice (j*k+q) h2;unfold splice at this⊢;simpa using this
  rw[aM];exact jy (w:=w) (λj v hj=>by have:=hcs j v hj;rwa[aM]at this) (by rw[hul,hvl];omega) j' v hj')
 have hrun2:(execOp a.eval o).run P w = .ok .skip (w.setCells b' (j*k+q) (a.eval y).cells.toList):=AZ
 unfold Oper.wp;rw[hrun2,vj,hd];have:=hK (.tuple #[]) (w.setCells b' (j*k+q) (a.eval y).cells.toList) ⟨β,hr',by simp[VR,VRs]⟩;rw[hd]at this;exact this
end
end Go.PW
namespace Go.PW
open Go.RowKit
def ft(β:Nat->Option Nat)(l:Nat):Nat->Option Nat:=λm=>if m=l then none else β m
def uM{G:Frm}{β:Nat->Option Nat}{n:Nat}{tm:List (Nat×PV)}{Z:List (Nat×Blk)}{a:Act}{w:World}(h:aE G β ⟨n,tm,Z⟩ a w)(l k:Nat)(hk:0<k)(hlab:1000<=l)
 (hf1:∀i q,get tm i=some q->q.has l=false) (hf2:∀m y,get Z m=some y->m≠l/\y.has l=false):aE G (ft β l) ⟨n,tm,(l,.row k [])::Z⟩ a w:=by
 have hβo:∀m,m≠l->ft β l m=β m:=λm hm=>by simp[ft,hm]
 have hβs:ft β l l=none:=by simp[ft]
 have hgl:∀m,m≠l->get ((l,Blk.row k [])::Z) m=get Z m:=λm hm=>by simp[get,ed (de hm)]
 have hgs:get ((l,Blk.row k [])::Z) l=some (.row k []):=nL
 have hI:∀b,(ctx G β w Z).I b->(ctx G (ft β l) w ((l,.row k [])::Z)).I b/\(ctx G (ft β l) w ((l,.row k [])::Z)).w.heap[b]?=(ctx G β w Z).w.heap[b]?:=λb hb=>by
  refine⟨?_,rfl⟩;obtain⟨h1,h2,h3⟩:=hb;refine⟨h1,h2,λm o hm=>?_⟩;by_cases hml:m=l
  .subst hml;have:some o=some (.row k []):=bP (bQ hm) hgs;cases this;intro ho;have:=aA.flat (o :=.row _ _) trivial ho;rw[hβs]at this;cases this
  exact λho=>h3 m o ((hgl m hml).symm.trans hm) (ho.of (hβo m hml) (λ_ _=>rfl))
 have hL:∀m,m≠l->aV (ctx G β w Z) (ctx G (ft β l) w ((l,.row k [])::Z)) m:=λm hm=>aV.same (hgl m hm) (hβo m hm) (λ_ _=>rfl);have hne:∀m o b,get ((l,Blk.row k [])::Z) m=some o->aA (ft β l) w m o b->m≠l:=λm o b hm ho e=>by subst e;have:some o=some (.row k []):=bP (bQ hm) hgs;cases this;have:=aA.flat (o :=.row _ _) trivial ho;rw[hβs]at this;cases this
 exact { defers:=h.defers,sz:=h.sz,base:=h.base,os:=h.os,tape:=h.tape,output:=h.output,old:=h.old,A:=h.A,gl:=h.gl,
         inj:=λm m' o o' b hm hm' hb hb'=>by have h1:=hne m o b hm hb;have h2:=hne m' o' b hm' hb';exact h.inj m m' o o' b ((hgl m h1).symm.trans hm) ((hgl m' h2).symm.trans hm') (hb.of (hβo m h1) (λ_ _=>rfl)) (hb'.of (hβo m' h2) (λ_ _=>rfl)),
         sep:=λm o b hm hb=>by have h1:=hne m o b hm hb;exact h.sep m o b ((hgl m h1).symm.trans hm) (hb.of (hβo m h1) (λ_ _=>rfl)),
         fix:=λm cs' h1 hm=>by
          have h2:m≠l:=bg
          rw[hβo m h2];exact h.fix m cs' h1 ((hgl m h2).symm.trans hm),
         row0:=h.row0.step (λm hm=>hL m O),
         blk:=λm o hm=>by
          by_cases h1:m=l
          .subst h1;have:some o=some (.row k []):=bP (bQ hm) hgs;cases this;exact⟨hk,(λel h=>by cases h),.inl ⟨hβs,rfl⟩⟩
          have hm':get Z m=some o:=(hgl m h1).symm.trans hm;exact BR.step hI (hβo m h1) (λ_ _=>rfl) (λq hq=>hL q (λe=>by subst e;rw[(hf2 m o hm').2]at hq;cases hq)) (h.blk m o hm'),
         tm:=λi p hp=>⟨(h.tm i p hp).1,VR.step hI p _ (λq hq=>hL q (λe=>by subst e;rw[hf1 i p hp]at hq;cases hq)) (h.tm i p hp).2⟩ }
def Zj6{G:Frm}{β:Nat->Option Nat}{n:Nat}{tm:List (Nat×PV)}{Z:List (Nat×Blk)}{a:Act}{w:World}(h:aE G β ⟨n,tm,Z⟩ a w)(cs:Array Value)(e:TypeId){l k:Nat}{es es':List (List U)}
 (hg:get Z l=some (.row k es)) (hlt:es.length<es'.length)
 (hblk:(∀b,(ctx G β w Z).I b->(ctx G (dP β l w.heap.size) (w.alloc (.cells cs e)) (put Z l (.row k es'))).I b/\(ctx G (dP β l w.heap.size) (w.alloc (.cells cs e)) (put Z l (.row k es'))).w.heap[b]?=(ctx G β w Z).w.heap[b]?) ->
  aY (w.alloc (.cells cs e)) w.heap.size cs.size->BR (ctx G (dP β l w.heap.size) (w.alloc (.cells cs e)) (put Z l (.row k es'))) l (.row k es')) :
 aE G (dP β l w.heap.size) ⟨n,tm,put Z l (.row k es')⟩ a (w.alloc (.cells cs e))/\aY (w.alloc (.cells cs e)) w.heap.size cs.size:=by
 have hgl:∀m,m≠l->get (put Z l (.row k es')) m=get Z m:=λm hm=>gd Z _ (de hm);have hgs:get (put Z l (.row k es')) l=some (.row k es'):=fO Z l _;have hltI:∀b,Imm G β w Z b->b<w.heap.size:=λb hb=>hb.1;have hO:∀m o,m≠l->get Z m=some o->∀b,aA (dP β l w.heap.size) (w.alloc (.cells cs e)) m o b->aA β w m o b:=λm o hm hg b ho=>ho.of (ky β _ hm) (λb hb=>dZ w _ b (h.sep m o b hg (.inl hb)).1);have hrow:aY (w.alloc (.cells cs e)) w.heap.size cs.size:=⟨cs,e,(0,0),j6 w _,rfl,.inl rfl⟩;have hI:∀b,(ctx G β w Z).I b->(ctx G (dP β l w.heap.size) (w.alloc (.cells cs e)) (put Z l (.row k es'))).I b/\(ctx G (dP β l w.heap.size) (w.alloc (.cells cs e)) (put Z l (.row k es'))).w.heap[b]?=(ctx G β w Z).w.heap[b]?:=λb hb=>by
  refine⟨?_,dZ w _ b (hltI b hb)⟩;have hbl:=hltI b hb;obtain⟨h1,h2,h3⟩:=hb;refine⟨by simp;omega,h2,λm o hm=>?_⟩;by_cases hml:m=l
  .subst hml;have:some o=some (.row k es'):=bP (bQ hm) hgs;cases this;intro hh;have:=aA.flat (o :=.row _ _) trivial hh;rw[fe]at this;cases this;omega
  have hm':=(hgl m hml).symm.trans hm;exact λho=>h3 m o hm' (hO m o hml hm' b ho)
 have hL:∀m,aV (ctx G β w Z) (ctx G (dP β l w.heap.size) (w.alloc (.cells cs e)) (put Z l (.row k es'))) m:=λm=>by
  by_cases hml:m=l
  .subst hml;refine⟨λk' es'' hg'=>?_,λcs' hg'=>?_,λk' q' es'' hg'=>?_,λk' es'' hg'=>?_,λk' i' es'' cs' hg'=>?_⟩
   .have:some (Blk.row k' es'')=some (.row k es'):=bP (bQ hg') hgs;cases this;exact⟨es,hg,vA hlt,λhe=>by omega⟩
   .have:some (Blk.box cs')=some (.row k es'):=bP (bQ hg') hgs;cases this
   .have:some (Blk.mat k' q' es'')=some (.row k es'):=bP (bQ hg') hgs;cases this
   .have:some (Blk.map k' es'')=some (.row k es'):=bP (bQ hg') hgs;cases this
   have:some (Blk.prow k' i' es'' cs')=some (.row k es'):=bP (bQ hg') hgs;cases this
  have hg':=hgl m hml;cases hgm:get Z m with
  |none=>exact aV.none (hg'.trans hgm)
  |some o=>exact aV.same hg' (ky β _ hml) (λb hb=>dZ w _ b (h.sep m o b hgm (.inl hb)).1)
 have hns:∀m o,m≠l->get (put Z l (.row k es')) m=some o->get Z m=some o:=λm o hm hg=>(hgl m hm).symm.trans hg;have hnew:∀o b,get (put Z l (.row k es')) l=some o->aA (dP β l w.heap.size) (w.alloc (.cells cs e)) l o b->w.heap.size=b:=λo b hm ho=>by have:some o=some (.row k es'):=bP (bQ hm) hgs;cases this;have:=aA.flat (o :=.row _ _) trivial ho;rw[fe]at this;exact c9 this
 refine⟨?_,hrow⟩
 exact { defers:=h.defers,sz:=h.sz,base:=by simp;have:=h.base;omega,os:=h.os,tape:=h.tape,output:=h.output,
         old:=λb hb ho=>(dZ w _ b (dL hb h.base)).trans (h.old b hb ho),A:=h.A,gl:=h.gl,
         inj:=λm m' o o' b hm hm' hb hb'=>by
          by_cases h1:m=l
          .by_cases h2:m'=l
           .rw [h1,h2]
           subst h1;have hb:=hnew o b hm hb;have:=(h.sep m' o' b (hns m' o' h2 hm') (hO m' o' h2 (hns m' o' h2 hm') b hb')).1;omega
          by_cases h2:m'=l
          .subst h2;have hb':=hnew o' b hm' hb';have:=(h.sep m o b (hns m o h1 hm) (hO m o h1 (hns m o h1 hm) b hb)).1;omega
          exact h.inj m m' o o' b (hns m o h1 hm) (hns m' o' h2 hm') (hO m o h1 (hns m o h1 hm) b hb) (hO m' o' h2 (hns m' o' h2 hm') b hb'),
         sep:=λm o b hm hb=>by
          by_cases h1:m=l
          .subst h1;have hb:=hnew o b hm hb;subst hb;exact⟨by simp,.inl h.base⟩
          have:=h.sep m o b (hns m o h1 hm) (hO m o h1 (hns m o h1 hm) b hb);exact⟨by simp;omega,this.2⟩,
         fix:=λm cs' h1 hm=>by
          have h2:m≠l:=λe=>by subst e;have:some (Blk.box cs')=some (.row k es'):=bP (bQ hm) hgs;cases this
          rw[ky β _ h2];exact h.fix m cs' h1 (hns m _ h2 hm),
         row0:=h.row0.step (λm _=>hL m),
         blk:=λm o hm=>by
          by_cases h1:m=l
          .subst h1;have:some o=some (.row k es'):=bP (bQ hm) hgs;cases this;exact hblk hI hrow
          have hm':=hns m o h1 hm;exact BR.step hI (ky β _ h1) (λb hb=>dZ w _ b (h.sep m o b hm' hb).1) (λq _=>hL q) (h.blk m o hm'),
         tm:=λi p hp=>⟨(h.tm i p hp).1,VR.step hI p _ (λq _=>hL q) (h.tm i p hp).2⟩ }
section
variable {P:Program} {o:Oper} {n:Nat} {tm:List (Nat×PV)} {Z:List (Nat×Blk)}
inductive gA (Z:List (Nat×Blk)):PV->List (List U)->Prop
 |tree (es:List (List U)):gA Z (.t (.sl es)) es
 |nils:gA Z .nils []
 |own (l m k:Nat) (es:List (List U)) (h:get Z l=some (.row k es)) (hm:es.length=m):gA Z (.osl l m) es
 |con (a:Option Addr) (c:Nat):gA Z (.t (.con (.slice a 0 c))) []
def gA.src{G:Frm}{β:Nat->Option Nat}{a:Act}{w:World}(hr:aE G β ⟨n,tm,Z⟩ a w){p:PV}{es:List (List U)}{v:Value}{k:Nat}{tx e:TypeId}(h:gA Z p es)(hv:VR (ctx G β w Z) p v)
 (hk:∀el,el∈es->el.length=k) (htx:P.underlying tx=some (.slice e)):∃news,Src P k tx v es.length news w/\VRs (ctx G β w Z) (es.flatten.map .t) news:=by
 have fromCells:∀(b off cap:Nat),ao (ctx G β w Z).I (ctx G β w Z).w b es off->∃news,Src P k tx (.slice (some ⟨b,off,none⟩) es.length cap) es.length news w/\VRs (ctx G β w Z) (es.flatten.map .t) news:=by
  intro b off cap hel;obtain⟨vs,h1,h2⟩:=Z6.vals (ao.flat.1 hel);refine⟨vs,Src.ofSlice w htx ⟨b,off,none⟩ es.length cap vs ?_ (λj u hu=>by rw[gS];exact h2 j u hu) ?_,h1⟩
  .rw [h1.length,da,jl hk]
  intro u hu;refine rp h1 ?_ u hu;rw[bU];intro x hx;obtain⟨t,_,rfl⟩:=gJ.1 hx;rfl
 have empty:∀(a':Option Addr) (cap:Nat),es=[]->∃news,Src P k tx (.slice a' es.length cap) es.length news w/\VRs (ctx G β w Z) (es.flatten.map .t) news:=by
  intro a' cap he;subst he;cases a' with
  |none=>exact⟨[],Src.ofNil w htx cap,by simp[VRs]⟩
  |some ad=>exact⟨[],Src.ofSlice w htx ad 0 cap [] al al al,by simp[VRs]⟩
 cases h with
 |tree es=>
  simp only[VR,Z9]at hv;obtain⟨a',cap,rfl,_,_,h⟩:=hv;rcases h with h|⟨b,off,rfl,_,hel⟩
  .exact empty a' cap h
  exact fromCells b off cap hel
 |nils=>
  simp only[VR]at hv;obtain⟨a',rfl⟩:=hv;exact empty a' 0 rfl
 |con a' c=>
  simp only[VR,Z9]at hv;rw[hv.1];exact empty a' c rfl
 |own l m k' es h hm=>
  simp only[VR]at hv;obtain⟨a',cap,rfl,_,_,h3⟩:=(hv.1 k' es h).2 hm.symm;obtain⟨_,_,hb⟩:=hr.blk l _ h;subst hm;rcases hb with⟨_,he⟩|⟨b,sz,hb,_,_,hel⟩
  .exact empty a' cap he
  rcases h3 with⟨hc,hb'⟩|⟨b',sz',ha,hb',_,_⟩
  .exact absurd (hb.symm.trans hb') al
  have:b'=b:=c7
  subst this;subst ha;exact fromCells b' 0 cap hel
def Z9o(w:World)(t tx ty e:TypeId)(i:TypeInfo)(ht:P.underlying t=some (.slice e))(hi:P.info? e=some i)(a:Option Addr)(m cap:Nat)(hm:m<=cap)(x:Value)(hs:Src P i.size tx x 0 [] w) :
 (Builtin.append_ #[t,tx] ty #[.slice a m cap,x]).run P w = .ok (.slice a m cap) w:=by
 have hc:=hs.cells;rcases hs.kind with⟨e',hk⟩|hk<;>cases a<;>simp[Builtin.append_,cy ht,cy hk,sizeOf,typeInfo,hi,hs.len,hm,hc,storeCells]
def VT{c:Ctx}{b:Nat}{olds news:List Value}{es es2:List (List U)}(h1:VRs c (es.flatten.map .t) olds)(h2:VRs c (es2.flatten.map .t) news)
 (hc:∀j v,(olds++news)[j]?=some v->c.w.cell? ⟨b,j,none⟩=some v):ao c.I c.w b (es++es2) 0:=by
 refine ao.flat.2 (iH (vs:=olds++news) ?_ (λj v hj=>by rw[aM];exact hc j v hj));rw[oh,eL];exact h1.append h2
def Zjo{ρ:List (Nat×PV)}{t tx e:TypeId}{x y:Operand}{k bytes:Nat}{zero:List PV}{es:List (List U)}{p:PV}{need:List Nat}(l:Nat)(hlab:1000<=l)(ho:o.op = .call { callee :=.builtin .append,args := #[x,y],argTypes := #[t,tx] })
 (hE:ElF P t e k bytes zero) (htx:∃e',P.underlying tx=some (.slice e')) (hx:af ρ x=some .nils) (hy:af ρ y=some p) (hsrc:gA Z p es) (hneed:∀m,p.has m=true->m∈need)
 (hk:∀el,el∈es->el.length=k) (h63:es.length<=9223372036854775807) (hby:es.length*bytes<=140737488355328):aQ P o ρ Z need (.osl l es.length) [(l,.row k es)]:=
 qM (λG β n tm Z' A w hop hnd hf1 hf2 hr=>by
  obtain⟨e1,_⟩:=hop x _ fc hx;obtain⟨e2,_⟩:=hop y _ fc hy;simp only[VR]at e1;obtain⟨a0,e1⟩:=e1;obtain⟨e',htx⟩:=htx;have hsrc':gA Z' p es:=by
   cases hsrc with
   |tree es=>exact .tree es
   |nils=>exact .nils
   |con a c=>exact .con a c
   |own l' m k' es h hm=>exact .own l' m k' es ((hnd l' (hneed l' gn)).trans h) hm
  obtain⟨news,hs,hnv⟩:=hsrc'.src (P:=P) (tx:=tx) hr e2 hk htx;have hnewsl:news.length=es.length*k:=hs.newsLen;cases hi:P.info? e with
  |none=>have:=hE.info;simp[hi]at this
  |some i=>
   have hik:i.size=k/\i.bytes=bytes:=vE
   have hz:=hE.z;unfold fk at hz;simp only[hi,bp,dC]at hz;obtain⟨z,hiz,hz⟩:=hz;have hzl:z.cells.size=k:=by have:=(iD (c:=ctx G β w Z') hz).length;rw[hE.len]at this;simpa using this
   have hexec:∀r,(Builtin.append_ #[t,tx] o.type #[.slice a0 0 0,A.eval y]).run P w=r->(execOp A.eval o).run P w=r.andThen λv w =>.ok (.value v) w:=by intro r hr;simp only[execOp,ho,resolve,invoke,builtin,aN,aT,aO,nJ,cw,fI,e1,hr]
   by_cases hem:es.length=0
   .have hes:es=[]:=du hem;subst hes;have hnil:news=[]:=du Cj;subst hnil;have hrun:=Z9o w t tx o.type e i hE.und hi a0 0 0 (aW _) (A.eval y) sg;refine⟨.slice a0 0 0,w,by rw[hexec _ hrun];rfl,ft β l,uM hr l k hE.pos hlab hf1 hf2,?_⟩;simp only[VR];refine⟨λk' es' hg=>?_,_,_,_,rfl⟩;have hgs:get ((l,Blk.row k [])::Z') l=some (.row k []):=by simp[get]
    have:some (Blk.row k' es')=some (.row k []):=bP (bQ hg) hgs;cases this;exact⟨aW _,λ_=>⟨a0,0,rfl,aW _,by simp[maxLen],.inl ⟨rfl,by simp[ctx,ft]⟩⟩⟩
   have hpos:0<es.length:=Nat.pos_of_ne_zero hem;have hrun:=run_append_grow_src (P:=P) w t tx o.type e i z hE.und hi hiz a0 0 0 [] (by cases a0<;>simp[Builtin.firstCells,loadCells,loadCellsFrom]) (A.eval y) es.length news sg O O
    (by rw[hik.2];exact growslice_fits O (by simpa using hby))
   simp only[iT,aM]at hrun;generalize hcs:news.toArray++Builtin.zeroCells z.cells (grownCap w es.length 0 e-es.length)=cs at hrun;have hge:=sj w es.length 0 e;have hcm:grownCap w es.length 0 e<=maxLen:=sk w es.length 0 e se;have hcsz:cs.size=grownCap w es.length 0 e*k:=by rw[<- hcs];simp only[sn,so,sq,hzl,hnewsl,<- dQ];congr 1;omega
   obtain⟨hr',hrow,hI,hL⟩:=(aE.drew hr).allocOwn cs e l (.row k es) hlab trivial hf1 hf2 (λhI hL hrow=>
    ⟨hE.pos,hk,.inr ⟨w.heap.size,cs.size,fe _ _ _,hrow,by rw[hcsz];exact gj _ hge,by
     refine ao.flat.2 (iH (vs:=news) ?_ (λj v hj=>?_))
     .exact VRs.step (c:=ctx G β w.drew Z') hI _ _ (λq hq=>by rw[ib]at hq;cases hq) (VRs.step (c:=ctx G β w Z') (c':=ctx G β w.drew Z') (λb hb=>⟨hb,rfl⟩) _ _ (λq hq=>by rw[ib]at hq;cases hq) hnv)
     show(w.drew.alloc _).cell? ⟨w.drew.heap.size,_,none⟩=_;rw[iU,aM,<- hcs];have hlt:=(aJ.1 hj).1;rw[jz wy];simpa using hj⟩⟩)
   refine⟨.slice (some ⟨w.heap.size,0,none⟩) es.length (grownCap w es.length 0 e),_,by rw[hexec _ hrun];rfl,_,hr',?_⟩;simp only[VR];refine⟨λk' es' hg=>?_,_,_,_,rfl⟩;have hgs:get ((l,Blk.row k es)::Z') l=some (.row k es):=nL
   have:some (Blk.row k' es')=some (.row k es):=bP (bQ hg) hgs;cases this;exact⟨aW _,λ_=>⟨_,_,rfl,hge,hcm,.inr ⟨w.heap.size,cs.size,rfl,fe _ _ _,hrow,by rw[hcsz];exact aW _⟩⟩⟩) (λ_ _ _ hx hq=>Z6y l hx hq)
def gA.need{Z Z':List (Nat×Blk)}{p:PV}{es:List (List U)}(h:gA Z p es)(hn:∀m,p.has m=true->get Z' m=get Z m):gA Z' p es:=by
 cases h with
 |tree es=>exact .tree es
 |nils=>exact .nils
 |con a c=>exact .con a c
 |own l' m k' es h hm=>exact .own l' m k' es ((hn l' gn).trans h) hm
def ZjF{ρ:List (Nat×PV)}{σ0:List (Nat×Blk)}{need:List Nat}{t tx e:TypeId}{x y:Operand}{k bytes l m:Nat}{zero:List PV}{es0 es:List (List U)}{p:PV}(ho:o.op = .call { callee :=.builtin .append,args := #[x,y],argTypes := #[t,tx] })
 (hE:ElF P t e k bytes zero) (htx:∃e',P.underlying tx=some (.slice e')) (hx:af ρ x=some (.osl l m)) (hg0:get σ0 l=some (.row k es0)) (hm:es0.length=m) (hy:af ρ y=some p) (hsrc0:gA σ0 p es) (hneed:∀q,(q=l\/p.has q=true)->q∈need)
 (hk:∀el,el∈es->el.length=k) (h63:m+es.length<=9223372036854775807) (hby:(m+es.length)*bytes<=140737488355328) :
 OpF P o ρ σ0 need [l] (.osl l (m+es.length)) [(l,.row k (es0++es))]:=
 opF λG β n tm Z A w hop hnd hr=>by
  have e1:=hop x _ fc hx;have e2:=hop y _ fc hy;have hg:=(hnd l (hneed l (.inl rfl))).trans hg0;have hsrc:=hsrc0.need (Z':=Z) (λq hq=>hnd q (hneed q (.inr hq)));show ∃v w',(execOp A.eval o).run P w = .ok (.value v) w'/\∃β',aE G β' ⟨n,tm,put Z l (.row k (es0++es))⟩ A w'/\VR (ctx G β' w' (put Z l (.row k (es0++es)))) (.osl l (m+es.length)) v;simp only[VR]at e1;obtain⟨a0,cap,hv,hmc,hcm0,h3⟩:=(e1.1 k es0 hg).2 hm.symm;obtain⟨e',htx⟩:=htx;obtain⟨news,hs,hnv⟩:=hsrc.src (P:=P) (tx:=tx) hr e2 hk htx;have hnewsl:news.length=es.length*k:=hs.newsLen;have hnv1:∀u,u∈news->u.oneCell'=true:=hs.one;obtain⟨hk0,hkl,hbr⟩:=hr.blk l _ hg;have hkl':∀el,el∈es0++es->el.length=k:=λel hel=>(cD.1 hel).elim (hkl el) (hk el);cases hi:P.info? e with
  |none=>have:=hE.info;simp[hi]at this
  |some i=>
   have hik:i.size=k/\i.bytes=bytes:=vE
   have hz:=hE.z;unfold fk at hz;simp only[hi,bp,dC]at hz;obtain⟨z,hiz,hz⟩:=hz;have hzl:z.cells.size=k:=Ss
   have hexec:∀r,(Builtin.append_ #[t,tx] o.type #[.slice a0 m cap,A.eval y]).run P w=r->(execOp A.eval o).run P w=r.andThen λv w =>.ok (.value v) w:=Sq
   have holds:∃olds,VRs (ctx G β w Z) (es0.flatten.map .t) olds/\(Builtin.firstCells i.size m (.slice a0 m cap)).run P w.drew = .ok olds.toArray w.drew /\
    (∀b,β l=some b->∀j v,olds[j]?=some v->w.cell? ⟨b,j,none⟩=some v):=by
    rcases hbr with⟨hb,he⟩|⟨b,sz,hb,hrow,hsz,hel⟩
    .subst he;have hm0:m=0:=by simpa using hm.symm
     subst hm0;refine⟨[],by simp[VRs],by cases a0<;>simp[Builtin.firstCells,loadCells,loadCellsFrom],λb hb'=>?_⟩;intro j v hj;simp at hj
    obtain⟨vs,hv1,hv2⟩:=Z6.vals (c:=ctx G β w Z) (ao.flat.1 hel);refine⟨vs,hv1,?_,λb' hb' j v hj=>?_⟩
    .rcases h3 with⟨_,hb'⟩|⟨b',sz',ha,hb',_,_⟩
     .exact absurd (hb.symm.trans hb') al
     have:b'=b:=c7
     subst this;subst ha;refine run_firstCells_some w.drew i.size m ⟨b',0,none⟩ m cap vs ?_ (λj v hj=>?_)
     .rw [hv1.length,da,jl hkl,hm,hik.1]
     rw[gS];exact hv2 j v hj
    have:b'=b:=c7
    subst this;have:=hv2 j v hj;rwa[aM]at this
   obtain⟨olds,hov,hold,hoc⟩:=holds;have holl:olds.length=m*k:=by rw[hov.length,da,jl hkl,hm]
   by_cases hroom:m+es.length<=cap
   .rcases h3 with⟨hc0,hb⟩|⟨b,sz,ha,hb,hrow,hsz⟩
    ·-- nothing there,nothing appended
     have hem:es.length=0:=bg
     have hm0:m=0:=bg
     have hes:es=[]:=du hem;subst hes;have hnil:news=[]:=du Cj;subst hnil;have hrun:=Z9o w t tx o.type e i hE.und hi a0 m cap hmc (A.eval y) sg;refine⟨.slice a0 m cap,w,sf,β,?_⟩;have hsame:∀q,get (put Z l (.row k (es0++[]))) q=get Z q:=λq=>by
      by_cases hq:q=l
      .subst hq;rw[fO,hg,cC]
      exact gd Z _ (de hq)
     have hr2:aE G β ⟨n,tm,put Z l (.row k (es0++[]))⟩ A w:=hr.sub (aW _) (λi p hp=>⟨hp,(hr.tm i p hp).1⟩) (λq o hq=>by rw[<- hsame q];exact hq);refine⟨hr2,?_⟩;simp only[VR,cg,cZ];refine⟨λk' es' hg'=>?_,_,_,_,rfl⟩;have hgl:get Z l=some (.row k' es'):=(hsame l).symm.trans hg';rw[hg]at hgl;cases hgl;exact⟨by omega,λ_=>⟨a0,cap,rfl,hmc,hcm0,.inl ⟨hc0,hb⟩⟩⟩
    ·-- in place
     subst ha;have hle:(m+es.length)*k<=sz:=cX (gj _ hroom) hsz;rw[dQ]at hle;have hth:=jQ hrow (o:=m*k) (n:=es.length*k) hle;have hrun:=run_append_room_src (P:=P) w t tx o.type e i hE.und hi b 0 m cap (A.eval y) es.length news sg hroom (λj hj=>by
      have:=(hth j O).1;rwa[hik.1,aM]) (λj hj=>by
      have:=(hth j O).2;rwa[hik.1,aM])
     rw[hik.1,aM]at hrun;obtain⟨hr',hI,hL⟩:=jx hr (off:=m*k) (blk' :=.row k (es0++es)) news hg hb (.inl ⟨k,es0,_,rfl,rfl,by simp⟩) (λhI hL=>by
      refine⟨hk0,hkl',.inr ⟨b,sz,hb,dx _ _ _ _ hrow,?_,?_⟩⟩
      .rw [bF,dQ,hm];exact hle
      refine VT (olds:=olds) (news:=news) (VRs.step hI _ _ (λq _=>hL q) hov) (VRs.step hI _ _ (λq _=>hL q) hnv) (λj v hj=>?_);show(w.setCells b (m*k) news).cell? _=_;rcases dY j olds.length with h|h
      .rw [dy h]at hj;rw[gv b news (m*k) w ⟨b,j,none⟩ (λ_ _ =>.inl aZ)];exact hoc b hb j v hj
      rw[dU h]at hj;have hjl:=(aJ.1 hj).1;have:=ji b news (m*k) w (λj' hj'=>(hth j' O).1) (j-olds.length) hjl;rw[show m*k+(j-olds.length)=j by omega]at this;rw[this,<- hj,bn hjl])
     refine⟨.slice (some ⟨b,0,none⟩) (m+es.length) cap,w.setCells b (m*k) news,sf,β,hr',?_⟩;simp only[VR];refine⟨λk' es' hg'=>?_,_,_,_,rfl⟩;have:some (Blk.row k' es')=some (.row k (es0++es)):=bP (bQ hg') (fO Z l _);cases this;rw[bF,hm];exact⟨aW _,λ_=>⟨_,cap,rfl,hroom,hcm0,.inr ⟨b,sz,rfl,hb,dx _ _ _ _ hrow,hsz⟩⟩⟩
   ·-- a new row
    have hgt:cap<m+es.length:=bg
    have hpos:0<es.length:=bg
    have hrun:=run_append_grow_src (P:=P) w t tx o.type e i z hE.und hi hiz a0 m cap olds hold (A.eval y) es.length news sg hgt O Sz;generalize hcs:(olds++news).toArray++Builtin.zeroCells z.cells (grownCap w (m+es.length) cap e-(m+es.length))=cs at hrun;have hge:=sj w (m+es.length) cap e;have hcm:grownCap w (m+es.length) cap e<=maxLen:=sk w (m+es.length) cap e se;have hcsz:cs.size=grownCap w (m+es.length) cap e*k:=by rw[<- hcs];simp only[sn,so,bF,sq,hzl,hnewsl,holl,<- dQ];congr 1;omega
    have hdrew:∀{ts:List U} {vs:List Value},VRs (ctx G β w Z) (ts.map .t) vs->VRs (ctx G β w.drew Z) (ts.map .t) vs:=λh=>VRs.step (c:=ctx G β w Z) (c':=ctx G β w.drew Z) (λb hb=>⟨hb,rfl⟩) _ _ (λq _=>aV.same rfl rfl (λ_ _=>rfl)) h;obtain⟨hr',hrow⟩:=Zj6 (aE.drew hr) cs e (es':=es0++es) hg aZ (λhI hrow=>⟨hk0,hkl',.inr ⟨w.heap.size,cs.size,fe _ _ _,hrow,by rw[hcsz,bF,hm];exact gj _ hge,by refine VT (olds:=olds) (news:=news) (VRs.step hI _ _ (λq hq=>by rw[ib]at hq;cases hq) (hdrew hov)) (VRs.step hI _ _ (λq hq=>by rw[ib]at hq;cases hq) (hdrew hnv)) (λj v hj=>?_);show(w.drew.alloc _).cell? ⟨w.drew.heap.size,_,none⟩=_;rw[iU,<- hcs];have hlt:=(aJ.1 hj).1;rw[jz wy];simpa using hj⟩⟩);refine⟨.slice (some ⟨w.heap.size,0,none⟩) (m+es.length) (grownCap w (m+es.length) cap e),_,sf,_,hr',?_⟩;simp only[VR];refine⟨λk' es' hg'=>?_,_,_,_,rfl⟩;have:some (Blk.row k' es')=some (.row k (es0++es)):=bP (bQ hg') (fO Z l _);cases this;rw[bF,hm];exact⟨aW _,λ_=>⟨_,_,rfl,hge,hcm,.inr ⟨w.heap.size,cs.size,rfl,fe _ _ _,hrow,by rw[hcsz];exact aW _⟩⟩⟩
end
end Go.PW
namespace Go.PW
open Go.RowKit
def iP:List PV->Option (List U)
 |[]=>some []
 |.t x::ps=>(iP ps).map (x :: ·)
 |_::_=>none
def mO:∀{ps:List PV} {ts:List U},iP ps=some ts->ps=ts.map .t
 |[],ts,h=>by simp only[iP,aq]at h;subst h;rfl
 |p::ps,ts,h=>by
  cases p<;>simp only[iP]at h<;>try cases h
  simp only[cA]at h;obtain⟨ts',h,rfl⟩:=h;rw[mO h];rfl
def ZjN{c c':Ctx}{l o:Nat}{ts:List U}{v:Value}(hb:BR c l (.box (ts.map .t)))(hg:get c.Z l=some (.box (ts.map .t)))(hv:VR c (.bptr l o) v)(hI:∀b,c.I b->c'.I b/\c'.w.heap[b]?=c.w.heap[b]?)(hf:∀b,c.β l=some b->c'.I b/\c'.w.heap[b]?=c.w.heap[b]?) :
 VR c' (.vptr (ts.drop o)) v:=by
 simp only[VR]at hv⊢;obtain⟨b,hb1,hv⟩:=hv.1 _ hg;obtain⟨b',vs,hb',_,hcs,hvs,_⟩:=hb;have:b'=b:=MQ
 subst this;have h1:=iH (off:=0) hvs (λj v hj=>by rw[aM];exact hcs j v hj);have h2:=Z6.drop o ts 0 h1;rw[aM]at h2;exact⟨b',o,hv,λ_=>(hf b' hb1).1,Z6.mono hI (hf b' hb1).2 _ _ h2⟩
mutual
def Frz(Z Z':List (Nat×Blk)):PV->PV->Prop
 |.t x,q=>q = .t x
 |.nils,q=>q = .t (.sl [])\/q = .nils
 |.osl l n,q=>q = .osl l n\/∃k es,get Z l=some (.row k es)/\es.length=n/\get Z' l=none/\q = .t (.sl es)
 |.bptr l o,q=>q = .bptr l o\/∃ts:List U,get Z l=some (.box (ts.map .t))/\get Z' l=none/\q = .vptr (ts.drop o)
 |.rptr l n i o,q=>q = .rptr l n i o
 |.vptr cs,q=>q = .vptr cs
 |.agg cs,q=>∃ds,q = .agg ds/\aX Z Z' cs ds
 |.tup cs,q=>∃ds,q = .tup ds/\aX Z Z' cs ds
 |.fn f cs,q=>∃ds,q = .fn f ds/\aX Z Z' cs ds
 |.own l d,q=>q = .own l d\/∃n k q0 es,d = .msl n/\get Z l=some (.mat k q0 es)/\es.length=n/\get Z' l=none/\q = .t (.sl es)
def aX(Z Z':List (Nat×Blk)):List PV->List PV->Prop
 |[],qs=>qs=[]
 |p::ps,qs=>∃q rs,qs=q::rs/\Frz Z Z' p q/\aX Z Z' ps rs
end
def cb(Z Z':List (Nat×Blk)):Blk->Blk->Prop
 |.row k es,b=>b = .row k es
 |.box cs,b=>∃ds,b = .box ds/\aX Z Z' cs ds
 |.mat k q es,b=>b = .mat k q es
 |.map ag es,b=>b = .map ag es
 |.prow k i es cs,b=>∃ds,b = .prow k i es ds/\aX Z Z' cs ds
structure FrzC (c c':Ctx):Prop where
 I:∀b,c.I b->c'.I b/\c'.w.heap[b]?=c.w.heap[b]?
 L:∀l,aV c c' l
 blk:∀l o,get c.Z l=some o->BR c l o
 fz:∀l o b,get c.Z l=some o->get c'.Z l=none->aA c.β c.w l o b->c'.I b/\c'.w.heap[b]?=c.w.heap[b]?
mutual
def Frz.ok{c c':Ctx}(h:FrzC c c'):∀(p q:PV) (v:Value),Frz c.Z c'.Z p q->VR c p v->VR c' q v
 |.t x,q,v,hf,hv=>by simp only[Frz]at hf;subst hf;exact VR.step h.I (.t x) v (λl _=>h.L l) hv
 |.nils,q,v,hf,hv=>by
  simp only[Frz]at hf;rcases hf with rfl|rfl
  .simp only[VR]at hv⊢;obtain⟨a,rfl⟩:=hv;simp only[Z9];exact⟨a,0,rfl,by simp,by simp[maxLen],.inl trivial⟩
  exact hv
 |.osl l n,q,v,hf,hv=>by
  simp only[Frz]at hf;rcases hf with rfl|⟨k,es,hg,hn,hg',rfl⟩
  .exact VR.step h.I (.osl l n) v (λl _=>h.L l) hv
  simp only[VR]at hv⊢;obtain⟨a,cap,rfl,hc1,hc2,h3⟩:=(hv.1 k es hg).2 hn.symm;simp only[Z9];subst hn;refine⟨a,cap,rfl,hc1,hc2,?_⟩;obtain⟨_,_,hb⟩:=h.blk l _ hg;rcases hb with⟨_,he⟩|⟨b,sz,hb,_,_,hel⟩
  .exact .inl he
  rcases h3 with⟨_,hb'⟩|⟨b',sz',ha,hb',_,_⟩
  .exact absurd (hb.symm.trans hb') al
  have:b'=b:=c7
  subst this;obtain⟨hI,hh⟩:=h.fz l _ b' hg hg' (.inl hb);exact .inr ⟨b',0,ha,hI,ao.mono h.I hh es 0 hel⟩
 |.bptr l o,q,v,hf,hv=>by
  simp only[Frz]at hf;rcases hf with rfl|⟨ts,hg,hg',rfl⟩
  .exact VR.step h.I (.bptr l o) v (λl _=>h.L l) hv
  exact ZjN (h.blk l _ hg) hg hv h.I (λb hb=>h.fz l _ b hg hg' (.inl hb))
 |.rptr l n i o,q,v,hf,hv=>by simp only[Frz]at hf;subst hf;exact VR.step h.I (.rptr l n i o) v (λl _=>h.L l) hv
 |.vptr cs,q,v,hf,hv=>by simp only[Frz]at hf;subst hf;exact VR.step h.I (.vptr cs) v (λl _=>h.L l) hv
 |.agg cs,q,v,hf,hv=>B6
 |.tup cs,q,v,hf,hv=>B6
 |.fn f cs,q,v,hf,hv=>B6
 |.own l d,q,v,hf,hv=>by
  simp only[Frz]at hf;rcases hf with rfl|⟨n,k,q0,es,rfl,hg,hn,hg',rfl⟩
  .exact VR.step h.I (.own l d) v (λl _=>h.L l) hv
  simp only[VR]at hv⊢;obtain⟨a,cap,rfl,hc1,hc2,h3⟩:=(hv.1 k q0 es hg).2 hn.symm;simp only[Z9];subst hn;refine⟨a,cap,rfl,hc1,hc2,?_⟩;obtain⟨_,_,hb⟩:=h.blk l _ hg;rcases hb with⟨_,he⟩|⟨b,sz,hb,_,_,hel,_⟩
  .exact .inl he
  rcases h3 with⟨_,hb'⟩|⟨b',sz',ha,hb',_,_⟩
  .exact absurd (hb.symm.trans hb') al
  have:b'=b:=c7
  subst this;obtain⟨hI,hh⟩:=h.fz l _ b' hg hg' (.inl hb);refine .inr ⟨b',0,ha,hI,ao.mono (λd hd=>?_) hh es 0 hel⟩;rcases hd with hd|hd
  .exact h.I d hd
  exact h.fz l _ d hg hg' (.inr ⟨b',hb,hd⟩)
def aX.ok{c c':Ctx}(h:FrzC c c'):∀(ps qs:List PV) (vs:List Value),aX c.Z c'.Z ps qs->VRs c ps vs->VRs c' qs vs
 |[],qs,vs,hf,hv=>by simp only[aX]at hf;subst hf;exact hv
 |p::ps,qs,vs,hf,hv=>by simp only[aX]at hf;obtain⟨q,rs,rfl,hq,hr⟩:=hf;simp only[VRs]at hv⊢;obtain⟨v,rest,rfl,hv,hrest⟩:=hv;exact⟨v,rest,rfl,Frz.ok h p q v hq hv,aX.ok h ps rs rest hr hrest⟩
end
def Frz.one{Z Z':List (Nat×Blk)}{p q:PV}(h:Frz Z Z' p q)(h1:p.one=true):q.one=true:=by
 cases p<;>simp only[Frz]at h<;>simp only[PV.one,fb]at h1
 case t=>subst h;rfl
 case nils=>rcases h with rfl|rfl<;>rfl
 case osl=>rcases h with rfl|⟨_,_,_,_,_,rfl⟩<;>rfl
 case bptr=>rcases h with rfl|⟨_,_,_,rfl⟩<;>rfl
 case rptr=>subst h;rfl
 case vptr=>subst h;rfl
 case fn=>obtain⟨ds,rfl,_⟩:=h;rfl
 case own=>rcases h with rfl|⟨_,_,_,_,_,_,_,_,rfl⟩<;>rfl
def aX.one{Z Z':List (Nat×Blk)}:∀{ps qs:List PV},aX Z Z' ps qs->ps.all PV.one=true->qs.all PV.one=true
 |[],qs,h,_=>by simp only[aX]at h;subst h;rfl
 |p::ps,qs,h,h1=>by simp only[aX]at h;obtain⟨q,rs,rfl,hq,hr⟩:=h;simp only[jr,aL]at h1⊢;exact⟨hq.one h1.1,aX.one hr h1.2⟩
def aX.length{Z Z':List (Nat×Blk)}:∀{ps qs:List PV},aX Z Z' ps qs->qs.length=ps.length
 |[],qs,h=>by simp only[aX]at h;subst h;rfl
 |p::ps,qs,h=>by simp only[aX]at h;obtain⟨q,rs,rfl,_,hr⟩:=h;simp[aX.length hr]
def aX.trees{Z Z':List (Nat×Blk)}:∀(ts:List U),aX Z Z' (ts.map .t) (ts.map .t)
 |[]=>by simp only[fI,aX]
 |t::ts=>by simp only[cw,aX];exact⟨_,_,rfl,rfl,aX.trees ts⟩
def aX.app{Z Z':List (Nat×Blk)}:∀{ps qs ps' qs':List PV},aX Z Z' ps ps'->aX Z Z' qs qs'->aX Z Z' (ps++qs) (ps'++qs')
 |[],qs,ps',qs',h1,h2=>by simp only[aX]at h1;subst h1;exact h2
 |p::ps,qs,ps',qs',h1,h2=>by simp only[aX]at h1;obtain⟨q,rs,rfl,h3,h4⟩:=h1;simp only[eR,aX];exact⟨q,_,rfl,h3,aX.app h4 h2⟩
def aX.prow{Z Z':List (Nat×Blk)}{i:Nat}{es:List (List U)}{cs ds:List PV}(h:aX Z Z' cs ds):aX Z Z' (eE i es cs) (eE i es ds):=(aX.trees _).app (h.app (aX.trees _))
mutual
def Frz.need{Z σ1 Z':List (Nat×Blk)}:∀(p q:PV),(∀m,p.has m=true->get σ1 m=get Z m)->Frz Z Z' p q->Frz σ1 Z' p q
 |.t _,_,_,h=>h
 |.nils,_,_,h=>h
 |.osl l n,q,hm,h=>by
  simp only[Frz]at h⊢;rcases h with h|⟨k,es,h1,h2,h3,h4⟩
  .exact .inl h
  exact .inr ⟨k,es,(hm l gn).trans h1,h2,h3,h4⟩
 |.bptr l _,q,hm,h=>by
  simp only[Frz]at h⊢;rcases h with h|⟨ts,h1,h2⟩
  .exact .inl h
  exact .inr ⟨ts,(hm l gn).trans h1,h2⟩
 |.rptr _ _ _ _,_,_,h=>h
 |.vptr _,_,_,h=>h
 |.agg cs,q,hm,h=>B8
 |.tup cs,q,hm,h=>B8
 |.fn f cs,q,hm,h=>B8
 |.own l d,q,hm,h=>by
  simp only[Frz]at h⊢;rcases h with h|⟨n,k,q0,es,h0,h1,h2⟩
  .exact .inl h
  exact .inr ⟨n,k,q0,es,h0,(hm l gn).trans h1,h2⟩
def aX.need{Z σ1 Z':List (Nat×Blk)}:∀(ps qs:List PV),(∀m,PV.hasAny m ps=true->get σ1 m=get Z m)->aX Z Z' ps qs->aX σ1 Z' ps qs
 |[],_,_,h=>h
 |p::ps,qs,hm,h=>by simp only[aX]at h⊢;obtain⟨q,rs,h1,h2,h3⟩:=h;exact⟨q,rs,h1,Frz.need p q (λm hh=>hm m (by simp[PV.hasAny,hh])) h2,aX.need ps rs (λm hh=>hm m (by simp[PV.hasAny,hh])) h3⟩
end
def Z4a(Z Z':List (Nat×Blk)):Prop:=∀l o',get Z' l=some o'->∃o,get Z l=some o/\cb Z Z' o o'
def cb.lstep{G:Frm}{β:Nat->Option Nat}{w:World}{Z Z':List (Nat×Blk)}(hσ:Z4a Z Z')(l:Nat):aV (ctx G β w Z) (ctx G β w Z') l:=by
 refine⟨λk es' hg=>?_,λcs' hg=>?_,λk q es' hg=>?_,λk es' hg=>?_,λk i es' cs' hg=>?_⟩
 .obtain⟨o,ho,hf⟩:=hσ l _ hg;cases o with
  |row k2 es2=>simp only[cb]at hf;cases hf;exact⟨es',ho,aW _,λ_=>⟨rfl,λ_ _ _ h=>h⟩⟩
  |box cs=>simp only[cb]at hf;obtain⟨ds,h,_⟩:=hf;cases h
  |mat k2 q2 es2=>simp only[cb]at hf;cases hf
  |map k2 es2=>simp only[cb]at hf;cases hf
  |prow k2 i2 es2 cs2=>simp only[cb]at hf;obtain⟨ds,h,_⟩:=hf;cases h
 .obtain⟨o,ho,hf⟩:=hσ l _ hg;cases o with
  |row k2 es2=>simp only[cb]at hf;cases hf
  |box cs=>exact⟨cs,ho,rfl⟩
  |mat k2 q2 es2=>simp only[cb]at hf;cases hf
  |map k2 es2=>simp only[cb]at hf;cases hf
  |prow k2 i2 es2 cs2=>simp only[cb]at hf;obtain⟨ds,h,_⟩:=hf;cases h
 .obtain⟨o,ho,hf⟩:=hσ l _ hg;cases o with
  |row k2 es2=>simp only[cb]at hf;cases hf
  |box cs=>simp only[cb]at hf;obtain⟨ds,h,_⟩:=hf;cases h
  |mat k2 q2 es2=>simp only[cb]at hf;cases hf;exact⟨es',ho,aW _,λ_=>⟨rfl,λ_ _=>⟨λ_ h=>h,λ_ _=>rfl⟩⟩⟩
  |map k2 es2=>simp only[cb]at hf;cases hf
  |prow k2 i2 es2 cs2=>simp only[cb]at hf;obtain⟨ds,h,_⟩:=hf;cases h
 .obtain⟨o,ho,hf⟩:=hσ l _ hg;cases o with
  |row k2 es2=>simp only[cb]at hf;cases hf
  |box cs=>simp only[cb]at hf;obtain⟨ds,h,_⟩:=hf;cases h
  |mat k2 q2 es2=>simp only[cb]at hf;cases hf
  |map k2 es2=>simp only[cb]at hf;cases hf;exact⟨_,es',ho,rfl⟩
  |prow k2 i2 es2 cs2=>simp only[cb]at hf;obtain⟨ds,h,_⟩:=hf;cases h
 obtain⟨o,ho,hf⟩:=hσ l _ hg;cases o with
 |row k2 es2=>simp only[cb]at hf;cases hf
 |box cs=>simp only[cb]at hf;obtain⟨ds,h,_⟩:=hf;cases h
 |mat k2 q2 es2=>simp only[cb]at hf;cases hf
 |map k2 es2=>simp only[cb]at hf;cases hf
 |prow k2 i2 es2 cs2=>simp only[cb]at hf;obtain⟨ds,h,_⟩:=hf;cases h;exact⟨_,cs2,ho,rfl,rfl,λ_ _ _ h=>h⟩
def cb.own{β:Nat->Option Nat}{w:World}{Z Z':List (Nat×Blk)}{l:Nat}{o o':Blk}{b:Nat}(hf:cb Z Z' o o')(h:aA β w l o' b):aA β w l o b:=by
 cases o with
 |row k es=>simp only[cb]at hf;subst hf;exact h
 |mat k q es=>simp only[cb]at hf;subst hf;exact h
 |map ag es=>simp only[cb]at hf;subst hf;exact h
 |prow k i es cs=>simp only[cb]at hf;obtain⟨ds,rfl,_⟩:=hf;exact .inl (aA.flat (o :=.prow k i es ds) trivial h)
 |box cs=>simp only[cb]at hf;obtain⟨ds,rfl,_⟩:=hf;exact .inl (aA.flat (o :=.box ds) trivial h)
def ye{G:Frm}{β:Nat->Option Nat}{n:Nat}{tm:List (Nat×PV)}{Z Z':List (Nat×Blk)}{a:Act}{w:World}(h:aE G β ⟨n,tm,Z⟩ a w)(hσ:Z4a Z Z'):FrzC (ctx G β w Z) (ctx G β w Z') where
 I:=λb hb=>⟨⟨hb.1,hb.2.1,λl o hl=>by obtain⟨o2,ho2,hf⟩:=hσ l o hl;exact λho=>hb.2.2 l o2 ho2 (hf.own ho)⟩,rfl⟩
 L:=cb.lstep hσ
 blk:=λl o hg=>h.blk l _ hg
 fz:=λl o b hg hg' hb=>by
  refine⟨⟨(h.sep l o b hg hb).1,?_,λl' o' hl' hb'=>?_⟩,rfl⟩
  .rcases (h.sep l o b hg hb).2 with h1|h1
   .exact .inl h1
   .exact .inr (.inr h1)
  .obtain⟨o2,ho2,hf⟩:=hσ l' o' hl'
   have:=h.inj l' l o2 o b ho2 hg (hf.own hb') hb
   subst this
   rw[show get Z' l'=none from hg']at hl';cases hl'
def tq{G:Frm}{β:Nat->Option Nat}{n:Nat}{tm tm':List (Nat×PV)}{Z Z':List (Nat×Blk)}{a:Act}{w:World}(h:aE G β ⟨n,tm,Z⟩ a w)(hσ:Z4a Z Z')
 (ht:∀i q,get tm' i=some q->∃p,get tm i=some p/\Frz Z Z' p q):aE G β ⟨n,tm',Z'⟩ a w:=by
 have hc:=ye h hσ
 exact { defers:=h.defers,sz:=h.sz,base:=h.base,os:=h.os,tape:=h.tape,output:=h.output,old:=h.old,A:=h.A,gl:=h.gl,
         inj:=λl l' o o' b hl hl' hb hb'=>by obtain⟨o1,h1,f1⟩:=hσ l o hl;obtain⟨o2,h2,f2⟩:=hσ l' o' hl';exact h.inj l l' o1 o2 b h1 h2 (f1.own hb) (f2.own hb'),
         sep:=λl o b hl hb=>by obtain⟨o1,h1,f1⟩:=hσ l o hl;exact h.sep l o1 b h1 (f1.own hb),
         fix:=λl cs h1 hl=>by
          obtain⟨o1,h2,hf⟩:=hσ l _ hl;cases o1 with
          |row k es=>simp only[cb]at hf;cases hf
          |mat k q es=>simp only[cb]at hf;cases hf
          |map ag es=>simp only[cb]at hf;cases hf
          |prow k i es cs=>simp only[cb]at hf;obtain⟨ds,h3,_⟩:=hf;cases h3
          |box cs0=>exact h.fix l cs0 h1 h2,
         row0:=h.row0.step (λm _=>hc.L m),
         blk:=λl o hl=>by
          obtain⟨o1,h2,hf⟩:=hσ l o hl;have hb:=h.blk l o1 h2;cases o1 with
          |row k es=>simp only[cb]at hf;subst hf;exact BR.step hc.I rfl (λ_ _=>rfl) (λm _=>hc.L m) hb
          |mat k q es=>simp only[cb]at hf;subst hf;exact BR.step hc.I rfl (λ_ _=>rfl) (λm _=>hc.L m) hb
          |map ag es=>simp only[cb]at hf;subst hf;exact BR.step hc.I rfl (λ_ _=>rfl) (λm _=>hc.L m) hb
          |prow k i es cs0=>
           simp only[cb]at hf;obtain⟨ds,rfl,hd⟩:=hf;obtain⟨h0,h1,h3,h4,h5,b,m,vs,h6,h7,h8,h9,h10⟩:=hb;exact⟨h0,h1,h3,by rw[hd.length];exact h4,hd.one h5,b,m,vs,h6,h7,h8,h9,aX.ok hc _ _ _ (aX.prow hd) h10⟩
          |box cs0=>
           simp only[cb]at hf;obtain⟨ds,rfl,hd⟩:=hf;obtain⟨b,vs,h3,h4,h5,h6,h7⟩:=hb;exact⟨b,vs,h3,by rw[hd.length];exact h4,h5,aX.ok hc _ _ _ hd h6,hd.one h7⟩,
         tm:=λi q hq=>by obtain⟨p,hp,hf⟩:=ht i q hq;exact⟨(h.tm i p hp).1,Frz.ok hc p q _ hf (h.tm i p hp).2⟩ }
def Wk.frz{n:Nat}{tm tm':List (Nat×PV)}{Z Z':List (Nat×Blk)}(hσ:Z4a Z Z')(ht:∀i q,get tm' i=some q->∃p,get tm i=some p/\Frz Z Z' p q):Wk ⟨n,tm,Z⟩ ⟨n,tm',Z'⟩:=λ_ _ _ ⟨β,h⟩=>⟨β,tq h hσ ht⟩
def idx:Nat->List PV->List (Nat×PV)
 |_,[]=>[]
 |i,p::ps=>(i,p)::idx (i+1) ps
def Z6u:∀(ps:List PV) (i j:Nat),get (idx i ps) j=if i<=j then ps[j-i]? else none
 |[],i,j=>by simp[idx,get]
 |p::ps,i,j=>by
  simp only[idx,get];by_cases h:i=j
  .subst h;simp
  rw[ed h,au,Z6u ps (i+1) j];by_cases h1:i+1<=j
  .rw [aP h1,aP O,show j-i=(j-(i+1))+1 by omega,List.getElem?_cons_succ]
  rw[aI h1,aI O]
def FnOk (P:Program) (f:FuncId):Prop:=∃fn c,P.funcs[f]? = some fn/\fn.body=some c/\(fn.name == "runtime.NumGoroutine")=false
def DF(β:Nat->Option Nat)(w:World)(Z:List (Nat×Blk))(b:Nat):Prop:=∃l o,get Z l=some o/\aA β w l o b
def b9(β:Nat->Option Nat)(Z:List (Nat×Blk))(A:Nat->Prop)(w:World):Frm:=⟨w.heap.size,w,DF β w Z,A,β,get Z⟩
def FnG(P:Program)(f:FuncId)(Z:List (Nat×Blk))(args:List PV)(Z':List (Nat×Blk))(res:PV):Prop:=
 FnOk P f/\∀(A:Nat->Prop) (β:Nat->Option Nat) (w:World) (vals:List Value),vals.length=args.length ->
  aE (b9 β Z A w) β ⟨args.length,idx 0 args,Z⟩ ⟨vals.toArray,[]⟩ w ->
  Calls P f vals.toArray w λe w'=>∃v β',e = .returned v/\aE (b9 β Z A w) β' ⟨1,[(0,res)],Z'⟩ ⟨#[v],[]⟩ w'
def Fn(P:Program)(f:FuncId)(args:List PV)(res:PV):Prop:=FnG P f [] args [] res
inductive RV where
 |t (t:Nat)
 |c (a t:Nat) (agg:Bool) (size:Nat)
def RV.to:RV->ResultVar
 |.t i =>.tmp i
 |.c a i _ _ =>.cell a i
def Dr(st:St):RV->Option PV
 |.t t=>get st.tm t
 |.c a _ agg size=>
  match get st.tm a with
  |some (.bptr l q)=>
   match get st.Z l with
   |some (.box cs)=>c6 agg size q cs
   |_=>none
  |_=>none
def Z9p(st:St):List RV->Option (List PV)
 |[]=>some []
 |r::rs=>
  match Dr st r,Z9p st rs with
  |some p,some ps=>some (p::ps)
  |_,_=>none
def oX(Z Z':List (Nat×Blk))(ps:List PV)(res:PV):Prop:=
 match ps with
 |[p]=>Frz Z Z' p res
 |ps=>∃ds,res = .tup ds/\aX Z Z' ps ds
def Z6e(rs:List RV)(Z':List (Nat×Blk))(res:PV)(st:St):Prop:=∃ps,Z9p st rs=some ps/\Z4a st.Z Z'/\oX st.Z Z' ps res
def Z6z(rs:List RV)(Z':List (Nat×Blk))(res:PV):Exit->St->Prop
 |.normal,st|.ret,st=>Z6e rs Z' res st
 |_,_=>False
def ZjO{P:Program}{G:Frm}{β:Nat->Option Nat}{st:St}{a:Act}{w:World}(hr:aE G β st a w){r:RV}{p:PV}(hty:∀x t ag sz,r = .c x t ag sz->TyF P t ag sz)(hs:Dr st r=some p)
 (g:ResultVar->Sem Value) (h1:∀t,g (.tmp t)=pure (a.tmps.getD t undef)) (h2:∀x t,g (.cell x t)=(do loadVar t (<- asAddr (a.tmps.getD x undef)))):∃v,(g r.to).run P w = .ok v w/\VR (ctx G β w st.Z) p v:=by
 cases r with
 |t t=>exact⟨_,by simp only[RV.to,h1,aT],(hr.tm t p hs).2⟩
 |c x t ag sz=>
  simp only[Dr]at hs;split at hs
  .rename_i l q hx;split at hs
   .rename_i cs hg;have e1:=(hr.tm x _ hx).2;simp only[VR]at e1;obtain⟨b,hb,hv⟩:=e1.1 cs hg;obtain⟨b',vs,hb',hrow,hc,hvs,_⟩:=hr.blk l _ hg;have:b'=b:=by have:=hb'.symm.trans hb;simpa using this
    subst this;obtain⟨v,hrun,hpv⟩:=lj (q:=0) (hty x t ag sz rfl) w hvs (λj v hj=>by rw[aM];exact hc j v hj) hs;rw[aM]at hrun;have hrun':(loadVar t ⟨b',q,none⟩).run P w = .ok v w:=by have:=hrun;simp only[Instr.loadAt,Instr.sureAddr]at this;simpa using this
    exact⟨v,by simp only[RV.to,h2,hv,asAddr,aN,aT,aO,hrun'],hpv⟩
   cases hs
  cases hs
def Ej{P:Program}{fn:Func}{rs:List RV}(h:fn.results=(rs.map RV.to).toArray)(hty:∀x t ag sz,RV.c x t ag sz∈rs->TyF P t ag sz){G:Frm}{β:Nat->Option Nat}{st:St}{a:Act}{w:World}(hr:aE G β st a w){ps:List PV}(hs:Z9p st rs=some ps) :
 ∃vs,VRs (ctx G β w st.Z) ps vs/\(results fn a.tmps).run P w = .ok (match vs with|[v]=>v|vs =>.tuple vs.toArray) w:=by
 have hm:∀(g:ResultVar->Sem Value),(∀t,g (.tmp t)=pure (a.tmps.getD t undef))->(∀x t,g (.cell x t)=(do loadVar t (<- asAddr (a.tmps.getD x undef))))->∀(rs:List RV) (ps:List PV),(∀x t ag sz,RV.c x t ag sz∈rs->TyF P t ag sz)->Z9p st rs=some ps ->
  ∃vs,VRs (ctx G β w st.Z) ps vs/\((rs.map RV.to).mapM g).run P w = .ok vs w:=by
  intro g h1 h2 rs;induction rs with
  |nil=>intro ps _ hs;simp only[Z9p,aq]at hs;subst hs;exact⟨[],by simp[VRs],rfl⟩
  |cons r rs ih=>
   intro ps hty hs;simp only[Z9p]at hs;split at hs
   .rename_i p qs hp hq;cases hs;obtain⟨v,hv1,hv2⟩:=ZjO hr (λx t ag sz e=>hty x t ag sz (by rw[e];simp)) hp g h1 h2;obtain⟨vs,h3,h4⟩:=ih qs (λx t ag sz hm=>hty x t ag sz (cK _ hm)) hq;refine⟨v::vs,by simp only[VRs];exact⟨v,vs,rfl,hv2,h3⟩,?_⟩;simp only[cw,kx,aN,hv1,aO,h4,aT]
   cases hs
 obtain⟨g,hg,g1,g2⟩:∃g:ResultVar->Sem Value,results fn a.tmps=(do
  let vs <- fn.results.mapM g
  pure (if h:vs.size=1 then vs[0]else .tuple vs))/\(∀t,g (.tmp t)=pure (a.tmps.getD t undef))/\(∀x t,g (.cell x t)=(do loadVar t (<- asAddr (a.tmps.getD x undef)))):=
  ⟨_,rfl,λ_=>rfl,λ_ _=>rfl⟩
 rw[hg,h,Array.mapM_eq_mapM_toList];obtain⟨vs,h1,h2⟩:=hm g g1 g2 rs ps hty hs;refine⟨vs,h1,?_⟩;simp only[bind_map_left,aN,h2,aO,aT]
 match vs with
 |[]=>rfl
 |[r]=>rfl
 |r::r'::rs=>simp
def FnG.of_pw {P:Program} {f:FuncId} {Z Z':List (Nat×Blk)} {args:List PV} {res:PV} {fn:Func} {c:Code} (hf:P.funcs[f]? = some fn) (hb:fn.body=some c) (hname:(fn.name == "runtime.NumGoroutine")=false)
 (n:Nat) (hn:fn.ntmps=n) (hna:args.length<=n) (rs:List RV) (hres:fn.results=(rs.map RV.to).toArray) (hty:∀x t ag sz,RV.c x t ag sz∈rs->TyF P t ag sz) (h:PW P c (Z6z rs Z' res) ⟨n,idx 0 args,Z⟩):FnG P f Z args Z' res:=by
 refine⟨⟨fn,c,hf,hb,hname⟩,λA β w vals hvl hr=>?_⟩;refine calls_of_wp hf hb ?_;have hr':aE (b9 β Z A w) β ⟨n,idx 0 args,Z⟩ { tmps:=vals.toArray++Array.replicate (fn.ntmps-vals.toArray.size) undef,defers:=[] } w:=
  { defers:=rfl,sz:=by simp;omega,base:=hr.base,os:=hr.os,tape:=hr.tape,output:=hr.output,old:=hr.old,A:=hr.A,gl:=hr.gl,inj:=hr.inj,sep:=hr.sep,fix:=hr.fix,row0:=hr.row0,blk:=hr.blk,
    tm:=λi p hp=>by
     obtain⟨h1,h2⟩:=hr.tm i p hp;refine⟨by simp at h1⊢;omega,?_⟩;have hlt:i<vals.length:=by simp at h1;omega
     have:(vals.toArray++Array.replicate (fn.ntmps-vals.toArray.size) undef).getD i undef=vals.toArray.getD i undef:=by simp[jz,hlt]
     rw[this];exact h2 }
 refine wp_mono (h _ _ w ⟨β,hr'⟩) ?_;rintro e a' w' ⟨st',hq,β',hrel⟩;have key:Z6e rs Z' res st'->a'.defers=[]/\∃v,(results fn a'.tmps).run P w' = .ok v w'/\∃v0 β',Ending.returned v = .returned v0/\aE (b9 β Z A w) β' ⟨1,[(0,res)],Z'⟩ ⟨#[v0],[]⟩ w':=by
  rintro⟨ps,hs,hσ,hres'⟩;obtain⟨vs,hv,hrun⟩:=Ej hres hty hrel hs;refine⟨hrel.defers,_,hrun,_,β',rfl,?_⟩;have hc:=ye (n:=st'.n) (tm:=st'.tm) (Z:=st'.Z) hrel hσ;have hempty:=tq (n:=st'.n) (tm:=st'.tm) (Z:=st'.Z) (tm':=[]) hrel hσ (λi q hq=>by simp[get]at hq);refine { defers:=rfl,sz:=by simp,base:=hempty.base,os:=hempty.os,tape:=hempty.tape,output:=hempty.output,old:=hempty.old,A:=hempty.A,gl:=hempty.gl,inj:=hempty.inj,sep:=hempty.sep,fix:=hempty.fix,row0:=hempty.row0,blk:=hempty.blk,tm:=λi p hp=>?_ };simp only[get]at hp;cases hi:Nat.beq 0 i with
  |false=>simp[hi]at hp
  |true=>
   have:i=0:=((aU _ _).1 hi).symm;subst this;simp only[hi,av,aq]at hp;subst hp;refine⟨by simp,?_⟩;rw[show ∀X:Value,(#[X]:Array Value).getD 0 undef=X from λ_=>rfl];unfold oX at hres'
   match vs,ps,hv,hres' with
   |[v],[p],hv,hres'=>
    simp only[VRs]at hv;obtain⟨v',rest,he,hv,_⟩:=hv;cases he;exact Frz.ok hc p res _ hres' hv
   |[],[],hv,hres'=>
    obtain⟨ds,rfl,hd⟩:=hres';simp only[VR];exact⟨_,rfl,aX.ok hc _ _ _ hd hv⟩
   |v::v2::vs,p::p2::ps,hv,hres'=>
    obtain⟨ds,rfl,hd⟩:=hres';simp only[VR];exact⟨_,rfl,aX.ok hc _ _ _ hd hv⟩
   |[],_::_,hv,_=>have:=hv.length;simp at this
   |[_],[],hv,_=>have:=hv.length;simp at this
   |[_],_::_::_,hv,_=>have:=hv.length;simp at this
   |_::_::_,[],hv,_=>have:=hv.length;simp at this
   |_::_::_,[_],hv,_=>have:=hv.length;simp at this
 cases e<;>simp only[Z6z]at hq
 case normal=>exact key hq
 case ret=>exact key hq
def Z4a.nil(Z:List (Nat×Blk)):Z4a Z []:=λl o h=>by simp[PW.get]at h
def Vv{G:Frm}{β:Nat->Option Nat}{st:St}{a:Act}{w w':World}(h:aE G β st a w)(hs:w.heap.size<=w'.heap.size)(hh:∀b,b<w.heap.size->w'.heap[b]?=w.heap[b]?)
 (hos:w'.os=w.os) (htp:w'.tape=w.tape) (hout:w'.output=w.output):aE G β st a w' /\
 (∀b,(ctx G β w st.Z).I b->(ctx G β w' st.Z).I b/\(ctx G β w' st.Z).w.heap[b]?=(ctx G β w st.Z).w.heap[b]?)/\(∀l,aV (ctx G β w st.Z) (ctx G β w' st.Z) l):=by
 have hO:∀l o,get st.Z l=some o->∀b,aA β w' l o b->aA β w l o b:=λl o hl b ho=>ho.of_heap (λb hb=>hh b (h.sep l o b hl (.inl hb)).1);have hI:∀b,(ctx G β w st.Z).I b->(ctx G β w' st.Z).I b/\(ctx G β w' st.Z).w.heap[b]?=(ctx G β w st.Z).w.heap[b]?:=λb hb=>⟨⟨dL hb.1 hs,hb.2.1,λl o hl ho=>hb.2.2 l o hl (hO l o hl b ho)⟩,hh b hb.1⟩;have hL:∀l,aV (ctx G β w st.Z) (ctx G β w' st.Z) l:=λl=>by
  cases hg:get st.Z l with
  |none=>exact aV.none hg
  |some o=>exact aV.same rfl rfl (λb hb=>hh b (h.sep l o b hg (.inl hb)).1)
 refine⟨?_,hI,hL⟩
 exact { defers:=h.defers,sz:=h.sz,base:=cX h.base hs,os:=hos.trans h.os,tape:=htp.trans h.tape,output:=hout.trans h.output,
         old:=λb hb ho=>(hh b (dL hb h.base)).trans (h.old b hb ho),A:=h.A,gl:=h.gl,inj:=λl l' o o' b hl hl' hb hb'=>h.inj l l' o o' b hl hl' (hO l o hl b hb) (hO l' o' hl' b hb'),
         sep:=λl o b hl hb=>by have:=h.sep l o b hl (hO l o hl b hb);exact⟨dL this.1 hs,this.2⟩,fix:=h.fix,row0:=h.row0.step (λm _=>hL m),
         blk:=λl o hl=>BR.step hI rfl (λb hb=>hh b (h.sep l o b hl hb).1) (λm _=>hL m) (h.blk l o hl),
         tm:=λi p hp=>⟨(h.tm i p hp).1,VR.step hI p _ (λm _=>hL m) (h.tm i p hp).2⟩ }
mutual
def PV.free:PV->Bool
 |.t _=>true
 |.nils=>true
 |.vptr _=>true
 |.agg cs=>PV.frees cs
 |.tup cs=>PV.frees cs
 |.fn _ cs=>PV.frees cs
 |_=>false
def PV.frees:List PV->Bool
 |[]=>true
 |p::ps=>p.free&&PV.frees ps
end
mutual
def PV.free_has(l:Nat):∀(p:PV),p.free=true->p.has l=false
 |.t _,_=>rfl
 |.nils,_=>rfl
 |.vptr _,_=>rfl
 |.agg cs,h=>Cc
 |.tup cs,h=>Cc
 |.fn _ cs,h=>Cc
 |.osl _ _,h=>kS
 |.bptr _ _,h=>kS
 |.rptr _ _ _ _,h=>kS
def PV.frees_has(l:Nat):∀(ps:List PV),PV.frees ps=true->PV.hasAny l ps=false
 |[],_=>rfl
 |p::ps,h=>by simp only[PV.frees,aL]at h;simp[PV.hasAny,PV.free_has l p h.1,PV.frees_has l ps h.2]
end
mutual
def PV.scal:PV->Bool
 |.t x=>x.scal
 |.agg cs=>PV.scals cs
 |.tup cs=>PV.scals cs
 |_=>false
def PV.scals:List PV->Bool
 |[]=>true
 |p::ps=>p.scal&&PV.scals ps
end
mutual
def VR.scal{c c':Ctx}:∀(p:PV) (v:Value),p.scal=true->VR c p v->VR c' p v
 |.t x,v,h,hv=>by
  simp only[VR]at hv⊢;cases x
  case sl es=>
   cases es with
   |nil=>
    simp only[Z9]at hv⊢;obtain⟨a,cap,hv,h1,h2,_⟩:=hv;exact⟨a,cap,hv,h1,h2,.inl trivial⟩
   |cons e es=>simp[PV.scal,U.scal]at h
  all_goals simpa[Z9]using hv
 |.agg cs,v,h,hv=>Sp
 |.tup cs,v,h,hv=>Sp
 |.nils,_,h,_=>od
 |.osl _ _,_,h,_=>od
 |.bptr _ _,_,h,_=>od
 |.rptr _ _ _ _,_,h,_=>od
 |.vptr _,_,h,_=>od
 |.fn _ _,_,h,_=>od
def VRs.scals{c c':Ctx}:∀(ps:List PV) (vs:List Value),PV.scals ps=true->VRs c ps vs->VRs c' ps vs
 |[],vs,_,h=>h
 |p::ps,vs,hs,h=>by simp only[PV.scals,aL]at hs;simp only[VRs]at h⊢;obtain⟨v,rest,rfl,hv,hr⟩:=h;exact⟨v,rest,rfl,VR.scal p v hs.1 hv,VRs.scals ps rest hs.2 hr⟩
end
section
variable {P:Program} {o:Oper} {ρ:List (Nat×PV)} {Z:List (Nat×Blk)}
def ZjP{f:FuncId}{fo:Operand}{xs:Array Operand}{ats:Array TypeId}{cv:Array Value}(hok:FnOk P f)(ho:o.op = .call { callee :=.value fo,args:=xs,argTypes:=ats })(A:Act)(w:World)(hfo:A.eval fo = .func (.func f) #[] cv) :
 (execOp A.eval o).run P w = .ok (.enter f (xs.map A.eval++cv)) w:=by
 obtain⟨fn,c,hf,hb,hn⟩:=hok;simp[execOp,ho,resolve,hfo,Deferred.ofValue,invoke,callFunc,hf,hb];simpa using hn
def ZjQ{G:Frm}{β:Nat->Option Nat}{n:Nat}{tm:List (Nat×PV)}{Z':List (Nat×Blk)}{a:Act}{w:World}{f:FuncId}{fo:Operand}{caps:List PV}{xs:Array Operand}{ats:Array TypeId}(hr:aE G β ⟨n,tm,Z'⟩ a w)
 (ho:o.op = .call { callee :=.value fo,args:=xs,argTypes:=ats }) (hfo:af ρ fo=some (.fn f caps)) (hag:∀t q,Operand.tmp t∈o.op.operands->PW.get ρ t=some q->PW.get tm t=some q):∃vs,a.eval fo = .func (.func f) #[] vs.toArray/\VRs (ctx G β w Z') caps vs:=by
 have hv:=hP hr hfo (λt r ht hr'=>hag t r (by subst ht;simp[ho,Op.operands,Call.operands]) hr');simp only[VR]at hv;exact hv
def ZjR{fo:Operand}{xs:Array Operand}{ats:Array TypeId}(ho:o.op = .call { callee :=.value fo,args:=xs,argTypes:=ats }){x:Operand}(hx:x∈xs.toList):x∈o.op.operands:=by simp only[ho,Op.operands,Call.operands];exact Array.mem_append.2 (.inr qn)
def Vw{c:Ctx}(f:Operand->Value):∀{xs:List Operand} {ps:List PV},xs.mapM (af ρ)=some ps->(∀x q,x∈xs->af ρ x=some q->VR c q (f x))->VRs c ps (xs.map f)
 |[],ps,h,_=>by simp at h;subst h;simp[VRs]
 |x::xs,ps,h,hall=>by rw[kx]at h;simp only[bind,dC,pure,aq]at h;obtain⟨q,hq,qs,hqs,rfl⟩:=h;simp only[cw,VRs];exact⟨_,_,rfl,hall x q al hq,Vw f hqs (λy r hy=>hall y r (cK _ hy))⟩
def VRs.app{c:Ctx}:∀{ps qs:List PV} {vs us:List Value},VRs c ps vs->VRs c qs us->VRs c (ps++qs) (vs++us)
 |[],qs,vs,us,h,k=>by simp only[VRs]at h;subst h;exact k
 |p::ps,qs,vs,us,h,k=>by simp only[VRs]at h;obtain⟨v,rest,rfl,hv,hr⟩:=h;simp only[eR,VRs];exact⟨v,_,rfl,hv,VRs.app hr k⟩
def vt{f:FuncId}{fo:Operand}{caps ps:List PV}{xs:Array Operand}{ats:Array TypeId}(ho:o.op = .call { callee :=.value fo,args:=xs,argTypes:=ats })(hfo:af ρ fo=some (.fn f caps))(hps:(xs.toList.mapM (af ρ)).map (· ++ caps)=some ps)
 {G:Frm} {β:Nat->Option Nat} {n:Nat} {tm:List (Nat×PV)} {Z':List (Nat×Blk)} {a:Act} {w:World} (hr:aE G β ⟨n,tm,Z'⟩ a w) (hag:∀t q,Operand.tmp t∈o.op.operands->PW.get ρ t=some q->PW.get tm t=some q) :
 ∃vals,VRs (ctx G β w Z') ps vals/\(FnOk P f->(execOp a.eval o).run P w = .ok (.enter f vals.toArray) w):=by
 obtain⟨vs,hev,hcv⟩:=ZjQ hr ho hfo hag;simp only[cA]at hps;obtain⟨ps0,hps,rfl⟩:=hps;have hv:=Vw (c:=ctx G β w Z') a.eval hps (λx q hx hq=>hP hr hq (λt r ht hr'=>hag t r (ht▸ZjR ho hx) hr'));refine⟨xs.toList.map a.eval++vs,hv.app hcv,λhok=>?_⟩;rw[ZjP hok ho a w hev];simp
def Ct{f:FuncId}{qs:List PV}{res:PV}(hfn:Fn P f qs res){w:World}{vals:List Value}(A:Nat->Prop)(hA:∀b,A b->b<w.heap.size)(hgA:∀g k,(g,k)∈gset->A g)(hgl:qi w)(hv:VRs ⟨λ_=>none,A,w,[]⟩ qs vals) :
 Calls P f vals.toArray w λe w'=>∃v,e = .returned v/\VR ⟨λ_=>none,λb=>b<w'.heap.size/\(w.heap.size<=b\/A b),w',[]⟩ res v/\w.heap.size<=w'.heap.size/\(∀b,b<w.heap.size->w'.heap[b]?=w.heap[b]?) /\
  w'.os=w.os/\w'.tape=w.tape/\w'.output=w.output:=by
 have hlen:=hv.length;refine(hfn.2 A (λ_=>none) w vals hlen ?_).mono ?_
 .refine { defers:=rfl,sz:=by simp[hlen],base:=aW _,os:=rfl,tape:=rfl,output:=rfl,old:=λ_ _ _=>rfl,A:=λb hb=>⟨hA b hb,λ⟨l,o,h,_⟩=>by simp[get]at h⟩,gl:=λg k hg=>⟨(hgl g k hg).1,λ⟨l,o,h,_⟩=>by simp[get]at h,hgA g k hg,(hgl g k hg).2⟩,inj:=λl _ o _ _ h=>by simp[get]at h,
           sep:=λl o _ h=>by simp[get]at h,fix:=λl _ _ h=>by simp[get]at h,row0:=λl _ _ _ h=>by simp[get]at h,blk:=λl o h=>by simp[get]at h,tm:=λi p hp=>?_ }
  rw[Z6u]at hp;simp only[fW,dK,Nat.sub_zero]at hp;obtain⟨v,hv1,hv2⟩:=hv.get i p hp;refine⟨(aJ.1 hp).1,?_⟩;simp only[Array.getD_eq_getD_getElem?,sR,hv1,gD];exact VR.step (c:=⟨λ_=>none,A,w,[]⟩) (c':=ctx (b9 (λ_=>none) [] A w) (λ_=>none) w []) (λb hb=>⟨⟨hA b hb,.inr (.inl hb),λl o h=>by simp[get]at h⟩,rfl⟩) p v (λl _=>aV.none rfl) hv2
 rintro e w' ⟨v,β',he,hr⟩;have hv:=(hr.tm 0 res nL).2;refine⟨v,he,?_,hr.base,λb hb=>hr.old b hb (λ⟨l,o,h,_⟩=>by simp[get]at h),hr.os,hr.tape,hr.output⟩;refine VR.step (c:=ctx (b9 (λ_=>none) [] A w) β' w' []) (c':=⟨λ_=>none,λb=>b<w'.heap.size/\(w.heap.size<=b\/A b),w',[]⟩) (λb hb=>⟨⟨hb.1,?_⟩,rfl⟩) res v (λl _=>aV.none rfl) (by simpa using hv);rcases hb.2.1 with h|h|h
 .exact .inl h
 .exact .inr h
 obtain⟨l,o,h,_⟩:=h;simp[get]at h
def Zjl{f:FuncId}{fo:Operand}{xs:Array Operand}{ats:Array TypeId}{caps ps qs:List PV}{res:PV}{need:List Nat}(hfn:Fn P f qs res)(ho:o.op = .call { callee :=.value fo,args:=xs,argTypes:=ats })(hfo:af ρ fo=some (.fn f caps))
 (hps:(xs.toList.mapM (af ρ)).map (· ++ caps)=some ps) (hfz:aX Z [] ps qs) (hneed:∀m,PV.hasAny m ps=true->m∈need) (hs:res.scal=true):aQ P o ρ Z need res []:=by
 intro G n tm Z' a w K Q hag hnd _ hr hK;obtain⟨β,hr⟩:=hr;obtain⟨vals,hv,hrun⟩:=vt (P:=P) ho hfo hps hr hag;have hfz':aX Z' [] ps qs:=aX.need ps qs (λm hm=>hnd m (hneed m hm)) hfz;have hv2:VRs ⟨λ_=>none,λb=>b<w.heap.size,w,[]⟩ qs vals:=by refine aX.ok (c:=ctx G β w Z') (c':=⟨λ_=>none,λb=>b<w.heap.size,w,[]⟩) ⟨λb hb=>⟨hb.1,rfl⟩,λl=>aV.none rfl,λl o hg=>hr.blk l _ hg,λl o b hg _ hb=>⟨(hr.sep l o b hg hb).1,rfl⟩⟩ ps qs _ hfz' hv
 have hcall:=Ct hfn (λb=>b<w.heap.size) (λb hb=>hb) (λg k hg=>(hr.glw g k hg).1) hr.glw hv2;unfold Oper.wp;rw[hrun hfn.1,vu];refine hcall.mono ?_;rintro e w' ⟨v,rfl,hres,hsz,hh,h1,h2,h3⟩;obtain⟨hr',_,_⟩:=Vv hr hsz hh h1 h2 h3;exact hK v w' ⟨β,hr',VR.scal res v hs hres⟩
def Zjk{f:FuncId}{fo:Operand}{xs:Array Operand}{ats:Array TypeId}{caps ps qs:List PV}{res:PV}(hfn:Fn P f qs res)(ho:o.op = .call { callee :=.value fo,args:=xs,argTypes:=ats })(hfo:af ρ fo=some (.fn f caps))
 (hps:(xs.toList.mapM (af ρ)).map (· ++ caps)=some ps) (hfz:aX [] [] ps qs) (hfree:res.free=true):aQ P o ρ Z [] res []:=by
 intro G n tm Z' a w K Q hag _ _ hr hK;obtain⟨β,hr⟩:=hr;obtain⟨vals,hv,hrun⟩:=vt (P:=P) ho hfo hps hr hag;have hv1:VRs ⟨λ_=>none,(ctx G β w Z').I,w,[]⟩ ps vals:=VRs.step (c:=ctx G β w Z') (c':=⟨λ_=>none,(ctx G β w Z').I,w,[]⟩) (λb hb=>⟨hb,rfl⟩) _ _ (λl _=>aV.none rfl) hv;have hv2:VRs ⟨λ_=>none,(ctx G β w Z').I,w,[]⟩ qs vals:=aX.ok (c:=⟨λ_=>none,(ctx G β w Z').I,w,[]⟩) (c':=⟨λ_=>none,(ctx G β w Z').I,w,[]⟩) ⟨λb hb=>⟨hb,rfl⟩,λl=>aV.none rfl,λl o hg=>by simp[get]at hg,λl o b hg=>by simp[get]at hg⟩ ps qs _ hfz hv1;have hcall:=Ct hfn (ctx G β w Z').I (λb hb=>hb.1) (λg k hg=>hr.glI hg) hr.glw hv2;unfold Oper.wp;rw[hrun hfn.1,vu];refine hcall.mono ?_;rintro e w' ⟨v,rfl,hres,hsz,hh,h1,h2,h3⟩;obtain⟨hr',hI,_⟩:=Vv hr hsz hh h1 h2 h3;refine hK v w' ⟨β,hr',VR.step (c:=⟨λ_=>none,λb=>b<w'.heap.size/\(w.heap.size<=b\/(ctx G β w Z').I b),w',[]⟩) (c':=ctx G β w' Z') (λb hb=>⟨?_,rfl⟩) res v (λl hl=>?_) hres⟩
 .rcases hb.2 with h|h
  .exact⟨hb.1,.inl (cX hr.base h),λl o hl hb'=>by have:=(hr.sep l o b hl (hb'.of_heap (λb hb=>hh b (hr.sep l o b hl (.inl hb)).1))).1;omega⟩
  exact(hI b h).1
 rw[PV.free_has l res hfree]at hl;cases hl
end
end Go.PW
