import Derived.Test.YtchddhcajpagjaaGreatQX
set_option linter.all false
set_option maxRecDepth 100000
namespace Go.PW
theorem Z16{a0:Zi}{b0:Int}(oa0:Zv a0):Tot (Zto a0 b0) (fun r=>True):=by
 apply tZ;dsimp only [Zq0,LT.den];exact tB (Zrq) fun x1 h1=>tR trivial
def Zhc(a0:List Zi)(b0:Int):Zau->Prop
 | .L0 v0 c0 v7 v8=>(v0=a0)/\(c0=b0)/\((SzL 176 Zv) v0)/\(0<=v8)/\(v7=(v0.length:Int))
def Zdo:Zau->M6
 | .L0 v0 c0 v7 v8=>(1,(v7 - v8).toNat,1000000,0,0,0)
theorem Zhd{a0:List Zi}{b0:Int}(oa0:(SzL 176 Zv) a0):Tot (Zd2 a0 b0) (fun r=>True):=by
 apply Tot.rn (Zhc a0 b0) Zdo
 .dsimp only [Zdr,LT.den];exact tL ⟨rfl,rfl,oa0,cs⟩ tk41
 rintro ⟨v0,c0,v7,v8⟩ ⟨al0,al1,ov0,cv8,i0⟩;have lb_v0:=ov0.1;subst al0;subst al1;dsimp only [Zbw,Zdk,LT.den];apply tD<;>intro h1
 .refine Tot.ix fun x1 h2=>?_;have oh2:Zv x1:=ov0.2 x1 h2.1;refine tB (Z16 oh2) fun x2 h3=>?_;apply tF<;>intro h4
  .exact tR trivial
  have q1:=wr (v8+1);exact tL ⟨rfl,rfl,ov0,cs⟩ tk41
 exact tR trivial
theorem Zgw{a0:List Zi}{b0:Int}(oa0:(SzL 176 Zv) a0):Tot (Zdl a0 b0) (fun r=>True):=by
 apply tZ;dsimp only [Zde,LT.den];exact tB (Zhd oa0) fun x1 h1=>tR trivial
theorem Zae7{a0:Zaj}{a1:Int}(oa0:Zbs a0):Tot (Z9q a0 a1) (fun r=>True):=by
 apply tZ;dsimp only [Z3l,LT.den];exact tB (Zgw oa0.2.2) fun x1 h1=>tR trivial
def Zuq:Zid->Prop
 | .L0 v1 E0 v5=>(Z7 E0)/\True
def Zxn:Zid->M6
 | .L0 v1 E0 v5=>(0,0,0,0,0,0)
theorem Zkt{v1:Int}{E0:Zd}{v5:Bool}(h:(Z7 E0)/\True):Tot (Zht v1 E0 v5).den (Nx Zuq Zxn (0,0,0,0,0,0) (fun r=>True)):=by
 obtain⟨O0,_⟩:=h;dsimp only [Zht,LT.den];apply tE<;>intro h1
 .exact tR trivial
 apply tE<;>intro h2
 .apply tN<;>intro h3
  .exact tR trivial
  exact tl24
 exact tl72
theorem Zur{a0:Zd}{a1:Int}(oa0:Z7 a0):Tot (Z3n a0 a1) (fun r=>True):=by
 apply Tot.rn Zuq Zxn
 .dsimp only [Zzg,LT.den];apply tN<;>intro h1
  .exact tJ (Zkt ⟨oa0,trivial⟩)
  exact tJ (Zkt ⟨oa0,trivial⟩)
 intro s hs;cases s with
 | L0 _ _ _=>exact Zkt hs
theorem Zxo{a0:Int}:Tot (Z6z a0) (fun r=>(r=false)):=by
 apply tZ;dsimp only [Z07,LT.den];exact tR (by simp)
theorem Z83{a0:Int}{a1:Int}:Tot (Z09 a0 a1) (fun r=>((r = -1/\a0 < a1)\/(r=1/\a1 < a0)\/(r=0/\a0=a1))):=by
 apply tZ;dsimp only [Zw9,LT.den];refine tB (Zxo) fun x1 h1=>tB (Zxo) fun x2 h2=>?_;apply tF<;>intro h3
 .apply tF<;>intro h4
  .exact tl4
  exact tl4
 apply tF<;>intro h4
 .exact tl4
 apply tD<;>intro h5
 .exact tl4
 apply tD<;>intro h6
 .exact tl4
 exact tl4
theorem Zzo{a0:Zc}{a1:Int}:Tot (Z9r a0 a1) (fun r=>((r = -1/\a0.Id < a1)\/(r=1/\a1 < a0.Id)\/(r=0/\a0.Id=a1))):=by
 apply tZ;dsimp only [Z3o,LT.den];exact tB (Z83) fun x1 h1=>tR ‹_›
abbrev Zet(a0:List Zc)(a1:Int)(r:Int×Bool):Prop:=(BSP a0 a1 r)/\(0<=r.1)/\(r.1<=(a0.length:Int))/\(r.2=true->r.1 < (a0.length:Int))
def Zew(a0:List Zc)(a1:Int):Zag->Prop
 | .L0 v0 v1 v8 v9 v10=>(v0=a0)/\(v1=a1)/\((SzL 128 (fun _=>True)) v0)/\(0<=v9)/\(v8=(v0.length:Int))/\(v9<=v10)/\(v10<=v8)/\(BSI v0 v1 v9 v10)
def Zb3:Zag->M6
 | .L0 v0 v1 v8 v9 v10=>(1,(v10 - v9).toNat,1000000,0,0,0)
theorem Zex{a0:List Zc}{a1:Int}(oa0:(SzL 128 (fun _=>True)) a0):Tot (Zce a0 a1) (Zet a0 a1):=by
 apply Tot.rn (Zew a0 a1) Zb3
 .have lb_a0:=oa0.1;dsimp only [Zb8,LT.den];exact tL ⟨rfl,rfl,oa0,cl,cl,cl,cl,tk10⟩ tk32
 rintro ⟨v0,v1,v8,v9,v10⟩ ⟨al0,al1,ov0,cv9,i0,i1,i2,i3⟩;have lb_v0:=ov0.1;subst al0;subst al1;dsimp only [Zba,Zb0,LT.den];have lm:=Zbdu (i:=v9) (j:=v10) (n:=v8) (by omega) (by omega) (by omega) (by omega);apply tD<;>intro h1
 .have q1:=wr (v9+v10);have q2:=wr (shrI .u64 (IntKind.wrap .u64 (IntKind.wrap .i64 (v9+v10))) 1);refine Tot.ix fun x1 h2=>?_;have mh2:=h2.2;refine tB (Zzo) fun x2 h3=>?_;apply tD<;>intro h4
  .have q3:=wr ((IntKind.wrap .i64 (shrI .u64 (IntKind.wrap .u64 (IntKind.wrap .i64 (v9+v10))) 1))+1);exact Zban
  exact Zban
 apply tD<;>intro h2
 .refine Tot.ix fun x1 h3=>?_;have mh3:=h3.2;exact tB (Zzo) fun x2 h4=>tR ⟨tk19,cl,cl,tk53⟩
 exact tR ⟨tk19,cl,cl,tk53⟩
theorem Z4e{a0:Zn}{a1:Int}(oa0:Zac a0):Tot (Zag3 a0 a1) (fun r=>(Z8s a0.Objects->r=ixO a0.Objects a1)/\(-1<=r)/\(r < (a0.Objects.length:Int))):=by
 apply tZ;dsimp only [Z9s,LT.den];refine tB (Zex oa0.2.1) fun x1 h1=>?_;have eh1_0:=h1.1;apply tO<;>intro h2
 .exact tl83
 exact tl83
def Zxp(a0:List Int)(a1:Int):Zee->Prop
 | .L0 v0 v1 v7 v8=>(v0=a0)/\(v1=a1)/\((SzL 8 (fun _=>True)) v0)/\(0<=v8)/\(v7=(v0.length:Int))
def Znm:Zee->M6
 | .L0 v0 v1 v7 v8=>(1,(v7 - v8).toNat,1000000,0,0,0)
theorem Zhx{a0:List Int}{a1:Int}(oa0:(SzL 8 (fun _=>True)) a0):Tot (Zp4 a0 a1) (fun r=>(-1<=r)/\(r < (a0.length:Int))):=by
 apply Tot.rn (Zxp a0 a1) Znm
 .dsimp only [Znz,LT.den];exact tL ⟨rfl,rfl,oa0,cs⟩ tk66
 rintro ⟨v0,v1,v7,v8⟩ ⟨al0,al1,ov0,cv8,i0⟩;have lb_v0:=ov0.1;subst al0;subst al1;dsimp only [Zin,Zm7,LT.den];apply tD<;>intro h1
 .refine Tot.ix fun x1 h2=>?_;apply tE<;>intro h3
  .exact tR ⟨cl,cl⟩
  have q1:=wr (v8+1);exact tL ⟨rfl,rfl,ov0,cs⟩ tk66
 exact tR ⟨cl,cl⟩
theorem Zki{a0:List Int}{a1:Int}(oa0:(SzL 8 (fun _=>True)) a0):Tot (Zm8 a0 a1) (fun r=>True):=by
 apply tZ;dsimp only [Zlk,LT.den];exact tB (Zhx oa0) fun x1 h1=>tR trivial
theorem Z84(a0 a1:List UInt8)(h:a0.length < 4294967281):Tot (strings_Contains a0 a1) (fun _=>True):=by
 unfold strings_Contains;first | exact⟨_,if_pos h,trivial⟩ | (rw [if_pos h];exact⟨_,rfl,trivial⟩) | exact⟨_,rfl,trivial⟩
def Zaz4:Zsk->Prop
 | .L0 v36 v37 v38=>((SzL 1 (fun _=>True)) v36)/\(0<=v38)/\(v37=(v36.length:Int))
def Z85:Zsk->M6
 | .L0 v36 v37 v38=>(1,(v37 - v38).toNat,1000000,0,0,0)
theorem Zaz5{a0:List UInt8}(oa0:SzT a0):Tot (Zaes a0) (fun r=>True):=by
 apply Tot.rn Zaz4 Z85
 .have lb_a0:a0.length<=562949953421312:=oa0;dsimp only [Zacp,LT.den];apply tE<;>intro h1
  .exact tR trivial
  apply tD<;>intro h2
  .exact tR trivial
  refine Tot.ix fun x1 h3=>?_;apply tD<;>intro h4
  .exact tR trivial
  refine Tot.ix fun x2 h5=>?_;apply tD<;>intro h6
  .exact tR trivial
  have q1:=wr ((a0.length:Int) - 1);refine Tot.ix fun x3 h7=>?_;apply tE<;>intro h8
  .exact tR trivial
  refine tB (Z84 a0 ([45,45]:List UInt8) cl) fun x4 h9=>?_;apply tF<;>intro h10
  .exact tR trivial
  refine tB (Tot.bytes (by first | omega | (have:=oa0;unfold SzT at this;omega))) fun x5 h11=>?_;have q2:x5.length*1<=140737488351232:=(show SzL 1 (fun _=>True) x5 from SzL.tr).1;exact tL ⟨SzL.tr,cs⟩ (by unfold Z85 lt6;dsimp only;omega)
 rintro ⟨v36,v37,v38⟩ ⟨ov36,cv38,i0⟩;have lb_v36:=ov36.1;dsimp only [Zsl,Zpr,LT.den];apply tD<;>intro h1
 .refine Tot.ix fun x1 h2=>?_;apply tD<;>intro h3
  .apply tD<;>intro h4
   .apply tN<;>intro h5
    .exact tR trivial
    exact tl56
   apply tD<;>intro h5
   .exact tl81
   exact tl56
  apply tD<;>intro h4
  .apply tD<;>intro h5
   .exact tl81
   apply tD<;>intro h6
   .apply tN<;>intro h7
    .exact tR trivial
    exact tl56
   exact tl56
  exact tl56
 exact tR trivial
theorem Zadv(a0:Int)(h0:0<=a0)(h1:a0 < 2):Tot (Zps a0) (fun r=>(SzT r)):=by
 obtain h | h:a0=0\/a0=1:=by omega
 all_goals subst h
 .exact⟨[98,97,115,105,99],by kernel_rfl,by unfold SzT;decide⟩
 .exact⟨[117,110,105,113,117,101],by kernel_rfl,by unfold SzT;decide⟩
theorem Zae8(a0:Int)(h0:0<=a0)(h1:a0 < 6):Tot (Zrl a0) (fun r=>(SzT r)):=by
 obtain h | h | h | h | h | h:a0=0\/a0=1\/a0=2\/a0=3\/a0=4\/a0=5:=by omega
 all_goals subst h
 .exact⟨[99,114,101,97,116,117,114,101],by kernel_rfl,by unfold SzT;decide⟩
 .exact⟨[105,110,115,116,97,110,116],by kernel_rfl,by unfold SzT;decide⟩
 .exact⟨[114,105,116,117,97,108],by kernel_rfl,by unfold SzT;decide⟩
 .exact⟨[114,101,108,105,99],by kernel_rfl,by unfold SzT;decide⟩
 .exact⟨[99,104,97,114,109],by kernel_rfl,by unfold SzT;decide⟩
 .exact⟨[108,97,110,100],by kernel_rfl,by unfold SzT;decide⟩
def Zvq:Zd3->Prop
 | .L0 v0 v8 v9=>(SzT v0)/\(0<=v9)/\(v8<=2)
def Zmh:Zd3->M6
 | .L0 v0 v8 v9=>(1,(v8 - v9).toNat,1000000,0,0,0)
theorem Zvr{a0:List UInt8}{a1:Int}(oa0:SzT a0)(h0:a1<=2):Tot (Zgl a0 a1) (fun r=>True):=by
 apply Tot.rn Zvq Zmh
 .dsimp only [Zib,LT.den];exact tL ⟨oa0,cs⟩ tk65
 rintro ⟨v0,v8,v9⟩ ⟨ov0,cv9,i0⟩;dsimp only [Zfx,Zds,LT.den];apply tD<;>intro h1
 .refine tB (Zadv v9 cl cl) fun x1 h2=>?_;apply tO<;>intro h3
  .have q1:=wr (v9+1);exact tL ⟨ov0,cs⟩ tk65
  exact tl68
 exact tR trivial
def Zxq:Zef->Prop
 | .L0 v0 v8 v9=>(SzT v0)/\(0<=v9)/\(v8<=6)
def Znn:Zef->M6
 | .L0 v0 v8 v9=>(1,(v8 - v9).toNat,1000000,0,0,0)
theorem Zxr{a0:List UInt8}{a1:Int}(oa0:SzT a0)(h0:a1<=6):Tot (Zg2 a0 a1) (fun r=>True):=by
 apply Tot.rn Zxq Znn
 .dsimp only [Zio,LT.den];exact tL ⟨oa0,cs⟩ tk67
 rintro ⟨v0,v8,v9⟩ ⟨ov0,cv9,i0⟩;dsimp only [Zf7,Zd4,LT.den];apply tD<;>intro h1
 .refine tB (Zae8 v9 cl cl) fun x1 h2=>?_;apply tO<;>intro h3
  .have q1:=wr (v9+1);exact tL ⟨ov0,cs⟩ tk67
  exact tl68
 exact tR trivial
theorem Z7j{a0:List UInt8}(oa0:SzT a0):Tot (Zzu a0) (fun r=>True):=by
 apply tZ;dsimp only [Z1e,LT.den];refine tB (Zaz5 oa0) fun x1 h1=>?_;apply tF<;>intro h2
 .refine tB (Zvr oa0 cl) fun x2 h3=>?_;apply tE<;>intro h4
  .exact tB (Zxr oa0 cl) fun x3 h5=>tR trivial
  exact tR trivial
 exact tR trivial
theorem Zaak(a0:Zd)(oa0:Z7 a0):Tot (Z3r a0) (fun r=>r=filV a0):=⟨_,Zade a0,rfl⟩
theorem Zxs{a0:Int}{a1:Int}{a2:Int}:Tot (Zpt a0 a1 a2) (fun r=>True):=by
 apply tZ;dsimp only [Zr1,LT.den];apply tE<;>intro h1
 .exact tR trivial
 apply tN<;>intro h2
 .exact tR trivial
 exact tR trivial
theorem Zaal{a0:Zb}{a1:Int}:Tot (Z3s a0 a1) (fun r=>True):=by
 apply tZ;dsimp only [Z49,LT.den];apply tE<;>intro h1
 .exact tR trivial
 apply tE<;>intro h2
 .exact tR trivial
 exact tl72
def Zrd:Zbg->Prop
 | .L0 v0 v1 v7 v8=>((SzL 16 SzT) v0)/\(SzT v1)/\(0<=v8)/\(v7=(v0.length:Int))
def Zja:Zbg->M6
 | .L0 v0 v1 v7 v8=>(1,(v7 - v8).toNat,1000000,0,0,0)
theorem Zre{a0:List (List UInt8)}{a1:List UInt8}(oa0:(SzL 16 SzT) a0)(oa1:SzT a1):Tot (Zgy a0 a1) (fun r=>True):=by
 apply Tot.rn Zrd Zja
 .dsimp only [Zga,LT.den];exact tL ⟨oa0,oa1,cs⟩ tk55
 rintro ⟨v0,v1,v7,v8⟩ ⟨ov0,ov1,cv8,i0⟩;have lb_v0:=ov0.1;dsimp only [Zcq,Zbr,LT.den];apply tD<;>intro h1
 .refine Tot.ix fun x1 h2=>?_;apply tF<;>intro h3
  .exact tR trivial
  have q1:=wr (v8+1);exact tL ⟨ov0,ov1,cs⟩ tk55
 exact tR trivial
theorem Zpb{a0:List (List UInt8)}{a1:List UInt8}(oa0:(SzL 16 SzT) a0)(oa1:SzT a1):Tot (Zf1 a0 a1) (fun r=>True):=by
 apply tZ;dsimp only [Zfc,LT.den];exact tB (Zre oa0 oa1) fun x1 h1=>tR trivial
theorem Z4f{a0:Zab}{a1:List UInt8}(oa0:Zi1 a0)(oa1:SzT a1):Tot (Zv5 a0 a1) (fun r=>True):=by
 apply tZ;dsimp only [Zyb,LT.den];exact tB (Zpb oa0 oa1) fun x1 h1=>tR trivial
theorem Z4g{a0:Int}{a1:Int}:Tot (Z5a a0 a1) (fun r=>(r=kwB a0 a1)):=by
 apply tZ;dsimp only [Z9v,LT.den];exact tR (by rfl)
theorem Zaz6{a0:Int}{a1:Int}:Tot (Zaet a0 a1) (fun r=>(r=muV a0 a1)):=by
 apply tZ;dsimp only [Zact,LT.den];refine tB (Zev) fun x1 h1=>tB (Zev) fun x2 h2=>?_;have q1:=wr (x1*x2);exact tB (Zev) fun x3 h3=>tR (by unfold muV;grind)
def Zaps:Zow->Prop
 | .L0 v1 E0 v5 v14 v15=>(0<=v15)/\True
def Zaam:Zow->M6
 | .L0 v1 E0 v5 v14 v15=>(1,(5 - v15).toNat,1000000,0,0,0)
theorem Zapt{a0:Zs}{a1:Int}:Tot (Zzv a0 a1) (fun r=>True):=by
 apply Tot.rn Zaps Zaam
 .dsimp only [Z1i,LT.den];refine tB (Zaht) fun x1 h1=>?_;apply tO<;>intro h2
  .exact tR trivial
  exact tl39
 rintro ⟨v1,E0,v5,v14,v15⟩ ⟨cv15,_⟩;dsimp only [Zox,Zjw,LT.den];apply tD<;>intro h1
 .refine tB (tI (by omega) (by have e:(A5.list v14).length=5:=rfl;omega)) fun x1 h2=>?_;have q1:=wr (v5+x1);have q2:=wr (v15+1);exact tl39
 exact tB (Zaz6) fun x1 h2=>tB (Zrc) fun x2 h3=>tR trivial
theorem Zp8{a0:Zb}{a1:Int}{b0:Bool}:Tot (Zjf a0 a1 b0) (fun r=>True):=by
 apply tZ;dsimp only [Zlm,LT.den];apply tE<;>intro h1
 .exact tR trivial
 apply tF<;>intro h2
 .exact tB (Zaal) fun x1 h3=>tR trivial
 exact tR trivial
def Zf3:Ze0->Prop
 | .L0 v3 E0 E1 E2 E3 v30=>(Zu E1)/\(Z7 E2)
 | .L1 E0 E1 E2 E3 v49=>(Zu E1)/\(Z7 E2)
 | .L2 E0 E1 E2 E3 v68=>(Zu E1)/\(Z7 E2)
 | .L3 E0 E1 E2 E3 v88=>(Zu E1)/\(Z7 E2)
 | .L4 E0 E1 E2=>(Zu E0)/\(Z7 E1)
def Zh4:Ze0->M6
 | .L0 v3 E0 E1 E2 E3 v30=>(0,0,0,0,0,0)
 | .L1 E0 E1 E2 E3 v49=>(0,0,0,0,0,0)
 | .L2 E0 E1 E2 E3 v68=>(0,0,0,0,0,0)
 | .L3 E0 E1 E2 E3 v88=>(0,0,0,0,0,0)
 | .L4 E0 E1 E2=>(0,0,0,0,0,0)
theorem Zus{E0:Za}{E1:Zd}{E2:Bool}(h:Zf3 (.L4 E0 E1 E2)):Tot (Zeg E0 E1 E2).den (Nx Zf3 Zh4 (0,0,0,0,0,0) (fun r=>True)):=by
 obtain⟨O0,O1⟩:=h;dsimp only [Zeg,LT.den];refine tB (Zp8) fun x1 h1=>?_;apply tF<;>intro h2
 .refine tB (Zp8) fun x2 h3=>?_;apply tF<;>intro h4
  .exact tB (Zapt) fun x3 h5=>tB (Zaal) fun x4 h6=>tR trivial
  exact tR trivial
 exact tR trivial
theorem Zjg{E0:Zc}{E1:Za}{E2:Zd}{E3:Bool}{v88:Bool}(h:(Zu E1)/\(Z7 E2)):Tot (Zfg E0 E1 E2 E3 v88).den (Nx Zf3 Zh4 (0,0,0,0,0,0) (fun r=>True)):=by
 obtain⟨O1,O2⟩:=h;dsimp only [Zfg,LT.den];apply tF<;>intro h1
 .exact tR trivial
 apply tE<;>intro h2
 .apply tO<;>intro h3
  .exact tR trivial
  apply tE<;>intro h4
  .apply tF<;>intro h5
   .exact tR trivial
   exact tl18
  exact tl18
 apply tE<;>intro h3
 .apply tF<;>intro h4
  .exact tR trivial
  exact tl18
 exact tl18
theorem Znw{E0:Zc}{E1:Za}{E2:Zd}{E3:Bool}{v68:Bool}(h:(Zu E1)/\(Z7 E2)):Tot (Zgm E0 E1 E2 E3 v68).den (Nx Zf3 Zh4 (0,0,0,0,0,0) (fun r=>True)):=by
 obtain⟨O1,O2⟩:=h;dsimp only [Zgm,LT.den];apply tF<;>intro h1
 .exact tR trivial
 apply tO<;>intro h2
 .refine tB (Z4f O1.2.1 (SzS.t O2)) fun x1 h3=>?_;apply tO<;>intro h4
  .exact tJ (Zjg ⟨O1,O2⟩)
  exact tB (Z4g) fun x2 h5=>tJ (Zjg ⟨O1,O2⟩)
 exact tB (Z4g) fun x1 h3=>tJ (Zjg ⟨O1,O2⟩)
theorem Zut{E0:Zc}{E1:Za}{E2:Zd}{E3:Bool}{v49:Bool}(h:(Zu E1)/\(Z7 E2)):Tot (Zdm E0 E1 E2 E3 v49).den (Nx Zf3 Zh4 (0,0,0,0,0,0) (fun r=>True)):=by
 obtain⟨O1,O2⟩:=h;dsimp only [Zdm,LT.den];apply tF<;>intro h1
 .exact tR trivial
 refine tB (Zxs) fun x1 h2=>?_;apply tO<;>intro h3
 .exact tJ (Znw ⟨O1,O2⟩)
 exact tB (Zxs) fun x2 h4=>tJ (Znw ⟨O1,O2⟩)
theorem Zuu{v3:Int}{E0:Zc}{E1:Za}{E2:Zd}{E3:Bool}{v30:Bool}(h:(Zu E1)/\(Z7 E2)):Tot (Zbk v3 E0 E1 E2 E3 v30).den (Nx Zf3 Zh4 (0,0,0,0,0,0) (fun r=>True)):=by
 obtain⟨O1,O2⟩:=h;dsimp only [Zbk,LT.den];apply tF<;>intro h1
 .exact tR trivial
 apply tE<;>intro h2
 .apply tN<;>intro h3
  .exact tl19
  apply tE<;>intro h4
  .exact tl19
  exact tl19
 apply tE<;>intro h3
 .exact tl19
 exact tl19
theorem Z17{a0:Zc}{a1:Za}{a2:Int}{a3:Int}{a4:Zd}(oa1:Zu a1)(oa4:Z7 a4):Tot (Ztq a0 a1 a2 a3 a4) (fun r=>True):=by
 apply Tot.rn Zf3 Zh4
 .dsimp only [Zvd,LT.den];refine tB (Zaak a4 oa4) fun x1 h1=>?_;apply tO<;>intro h2
  .exact tR trivial
  apply tN<;>intro h3
  .exact tR trivial
  apply tE<;>intro h4
  .apply tN<;>intro h5
   .exact tl11
   apply tE<;>intro h6
   .exact tl11
   exact tl11
  apply tE<;>intro h5
  .exact tl11
  exact tl11
 intro s hs;cases s with
 | L0 _ _ _ _ _ _=>exact Zuu hs
 | L1 _ _ _ _ _=>exact Zut hs
 | L2 _ _ _ _ _=>exact Znw hs
 | L3 _ _ _ _ _=>exact Zjg hs
 | L4 _ _ _=>exact Zus hs
theorem Zbcm{x:Za}(h:Zu x):x.Line.Subs.length<=4611686018427387904:=by
 have:x.Line.Subs.length*16<=140737488351232:=h.2.1.1;omega
theorem Za9w{s:Zn}{all:List Za}{you src:Int}{f:Zd}(h:Zac s):SzL 8 (fun _=>True) (Zatg s all you src f):=by
 have h1:s.Objects.length*128<=140737488351232:=h.2.1.1;have h2:(Zatg s all you src f).length<=s.Objects.length:=Zauz ..;exact⟨by omega,fun _ _=>trivial⟩
theorem Zapu(a0:Zn)(a1:List Za)(a2 a3:Int)(a4:Zd)(oa0:Zac a0)(oa1:(SzL 176 Zu) a1)(oa4:Z7 a4):Tot (Zzw a0 a1 a2 a3 a4) (fun r=>((SzL 8 (fun _=>True)) r)/\(r=Zatg a0 a1 a2 a3 a4)):=
 ⟨_,Zbbz a0 a1 a2 a3 a4 oa0.2.1.1 fun t ht=>Zbcm (oa1.2 t ht),Za9w oa0,rfl⟩
def Zxt:Zeh->Prop
 | .L0 v0 v1 v12 v13=>((SzL 8 (fun _=>True)) v0)/\((SzL 8 (fun _=>True)) v1)/\(0<=v13)/\(v12=(v0.length:Int))/\(v0.length=v1.length)
def Zno:Zeh->M6
 | .L0 v0 v1 v12 v13=>(1,(v12 - v13).toNat,1000000,0,0,0)
theorem Zmi{a0:List Int}{a1:List Int}(oa0:(SzL 8 (fun _=>True)) a0)(oa1:(SzL 8 (fun _=>True)) a1):Tot (Zp6 a0 a1) (fun r=>True):=by
 apply Tot.rn Zxt Zno
 .dsimp only [Zn0,LT.den];apply tN<;>intro h1
  .exact tR trivial
  exact tL ⟨oa0,oa1,cs⟩ tk68
 rintro ⟨v0,v1,v12,v13⟩ ⟨ov0,ov1,cv13,i0,i1⟩;have lb_v0:=ov0.1;dsimp only [Zip,Znb,LT.den];apply tD<;>intro h1
 .refine Tot.ix fun x1 h2=>Tot.ix fun x2 h3=>?_;apply tN<;>intro h4
  .exact tR trivial
  have q1:=wr (v13+1);exact tL ⟨ov0,ov1,cs⟩ tk68
 exact tR trivial
theorem Zza{a0:Za7}{a1:Za7}(oa0:Zyl a0)(oa1:Zyl a1):Tot (Zq3 a0 a1) (fun r=>True):=by
 apply tZ;dsimp only [Zoy,LT.den];apply tO<;>intro h1
 .exact tR trivial
 refine tB (Zmi oa0.1 oa1.1) fun x1 h2=>?_;apply tO<;>intro h3
 .exact tR trivial
 exact tB (Zmi oa0.2 oa1.2) fun x2 h4=>tR trivial
theorem Zk1{a0:List Bool}(oa0:(SzL 1 (fun _=>True)) a0):Tot (Zf8 a0) (fun r=>((SzL 1 (fun _=>True)) r)/\(r=a0)):=by
 unfold Zf8;split
 .apply tZ;have lb_a0:=oa0.1;dsimp only [Zhu,LT.den];refine Tot.ap fun x1 h1=>?_;have lh1:x1.length=([]:List Bool).length+a0.length:=by rw [h1,List.length_append]
  exact tl89
 apply tZ;dsimp only [Ze1,LT.den];exact tl67
theorem Zk4{a0:List Ze}(oa0:(SzL 640 Zw) a0):Tot (Zck a0) (fun r=>((SzL 640 Zw) r)):=by
 unfold Zck;split
 .apply tZ;have lb_a0:=oa0.1;dsimp only [Zdq,LT.den];refine Tot.ap fun x1 h1=>?_;have lh1:x1.length=([]:List Ze).length+a0.length:=by rw [h1,List.length_append]
  try simp only [List.length_cons,List.length_nil,Nat.zero_add] at lh1
  exact tR (SzL.app (k:=640) h1 lo (fun _ h=>by cases h) oa0.2)
 apply tZ;dsimp only [Zb1,LT.den];exact tR SzL.nil
def Zapv:Zlo->Prop
 | .L0 E0 E1 v18 v19=>(Zu E0)/\(Zu E1)/\(0<=v19)/\(v18=(E0.Abilities.length:Int))
 | .L1 y45000015 E0 E1 v18 v19 v54 v55 v4=>(Zw y45000015)/\(Zu E0)/\(Zu E1)/\(0<=v55)/\(0<=v19)/\(v19 < v18)/\(v18=(E0.Abilities.length:Int))/\(0<=v4)/\(v4 < v18)/\(v19 < v18)/\(v54=(y45000015.Effects.length:Int))
def Zaan:Zlo->M6
 | .L0 E0 E1 v18 v19=>(1,(v18 - v19).toNat,1000000,0,0,0)
 | .L1 y45000015 E0 E1 v18 v19 v54 v55 v4=>(1,(v18 - v19).toNat,1,(v54 - v55).toNat,1000000,0)
theorem Zapw{a0:Za}(oa0:Zu a0):Tot (Zamj a0) (fun r=>(Zu r)):=by
 apply Tot.rn Zapv Zaan
 .dsimp only [Zacv,LT.den];exact tB (Zfu oa0.2.1) fun x1 h1=>tB (Zk4 oa0.2.2) fun x2 h2=>tL ⟨⟨oa0.1,h1.1,h2⟩,⟨SzS.nil,SzL.nil,SzL.nil⟩,cs⟩ tk77
 intro s hs;cases s with
 | L0 E0 E1 v18 v19=>
  obtain⟨O0,O1,cv19,i0⟩:=hs;dsimp only [Ztt,Z9x,LT.den];apply tD<;>intro h1
  .refine Tot.ix fun x1 h2=>?_;have oh2:Zw x1:=O0.2.2.2 x1 h2.1;exact tB (Zbh oh2.2.1) fun x2 h3=>tB (Zhh oh2.2.2.2.1) fun x3 h4=>tB (Zgf oh2.2.2.2.2.1) fun x4 h5=>tL ⟨⟨oh2.1,h3.1,oh2.2.2.1,h4.1,h5.1,oh2.2.2.2.2.2⟩,O0,O1,cs⟩ tk77
  exact tR O0
 | L1 y45000015 E0 E1 v18 v19 v54 v55 v4=>
  obtain⟨oy45000015,O0,O1,cv55,cv19,bd5,i0,i1,i2,i3,i4⟩:=hs;dsimp only [Ztt,Z9y,LT.den];have lq:=oy45000015.2.2.2.2.1.1;have lr:=O0.2.2.1;apply tD<;>intro h1
  .refine Tot.ix fun x1 h2=>?_;have oh2:Z9 x1:=oy45000015.2.2.2.2.1.2 x1 h2.1;refine tB (Zbh oh2.2.2.2.2) fun x2 h3=>tB (Tot.set (by omega) (by omega)) fun x3 h4=>?_;have q1:=wr (v55+1);exact tL ⟨⟨oy45000015.1,oy45000015.2.1,oy45000015.2.2.1,oy45000015.2.2.2.1,⟨lo,fun e he=>(h4.2.1 e he).elim (fun w=>by rw [w];exact⟨oh2.1,oh2.2.1,oh2.2.2.1,oh2.2.2.2.1,h3.1⟩) (oy45000015.2.2.2.2.1.2 e)⟩,oy45000015.2.2.2.2.2⟩,O0,O1,cs⟩ tk77
  refine tB (Tot.set (by omega) (by omega)) fun x1 h2=>?_;have q1:=wr (v19+1);exact tL ⟨⟨O0.1,O0.2.1,⟨lo,fun e he=>(h2.2.1 e he).elim (fun w=>by rw [w];exact oy45000015) (O0.2.2.2 e)⟩⟩,O1,cs⟩ tk77
theorem Ziu{a0:Int}{a1:Int}{a2:Int}:Tot (Za5w a0 a1 a2) (fun r=>True):=by
 apply tZ;dsimp only [Zaw4,LT.den];exact tl31
def Zpc:Zpv->Prop
 | .L0 E0 E1 E2 v8 v9=>(Zv E0)/\(Zv E1)/\(Zv E2)
 | .L1 E0 E1 E2 v8 v19=>(Zv E0)/\(Zv E1)/\(Zv E2)
def Z5w:Zpv->M6
 | .L0 E0 E1 E2 v8 v9=>(0,0,0,0,0,0)
 | .L1 E0 E1 E2 v8 v19=>(0,0,0,0,0,0)
theorem Z4h{E0:Zi}{E1:Zi}{E2:Zi}{v8:Int}{v19:Bool}(h:Zpc (.L1 E0 E1 E2 v8 v19)):Tot (Zq4 E0 E1 E2 v8 v19).den (Nx Zpc Z5w (0,0,0,0,0,0) (fun r=>(Zv r))):=by
 obtain⟨O0,O1,O2⟩:=h;dsimp only [Zq4,LT.den];apply tF<;>intro h1
 .exact tR ⟨O0.1,O2.2⟩
 apply tE<;>intro h2
 .exact tR ⟨O2.1,O0.2⟩
 apply tE<;>intro h3
 .exact tl7
 apply tE<;>intro h4
 .exact tl7
 exact tR O2
theorem Z4i{E0:Zi}{E1:Zi}{E2:Zi}{v8:Int}{v9:Bool}(h:Zpc (.L0 E0 E1 E2 v8 v9)):Tot (Zhn E0 E1 E2 v8 v9).den (Nx Zpc Z5w (0,0,0,0,0,0) (fun r=>(Zv r))):=by
 obtain⟨O0,O1,O2⟩:=h;dsimp only [Zhn,LT.den];apply tF<;>intro h1
 .exact tl7
 apply tE<;>intro h2
 .exact tl20
 exact tl20
theorem Zayl{a0:Zi}(oa0:Zv a0):Tot (Zaw6 a0) (fun r=>(Zv r)):=by
 apply Tot.rn Zpc Z5w
 .dsimp only [Zamk,LT.den];apply tE<;>intro h1
  .exact tl52
  apply tE<;>intro h2
  .exact tl52
  apply tE<;>intro h3
  .exact tl52
  apply tE<;>intro h4
  .exact tl52
  apply tE<;>intro h5
  .exact tl52
  exact tl52
 intro s hs;cases s with
 | L0 _ _ _ _ _=>exact Z4i hs
 | L1 _ _ _ _ _=>exact Z4h hs
def Zz4:Zr3->Prop
 | .L0 E0 v14 v15=>(Zv E0)/\True
 | .L1 E0 v14 v27=>(Zv E0)/\True
 | .L2 E0 v14 v43=>(Zv E0)/\True
def Z4j:Zr3->M6
 | .L0 E0 v14 v15=>(0,0,0,0,0,0)
 | .L1 E0 v14 v27=>(0,0,0,0,0,0)
 | .L2 E0 v14 v43=>(0,0,0,0,0,0)
theorem Zzb{E0:Zi}{v14:Int}{v43:Bool}(h:(Zv E0)/\True):Tot (Zxc E0 v14 v43).den (Nx Zz4 Z4j (0,0,0,0,0,0) (fun r=>True)):=by
 obtain⟨O0,_⟩:=h;dsimp only [Zxc,LT.den];apply tF<;>intro h1
 .exact tB (Ziu) fun x1 h2=>tR trivial
 apply tE<;>intro h2
 .exact tB (Zaak E0.Filter O0.2) fun x1 h3=>tR trivial
 apply tE<;>intro h3
 .refine tB (Ziu) fun x1 h4=>?_;apply tF<;>intro h5
  .exact tB (Ziu) fun x2 h6=>tR trivial
  exact tR trivial
 apply tE<;>intro h4
 .refine tB (Ziu) fun x1 h5=>?_;apply tF<;>intro h6
  .exact tB (Ziu) fun x2 h7=>tR trivial
  exact tR trivial
 exact tR trivial
theorem Zzc{E0:Zi}{v14:Int}{v27:Bool}(h:(Zv E0)/\True):Tot (Zxd E0 v14 v27).den (Nx Zz4 Z4j (0,0,0,0,0,0) (fun r=>True)):=by
 obtain⟨O0,_⟩:=h;dsimp only [Zxd,LT.den];apply tF<;>intro h1
 .exact tB (Z7j (SzS.t O0.1)) fun x1 h2=>tR trivial
 apply tE<;>intro h2
 .exact tB (Ziu) fun x1 h3=>tR trivial
 apply tE<;>intro h3
 .exact tB (Ziu) fun x1 h4=>tR trivial
 apply tE<;>intro h4
 .exact tJ (Zzb ⟨O0,trivial⟩)
 exact tJ (Zzb ⟨O0,trivial⟩)
theorem Zzd{E0:Zi}{v14:Int}{v15:Bool}(h:(Zv E0)/\True):Tot (Zxe E0 v14 v15).den (Nx Zz4 Z4j (0,0,0,0,0,0) (fun r=>True)):=by
 obtain⟨O0,_⟩:=h;dsimp only [Zxe,LT.den];apply tF<;>intro h1
 .refine tB (Ziu) fun x1 h2=>?_;apply tF<;>intro h3
  .exact tR trivial
  exact tR trivial
 apply tE<;>intro h2
 .exact tJ (Zzc ⟨O0,trivial⟩)
 exact tJ (Zzc ⟨O0,trivial⟩)
theorem Za3s{a0:Zi}(oa0:Zv a0):Tot (Za5x a0) (fun r=>True):=by
 apply Tot.rn Zz4 Z4j
 .dsimp only [Zaw7,LT.den];refine tB (Ziu) fun x1 h1=>?_;apply tO<;>intro h2
  .exact tR trivial
  refine tB (Zayl oa0) fun x2 h3=>?_;apply tO<;>intro h4
  .exact tR trivial
  apply tE<;>intro h5
  .exact tJ (Zzd ⟨oa0,trivial⟩)
  exact tJ (Zzd ⟨oa0,trivial⟩)
 intro s hs;cases s with
 | L0 _ _ _=>exact Zzd hs
 | L1 _ _ _=>exact Zzc hs
 | L2 _ _ _=>exact Zzb hs
theorem Z7k{a0:List UInt8}{a1:List UInt8}(oa0:SzT a0)(oa1:SzT a1):Tot (Zzk a0 a1) (fun r=>True):=by
 apply tZ;dsimp only [Zuo,LT.den];exact tR trivial
def Zhz(a0:List (List UInt8))(a1:List UInt8):Zaz->Prop
 | .L0 v0 w1_0 v7 v8=>(v0=a0)/\(w1_0=a1)/\((SzL 16 SzT) v0)/\(SzT w1_0)/\(0<=v8)/\(v7=(v0.length:Int))
def Zd7:Zaz->M6
 | .L0 v0 w1_0 v7 v8=>(1,(v7 - v8).toNat,1000000,0,0,0)
theorem Zh0{a0:List (List UInt8)}{a1:List UInt8}(oa0:(SzL 16 SzT) a0)(oa1:SzT a1):Tot (Zem a0 a1) (fun r=>(-1<=r)/\(r < (a0.length:Int))):=by
 apply Tot.rn (Zhz a0 a1) Zd7
 .dsimp only [Zeb,LT.den];exact tL ⟨rfl,rfl,oa0,oa1,cs⟩ tk45
 rintro ⟨v0,w1_0,v7,v8⟩ ⟨al0,al1,ov0,ow1_0,cv8,i0⟩;have lb_v0:=ov0.1;subst al0;subst al1;dsimp only [Zcc,Zd5,LT.den];apply tD<;>intro h1
 .refine Tot.ix fun x1 h2=>?_;have oh2:SzT x1:=ov0.2 x1 h2.1;refine tB (Z7k oh2 ow1_0) fun x2 h3=>?_;apply tF<;>intro h4
  .exact tR ⟨cl,cl⟩
  have q1:=wr (v8+1);exact tL ⟨rfl,rfl,ov0,ow1_0,cs⟩ tk45
 exact tR ⟨cl,cl⟩
theorem Zfv(b0:List (List UInt8))(a1:Int)(b1:List (List UInt8))(ob0:SzL 16 SzT b0)(ob1:SzL 16 SzT b1)(h0:b0.length<=4096)(h1:0<=a1)(h2:a1<=(b0.length:Int))(h3:b1.length=1) :
 Tot (Zgn b0 a1 b1) (fun r=>(SzL 16 SzT r)/\(r.length=b0.length+1)):=by
 match b1,h3 with
 | [y],_=>
  refine⟨_,Zbdf h1 h2 (by omega),⟨?_,fun e he=>?_⟩,?_⟩
  .exact tl48
  .rcases List.mem_append.1 he with h | h
   .exact ob0.2 e (List.mem_of_mem_take h)
   .rcases List.mem_cons.1 h with h | h
    .rw [h];exact ob1.2 y (by simp)
    .exact ob0.2 e (List.mem_of_mem_drop h)
  .exact tl48
theorem Zank{a0:Zab}{a1:List UInt8}(oa0:Zi1 a0)(oa1:SzT a1):Tot (Zag6 a0 a1) (fun r=>(Zi1 r)):=by
 apply tZ;dsimp only [Z9z,LT.den];refine tB (Zfu oa0) fun x1 h1=>tB (Z7j oa1) fun x2 h2=>?_;apply tO<;>intro h3
 .exact tR h1.1
 refine tB (Z4f h1.1 oa1) fun x3 h4=>?_;apply tF<;>intro h5
 .exact tR h1.1
 apply tD<;>intro h6
 .exact tR h1.1
 refine tB (Zh0 h1.1 oa1) fun x4 h7=>?_;apply tD<;>intro h8
 .exact tB (Zfv x1 (x1.length:Int) [a1] h1.1 (SzL.one oa1) cl cl cl cl) fun x5 h9=>tR h9.1
 exact tB (Zfv x1 x4 [a1] h1.1 (SzL.one oa1) cl cl cl cl) fun x5 h9=>tR h9.1
theorem Zasx{a0:Za}{a1:Zi}{a2:Int}{a3:Int}(oa0:Zu a0)(oa1:Zv a1):Tot (Zacw a0 a1 a2 a3) (fun r=>(Zu r)):=by
 apply tZ;dsimp only [Zag7,LT.den];refine tB (Zapw oa0) fun x1 h1=>tB (Za3s oa1) fun x2 h2=>?_;apply tO<;>intro h3
 .exact tR h1
 apply tE<;>intro h4
 .exact tl5
 apply tE<;>intro h5
 .exact tl5
 apply tE<;>intro h6
 .exact tl5
 apply tE<;>intro h7
 .exact tR ⟨h1.1,SzL.one (SzS.t oa1.1),h1.2.2⟩
 apply tE<;>intro h8
 .exact tB (Zank h1.2.1 (SzS.t oa1.1)) fun x3 h9=>tR ⟨h1.1,h9,h1.2.2⟩
 apply tE<;>intro h9
 .exact tl5
 apply tE<;>intro h10
 .exact tl5
 apply tE<;>intro h11
 .exact tl5
 apply tE<;>intro h12
 .exact tl5
 apply tE<;>intro h13
 .exact tR ⟨h1.1,h1.2.1,SzL.nil⟩
 apply tE<;>intro h14
 .exact tB (Zev) fun x3 h15=>tB (Zev) fun x4 h16=>tR ⟨h1.1,h1.2.1,h1.2.2⟩
 apply tE<;>intro h15
 .exact tl5
 apply tE<;>intro h16
 .exact tB (Zrc) fun x3 h17=>tB (Zrc) fun x4 h18=>tR ⟨h1.1,h1.2.1,h1.2.2⟩
 apply tE<;>intro h17
 .exact tl5
 exact tR h1
abbrev Z86(a0:List Int)(r:List Int):Prop:=((SzL 8 (fun _=>True)) r)/\(r.length<=a0.length)/\(SUB r a0)
def Zaaw(a0:List Int):Zif->Prop
 | .L0 v3 v6 v7 v8=>(v6=a0)/\((SzL 8 (fun _=>True)) v3)/\((SzL 8 (fun _=>True)) v6)/\(0<=v8)/\(v7=(v6.length:Int))/\(v3.length<=v8.toNat)/\(v8<=v7)/\(SUB v3 v6)
def Zxu:Zif->M6
 | .L0 v3 v6 v7 v8=>(1,(v7 - v8).toNat,1000000,0,0,0)
theorem Zaax{a0:List Int}(oa0:(SzL 8 (fun _=>True)) a0):Tot (Ztu a0) (Z86 a0):=by
 apply Tot.rn (Zaaw a0) Zxu
 .have lb_a0:=oa0.1;dsimp only [Zzl,LT.den];exact tL ⟨rfl,SzL.nil,oa0,cl,cl,cl,cl,tk33⟩ tk72
 rintro ⟨v3,v6,v7,v8⟩ ⟨al0,ov3,ov6,cv8,i0,i1,i2,i3⟩;have lb_v3:=ov3.1;have lb_v6:=ov6.1;subst al0;dsimp only [Zqf,Zxf,LT.den];apply tD<;>intro h1
 .refine Tot.ix fun x1 h2=>?_;have mh2:=h2.2;apply tD<;>intro h3
  .refine tB (Zki ov3) fun x2 h4=>?_;apply tO<;>intro h5
   .refine Tot.ap fun x3 h6=>?_;have lh6:=Zc5 h6;have q1:=wr (v8+1);exact tL ⟨rfl,SzL.tr,ov6,cl,cl,cl,cl,tk33⟩ tk72
   exact tl95
  exact tl95
 exact tR ⟨ov3,cl,‹_›⟩
theorem Zzp{a0:List (List Bool)}{a1:Int}{a2:Int}(oa0:(SzL 24 (SzL 1 (fun _=>True))) a0):Tot (Z91 a0 a1 a2) (fun r=>True):=by
 apply tZ;dsimp only [Z3t,LT.den];apply tD<;>intro h1
 .apply tD<;>intro h2
  .apply tD<;>intro h3
   .refine Tot.ix fun x1 h4=>?_;have oh4:(SzL 1 (fun _=>True)) x1:=oa0.2 x1 h4.1;apply tD<;>intro h5
    .exact Tot.ix fun x2 h6=>tR trivial
    exact tR trivial
   exact tR trivial
  exact tR trivial
 exact tR trivial
abbrev Zae9(a0:List Int)(a1:List (List Bool))(r:(List Int)×(List (List Bool))):Prop:=(r.1.length=a0.length)/\(r.2.length=a0.length)/\(RWS a0.length r.2)
def Zajl(a0:List Int)(a1:List (List Bool)):Ze2->Prop
 | .L0 v1 E0 v5 E1 v17 v18=>(E0=a0)/\(v1=a1)/\((SzL 24 (SzL 1 (fun _=>True))) v1)/\((SzL 8 (fun _=>True)) E0)/\((SzL 24 (SzL 1 (fun _=>True))) E1)/\(0<=v18)/\(v5=(E0.length:Int))/\((E1.length:Int)=v5)/\(E0.length<=16448)/\(RWV E0.length E1 v18)/\(v17=v5)
 | .L1 v1 E0 v5 E1 v7 v17 v18 v26 v27=>(E0=a0)/\(v1=a1)/\((SzL 24 (SzL 1 (fun _=>True))) v1)/\((SzL 8 (fun _=>True)) E0)/\((SzL 24 (SzL 1 (fun _=>True))) E1)/\(0<=v27)/\(0<=v18)/\(v18 < v17)/\(v5=(E0.length:Int))/\((E1.length:Int)=v5)/\(E0.length<=16448)/\(RWV E0.length E1 (v18+1))/\(v17=v5)/\(v18 < v17)/\(v7=v18)/\(v26=v5)
 | .L2 E0 v5 E1 v48 v49=>(E0=a0)/\((SzL 8 (fun _=>True)) E0)/\((SzL 24 (SzL 1 (fun _=>True))) E1)/\(0<=v49)/\(v5=(E0.length:Int))/\((E1.length:Int)=v5)/\(E0.length<=16448)/\(RWS E0.length E1)/\(v48=v5)
 | .L3 E0 v5 E1 v9 v48 v49 v52 v53=>(E0=a0)/\((SzL 8 (fun _=>True)) E0)/\((SzL 24 (SzL 1 (fun _=>True))) E1)/\(0<=v53)/\(0<=v49)/\(v49 < v48)/\(v5=(E0.length:Int))/\((E1.length:Int)=v5)/\(E0.length<=16448)/\(RWS E0.length E1)/\(v48=v5)/\(v52=v5)/\(v9=v49)/\(v49 < v48)
 | .L4 E0 v5 E1 v9 v10 v48 v49 v52 v53 v56 v57=>(E0=a0)/\((SzL 8 (fun _=>True)) E0)/\((SzL 24 (SzL 1 (fun _=>True))) E1)/\(0<=v57)/\(0<=v49)/\(0<=v53)/\(v49 < v48)/\(v53 < v52)/\(v5=(E0.length:Int))/\((E1.length:Int)=v5)/\(E0.length<=16448)/\(RWS E0.length E1)/\(v48=v5)/\(v52=v5)/\(v9=v49)/\(v49 < v48)/\(v56=v5)/\(v10=v53)/\(v53 < v52)
def Z4k:Ze2->M6
 | .L0 v1 E0 v5 E1 v17 v18=>(3,(v17 - v18).toNat,1000000,0,0,0)
 | .L1 v1 E0 v5 E1 v7 v17 v18 v26 v27=>(3,(v17 - v18).toNat,1,(v26 - v27).toNat,1000000,0)
 | .L2 E0 v5 E1 v48 v49=>(1,(v48 - v49).toNat,1000000,0,0,0)
 | .L3 E0 v5 E1 v9 v48 v49 v52 v53=>(1,(v48 - v49).toNat,1,(v52 - v53).toNat,1000000,0)
 | .L4 E0 v5 E1 v9 v10 v48 v49 v52 v53 v56 v57=>(1,(v48 - v49).toNat,1,(v52 - v53).toNat,1,(v56 - v57).toNat)
theorem Zajm{a0:List Int}{a1:List (List Bool)}(oa0:(SzL 8 (fun _=>True)) a0)(oa1:(SzL 24 (SzL 1 (fun _=>True))) a1)(h0:a0.length<=16448):Tot (Zacy a0 a1) (Zae9 a0 a1):=by
 apply Tot.rn (Zajl a0 a1) Z4k
 .dsimp only [Z63,LT.den];refine tB (Tot.mk) fun x1 h1=>?_;have lh1:=h1.1;exact tL ⟨rfl,rfl,oa1,oa0,⟨lo,fun e he=>by rw [h1.2 e he];exact SzL.nil⟩,cl,cl,cl,cl,tk2,cl⟩ tk74
 intro s hs;cases s with
 | L0 v1 E0 v5 E1 v17 v18=>
  obtain⟨al0,al1,ov1,O0,O1,cv18,i0,i1,i2,i3,i4⟩:=hs;subst al0;subst al1;dsimp only [Zg9,Z3v,LT.den];apply tD<;>intro h1
  .refine tB (Tot.mk) fun x1 h2=>?_;have lh2:=h2.1;exact Tot.ix fun x2 h3=>tB (Tot.set (by omega) (by omega)) fun x3 h4=>tL ⟨rfl,rfl,ov1,O0,⟨lo,fun e he=>(h4.2.1 e he).elim (fun w=>by rw [w];exact SzL.tr) (O1.2 e)⟩,cl,cl,cl,cl,cl,cl,tk2,cs⟩ tk74
  exact tl99
 | L1 v1 E0 v5 E1 v7 v17 v18 v26 v27=>
  obtain⟨al0,al1,ov1,O0,O1,cv27,cv18,bd7,i0,i1,i2,i3,i4,i5,i6,i7⟩:=hs;subst al0;subst al1;dsimp only [Zg9,Z3w,LT.den];apply tD<;>intro h1
  .refine Tot.ix fun x1 h2=>?_;have oh2:(SzL 1 (fun _=>True)) x1:=O1.2 x1 h2.1;have mh2:=h2.2;(first | have wh2:=Z7b (by assumption:RWS _ E1) mh2 | have wh2:=Zam1 (by assumption:RWV _ E1 _) (by omega) mh2 | skip);have mh2:=h2.2;refine Tot.ix fun x2 h3=>Tot.ix fun x3 h4=>tB (Zzp ov1) fun x4 h5=>Tot.ix fun x5 h6=>tB (Tot.setM) fun x6 h7=>?_;have lh7:x6.length=E1.length:=by rw [h7,List.length_set]
   have q1:=wr (v27+1);exact tL ⟨rfl,rfl,ov1,O0,SzL.setM h7 O1 oh2,cl,cl,cl,cl,cl,cl,tk2,cs⟩ tk74
  have q1:=wr (v18+1);exact tL ⟨rfl,rfl,ov1,O0,O1,cl,cl,cl,cl,tk2,cl⟩ tk74
 | L2 E0 v5 E1 v48 v49=>
  obtain⟨al0,O0,O1,cv49,i0,i1,i2,i3,i4⟩:=hs;subst al0;dsimp only [Zg9,Z3x,LT.den];apply tD<;>intro h1
  .exact Zbaf
  exact tR ⟨cl,cl,‹_›⟩
 | L3 E0 v5 E1 v9 v48 v49 v52 v53=>
  obtain⟨al0,O0,O1,cv53,cv49,bd5,i0,i1,i2,i3,i4,i5,i6,i7⟩:=hs;subst al0;dsimp only [Zg9,Z3y,LT.den];apply tD<;>intro h1
  .exact Zbag
  have q1:=wr (v49+1);exact tl99
 | L4 E0 v5 E1 v9 v10 v48 v49 v52 v53 v56 v57=>
  obtain⟨al0,O0,O1,cv57,cv49,cv53,bd6,bd7,i0,i1,i2,i3,i4,i5,i6,i7,i8,i9,i10⟩:=hs;subst al0;dsimp only [Zg9,Z3z,LT.den];apply tD<;>intro h1
  .refine Tot.ix fun x1 h2=>?_;have oh2:(SzL 1 (fun _=>True)) x1:=O1.2 x1 h2.1;have mh2:=h2.2;(first | have wh2:=Z7b (by assumption:RWS _ E1) mh2 | have wh2:=Zam1 (by assumption:RWV _ E1 _) (by omega) mh2 | skip);have mh2:=h2.2;refine Tot.ix fun x2 h3=>?_;apply tF<;>intro h4
   .refine Tot.ix fun x3 h5=>?_;have mh5:=h5.2;(first | have wh5:=Z7b (by assumption:RWS _ E1) mh5 | have wh5:=Zam1 (by assumption:RWV _ E1 _) (by omega) mh5 | skip);have mh5:=h5.2;refine Tot.ix fun x4 h6=>?_;apply tF<;>intro h7
    .refine Tot.ix fun x5 h8=>?_;have oh8:(SzL 1 (fun _=>True)) x5:=O1.2 x5 h8.1;have mh8:=h8.2;(first | have wh8:=Z7b (by assumption:RWS _ E1) mh8 | have wh8:=Zam1 (by assumption:RWV _ E1 _) (by omega) mh8 | skip);have mh8:=h8.2;refine Tot.ix fun x6 h9=>tB (Tot.setM) fun x7 h10=>?_;have lh10:x7.length=E1.length:=by rw [h10,List.length_set]
     have q1:=wr (v57+1);exact tL ⟨rfl,O0,SzL.setM h10 O1 oh8,cl,cl,cl,cl,cl,cl,cl,cl,tk22,cs⟩ tk74
    exact Zbak
   exact Zbak
  have q1:=wr (v53+1);exact Zbaf
theorem Zze{a0:Int}{a1:Int}{a2:List Int}{a3:List (List Bool)}(oa2:(SzL 8 (fun _=>True)) a2)(oa3:(SzL 24 (SzL 1 (fun _=>True))) a3)(h0:a3.length=a2.length)(h1:RWS a2.length a3):Tot (Zq5 a0 a1 a2 a3) (fun r=>True):=by
 apply tZ;dsimp only [Zo0,LT.den];refine tB (Zhx oa2) fun x1 h1=>tB (Zhx oa2) fun x2 h2=>?_;apply tD<;>intro h3
 .apply tD<;>intro h4
  .refine Tot.ix fun x3 h5=>?_;have mh5:=h5.2;have wh5:=Z7b (by assumption:RWS _ a3) mh5;have mh5:=h5.2;exact Tot.ix fun x4 h6=>tR trivial
  exact tR trivial
 exact tR trivial
theorem Zrf{a0:Int}{b0:Int}{b1:List (List Bool)}{b2:(List Int)×(List (List Bool))}(ob1:(SzL 24 (SzL 1 (fun _=>True))) b1)(h0:b2.1.length<=16448)(h1:b2.2.length=b2.1.length)(h2:RWS b2.1.length b2.2):Tot (Zkw a0 b0 b1 b2) (fun r=>True):=by
 apply tZ;dsimp only [Zjk,LT.den];apply tN<;>intro h1
 .refine tB (Zzp ob1) fun x1 h2=>?_;apply tF<;>intro h3
  .exact tB (Zze szx szx cl ‹_›) fun x2 h4=>tR trivial
  exact tR trivial
 exact tR trivial
abbrev Zjb(a0:List Int)(b0:Int)(b1:List (List Bool))(b2:(List Int)×(List (List Bool)))(r:Int×Int×(List (List Bool))×((List Int)×(List (List Bool)))):Prop:=((SzL 24 (SzL 1 (fun _=>True))) r.2.2.1)/\(r.2=(b0,b1,b2))
def Zji(a0:List Int)(b0:Int)(b1:List (List Bool))(b2:(List Int)×(List (List Bool))):Zbc->Prop
 | .L0 v0 c0 c1 c2 v7 v8=>(v0=a0)/\(c0=b0)/\(c1=b1)/\(c2=b2)/\((SzL 8 (fun _=>True)) v0)/\((SzL 24 (SzL 1 (fun _=>True))) c1)/\(0<=v8)/\(v7=(v0.length:Int))/\(c2.1.length<=16448)/\(c2.2.length=c2.1.length)/\(RWS c2.1.length c2.2)
def Ze9:Zbc->M6
 | .L0 v0 c0 c1 c2 v7 v8=>(1,(v7 - v8).toNat,1000000,0,0,0)
theorem Zjj{a0:List Int}{b0:Int}{b1:List (List Bool)}{b2:(List Int)×(List (List Bool))}(oa0:(SzL 8 (fun _=>True)) a0)(ob1:(SzL 24 (SzL 1 (fun _=>True))) b1)(h0:b2.1.length<=16448)(h1:b2.2.length=b2.1.length)(h2:RWS b2.1.length b2.2):Tot (Zfy a0 b0 b1 b2) (Zjb a0 b0 b1 b2):=by
 apply Tot.rn (Zji a0 b0 b1 b2) Ze9
 .dsimp only [Zfh,LT.den];exact tL ⟨rfl,rfl,rfl,rfl,oa0,ob1,cl,cl,cl,cl,Zi9⟩ tk52
 rintro ⟨v0,c0,c1,c2,v7,v8⟩ ⟨al0,al1,al2,al3,ov0,oc1,cv8,i0,i1,i2,i3⟩;have lb_v0:=ov0.1;subst al0;subst al1;subst al2;subst al3;dsimp only [Zc1,Ze7,LT.den];apply tD<;>intro h1
 .refine Tot.ix fun x1 h2=>tB (Zrf oc1 cl cl Zi9) fun x2 h3=>?_;apply tF<;>intro h4
  .exact tR ⟨oc1,Zks⟩
  have q1:=wr (v8+1);exact tL ⟨rfl,rfl,rfl,rfl,ov0,oc1,cl,cl,cl,cl,Zi9⟩ tk52
 exact tR ⟨oc1,Zks⟩
theorem Ziv{a0:List Int}{b0:Int}{b1:List (List Bool)}{b2:(List Int)×(List (List Bool))}(oa0:(SzL 8 (fun _=>True)) a0)(ob1:(SzL 24 (SzL 1 (fun _=>True))) b1)(h0:b2.1.length<=16448)(h1:b2.2.length=b2.1.length)(h2:RWS b2.1.length b2.2):Tot (Ze8 a0 b0 b1 b2) (fun r=>((SzL 24 (SzL 1 (fun _=>True))) r.2.2.1)/\(r.2=(b0,b1,b2))):=by
 apply tZ;dsimp only [Zep,LT.den];refine tB (Zjj oa0 ob1 cl cl Zi9) fun x1 h1=>?_;have eh1_1:=h1.2;exact tR ⟨h1.1,Zks⟩
abbrev Zafa(a0:List Int)(a1:List (List Bool))(r:List Int):Prop:=((SzL 8 (fun _=>True)) r)/\(r.length<=16448)/\(SUB r a0)
def Zajn(a0:List Int)(a1:List (List Bool)):Zlp->Prop
 | .L0 E0 v5 E1 v7 v16 v17 v18=>((SzL 24 (SzL 1 (fun _=>True))) E0)/\((SzL 8 (fun _=>True)) v5)/\((SzL 8 (fun _=>True)) v7)/\((SzL 8 (fun _=>True)) v16)/\(0<=v18)/\(v5.length<=16448)/\(v17=(v16.length:Int))/\(v16.length<=16448)/\(v7.length<=v18.toNat)/\(v18<=v17)/\(SUB v16 a0)/\(SUB v7 a0)/\(E1.1.length<=16448)/\(E1.2.length=E1.1.length)/\(RWS E1.1.length E1.2)
def Z4l:Zlp->M6
 | .L0 E0 v5 E1 v7 v16 v17 v18=>(1,(v17 - v18).toNat,1000000,0,0,0)
theorem Zajo{a0:List Int}{a1:List (List Bool)}(oa0:(SzL 8 (fun _=>True)) a0)(oa1:(SzL 24 (SzL 1 (fun _=>True))) a1)(h0:a0.length<=16448):Tot (Z1l a0 a1) (Zafa a0 a1):=by
 apply Tot.rn (Zajn a0 a1) Z4l
 .dsimp only [Z64,LT.den];refine tB (Zaax oa0) fun x1 h1=>?_;have eh1_2:=h1.2.2;refine tB (Zajm h1.1 oa1 cl) fun x2 h2=>?_;have eh2_0:=h2.1;have eh2_2:=h2.2.2;have q1:=h1.1.1;exact tL ⟨oa1,h1.1,SzL.nil,h1.1,cl,cl,cl,cl,cl,cl,‹_›,tk21,cl,cl,tk58⟩ tk75
 rintro ⟨E0,v5,E1,v7,v16,v17,v18⟩ ⟨O0,ov5,ov7,ov16,cv18,i0,i1,i2,i3,i4,i5,i6,i7,i8,i9⟩;have lb_v7:=ov7.1;dsimp only [Zvf,Z30,LT.den];apply tD<;>intro h1
 .refine Tot.ix fun x1 h2=>?_;have mh2:=h2.2;refine tB (Ziv ov5 O0 cl cl Zi9) fun x2 h3=>?_;have eh3_1:=h3.2;have mh3:v16[v18.toNat]?=some x2.2.1:=by rw [eh3_1];assumption
  have uh3:x2.2.2.2.1.length<=16448:=by rw [eh3_1];assumption
  have wh3:x2.2.2.2.2.length=x2.2.2.2.1.length:=by rw [eh3_1];assumption
  have zh3:RWS x2.2.2.2.1.length x2.2.2.2.2:=by rw [eh3_1];assumption
  apply tO<;>intro h4
  .refine Tot.ap fun x3 h5=>?_;have lh5:=Zc5 h5;have q1:=wr (v18+1);exact tL ⟨h3.1,ov5,SzL.tr,ov16,cl,cl,cl,cl,cl,cl,‹_›,tk21,cl,cl,tk58⟩ tk75
  have q1:=wr (v18+1);exact tL ⟨h3.1,ov5,ov7,ov16,cl,cl,cl,cl,cl,cl,‹_›,tk21,cl,cl,tk58⟩ tk75
 exact tR ⟨ov7,cl,‹_›⟩
theorem Z18{a0:List Int}{a1:Int}(oa0:(SzL 8 (fun _=>True)) a0)(h0:0<=a1):Tot (Zacz a0 a1) (fun r=>True):=by
 apply tZ;dsimp only [Z65,LT.den];apply tD<;>intro h1
 .exact Tot.ix fun x1 h2=>tR trivial
 exact tR trivial
def Zanl(a0:List Int)(a1:List Int)(a2:List (List Bool)):Znd->Prop
 | .L0 v1 v7 v14 v15 v16=>(v1=a1)/\((SzL 8 (fun _=>True)) v1)/\((SzL 8 (fun _=>True)) v14)/\(0<=v16)/\(POS a0)/\(v15=(v14.length:Int))/\(v14.length<=16448)/\(SUB v14 a0)/\(v7 < 0\/v7∈a0)
def Zvs:Znd->M6
 | .L0 v1 v7 v14 v15 v16=>(1,(v15 - v16).toNat,1000000,0,0,0)
theorem Zanm{a0:List Int}{a1:List Int}{a2:List (List Bool)}(oa0:(SzL 8 (fun _=>True)) a0)(oa1:(SzL 8 (fun _=>True)) a1)(oa2:(SzL 24 (SzL 1 (fun _=>True))) a2)(h0:a0.length<=16448)(h1:POS a0):Tot (Zag9 a0 a1 a2) (fun r=>(r < 0\/r∈a0)):=by
 apply Tot.rn (Zanl a0 a1 a2) Zvs
 .dsimp only [Z92,LT.den];refine tB (Zajo oa0 oa2 cl) fun x1 h1=>?_;have eh1_1:=h1.2.1;have eh1_2:=h1.2.2;exact tL ⟨rfl,oa1,h1.1,cl,‹_›,cl,cl,‹_›,tk47⟩ (by unfold Zvs lt6;dsimp only;omega)
 rintro ⟨v1,v7,v14,v15,v16⟩ ⟨al0,ov1,ov14,cv16,i0,i1,i2,i3,i4⟩;subst al0;dsimp only [Zyc,Z67,LT.den];apply tD<;>intro h1
 .refine Tot.ix fun x1 h2=>?_;have mh2:=h2.2;have zh2:=Zbdy (by assumption:POS a0) (by assumption:SUB v14 a0) mh2;have mh2:=h2.2;apply tD<;>intro h3
  .exact tl98
  refine tB (Z18 ov1 cl) fun x2 h4=>tB (Z18 ov1 cl) fun x3 h5=>?_;apply tD<;>intro h6
  .exact tl98
  apply tE<;>intro h7
  .apply tD<;>intro h8
   .exact tl98
   exact tl98
  exact tl98
 exact tR ‹_›
abbrev Zub(b0:Zj)(r:Zj):Prop:=(Z3 r)/\(r.traits.length=r.s.Objects.length)/\(r.dropped.length=r.s.Objects.length)/\(r.done.length=r.forces.length)/\(r.hits.length=r.forces.length)/\(r.s.Objects.length<=2048)/\(r.forces.length<=16448)/\(HI r.s.Objects.length r.hits)/\(r.s=b0.s)/\(r.forces=b0.forces)/\(HZ r.s.Objects r.hits)/\(KPT b0.s.Objects b0.traits r.traits)
def Zui(b0:Zj):Zdt->Prop
 | .L0 c0 v10 v11 v12=>(Z3 c0)/\((SzL 128 (fun _=>True)) v10)/\(0<=v12)/\(c0.traits.length=c0.s.Objects.length)/\(c0.dropped.length=c0.s.Objects.length)/\(c0.done.length=c0.forces.length)/\(c0.hits.length=c0.forces.length)/\(c0.s.Objects.length<=2048)/\(c0.forces.length<=16448)/\(HI c0.s.Objects.length c0.hits)/\(c0.s=b0.s)/\(c0.forces=b0.forces)/\(v11=(v10.length:Int))/\(v11=(c0.s.Objects.length:Int))/\(HZ c0.s.Objects c0.hits)/\(v10=c0.s.Objects)/\(KPT c0.s.Objects b0.traits c0.traits)
def Zl5:Zdt->M6
 | .L0 c0 v10 v11 v12=>(1,(v11 - v12).toNat,1000000,0,0,0)
theorem Zuj{b0:Zj}(ob0:Z3 b0)(h0:b0.traits.length=b0.s.Objects.length)(h1:b0.dropped.length=b0.s.Objects.length)(h2:b0.done.length=b0.forces.length)(h3:b0.hits.length=b0.forces.length)(h4:b0.s.Objects.length<=2048)(h5:b0.forces.length<=16448)(h6:HI b0.s.Objects.length b0.hits)(h7:HZ b0.s.Objects b0.hits):Tot (Zir b0) (Zub b0):=by
 unfold Zir;refine tX (Inv:=(Zui b0)) (μ:=Zl5) (m:=(1000000,0,0,0,0,0)) ?_ ?_
 .dsimp only [Zmb,LT.den];have q1:=ob0.1.2.1.1;exact tL ⟨ob0,ob0.1.2.1,cl,cl,cl,cl,cl,cl,cl,Zbu,Zek,Zek,cl,cl,Zdh,Zks,tk8⟩ tk62
 .intro s hs;cases s with
  | L0 c0 v10 v11 v12=>
   obtain⟨oc0,ov10,cv12,i0,i1,i2,i3,i4,i5,i6,i7,i8,i9,i10,i11,i12,i13⟩:=hs;have lb_v10:=ov10.1;show Tot (Zha c0 v10 v11 v12).den _;dsimp only [Zha,LT.den];refine tD (fun h1=>?_) (fun h1=>?_)
   .refine tB (tI (by omega) (by omega)) (fun x2 h3=>?_);have mh3:=h3.2;refine tB (tI (by omega) (by omega)) (fun x4 h5=>?_);have oh5:Zu x4:=oc0.2.2.1.2 x4 h5.1;have mh5:=h5.2;have nh5:=oh5.1;have ah5:=oh5.2.1;have bh5:=oh5.2.2;unfold SzS at nh5;have mh5:=h5.2;refine tE (fun h6=>?_) (fun h6=>?_)
    .refine tN (fun h7=>?_) (fun h7=>?_)
     .refine tB (Zae6) (fun x8 h9=>?_);refine tB (Zrc) (fun x10 h11=>?_);refine tB (Zrc) (fun x12 h13=>?_);refine tB (Tot.set (by omega) (by omega)) (fun x14 h15=>?_);have lh15:=h15.1;refine tB (Tot.set2 (by omega) (by omega) (by omega)) (fun x16 h17=>?_);have lh17:=h17.1;refine qw (v12+1) fun q18 q19=>?_;exact tL ⟨⟨oc0.1,oc0.2.1,⟨lo,fun e he=>(h17.2.1 e he).elim (fun w=>by rw [w];exact⟨(by unfold SzS;first | omega | (simp only [List.length_append,List.length_cons,List.length_nil];omega)),szx,szx⟩) ((show SzL 1 Zu _ from ⟨lo,fun e he=>(h15.2.1 e he).elim (fun w=>by rw [w];exact⟨oh5.1,oh5.2.1,oh5.2.2⟩) (oc0.2.2.1.2 e)⟩).2 e)⟩,oc0.2.2.2.1,oc0.2.2.2.2.1,oc0.2.2.2.2.2⟩,ov10,cl,cl,cl,cl,cl,cl,cl,Zbu,Zek,Zek,cl,cl,Zdh,Zks,tk8⟩ tk62
     .refine qw (v12+1) fun q20 q21=>?_;exact Zbau
    .refine qw (v12+1) fun q22 q23=>?_;exact Zbau
   .exact tR ⟨oc0,cl,cl,cl,cl,cl,cl,Zbu,Zek,Zek,Zdh,tk46⟩
def Zss(b0:Zj)(a1:Int)(a2:Int):Zc9->Prop
 | .L0 v1 v2 E1 v18 v19 v20=>(v1=a1)/\(v2=a2)/\(Zbs E1)/\((SzL 176 Zv) v18)/\(0<=v20)/\(b0.traits.length=b0.s.Objects.length)/\(b0.dropped.length=b0.s.Objects.length)/\(b0.done.length=b0.forces.length)/\(b0.hits.length=b0.forces.length)/\(b0.s.Objects.length<=2048)/\(b0.forces.length<=16448)/\(HI b0.s.Objects.length b0.hits)/\(Z3 b0)/\(0<=v1)/\(v1 < (b0.forces.length:Int))/\(v19=(v18.length:Int))
def Zkj:Zc9->M6
 | .L0 v1 v2 E1 v18 v19 v20=>(1,(v19 - v20).toNat,1000000,0,0,0)
theorem Zst{b0:Zj}{a1:Int}{a2:Int}(ob0:Z3 b0)(h0:b0.traits.length=b0.s.Objects.length)(h1:b0.dropped.length=b0.s.Objects.length)(h2:b0.done.length=b0.forces.length)(h3:b0.hits.length=b0.forces.length)(h4:b0.s.Objects.length<=2048)(h5:b0.forces.length<=16448)(h6:HI b0.s.Objects.length b0.hits)(h7:0<=a1)(h8:a1 < (b0.forces.length:Int)):Tot (Zmd b0 a1 a2) (fun r=>True):=by
 apply Tot.rn (Zss b0 a1 a2) Zkj
 .dsimp only [Zkx,LT.den];refine Tot.ix fun x1 h1=>?_;have oh1:Zbs x1:=ob0.2.1.2 x1 h1.1;exact tL ⟨rfl,rfl,oh1,oh1.2.2,cl,cl,cl,cl,cl,cl,cl,Zbu,‹_›,cs⟩ tk59
 rintro ⟨v1,v2,E1,v18,v19,v20⟩ ⟨al0,al1,O1,ov18,cv20,i0,i1,i2,i3,i4,i5,i6,i7,i8,i9,i10⟩;have lb_v18:=ov18.1;subst al0;subst al1;dsimp only [Zgz,Zkc,LT.den];apply tD<;>intro h1
 .refine Tot.ix fun x1 h2=>?_;have oh2:Zv x1:=ov18.2 x1 h2.1;apply tE<;>intro h3
  .refine tB (Zrq) fun x2 h4=>?_;apply tE<;>intro h5
   .refine tB (Zur oh2.2) fun x3 h6=>?_;apply tF<;>intro h7
    .exact tR trivial
    exact Za23
   exact Za23
  exact Za23
 apply tO<;>intro h2
 .refine Tot.ix fun x1 h3=>?_;apply tO<;>intro h4
  .apply tE<;>intro h5
   .exact tR trivial
   exact tB (Zur O1.2.1) fun x2 h6=>tR trivial
  exact tR trivial
 exact tR trivial
theorem Zkk{b0:Zj}{a1:Int}(ob0:Z3 b0)(h0:b0.traits.length=b0.s.Objects.length)(h1:b0.dropped.length=b0.s.Objects.length)(h2:b0.done.length=b0.forces.length)(h3:b0.hits.length=b0.forces.length)(h4:b0.s.Objects.length<=2048)(h5:b0.forces.length<=16448)(h6:HI b0.s.Objects.length b0.hits)(h7:0<=a1)(h8:a1 < (b0.forces.length:Int)):Tot (Zne b0 a1) (fun r=>True):=by
 apply tZ;dsimp only [Zlq,LT.den];refine Tot.ix fun x1 h1=>?_;apply tF<;>intro h2
 .exact tR trivial
 refine Tot.ix fun x2 h3=>?_;apply tF<;>intro h4
 .exact tR trivial
 refine tB (Z4e ob0.1) fun x3 h5=>?_;apply tD<;>intro h6
 .exact tR trivial
 exact Tot.ix fun x4 h7=>tR trivial
theorem Zhy{b0:Zj}{a1:Int}(ob0:Z3 b0)(h0:b0.traits.length=b0.s.Objects.length)(h1:b0.dropped.length=b0.s.Objects.length)(h2:b0.done.length=b0.forces.length)(h3:b0.hits.length=b0.forces.length)(h4:b0.s.Objects.length<=2048)(h5:b0.forces.length<=16448)(h6:HI b0.s.Objects.length b0.hits)(h7:0<=a1)(h8:a1 < (b0.forces.length:Int)):Tot (Zp7 b0 a1) (fun r=>True):=by
 apply tZ;dsimp only [Zn1,LT.den];refine Tot.ix fun x1 h1=>tB (Z4e ob0.1) fun x2 h2=>?_;apply tO<;>intro h3
 .apply tD<;>intro h4
  .exact Tot.ix fun x3 h5=>tR trivial
  exact tR trivial
 exact tR trivial
abbrev Zrg(b0:Zj)(a1:Int)(r:List Int):Prop:=((SzL 8 (fun _=>True)) r)/\(r.length<=b0.s.Objects.length)/\(INR b0.s.Objects.length r)/\(INZ b0.s.Objects r)
def Zr7(b0:Zj)(a1:Int):Zc2->Prop
 | .L0 E1 v6 v7 v42 v43 v44=>(Zbs E1)/\((SzL 8 (fun _=>True)) v7)/\((SzL 128 (fun _=>True)) v42)/\(0<=v44)/\(b0.traits.length=b0.s.Objects.length)/\(b0.dropped.length=b0.s.Objects.length)/\(b0.done.length=b0.forces.length)/\(b0.hits.length=b0.forces.length)/\(b0.s.Objects.length<=2048)/\(b0.forces.length<=16448)/\(HI b0.s.Objects.length b0.hits)/\(Z3 b0)/\(v43=(v42.length:Int))/\(v43=(b0.s.Objects.length:Int))/\(v7.length<=v44.toNat)/\(v44<=v43)/\(INR b0.s.Objects.length v7)/\(HZ b0.s.Objects b0.hits)/\(v42=b0.s.Objects)/\(INZ b0.s.Objects v7)
def Zjp:Zc2->M6
 | .L0 E1 v6 v7 v42 v43 v44=>(1,(v43 - v44).toNat,1000000,0,0,0)
theorem Zjc{b0:Zj}{a1:Int}(ob0:Z3 b0)(h0:b0.traits.length=b0.s.Objects.length)(h1:b0.dropped.length=b0.s.Objects.length)(h2:b0.done.length=b0.forces.length)(h3:b0.hits.length=b0.forces.length)(h4:b0.s.Objects.length<=2048)(h5:b0.forces.length<=16448)(h6:HI b0.s.Objects.length b0.hits)(h7:0<=a1)(h8:a1 < (b0.forces.length:Int))(h9:HZ b0.s.Objects b0.hits):Tot (Zls b0 a1) (Zrg b0 a1):=by
 apply Tot.rn (Zr7 b0 a1) Zjp
 .dsimp only [Zke,LT.den];refine Tot.ix fun x1 h1=>?_;apply tF<;>intro h2
  .refine Tot.ix fun x2 h3=>?_;have oh3:(SzL 8 (fun _=>True)) x2:=ob0.2.2.2.2.2.2 x2 h3.1;have mh3:=h3.2;exact tR ⟨oh3,tk50,tk42,tk48⟩
  refine tB (Zkk ob0 cl cl cl cl cl cl Zbu cl cl) fun x2 h3=>?_;apply tO<;>intro h4
  .exact tR ⟨SzL.nil,tk50,tk42,tk48⟩
  refine Tot.ix fun x3 h5=>?_;have oh5:Zbs x3:=ob0.2.1.2 x3 h5.1;exact tB (Zhy ob0 cl cl cl cl cl cl Zbu cl cl) fun x4 h6=>tL ⟨oh5,SzL.nil,ob0.1.2.1,cl,cl,cl,cl,cl,cl,cl,Zbu,‹_›,cl,cl,cl,cl,tk29,Zdh,Zks,tk17⟩ tk56
 rintro ⟨E1,v6,v7,v42,v43,v44⟩ ⟨O1,ov7,ov42,cv44,i0,i1,i2,i3,i4,i5,i6,i7,i8,i9,i10,i11,i12,i13,i14,i15⟩;have lb_v7:=ov7.1;dsimp only [Zgo,Zjm,LT.den];apply tD<;>intro h1
 .refine Tot.ix fun x1 h2=>?_;have mh2:=h2.2;apply tE<;>intro h3
  .apply tF<;>intro h4
   .refine tB (Zki O1.1) fun x2 h5=>?_;apply tF<;>intro h6
    .refine Tot.ap fun x3 h7=>?_;have lh7:=Zc5 h7;exact Za25
    apply tO<;>intro h7
    .refine Tot.ix fun x3 h8=>?_;have oh8:Zu x3:=(asz:Z3 b0).2.2.1.2 x3 h8.1;refine tB (Z17 oh8 O1.2.1) fun x4 h9=>?_;apply tF<;>intro h10
     .refine Tot.ap fun x5 h11=>?_;have lh11:=Zc5 h11;exact Za25
     exact Zam2
    exact Zam2
   apply tO<;>intro h5
   .refine Tot.ix fun x2 h6=>?_;have oh6:Zu x2:=(asz:Z3 b0).2.2.1.2 x2 h6.1;refine tB (Z17 oh6 O1.2.1) fun x3 h7=>?_;apply tF<;>intro h8
    .refine Tot.ap fun x4 h9=>?_;have lh9:=Zc5 h9;exact Za25
    exact Zam2
   exact Zam2
  exact Zam2
 exact tR ⟨ov7,tk50,tk42,tk48⟩
def Zsu(b0:Zj)(a1:Int)(a2:Int):Zda->Prop
 | .L0 v1 v2 E1 v8 v23 v24 v25=>(v1=a1)/\(v2=a2)/\(Zbs E1)/\((SzL 8 (fun _=>True)) v8)/\((SzL 176 Zv) v23)/\(0<=v25)/\(b0.traits.length=b0.s.Objects.length)/\(b0.dropped.length=b0.s.Objects.length)/\(b0.done.length=b0.forces.length)/\(b0.hits.length=b0.forces.length)/\(b0.s.Objects.length<=2048)/\(b0.forces.length<=16448)/\(HI b0.s.Objects.length b0.hits)/\(Z3 b0)/\(0<=v1)/\(v1 < (b0.forces.length:Int))/\(v24=(v23.length:Int))/\(v24=(v8.length:Int))/\(v24=(E1.Mods.length:Int))/\(b0.forces[v1.toNat]?=some E1)
def Zkl:Zda->M6
 | .L0 v1 v2 E1 v8 v23 v24 v25=>(1,(v24 - v25).toNat,1000000,0,0,0)
theorem Zjq{b0:Zj}{a1:Int}{a2:Int}(ob0:Z3 b0)(h0:b0.traits.length=b0.s.Objects.length)(h1:b0.dropped.length=b0.s.Objects.length)(h2:b0.done.length=b0.forces.length)(h3:b0.hits.length=b0.forces.length)(h4:b0.s.Objects.length<=2048)(h5:b0.forces.length<=16448)(h6:HI b0.s.Objects.length b0.hits)(h7:0<=a1)(h8:a1 < (b0.forces.length:Int)):Tot (Zme b0 a1 a2) (fun r=>((SzL 8 (fun _=>True)) r)/\(ML b0.forces a1 r)):=by
 apply Tot.rn (Zsu b0 a1 a2) Zkl
 .dsimp only [Zky,LT.den];refine Tot.ix fun x1 h1=>?_;have oh1:Zbs x1:=ob0.2.1.2 x1 h1.1;have mh1:=h1.2;have q1:=oh1.2.2.1;exact tB (Tot.mk) fun x2 h2=>tL ⟨rfl,rfl,oh1,SzL.tr,oh1.2.2,cl,cl,cl,cl,cl,cl,cl,Zbu,‹_›,cl,cl,cl,cl,cl,‹_›⟩ tk60
 rintro ⟨v1,v2,E1,v8,v23,v24,v25⟩ ⟨al0,al1,O1,ov8,ov23,cv25,i0,i1,i2,i3,i4,i5,i6,i7,i8,i9,i10,i11,i12,i13⟩;have lb_v8:=ov8.1;have lb_v23:=ov23.1;subst al0;subst al1;dsimp only [Zg0,Zkf,LT.den];apply tD<;>intro h1
 .refine Tot.ix fun x1 h2=>?_;have oh2:Zv x1:=ov23.2 x1 h2.1;apply tE<;>intro h3
  .refine tB (Zrq) fun x2 h4=>?_;apply tE<;>intro h5
   .refine tB (Zhy (asz:Z3 b0) cl cl cl cl cl cl Zbu cl cl) fun x3 h6=>tB (Zapu b0.s b0.traits x3 E1.Source x1.Filter (asz:Z3 b0).1 (asz:Z3 b0).2.2.1 oh2.2) fun x4 h7=>Tot.ix fun x5 h8=>tB (Tot.set (by omega) (by omega)) fun x6 h9=>?_;have q1:=wr (v25+1);exact tL ⟨rfl,rfl,O1,SzL.tr,ov23,cl,cl,cl,cl,cl,cl,cl,Zbu,‹_›,cl,cl,cl,cl,cl,‹_›⟩ tk60
   exact Zbam
  exact Zbam
 exact tR ⟨ov8,(by exact ml_i ‹_› (by omega))⟩
theorem Zl6{b0:Zj}{a1:Int}{a2:Int}(ob0:Z3 b0)(h0:b0.traits.length=b0.s.Objects.length)(h1:b0.dropped.length=b0.s.Objects.length)(h2:b0.done.length=b0.forces.length)(h3:b0.hits.length=b0.forces.length)(h4:b0.s.Objects.length<=2048)(h5:b0.forces.length<=16448)(h6:HI b0.s.Objects.length b0.hits)(h7:0<=a1)(h8:a1 < (b0.forces.length:Int))(h9:HZ b0.s.Objects b0.hits):Tot (Zo2 b0 a1 a2) (fun r=>(Zyl r)):=by
 apply tZ;dsimp only [Znf,LT.den];exact tB (Zkk ob0 cl cl cl cl cl cl Zbu cl cl) fun x1 h1=>tB (Zjc ob0 cl cl cl cl cl cl Zbu cl cl Zdh) fun x2 h2=>tB (Zjq ob0 cl cl cl cl cl cl Zbu cl cl) fun x3 h3=>tR ⟨h2.1,h3.1⟩
theorem Zuc{b0:Zj}(ob0:Z3 b0):Tot (Znh b0) (fun r=>(Z3 r)/\(r=b0)):=by
 apply tZ;dsimp only [Zlu,LT.den];have q1:=ob0.2.2.1.1;refine tB (tA (by first | omega | (simp only [List.length_nil];omega)) (by decide)) fun x1 h1=>tB (Zk1 ob0.2.2.2.1) fun x2 h2=>?_;have eh2_1:=h2.2;refine tB (Zk1 ob0.2.2.2.2.1) fun x3 h3=>?_;have eh3_1:=h3.2;have q2:=ob0.2.2.2.2.2.1;exact tB (tA (by first | omega | (simp only [List.length_nil];omega)) (by decide)) fun x4 h4=>tR ⟨⟨ob0.1,ob0.2.1,ob0.2.2.1,h2.1,h3.1,ob0.2.2.2.2.2⟩,tk80⟩
abbrev Zud(b0:Zj)(a1:Int)(a2:Int)(r:Zj):Prop:=(Z3 r)/\(r.traits.length=r.s.Objects.length)/\(r.dropped.length=r.s.Objects.length)/\(r.done.length=r.forces.length)/\(r.hits.length=r.forces.length)/\(r.s.Objects.length<=2048)/\(r.forces.length<=16448)/\(HI r.s.Objects.length r.hits)/\(r.s=b0.s)/\(r.forces=b0.forces)/\(HZ r.s.Objects r.hits)/\(KPT b0.s.Objects b0.traits r.traits)
def Zuk(b0:Zj)(a1:Int)(a2:Int):Zcm->Prop
 | .L0 c0 v1 v2 v6 v7 v8 v23 v24 v25=>(v1=a1)/\(v2=a2)/\(Z3 c0)/\((SzL 8 (fun _=>True)) v6)/\((SzL 8 (fun _=>True)) v7)/\((SzL 8 (fun _=>True)) v23)/\(0<=v25)/\(c0.traits.length=c0.s.Objects.length)/\(c0.dropped.length=c0.s.Objects.length)/\(c0.done.length=c0.forces.length)/\(c0.hits.length=c0.forces.length)/\(c0.s.Objects.length<=2048)/\(c0.forces.length<=16448)/\(HI c0.s.Objects.length c0.hits)/\(c0.s=b0.s)/\(c0.forces=b0.forces)/\(0<=v1)/\(v1 < (c0.forces.length:Int))/\(v6.length<=c0.s.Objects.length)/\(INR c0.s.Objects.length v6)/\(ML c0.forces v1 v7)/\(v24=(v23.length:Int))/\(INR c0.s.Objects.length v23)/\(HZ c0.s.Objects c0.hits)/\(INZ c0.s.Objects v6)/\(INZ c0.s.Objects v23)/\(KPT c0.s.Objects b0.traits c0.traits)
 | .L1 c0 v1 v2 v6 v7 v8 v10 v23 v24 v25 v36 v37 v38=>(v1=a1)/\(v2=a2)/\(Z3 c0)/\((SzL 8 (fun _=>True)) v6)/\((SzL 8 (fun _=>True)) v7)/\((SzL 8 (fun _=>True)) v23)/\((SzL 176 Zv) v36)/\(0<=v38)/\(0<=v25)/\(v25 < v24)/\(c0.traits.length=c0.s.Objects.length)/\(c0.dropped.length=c0.s.Objects.length)/\(c0.done.length=c0.forces.length)/\(c0.hits.length=c0.forces.length)/\(c0.s.Objects.length<=2048)/\(c0.forces.length<=16448)/\(HI c0.s.Objects.length c0.hits)/\(c0.s=b0.s)/\(c0.forces=b0.forces)/\(0<=v1)/\(v1 < (c0.forces.length:Int))/\(v6.length<=c0.s.Objects.length)/\(INR c0.s.Objects.length v6)/\(ML c0.forces v1 v7)/\(v24=(v23.length:Int))/\(INR c0.s.Objects.length v23)/\(0<=v10)/\(v10 < (c0.s.Objects.length:Int))/\(v37=(v36.length:Int))/\(v37=(v7.length:Int))/\(HZ c0.s.Objects c0.hits)/\(INZ c0.s.Objects v6)/\(INZ c0.s.Objects v23)/\(KPT c0.s.Objects b0.traits c0.traits)/\(ZB c0.s.Objects v10)
def Zl7:Zcm->M6
 | .L0 c0 v1 v2 v6 v7 v8 v23 v24 v25=>(1,(v24 - v25).toNat,1000000,0,0,0)
 | .L1 c0 v1 v2 v6 v7 v8 v10 v23 v24 v25 v36 v37 v38=>(1,(v24 - v25).toNat,1,(v37 - v38).toNat,1000000,0)
theorem Zk2{b0:Zj}{a1:Int}{a2:Int}(ob0:Z3 b0)(h0:b0.traits.length=b0.s.Objects.length)(h1:b0.dropped.length=b0.s.Objects.length)(h2:b0.done.length=b0.forces.length)(h3:b0.hits.length=b0.forces.length)(h4:b0.s.Objects.length<=2048)(h5:b0.forces.length<=16448)(h6:HI b0.s.Objects.length b0.hits)(h7:0<=a1)(h8:a1 < (b0.forces.length:Int))(h9:HZ b0.s.Objects b0.hits):Tot (Zn3 b0 a1 a2) (Zud b0 a1 a2):=by
 apply Tot.rn (Zuk b0 a1 a2) Zl7
 .dsimp only [Zmf,LT.den];refine tB (Zjc ob0 cl cl cl cl cl cl Zbu cl cl Zdh) fun x1 h1=>?_;have eh1_1:=h1.2.1;have eh1_2:=h1.2.2.1;have eh1_3:=h1.2.2.2;refine tB (Zjq ob0 cl cl cl cl cl cl Zbu cl cl) fun x2 h2=>?_;have eh2_1:=h2.2;refine tB (Zhy ob0 cl cl cl cl cl cl Zbu cl cl) fun x3 h3=>?_;have q1:=h1.1.1;exact tL ⟨rfl,rfl,ob0,h1.1,h2.1,h1.1,cl,cl,cl,cl,cl,cl,cl,Zbu,Zek,Zek,cl,cl,cl,Zi9,Zi9,cl,Zi9,Zdh,‹_›,‹_›,tk8⟩ tk63
 intro s hs;cases s with
 | L0 c0 v1 v2 v6 v7 v8 v23 v24 v25=>
  obtain⟨al0,al1,oc0,ov6,ov7,ov23,cv25,i0,i1,i2,i3,i4,i5,i6,i7,i8,i9,i10,i11,i12,i13,i14,i15,i16,i17,i18,i19⟩:=hs;have lb_v7:=ov7.1;have lb_v23:=ov23.1;subst al0;subst al1;dsimp only [Zfi,Zlw,LT.den];apply tD<;>intro h1
  .refine Tot.ix fun x1 h2=>?_;have mh2:=h2.2;have zh2:=Zam0 (by assumption:INR _ v23) mh2;have yh2:=Zbd7 (by assumption:INZ _ v23) mh2;have mh2:=h2.2;refine Tot.ix fun x2 h3=>?_;have oh3:Zbs x2:=oc0.2.1.2 x2 h3.1;have mh3:=h3.2;have q1:=oh3.2.2.1;exact tL ⟨rfl,rfl,oc0,ov6,ov7,ov23,oh3.2.2,cl,cl,cl,cl,cl,cl,cl,cl,cl,Zbu,Zek,Zek,cl,cl,cl,Zi9,Zi9,cl,Zi9,cl,cl,cl,tk51,Zdh,‹_›,‹_›,tk8,‹_›⟩ tk63
  exact Tot.ix fun x1 h2=>tB (Tot.set (by omega) (by omega)) fun x2 h3=>Tot.ix fun x3 h4=>tB (Tot.set (by omega) (by omega)) fun x4 h5=>tR ⟨⟨oc0.1,oc0.2.1,oc0.2.2.1,oc0.2.2.2.1,SzL.tr,⟨lo,fun e he=>(h5.2.1 e he).elim (fun w=>by rw [w];exact ov6) (oc0.2.2.2.2.2.2 e)⟩⟩,cl,cl,cl,cl,cl,cl,(by first | assumption | exact Za6c | exact Zbab (by assumption:(_:Int)=_/\∀ y:List Int,y∈_->y=[]).2 | exact Zbdv ‹_› ‹_› ‹_› (by assumption:_/\(∀ e:List Int,e∈_->e=_\/e∈_)/\_).2.1),Zek,Zek,(by first | assumption | exact Za6h | exact Zbad (by assumption:(_:Int)=_/\∀ y:List Int,y∈_->y=[]).2 | exact Zbae ‹_› (by rw [(by assumption:_=_)]) | exact Zbd8 ‹_› ‹_› ‹_›),tk46⟩
 | L1 c0 v1 v2 v6 v7 v8 v10 v23 v24 v25 v36 v37 v38=>
  obtain⟨al0,al1,oc0,ov6,ov7,ov23,ov36,cv38,cv25,bd9,i0,i1,i2,i3,i4,i5,i6,i7,i8,i9,i10,i11,i12,i13,i14,i15,i16,i17,i18,i19,i20,i21,i22,i23,i24⟩:=hs;have lb_v7:=ov7.1;have lb_v23:=ov23.1;have lb_v36:=ov36.1;subst al0;subst al1;dsimp only [Zfi,Zlx,LT.den];apply tD<;>intro h1
  .refine Tot.ix fun x1 h2=>?_;have oh2:Zv x1:=ov36.2 x1 h2.1;have mh2:=h2.2;refine tB (Zrq) fun x2 h3=>?_;apply tN<;>intro h4
   .have q1:=wr (v38+1);exact tL ⟨rfl,rfl,oc0,ov6,ov7,ov23,ov36,cl,cl,cl,cl,cl,cl,cl,cl,cl,Zbu,Zek,Zek,cl,cl,cl,Zi9,Zi9,cl,Zi9,cl,cl,cl,tk51,Zdh,‹_›,‹_›,tk8,‹_›⟩ tk63
   refine Tot.ix fun x3 h5=>?_;have oh5:Zu x3:=oc0.2.2.1.2 x3 h5.1;refine Tot.ix fun x4 h6=>tB (Zasx oh5 oh2) fun x5 h7=>tB (Tot.set (by omega) (by omega)) fun x6 h8=>?_;apply tE<;>intro h9
   .refine Tot.ix fun x7 h10=>tB (Tot.set (by omega) (by omega)) fun x8 h11=>?_;have q1:=wr (v38+1);exact tL ⟨rfl,rfl,⟨oc0.1,oc0.2.1,⟨lo,fun e he=>(h8.2.1 e he).elim (fun w=>by rw [w];exact h7) (oc0.2.2.1.2 e)⟩,SzL.tr,oc0.2.2.2.2.1,oc0.2.2.2.2.2⟩,ov6,ov7,ov23,ov36,cl,cl,cl,cl,cl,cl,cl,cl,cl,Zbu,Zek,Zek,cl,cl,cl,Zi9,Zi9,cl,Zi9,cl,cl,cl,tk51,Zdh,‹_›,‹_›,tk8,‹_›⟩ tk63
   have q1:=wr (v38+1);exact tL ⟨rfl,rfl,⟨oc0.1,oc0.2.1,⟨lo,fun e he=>(h8.2.1 e he).elim (fun w=>by rw [w];exact h7) (oc0.2.2.1.2 e)⟩,oc0.2.2.2.1,oc0.2.2.2.2.1,oc0.2.2.2.2.2⟩,ov6,ov7,ov23,ov36,cl,cl,cl,cl,cl,cl,cl,cl,cl,Zbu,Zek,Zek,cl,cl,cl,Zi9,Zi9,cl,Zi9,cl,cl,cl,tk51,Zdh,‹_›,‹_›,tk8,‹_›⟩ tk63
  have q1:=wr (v25+1);exact tL ⟨rfl,rfl,oc0,ov6,ov7,ov23,cl,cl,cl,cl,cl,cl,cl,Zbu,Zek,Zek,cl,cl,cl,Zi9,Zi9,cl,Zi9,Zdh,‹_›,‹_›,tk8⟩ tk63
def Zp2(b0:Zj)(a1:List Int)(a2:Int):Za3->Prop
 | .L0 v2 v7 v27 v28=>(v2=a2)/\((SzL 24 (SzL 1 (fun _=>True))) v7)/\(0<=v28)/\(b0.traits.length=b0.s.Objects.length)/\(b0.dropped.length=b0.s.Objects.length)/\(b0.done.length=b0.forces.length)/\(b0.hits.length=b0.forces.length)/\(b0.s.Objects.length<=2048)/\(b0.forces.length<=16448)/\(HI b0.s.Objects.length b0.hits)/\(Z3 b0)/\(v27=(v7.length:Int))/\(RWV b0.forces.length v7 v28)/\(INR b0.forces.length a1)/\(a1.length<=16448)/\(v7.length=b0.forces.length)/\(HZ b0.s.Objects b0.hits)
 | .L1 v2 v7 v9 v43 v44=>(v2=a2)/\((SzL 24 (SzL 1 (fun _=>True))) v7)/\(0<=v44)/\(b0.traits.length=b0.s.Objects.length)/\(b0.dropped.length=b0.s.Objects.length)/\(b0.done.length=b0.forces.length)/\(b0.hits.length=b0.forces.length)/\(b0.s.Objects.length<=2048)/\(b0.forces.length<=16448)/\(HI b0.s.Objects.length b0.hits)/\(Z3 b0)/\(v7.length=b0.forces.length)/\(MSZ v9)/\(RWS b0.forces.length v7)/\(v43=(a1.length:Int))/\(INR b0.forces.length a1)/\(HZ b0.s.Objects b0.hits)
 | .L2 v2 v7 v9 v69 v70=>(v2=a2)/\((SzL 24 (SzL 1 (fun _=>True))) v7)/\(0<=v70)/\(b0.traits.length=b0.s.Objects.length)/\(b0.dropped.length=b0.s.Objects.length)/\(b0.done.length=b0.forces.length)/\(b0.hits.length=b0.forces.length)/\(b0.s.Objects.length<=2048)/\(b0.forces.length<=16448)/\(HI b0.s.Objects.length b0.hits)/\(Z3 b0)/\(v7.length=b0.forces.length)/\(MSZ v9)/\(RWS b0.forces.length v7)/\(v69=(a1.length:Int))/\(INR b0.forces.length a1)/\(HZ b0.s.Objects b0.hits)
 | .L3 v2 v7 v9 v14 E1 v69 v70 v81 v82=>(v2=a2)/\((SzL 24 (SzL 1 (fun _=>True))) v7)/\(Z3 E1)/\(0<=v82)/\(0<=v70)/\(v70 < v69)/\(b0.traits.length=b0.s.Objects.length)/\(b0.dropped.length=b0.s.Objects.length)/\(b0.done.length=b0.forces.length)/\(b0.hits.length=b0.forces.length)/\(b0.s.Objects.length<=2048)/\(b0.forces.length<=16448)/\(HI b0.s.Objects.length b0.hits)/\(Z3 b0)/\(v7.length=b0.forces.length)/\(MSZ v9)/\(RWS b0.forces.length v7)/\(v69=(a1.length:Int))/\(v81=(a1.length:Int))/\(INR b0.forces.length a1)/\(0<=v14)/\(v14 < (b0.forces.length:Int))/\(E1.forces.length=b0.forces.length)/\(E1.traits.length=E1.s.Objects.length)/\(E1.dropped.length=E1.s.Objects.length)/\(E1.done.length=E1.forces.length)/\(E1.hits.length=E1.forces.length)/\(E1.s.Objects.length<=2048)/\(E1.forces.length<=16448)/\(HI E1.s.Objects.length E1.hits)/\(HZ b0.s.Objects b0.hits)/\(HZ E1.s.Objects E1.hits)
def Zik:Za3->M6
 | .L0 v2 v7 v27 v28=>(5,(v27 - v28).toNat,1000000,0,0,0)
 | .L1 v2 v7 v9 v43 v44=>(3,(v43 - v44).toNat,1000000,0,0,0)
 | .L2 v2 v7 v9 v69 v70=>(1,(v69 - v70).toNat,1000000,0,0,0)
 | .L3 v2 v7 v9 v14 E1 v69 v70 v81 v82=>(1,(v69 - v70).toNat,1,(v81 - v82).toNat,1000000,0)
theorem Zp3{b0:Zj}{a1:List Int}{a2:Int}(ob0:Z3 b0)(oa1:(SzL 8 (fun _=>True)) a1)(h0:b0.traits.length=b0.s.Objects.length)(h1:b0.dropped.length=b0.s.Objects.length)(h2:b0.done.length=b0.forces.length)(h3:b0.hits.length=b0.forces.length)(h4:b0.s.Objects.length<=2048)(h5:b0.forces.length<=16448)(h6:HI b0.s.Objects.length b0.hits)(h7:a1.length<=16448)(h8:INR b0.forces.length a1)(h9:HZ b0.s.Objects b0.hits):Tot (Zjo b0 a1 a2) (fun r=>((SzL 24 (SzL 1 (fun _=>True))) r)):=by
 apply Tot.rn (Zp2 b0 a1 a2) Zik
 .dsimp only [Zi0,LT.den];exact tB (Tot.mk) fun x1 h1=>tL ⟨rfl,⟨lo,fun e he=>by rw [h1.2 e he];exact SzL.nil⟩,cl,cl,cl,cl,cl,cl,cl,Zbu,‹_›,cl,tk27,‹_›,cl,cl,Zdh⟩ tk54
 intro s hs;cases s with
 | L0 v2 v7 v27 v28=>
  obtain⟨al0,ov7,cv28,i0,i1,i2,i3,i4,i5,i6,i7,i8,i9,i10,i11,i12,i13⟩:=hs;subst al0;dsimp only [Zbp,Zig,LT.den];apply tD<;>intro h1
  .refine tB (Tot.mk) fun x1 h2=>Tot.ix fun x2 h3=>tB (Tot.set (by omega) (by omega)) fun x3 h4=>?_;have q1:=wr (v28+1);exact tL ⟨rfl,⟨lo,fun e he=>(h4.2.1 e he).elim (fun w=>by rw [w];exact SzL.tr) (ov7.2 e)⟩,cl,cl,cl,cl,cl,cl,cl,Zbu,‹_›,cl,tk27,‹_›,cl,cl,Zdh⟩ tk54
  exact Zati
 | L1 v2 v7 v9 v43 v44=>
  obtain⟨al0,ov7,cv44,i0,i1,i2,i3,i4,i5,i6,i7,i8,i9,i10,i11,i12,i13⟩:=hs;subst al0;dsimp only [Zbp,Zih,LT.den];apply tD<;>intro h1
  .refine Tot.ix fun x1 h2=>?_;have mh2:=h2.2;have zh2:=Zam0 (by assumption:INR b0.forces.length a1) mh2;have mh2:=h2.2;refine tB (Zst (asz:Z3 b0) cl cl cl cl cl cl Zbu cl cl) fun x2 h3=>?_;apply tF<;>intro h4
   .refine tB (Zl6 (asz:Z3 b0) cl cl cl cl cl cl Zbu cl cl Zdh) fun x3 h5=>tB (Tot.lk) fun x4 h6=>?_;exact Zbat
   exact Zbat
  apply tE<;>intro h2
  .exact tR ov7
  apply tD<;>intro h3
  .exact tR ov7
  exact Zati
 | L2 v2 v7 v9 v69 v70=>
  obtain⟨al0,ov7,cv70,i0,i1,i2,i3,i4,i5,i6,i7,i8,i9,i10,i11,i12,i13⟩:=hs;subst al0;dsimp only [Zbp,Zii,LT.den];apply tD<;>intro h1
  .refine Tot.ix fun x1 h2=>?_;have mh2:=h2.2;have zh2:=Zam0 (by assumption:INR b0.forces.length a1) mh2;have mh2:=h2.2;refine tB (Zuc (asz:Z3 b0)) fun x2 h3=>?_;have eh3_1:=h3.2;have uh3_0:x2.traits.length=x2.s.Objects.length:=by rw [eh3_1];assumption
   have uh3_1:x2.dropped.length=x2.s.Objects.length:=by rw [eh3_1];assumption
   have uh3_2:x2.done.length=x2.forces.length:=by rw [eh3_1];assumption
   have uh3_3:x2.hits.length=x2.forces.length:=by rw [eh3_1];assumption
   have uh3_4:x2.s.Objects.length<=2048:=by rw [eh3_1];assumption
   have uh3_5:x2.forces.length<=16448:=by rw [eh3_1];assumption
   have uh3_6:HI x2.s.Objects.length x2.hits:=by rw [eh3_1];assumption
   have uh5_f:x2.forces.length=b0.forces.length:=by rw [eh3_1]
   have uh5_z:HZ x2.s.Objects x2.hits:=by rw [eh3_1];assumption
   refine tB (Zk2 h3.1 cl cl cl cl cl cl Zbu cl cl Zdh) fun x3 h4=>?_;have eh4_1:=h4.2.1;have eh4_2:=h4.2.2.1;have eh4_3:=h4.2.2.2.1;have eh4_4:=h4.2.2.2.2.1;have eh4_5:=h4.2.2.2.2.2.1;have eh4_6:=h4.2.2.2.2.2.2.1;have eh4_7:=h4.2.2.2.2.2.2.2.1;have eh4_10:=h4.2.2.2.2.2.2.2.2.2.2.1;exact tL ⟨rfl,ov7,h4.1,cl,cl,cl,cl,cl,cl,cl,cl,cl,Zbu,‹_›,cl,tk34,tk22,cl,cl,‹_›,cl,cl,Znu,cl,cl,cl,cl,cl,cl,Zbu,Zdh,Zdh⟩ tk54
  exact tR ov7
 | L3 v2 v7 v9 v14 E1 v69 v70 v81 v82=>
  obtain⟨al0,ov7,O1,cv82,cv70,bd5,i0,i1,i2,i3,i4,i5,i6,i7,i8,i9,i10,i11,i12,i13,i14,i15,i16,i17,i18,i19,i20,i21,i22,i23,i24,i25⟩:=hs;subst al0;dsimp only [Zbp,Zij,LT.den];apply tD<;>intro h1
  .refine Tot.ix fun x1 h2=>?_;have mh2:=h2.2;have zh2:=Zam0 (by assumption:INR b0.forces.length a1) mh2;have mh2:=h2.2;refine tB (Tot.lk) fun x2 h3=>?_;apply tF<;>intro h4
   .apply tN<;>intro h5
    .refine Tot.ix fun x3 h6=>?_;have oh6:(SzL 1 (fun _=>True)) x3:=ov7.2 x3 h6.1;have mh6:=h6.2;(first | have wh6:=Z7b (by assumption:RWS _ v7) mh6 | skip);have mh6:=h6.2;refine tB (Zl6 O1 cl cl cl cl cl cl Zbu cl cl Zdh) fun x4 h7=>tB (Zza szx h7) fun x5 h8=>Tot.ix fun x6 h9=>tB (Tot.setM) fun x7 h10=>?_;have lh10:x7.length=v7.length:=by rw [h10,List.length_set]
     have q1:=wr (v82+1);exact tL ⟨rfl,SzL.setM h10 ov7 oh6,O1,cl,cl,cl,cl,cl,cl,cl,cl,cl,Zbu,‹_›,cl,tk34,tk22,cl,cl,‹_›,cl,cl,Znu,cl,cl,cl,cl,cl,cl,Zbu,Zdh,Zdh⟩ tk54
    exact Zbav
   exact Zbav
  have q1:=wr (v70+1);exact Zati
theorem Zkm{a0:Int}{a1:Int}:Tot (Zni a0 a1) (fun r=>(r = !neI a1 a0)):=by
 apply tZ;dsimp only [Zly,LT.den];exact tR (by simp [neI])
def Zhe(a0:List Int)(a1:Int):Zav->Prop
 | .L0 v0 w1_0 v7 v8=>(v0=a0)/\(w1_0=a1)/\((SzL 8 (fun _=>True)) v0)/\(0<=v8)/\(v7=(v0.length:Int))/\(∀ (k:Nat) x,(k:Int) < v8->v0[k]?=some x->neI w1_0 x=true)
def Zdp:Zav->M6
 | .L0 v0 w1_0 v7 v8=>(1,(v7 - v8).toNat,1000000,0,0,0)
theorem Zhf{a0:List Int}{a1:Int}(oa0:(SzL 8 (fun _=>True)) a0):Tot (Zd6 a0 a1) (fun r=>(FD a0 (neI a1) r)):=by
 apply Tot.rn (Zhe a0 a1) Zdp
 .dsimp only [Zdu,LT.den];exact tL ⟨rfl,rfl,oa0,cl,cl,tk25⟩ tk43
 rintro ⟨v0,w1_0,v7,v8⟩ ⟨al0,al1,ov0,cv8,i0,i1⟩;have lb_v0:=ov0.1;subst al0;subst al1;dsimp only [Zby,Zdn,LT.den];apply tD<;>intro h1
 .refine Tot.ix fun x1 h2=>?_;have mh2:=h2.2;refine tB (Zkm) fun x2 h3=>?_;apply tF<;>intro h4
  .exact tl78
  have q1:=wr (v8+1);exact tL ⟨rfl,rfl,ov0,cl,cl,tk25⟩ tk43
 exact tl78
def Zgc(b0:List Int)(a1:Int):Zao->Prop
 | .L0 v0 w1_0 v5 v6=>(w1_0=a1)/\((SzL 8 (fun _=>True)) v0)/\(0<=v6)/\(DI b0 v0 (neI w1_0) v5 v6)/\(v6<=(v0.length:Int))
def Zcu:Zao->M6
 | .L0 v0 w1_0 v5 v6=>(1,((v0.length:Int) - v6).toNat,1000000,0,0,0)
theorem Zgd{b0:List Int}{a1:Int}(ob0:(SzL 8 (fun _=>True)) b0):Tot (Zdb b0 a1) (fun r=>((SzL 8 (fun _=>True)) r)/\(r=b0.filter (neI a1))):=by
 apply Tot.rn (Zgc b0 a1) Zcu
 .have lb_b0:=ob0.1;dsimp only [Zc4,LT.den];refine tB (Zhf ob0) fun x1 h1=>?_;have eh1_0:=h1;have ph1:=Zbde eh1_0;apply tE<;>intro h2
  .exact tR ⟨ob0,tk15⟩
  have q1:=wr (x1+1);exact tL ⟨rfl,ob0,cl,tk3,cl⟩ tk38
 rintro ⟨v0,w1_0,v5,v6⟩ ⟨al0,ov0,cv6,i0,i1⟩;have lb_v0:=ov0.1;subst al0;dsimp only [Zbl,Zct,LT.den];have l0:=i0.1;have l1:=i0.2.1;have l2:=i0.2.2.1;apply tD<;>intro h1
 .refine Tot.ix fun x1 h2=>?_;have mh2:=h2.2;refine tB (Zkm) fun x2 h3=>?_;apply tO<;>intro h4
  .refine Tot.ix fun x3 h5=>tB (Tot.set (by omega) (by omega)) fun x4 h6=>?_;have q1:=wr (v5+1);have q2:=wr (v6+1);exact tL ⟨rfl,SzL.tr,cl,tk3,cl⟩ tk38
  have q1:=wr (v6+1);exact tL ⟨rfl,ov0,cl,tk3,cl⟩ tk38
 refine tB (Tot.clr (by omega) (by omega)) fun x1 h2=>?_;have vh2:=h2.2.2;refine tB (Tot.slice (by omega) (by omega) (by omega)) fun x2 h3=>?_;have vh3:=h3.2.2;exact tR ⟨SzL.tr,tk15⟩
abbrev Zue(b0:Zj)(a1:Int)(r:(List Int)×Zj):Prop:=((SzL 8 (fun _=>True)) r.1)/\(Z3 r.2)/\(r.2.traits.length=r.2.s.Objects.length)/\(r.2.dropped.length=r.2.s.Objects.length)/\(r.2.done.length=r.2.forces.length)/\(r.2.hits.length=r.2.forces.length)/\(r.2.s.Objects.length<=2048)/\(r.2.forces.length<=16448)/\(HI r.2.s.Objects.length r.2.hits)/\(r.2.s=b0.s)/\(r.2.forces=b0.forces)/\(HZ r.2.s.Objects r.2.hits)/\(KPT b0.s.Objects b0.traits r.2.traits)
def Zul(b0:Zj)(a1:Int):Zcn->Prop
 | .L0 c0 v1 v5 v6 v7 v18 v19 v20=>(v1=a1)/\(Z3 c0)/\((SzL 8 (fun _=>True)) v5)/\((SzL 8 (fun _=>True)) v6)/\((SzL 8 (fun _=>True)) v7)/\((SzL 224 Zbs) v18)/\(0<=v20)/\(c0.traits.length=c0.s.Objects.length)/\(c0.dropped.length=c0.s.Objects.length)/\(c0.done.length=c0.forces.length)/\(c0.hits.length=c0.forces.length)/\(c0.s.Objects.length<=2048)/\(c0.forces.length<=16448)/\(HI c0.s.Objects.length c0.hits)/\(c0.s.Objects.length=b0.s.Objects.length)/\(c0.forces.length=b0.forces.length)/\(c0.s=b0.s)/\(c0.forces=b0.forces)/\(v19=(v18.length:Int))/\(v19=(c0.forces.length:Int))/\(v5.length<=v20.toNat)/\(v7.length<=v20.toNat)/\(v20<=v19)/\(v6.length=0)/\(INR b0.forces.length v5)/\(HZ c0.s.Objects c0.hits)/\(KPT b0.s.Objects b0.traits c0.traits)
 | .L1 c0 v1 v5 v6 v7=>(v1=a1)/\(Z3 c0)/\((SzL 8 (fun _=>True)) v5)/\((SzL 8 (fun _=>True)) v6)/\((SzL 8 (fun _=>True)) v7)/\(c0.traits.length=c0.s.Objects.length)/\(c0.dropped.length=c0.s.Objects.length)/\(c0.done.length=c0.forces.length)/\(c0.hits.length=c0.forces.length)/\(c0.s.Objects.length<=2048)/\(c0.forces.length<=16448)/\(HI c0.s.Objects.length c0.hits)/\(c0.s.Objects.length=b0.s.Objects.length)/\(c0.forces.length=b0.forces.length)/\(c0.s=b0.s)/\(c0.forces=b0.forces)/\(v6.length+v5.length<=b0.forces.length)/\(v7.length<=16448)/\(INR b0.forces.length v5)/\(HZ c0.s.Objects c0.hits)/\(KPT b0.s.Objects b0.traits c0.traits)
def Zl8:Zcn->M6
 | .L0 c0 v1 v5 v6 v7 v18 v19 v20=>(1,(v19 - v20).toNat,0,0,0,0)
 | .L1 c0 v1 v5 v6 v7=>(0,v5.length,0,0,0,0)
theorem Zum{b0:Zj}{a1:Int}(ob0:Z3 b0)(h0:b0.traits.length=b0.s.Objects.length)(h1:b0.dropped.length=b0.s.Objects.length)(h2:b0.done.length=b0.forces.length)(h3:b0.hits.length=b0.forces.length)(h4:b0.s.Objects.length<=2048)(h5:b0.forces.length<=16448)(h6:HI b0.s.Objects.length b0.hits)(h7:HZ b0.s.Objects b0.hits):Tot (Zn4 b0 a1) (Zue b0 a1):=by
 apply Tot.rn (Zul b0 a1) Zl8
 .dsimp only [Zmg,LT.den];apply tE<;>intro h1
  .refine tB (Zuj ob0 cl cl cl cl cl cl Zbu Zdh) fun x1 h2=>?_;have eh2_1:=h2.2.1;have eh2_2:=h2.2.2.1;have eh2_3:=h2.2.2.2.1;have eh2_4:=h2.2.2.2.2.1;have eh2_5:=h2.2.2.2.2.2.1;have eh2_6:=h2.2.2.2.2.2.2.1;have eh2_7:=h2.2.2.2.2.2.2.2.1;have eh2_8:=h2.2.2.2.2.2.2.2.2.1;have eh2_9:=h2.2.2.2.2.2.2.2.2.2.1;have eh2_10:=h2.2.2.2.2.2.2.2.2.2.2.1;have eh2_11:=h2.2.2.2.2.2.2.2.2.2.2.2;have q1:=h2.1.2.1.1;exact tL ⟨rfl,h2.1,SzL.nil,SzL.nil,SzL.nil,h2.1.2.1,cl,cl,cl,cl,cl,cl,cl,Zbu,Znu,Znu,Zek,Zek,cl,cl,cl,cl,cl,cl,tk18,Zdh,tk35⟩ tk64
  have q1:=ob0.2.1.1;exact tL ⟨rfl,ob0,SzL.nil,SzL.nil,SzL.nil,ob0.2.1,cl,cl,cl,cl,cl,cl,cl,Zbu,Znu,Znu,Zek,Zek,cl,cl,cl,cl,cl,cl,tk18,Zdh,tk35⟩ tk64
 intro s hs;cases s with
 | L0 c0 v1 v5 v6 v7 v18 v19 v20=>
  obtain⟨al0,oc0,ov5,ov6,ov7,ov18,cv20,i0,i1,i2,i3,i4,i5,i6,i7,i8,i9,i10,i11,i12,i13,i14,i15,i16,i17,i18,i19⟩:=hs;have lb_v5:=ov5.1;have lb_v6:=ov6.1;have lb_v7:=ov7.1;subst al0;dsimp only [Zfj,Zl0,LT.den];apply tD<;>intro h1
  .refine Tot.ix fun x1 h2=>?_;have oh2:Zbs x1:=ov18.2 x1 h2.1;have q1:=ov7.1;refine Tot.ap fun x2 h3=>?_;have lh3:=Zc5 h3;refine tB (Zae7 oh2) fun x3 h4=>?_;apply tF<;>intro h5
   .have q2:=ov5.1;refine Tot.ap fun x4 h6=>?_;have lh6:=Zc5 h6;have q3:=wr (v20+1);exact tL ⟨rfl,oc0,SzL.tr,ov6,SzL.tr,ov18,cl,cl,cl,cl,cl,cl,cl,Zbu,Znu,Znu,Zek,Zek,cl,cl,cl,cl,cl,cl,tk18,Zdh,tk35⟩ tk64
   have q2:=wr (v20+1);exact tL ⟨rfl,oc0,ov5,ov6,SzL.tr,ov18,cl,cl,cl,cl,cl,cl,cl,Zbu,Znu,Znu,Zek,Zek,cl,cl,cl,cl,cl,cl,tk18,Zdh,tk35⟩ tk64
  exact tL ⟨rfl,oc0,ov5,ov6,ov7,cl,cl,cl,cl,cl,cl,Zbu,Znu,Znu,Zek,Zek,cl,cl,tk18,Zdh,tk35⟩ tk64
 | L1 c0 v1 v5 v6 v7=>
  obtain⟨al0,oc0,ov5,ov6,ov7,i0,i1,i2,i3,i4,i5,i6,i7,i8,i9,i10,i11,i12,i13,i14,i15⟩:=hs;have lb_v5:=ov5.1;have lb_v6:=ov6.1;have lb_v7:=ov7.1;subst al0;dsimp only [Zfj,Zl1,LT.den];apply tD<;>intro h1
  .refine tB (Zp3 oc0 ov5 cl cl cl cl cl cl Zbu cl (by first | assumption | exact Zbd0 ‹_› (by omega)) Zdh) fun x1 h2=>tB (Zanm ov5 ov7 h2 cl (by first | assumption | exact Zbce ‹_›)) fun x2 h3=>?_;have wh3:=Zbd1 (by assumption:INR b0.forces.length v5) (by assumption:x2 < 0\/x2∈v5);apply tD<;>intro h4
   .exact Zbas
   refine tB (Zk2 oc0 cl cl cl cl cl cl Zbu cl cl Zdh) fun x3 h5=>?_;have eh5_1:=h5.2.1;have eh5_2:=h5.2.2.1;have eh5_3:=h5.2.2.2.1;have eh5_4:=h5.2.2.2.2.1;have eh5_5:=h5.2.2.2.2.2.1;have eh5_6:=h5.2.2.2.2.2.2.1;have eh5_7:=h5.2.2.2.2.2.2.2.1;have eh5_10:=h5.2.2.2.2.2.2.2.2.2.2.1;have eh5_11:=h5.2.2.2.2.2.2.2.2.2.2.2;have q1:=ov6.1;refine Tot.ap fun x4 h6=>?_;have lh6:=Zc5 h6;refine tB (Zgd ov5) fun x5 h7=>?_;have eh7_1:=h7.2;have sh7:=flt_sub' (by assumption:x5=_);have lh7:=flt_lt' (by assumption:x5=_) ‹_› ‹_›;exact tL ⟨rfl,h5.1,h7.1,SzL.tr,ov7,cl,cl,cl,cl,cl,cl,Zbu,Znu,Znu,Zek,Zek,cl,cl,tk18,Zdh,tk35⟩ tk64
  exact Zbas
abbrev Zapx(a0:List Zk)(a1:Zn)(r:List Za):Prop:=((SzL 176 Zu) r)/\(r.length=a1.Objects.length)/\(KPT a1.Objects (a1.Objects.map (baV a0)) r)
def Zasy(a0:List Zk)(a1:Zn):Zq7->Prop
 | .L0 E0 v6=>(Z3 E0)/\(0<=v6)/\(E0.traits.length=E0.s.Objects.length)/\(E0.dropped.length=E0.s.Objects.length)/\(E0.done.length=E0.forces.length)/\(E0.hits.length=E0.forces.length)/\(E0.s.Objects.length<=2048)/\(E0.forces.length<=16448)/\(HI E0.s.Objects.length E0.hits)/\(E0.s=a1)/\(HZ E0.s.Objects E0.hits)/\(KPT a1.Objects (a1.Objects.map (baV a0)) E0.traits)
def Z19:Zq7->M6
 | .L0 E0 v6=>(1,(8+1 - v6).toNat,1000000,0,0,0)
theorem Zapy{a0:List Zk}{a1:Zn}(oa0:(SzL 176 Zaa) a0)(oa1:Zac a1)(h0:a1.Objects.length<=2048)(h1:a1.Conts.length<=64)(h2:∀ c,c∈a0->c.Abilities.length<=8):Tot (Zxg a0 a1) (Zapx a0 a1):=by
 apply Tot.rn (Zasy a0 a1) Z19
 .dsimp only [Zaha,LT.den];refine tB (Zanj oa0 oa1 cl cl Zg1) fun x1 h1=>?_;have eh1_1:=h1.2.1;have eh1_2:=h1.2.2.1;have eh1_3:=h1.2.2.2.1;have eh1_4:=h1.2.2.2.2.1;have eh1_5:=h1.2.2.2.2.2.1;have eh1_6:=h1.2.2.2.2.2.2.1;have eh1_7:=h1.2.2.2.2.2.2.2.1;have eh1_8:=h1.2.2.2.2.2.2.2.2.1;have eh1_9:=h1.2.2.2.2.2.2.2.2.2.1;have eh1_10:=h1.2.2.2.2.2.2.2.2.2.2;exact tL ⟨h1.1,cl,cl,cl,cl,cl,cl,cl,Zbu,Zg1,Zdh,tk28⟩ (by unfold Z19 lt6;dsimp only;omega)
 rintro ⟨E0,v6⟩ ⟨O0,cv6,i0,i1,i2,i3,i4,i5,i6,i7,i8,i9⟩;dsimp only [Z5b,Zac0,LT.den];apply tD<;>intro h1
 .refine tB (Zum O0 cl cl cl cl cl cl Zbu Zdh) fun x1 h2=>?_;have eh2_2:=h2.2.2.1;have eh2_3:=h2.2.2.2.1;have eh2_4:=h2.2.2.2.2.1;have eh2_5:=h2.2.2.2.2.2.1;have eh2_6:=h2.2.2.2.2.2.2.1;have eh2_7:=h2.2.2.2.2.2.2.2.1;have eh2_8:=h2.2.2.2.2.2.2.2.2.1;have eh2_11:=h2.2.2.2.2.2.2.2.2.2.2.2.1;have eh2_12:=h2.2.2.2.2.2.2.2.2.2.2.2.2;have q1:=wr (v6+1);exact tL ⟨h2.2.1,cl,cl,cl,cl,cl,cl,cl,Zbu,Zg1,Zdh,tk28⟩ (by unfold Z19 lt6;dsimp only;omega)
 exact tR ⟨O0.2.2.1,Znu,tk28⟩
theorem Zasz{a0:List Zk}{a1:Zn}(oa0:(SzL 176 Zaa) a0)(oa1:Zac a1)(h0:a1.Objects.length<=2048)(h1:a1.Conts.length<=64)(h2:∀ c,c∈a0->c.Abilities.length<=8):Tot (Zxg a0 a1) (fun r=>((SzL 176 Zu) r)/\(r.length=a1.Objects.length)/\(KPT a1.Objects (a1.Objects.map (baV a0)) r)/\(r=allV a0 a1)):=(Tot.we (Zapy oa0 oa1 h0 h1 h2)).mono fun r h=>⟨h.1.1,h.1.2.1,h.1.2.2,Option.some.inj (h.2.symm.trans (by unfold allV;rw [h.2];rfl))⟩
theorem Zaao:Tot Zarj (fun r=>r=true):=⟨true,by kernel_rfl,rfl⟩
def Zapz(a0:Zs):Zo4->Prop
 | .L0 E0 v3 v4 v5=>(E0=a0)/\(0<=v5)/\(v5<=5)/\(v3=coP E0.Color v5)/\(v4=2 ^ v5.toNat)/\(Zyi E0=true)
def Zaap:Zo4->M6
 | .L0 E0 v3 v4 v5=>(1,(5 - v5).toNat,1000000,0,0,0)
theorem Zap0{a0:Zs}:Tot (Zamp a0) (fun r=>(r=coV a0)):=by
 apply Tot.rn (Zapz a0) Zaap
 .dsimp only [Zac3,LT.den];refine tB (Zz1 a0) fun x1 h1=>?_;have eh1_0:=h1.1;have eh1_1:=h1.2.1;apply tO<;>intro h2
  .exact tl82
  exact Za24
 rintro ⟨E0,v3,v4,v5⟩ ⟨al0,cv5,i0,i1,i2,i3⟩;subst al0;dsimp only [Z1m,Z93,LT.den];have lb:0<=v3/\v3<=31:=by rw [i1];exact co_b
 have lp:v4<=32/\1<=v4:=by rw [i2];exact pw_b (by omega)
 apply tD<;>intro h1
 .refine tB (tI (by omega) tk61) fun x1 h2=>?_;have mh2:=h2.2;apply tD<;>intro h3
  .have q1:=wr (v3+v4);have q2:=wr (2*v4);have q3:=wr (v5+1);exact Za24
  have q1:=wr (2*v4);have q2:=wr (v5+1);exact Za24
 exact tl82
def Zann(a0:Ze):Znj->Prop
 | .L0 E0 E1 E2 v4=>(E0=a0)/\(Zw E0)/\(Zw E1)/\(Zw E2)/\(0<=v4)/\(E2.Effects.length<=v4.toNat)/\(v4.toNat<=E0.Effects.length)/\(E2={ E0 with Effects:=E0.Effects.take v4.toNat })
def Zvt:Znj->M6
 | .L0 E0 E1 E2 v4=>(1,((E0.Effects.length:Int) - v4).toNat,1000000,0,0,0)
theorem Zano{a0:Ze}(oa0:Zw a0):Tot (Z5c a0) (fun r=>(Zw r)/\(r=a0)):=by
 apply Tot.rn (Zann a0) Zvt
 .dsimp only [Z94,LT.den];have q1:=oa0.2.1.1;refine Tot.ap fun x1 h1=>?_;have lh1:x1.length=([]:List Zi).length+a0.Mods.length:=by rw [h1,List.length_append]
  try simp only [List.length_cons,List.length_nil,Nat.zero_add] at lh1
  have q2:=oa0.2.2.2.1.1;refine Tot.ap fun x2 h2=>?_;have lh2:x2.length=([]:List Zaw).length+a0.Specs.length:=by rw [h2,List.length_append]
  try simp only [List.length_cons,List.length_nil,Nat.zero_add] at lh2
  exact tL ⟨rfl,oa0,⟨SzS.nil,SzL.nil,SzS.nil,SzL.nil,SzL.nil,SzS.nil⟩,⟨oa0.1,SzL.app (k:=176) h1 lo (fun _ h=>by cases h) oa0.2.1.2,oa0.2.2.1,SzL.app (k:=144) h2 lo (fun _ h=>by cases h) oa0.2.2.2.1.2,SzL.nil,oa0.2.2.2.2.2⟩,cl,cl,cl,tk12⟩ (by unfold Zvt lt6;dsimp only;omega)
 rintro ⟨E0,E1,E2,v4⟩ ⟨al0,O0,O1,O2,cv4,i0,i1,i2⟩;subst al0;dsimp only [Zyd,Z68,LT.den];have q1:=O0.2.2.2.2.1.1;apply tD<;>intro h1
 .refine Tot.ix fun x1 h2=>?_;have oh2:Z9 x1:=O0.2.2.2.2.1.2 x1 h2.1;have mh2:=h2.2;have q2:=oh2.2.2.2.2.1;refine Tot.ap fun x2 h3=>?_;have lh3:x2.length=([]:List Zi).length+x1.Mods.length:=by rw [h3,List.length_append]
  try simp only [List.length_cons,List.length_nil,Nat.zero_add] at lh3
  have q3:=O2.2.2.2.2.1.1;refine Tot.ap fun x3 h4=>?_;have lh4:=Zc5 h4;have q4:=wr (v4+1);exact tL ⟨rfl,O0,O1,⟨O2.1,O2.2.1,O2.2.2.1,O2.2.2.2.1,SzL.app (k:=560) h4 lo O2.2.2.2.2.1.2 (me1 ⟨oh2.1,oh2.2.1,oh2.2.2.1,oh2.2.2.2.1,SzL.app (k:=176) h3 lo (fun _ h=>by cases h) oh2.2.2.2.2.2⟩),O2.2.2.2.2.2⟩,cl,cl,cl,tk12⟩ (by unfold Zvt lt6;dsimp only;omega)
 exact tR ⟨O2,(by exact Zbb5 ‹_› (by omega))⟩
abbrev Zajp(a0:Zk)(r:Za):Prop:=(Zu r)/\(r.Abilities.length<=a0.Abilities.length)/\(r=prV a0)
def Zanp(a0:Zk):Znk->Prop
 | .L0 E0 E1 E2 v4=>(E0=a0)/\(Zaa E0)/\(Zu E1)/\(Zu E2)/\(0<=v4)/\(E2.Abilities.length<=v4.toNat)/\(v4.toNat<=E0.Abilities.length)/\(E2={ prV E0 with Abilities:=E0.Abilities.take v4.toNat })
def Zvu:Znk->M6
 | .L0 E0 E1 E2 v4=>(1,((E0.Abilities.length:Int) - v4).toNat,1000000,0,0,0)
theorem Zanq{a0:Zk}(oa0:Zaa a0):Tot (Zahc a0) (Zajp a0):=by
 apply Tot.rn (Zanp a0) Zvu
 .dsimp only [Z95,LT.den];refine tB (Zap0) fun x1 h1=>?_;have q1:=oa0.2.1.1;refine Tot.ap fun x2 h2=>?_;have lh2:x2.length=([]:List (List UInt8)).length+a0.Line.Subs.length:=by rw [h2,List.length_append]
  try simp only [List.length_cons,List.length_nil,Nat.zero_add] at lh2
  exact tL ⟨rfl,oa0,⟨SzS.nil,SzL.nil,SzL.nil⟩,⟨oa0.1,SzL.app (k:=16) h2 lo (fun _ h=>by cases h) oa0.2.1.2,SzL.nil⟩,cl,cl,cl,tk4⟩ (by unfold Zvu lt6;dsimp only;omega)
 rintro ⟨E0,E1,E2,v4⟩ ⟨al0,O0,O1,O2,cv4,i0,i1,i2⟩;subst al0;dsimp only [Zye,Z69,LT.den];have q1:=O0.2.2.1;apply tD<;>intro h1
 .refine Tot.ix fun x1 h2=>?_;have oh2:Zw x1:=O0.2.2.2 x1 h2.1;have mh2:=h2.2;refine tB (Zano oh2) fun x2 h3=>?_;have eh3_1:=h3.2;have q2:=O2.2.2.1;refine Tot.ap fun x3 h4=>?_;have lh4:=Zc5 h4;have q3:=wr (v4+1);exact tL ⟨rfl,O0,O1,⟨O2.1,O2.2.1,SzL.app (k:=640) h4 lo O2.2.2.2 (me1 h3.1)⟩,cl,cl,cl,tk4⟩ (by unfold Zvu lt6;dsimp only;omega)
 exact tR ⟨O2,cl,tk69⟩
abbrev Z5x(a0:List Zk)(a1:Zc)(r:Za):Prop:=(Zu r)/\(r.Abilities.length<=8)/\(r=baV a0 a1)
def Zuf(a0:List Zk)(a1:Zc):Zvg->Prop
 | .L0 v0 E0 E1 v5=>(v0=a0)/\(E0=a1)/\((SzL 176 Zaa) v0)/\(Zu E1)/\(∀ c,c∈v0->c.Abilities.length<=8)/\(v5=if E0.Copy < 0 then E0.Card else E0.Copy)
 | .L1 E0 E1 E2=>(E0=a1)/\(Zu E1)/\(Zu E2)/\(E2.Abilities.length<=8)/\(E2=Z5l a0 (if E0.Copy < 0 then E0.Card else E0.Copy))
def Zadw:Zvg->M6
 | .L0 v0 E0 E1 v5=>(0,0,0,0,0,0)
 | .L1 E0 E1 E2=>(0,0,0,0,0,0)
theorem Zzf{a0:List Zk}{a1:Zc}{E0:Zc}{E1:Za}{E2:Za}(h:(Zuf a0 a1) (.L1 E0 E1 E2)):Tot (Zsn E0 E1 E2).den (Nx (Zuf a0 a1) Zadw (0,0,0,0,0,0) (Z5x a0 a1)):=by
 obtain⟨al0,O1,O2,i0,i1⟩:=h;subst al0;dsimp only [Zsn,LT.den];apply tE<;>intro h1
 .exact tl87
 apply tE<;>intro h2
 .exact tl87
 exact tl87
theorem Zaaq{a0:List Zk}{a1:Zc}{v0:List Zk}{E0:Zc}{E1:Za}{v5:Int}(h:(Zuf a0 a1) (.L0 v0 E0 E1 v5)):Tot (Zxh v0 E0 E1 v5).den (Nx (Zuf a0 a1) Zadw (0,0,0,0,0,0) (Z5x a0 a1)):=by
 obtain⟨al0,al1,ov0,O1,i0,i1⟩:=h;subst al0;subst al1;dsimp only [Zxh,LT.den];apply tD<;>intro h1
 .apply tD<;>intro h2
  .refine Tot.ix fun x1 h3=>?_;have oh3:Zaa x1:=ov0.2 x1 h3.1;have mh3:=h3.2;have nh3:=i0 x1 h3.1;refine tB (Zanq oh3) fun x2 h4=>?_;have eh4_2:=h4.2.2;exact tJ (Zzf ⟨rfl,O1,h4.1,cl,tk11⟩)
  exact Zbaj
 exact Zbaj
theorem Za3t{a0:List Zk}{a1:Zc}(oa0:(SzL 176 Zaa) a0)(h0:∀ c,c∈a0->c.Abilities.length<=8):Tot (Zaxc a0 a1) (Z5x a0 a1):=by
 apply Tot.rn (Zuf a0 a1) Zadw
 .dsimp only [Zaxa,LT.den];apply tD<;>intro h1
  .exact tl75
  exact tl75
 intro s hs;cases s with
 | L0 _ _ _ _=>exact Zaaq hs
 | L1 _ _ _=>exact Zzf hs
def Zaym(a0:List Zi)(a1:List Zi):Ztx->Prop
 | .L0 v0 v1 v5=>(v0=a0)/\(v1=a1)/\((SzL 176 Zv) v0)/\((SzL 176 Zv) v1)/\(0<=v5)/\(v0.length=v1.length)
def Z5y:Ztx->M6
 | .L0 v0 v1 v5=>(1,((v0.length:Int) - v5).toNat,1000000,0,0,0)
theorem Zadx{a0:List Zi}{a1:List Zi}(oa0:(SzL 176 Zv) a0)(oa1:(SzL 176 Zv) a1):Tot (Zaxe a0 a1) (fun r=>(a0=a1->r=true)):=by
 apply Tot.rn (Zaym a0 a1) Z5y
 .have lb_a1:=oa1.1;dsimp only [Zamu,LT.den];have q1:=oa1.1;apply tN<;>intro h1
  .exact tR (by exact sm)
  exact tL ⟨rfl,rfl,oa0,oa1,cs⟩ (by unfold Z5y lt6;dsimp only;omega)
 rintro ⟨v0,v1,v5⟩ ⟨al0,al1,ov0,ov1,cv5,i0⟩;have lb_v0:=ov0.1;have lb_v1:=ov1.1;subst al0;subst al1;dsimp only [Z8m,Zahj,LT.den];apply tD<;>intro h1
 .refine Tot.ix fun x1 h2=>Tot.ix fun x2 h3=>?_;have mh3:=h3.2;apply tO<;>intro h4
  .exact tR (by exact sm)
  have q1:=wr (v5+1);exact tL ⟨rfl,rfl,ov0,ov1,cs⟩ (by unfold Z5y lt6;dsimp only;omega)
 exact tR (by exact sm)
theorem Zanr{a0:Zt}{a1:Zt}(oa0:Z9 a0)(oa1:Z9 a1):Tot (Zahl a0 a1) (fun r=>(a0=a1->r=true)):=by
 apply tZ;dsimp only [Z98,LT.den];apply tE<;>intro h1
 .apply tF<;>intro h2
  .apply tF<;>intro h3
   .apply tE<;>intro h4
    .apply tE<;>intro h5
     .apply tF<;>intro h6
      .apply tF<;>intro h7
       .apply tF<;>intro h8
        .exact tB (Zadx oa0.2.2.2.2 oa1.2.2.2.2) fun x1 h9=>tR (by exact sm)
        exact tR (by exact sm)
       exact tR (by exact sm)
      exact tR (by exact sm)
     exact tR (by exact sm)
    exact tR (by exact sm)
   exact tR (by exact sm)
  exact tR (by exact sm)
 exact tR (by exact sm)
def Zaay(a0:Ze)(a1:Ze):Zgu->Prop
 | .L0 E0 E1 v5=>(E0=a0)/\(E1=a1)/\(Zw E0)/\(Zw E1)/\(0<=v5)/\(E0.Specs.length=E1.Specs.length)/\(E0.Effects.length=E1.Effects.length)
 | .L1 E0 E1 v6=>(E0=a0)/\(E1=a1)/\(Zw E0)/\(Zw E1)/\(0<=v6)/\(E0.Specs.length=E1.Specs.length)/\(E0.Effects.length=E1.Effects.length)
def Zpd:Zgu->M6
 | .L0 E0 E1 v5=>(3,((E0.Specs.length:Int) - v5).toNat,1000000,0,0,0)
 | .L1 E0 E1 v6=>(1,((E0.Effects.length:Int) - v6).toNat,1000000,0,0,0)
theorem Zaaz{a0:Ze}{a1:Ze}(oa0:Zw a0)(oa1:Zw a1):Tot (Z32 a0 a1) (fun r=>(a0=a1->r=true)):=by
 apply Tot.rn (Zaay a0 a1) Zpd
 .dsimp only [Zzm,LT.den];apply tN<;>intro h1
  .exact tR (by exact sm)
  apply tO<;>intro h2
  .exact tR (by exact sm)
  refine tB (Zadx oa0.2.1 oa1.2.1) fun x1 h3=>?_;apply tO<;>intro h4
  .exact tR (by exact sm)
  apply tO<;>intro h5
  .exact tR (by exact sm)
  apply tO<;>intro h6
  .exact tR (by exact sm)
  apply tO<;>intro h7
  .exact tR (by exact sm)
  apply tO<;>intro h8
  .exact tR (by exact sm)
  apply tO<;>intro h9
  .exact tR (by exact sm)
  have q1:=oa1.2.2.2.1.1;apply tN<;>intro h10
  .exact tR (by exact sm)
  have q2:=oa1.2.2.2.2.1.1;apply tN<;>intro h11
  .exact tR (by exact sm)
  exact tL ⟨rfl,rfl,oa0,oa1,cs⟩ (by unfold Zpd lt6;dsimp only;omega)
 intro s hs;cases s with
 | L0 E0 E1 v5=>
  obtain⟨al0,al1,O0,O1,cv5,i0,i1⟩:=hs;subst al0;subst al1;dsimp only [Zk6,Zxi,LT.den];have q1:=O0.2.2.2.1.1;apply tD<;>intro h1
  .refine Tot.ix fun x1 h2=>?_;have oh2:Zgh x1:=O0.2.2.2.1.2 x1 h2.1;refine Tot.ix fun x2 h3=>?_;have oh3:Zgh x2:=O1.2.2.2.1.2 x2 h3.1;have mh3:=h3.2;apply tO<;>intro h4
   .exact tR (by exact sm)
   have q2:=wr (v5+1);exact tl65
  exact tl65
 | L1 E0 E1 v6=>
  obtain⟨al0,al1,O0,O1,cv6,i0,i1⟩:=hs;subst al0;subst al1;dsimp only [Zk6,Zxj,LT.den];have q1:=O0.2.2.2.2.1.1;apply tD<;>intro h1
  .refine Tot.ix fun x1 h2=>?_;have oh2:Z9 x1:=O0.2.2.2.2.1.2 x1 h2.1;refine Tot.ix fun x2 h3=>?_;have oh3:Z9 x2:=O1.2.2.2.2.1.2 x2 h3.1;have mh3:=h3.2;refine tB (Zanr oh2 oh3) fun x3 h4=>?_;apply tO<;>intro h5
   .exact tR (by exact sm)
   have q2:=wr (v6+1);exact tl65
  exact tR (by exact sm)
def Zayn(a0:Za)(a1:Za):Zpz->Prop
 | .L0 E0 E1 v5=>(E0=a0)/\(E1=a1)/\(Zu E0)/\(Zu E1)/\(0<=v5)/\(E0.Line.Subs.length=E1.Line.Subs.length)/\(E0.Abilities.length=E1.Abilities.length)
 | .L1 E0 E1 v6=>(E0=a0)/\(E1=a1)/\(Zu E0)/\(Zu E1)/\(0<=v6)/\(E0.Line.Subs.length=E1.Line.Subs.length)/\(E0.Abilities.length=E1.Abilities.length)
def Z5z:Zpz->M6
 | .L0 E0 E1 v5=>(3,((E0.Line.Subs.length:Int) - v5).toNat,1000000,0,0,0)
 | .L1 E0 E1 v6=>(1,((E0.Abilities.length:Int) - v6).toNat,1000000,0,0,0)
theorem Zayo{a0:Za}{a1:Za}(oa0:Zu a0)(oa1:Zu a1):Tot (Zaxf a0 a1) (fun r=>(a0=a1->r=true)):=by
 apply Tot.rn (Zayn a0 a1) Z5z
 .dsimp only [Zamv,LT.den];apply tO<;>intro h1
  .exact tR (by exact sm)
  apply tO<;>intro h2
  .exact tR (by exact sm)
  apply tN<;>intro h3
  .exact tR (by exact sm)
  apply tN<;>intro h4
  .exact tR (by exact sm)
  apply tN<;>intro h5
  .exact tR (by exact sm)
  apply tN<;>intro h6
  .exact tR (by exact sm)
  apply tN<;>intro h7
  .exact tR (by exact sm)
  apply tN<;>intro h8
  .exact tR (by exact sm)
  apply tN<;>intro h9
  .exact tR (by exact sm)
  have q1:=oa0.2.1.1;have q2:=oa1.2.1.1;apply tN<;>intro h10
  .exact tR (by exact sm)
  have q3:=oa0.2.2.1;have q4:=oa1.2.2.1;apply tN<;>intro h11
  .exact tR (by exact sm)
  exact tL ⟨rfl,rfl,oa0,oa1,cs⟩ (by unfold Z5z lt6;dsimp only;omega)
 intro s hs;cases s with
 | L0 E0 E1 v5=>
  obtain⟨al0,al1,O0,O1,cv5,i0,i1⟩:=hs;subst al0;subst al1;dsimp only [Zzz,Zahm,LT.den];have q1:=O0.2.1.1;apply tD<;>intro h1
  .refine Tot.ix fun x1 h2=>?_;have oh2:SzT x1:=O0.2.1.2 x1 h2.1;refine Tot.ix fun x2 h3=>?_;have oh3:SzT x2:=O1.2.1.2 x2 h3.1;have mh3:=h3.2;apply tO<;>intro h4
   .exact tR (by exact sm)
   have q2:=wr (v5+1);exact tl61
  exact tl61
 | L1 E0 E1 v6=>
  obtain⟨al0,al1,O0,O1,cv6,i0,i1⟩:=hs;subst al0;subst al1;dsimp only [Zzz,Zahn,LT.den];have q1:=O0.2.2.1;apply tD<;>intro h1
  .refine Tot.ix fun x1 h2=>?_;have oh2:Zw x1:=O0.2.2.2 x1 h2.1;refine Tot.ix fun x2 h3=>?_;have oh3:Zw x2:=O1.2.2.2 x2 h3.1;have mh3:=h3.2;refine tB (Zaaz oh2 oh3) fun x3 h4=>?_;apply tO<;>intro h5
   .exact tR (by exact sm)
   have q2:=wr (v6+1);exact tl61
  exact tR (by exact sm)
def Z50(a0:List Zk)(a1:Zn):Zgp->Prop
 | .L0 v0 E0 v5 v6=>(v0=a0)/\(E0=a1)/\((SzL 176 Zaa) v0)/\(Zac E0)/\((SzL 176 Zu) v5)/\(0<=v6)/\(∀ c,c∈v0->c.Abilities.length<=8)/\(v5.length=E0.Objects.length)/\(KPT E0.Objects (E0.Objects.map (baV v0)) v5)
def Zl9:Zgp->M6
 | .L0 v0 E0 v5 v6=>(1,((v5.length:Int) - v6).toNat,1000000,0,0,0)
theorem Z51{a0:List Zk}{a1:Zn}(oa0:(SzL 176 Zaa) a0)(oa1:Zac a1):Tot (Zxk a0 a1) (fun r=>(r=true)):=by
 apply Tot.rn (Z50 a0 a1) Zl9
 .dsimp only [Zty,LT.den];refine tB (Zasw oa0 oa1) fun x1 h1=>?_;have eh1_0:=h1.1;have eh1_1:=h1.2;apply tO<;>intro h2
  .exact tB (Zaao) fun x2 h3=>tR tk7
  have h2_0:=eh1_0 h2;refine tB (Zasz oa0 oa1 cl cl Zg1) fun x2 h3=>?_;have eh3_1:=h3.2.1;have eh3_2:=h3.2.2.1;apply tN<;>intro h4
  .exact tl94
  exact tL ⟨rfl,rfl,oa0,oa1,h3.1,cl,Zg1,cl,‹_›⟩ (by unfold Zl9 lt6;dsimp only;omega)
 rintro ⟨v0,E0,v5,v6⟩ ⟨al0,al1,ov0,O0,ov5,cv6,i0,i1,i2⟩;have lb_v5:=ov5.1;subst al0;subst al1;dsimp only [Zmx,Zso,LT.den];apply tD<;>intro h1
 .refine Tot.ix fun x1 h2=>?_;have mh2:=h2.2;apply tN<;>intro h3
  .refine Tot.ix fun x2 h4=>?_;have oh4:Zu x2:=ov5.2 x2 h4.1;have mh4:=h4.2;refine tB (Za3t ov0 Zg1) fun x3 h5=>?_;have eh5_2:=h5.2.2;refine tB (Zayo oh4 h5.1) fun x4 h6=>?_;apply tO<;>intro h7
   .exact tl94
   exact tl90
  exact tl90
 exact tB (Zaao) fun x1 h2=>tR tk7
end Go.PW
