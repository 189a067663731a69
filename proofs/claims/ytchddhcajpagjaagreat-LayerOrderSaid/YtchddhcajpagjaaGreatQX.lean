import Derived.Test.YtchddhcajpagjaaGreatQE
import Derived.Test.YtchddhcajpagjaaGreatPwYc
import Derived.Test.YtchddhcajpagjaaGreatQDc
import Derived.Test.YtchddhcajpagjaaGreatQQ
set_option linter.all false
set_option maxRecDepth 100000
namespace Go.PW
theorem tl0{p:Prop}(h:p:=by exact tR (by unfold nB;grind)):p:=h
theorem tl1{p:Prop}(h:p:=by exact tR (by unfold inB;grind)):p:=h
theorem tl2{p:Prop}(h:p:=by exact tR (by intro hr;cases hr)):p:=h
theorem tl3{p:Prop}(h:p:=by exact tR (by unfold Zr6;grind)):p:=h
theorem tl4{p:Prop}(h:p:=by exact tJ (Z4b trivial)):p:=h
theorem tl5{p:Prop}(h:p:=by exact tR Ziw):p:=h
theorem tl6{p:Prop}(h:p:=by exact tJ (Zaad ⟨ov0,cs⟩)):p:=h
theorem tl7{p:Prop}(h:p:=by exact tJ (Zaak ⟨oa0,trivial⟩)):p:=h
theorem tl8{p:Prop}(h:p:=by exact tJ (Zaam ⟨oa0,trivial⟩)):p:=h
theorem tl9{p:Prop}(h:p:=by exact tR (by first | rfl | (unfold stV;grind))):p:=h
theorem tl10{p:Prop}(h:p:=by exact tJ (Zaaj ⟨O0,trivial⟩)):p:=h
theorem tl11{p:Prop}(h:p:=by exact tJ (Zaal ⟨O0,trivial⟩)):p:=h
theorem tl12{p:Prop}(h:p:=by exact tJ (Zaai ⟨O0,trivial⟩)):p:=h
theorem tl13{p:Prop}(h:p:=by exact tR ⟨h1.1,Z8x⟩):p:=h
theorem tl14{p:Prop}(h:p:=by exact tR (by intro hr;first | omega | (cases hr;done))):p:=h
theorem tl15{p:Prop}(h:p:=by exact tJ (Zrf ⟨rfl,rfl,oa0,(by grind)⟩)):p:=h
theorem tl16{p:Prop}(h:p:=by exact tL ⟨ov0,cl⟩ (by unfold Zxk lt6;dsimp only;omega)):p:=h
theorem tl17{p:Prop}(h:p:=by exact tL ⟨cl,cl⟩ (by unfold Zanp lt6;dsimp only;omega)):p:=h
theorem tl18{p:Prop}(h:p:=by exact tL ⟨cl,cl⟩ (by unfold Zanm lt6;dsimp only;omega)):p:=h
theorem tl19{p:Prop} (h:p:=by
 apply tD<;>intro h1
 .exact tR trivial
 exact tR trivial):p:=h
theorem tl20{p:Prop} (h:p:=by
 apply tD<;>intro h4
 .exact tR trivial
 exact tR trivial):p:=h
theorem tl21{p:Prop} (h:p:=by
 apply tE<;>intro h1
 .exact tR trivial
 exact tR trivial):p:=h
theorem tl22{p:Prop}(h:p:=by exact tL ⟨cl,cs⟩ (by unfold Zah0 lt6;dsimp only;omega)):p:=h
theorem tl23{p:Prop} (h:p:=by
 apply tF<;>intro h2
 .exact tR trivial
 exact tR trivial):p:=h
theorem tl24{p:Prop}(h:p:=by exact tL ⟨cl,cs⟩ (by unfold Z5n lt6;dsimp only;omega)):p:=h
theorem tl25{p:Prop}(h:p:=by exact tL ⟨cl,cs⟩ (by unfold Zahz lt6;dsimp only;omega)):p:=h
theorem tl26{p:Prop}(h:p:=by exact tL ⟨ov0,cl⟩ (by unfold Z1z lt6;dsimp only;omega)):p:=h
theorem tl27{p:Prop}(h:p:=by exact tL ⟨cl,trivial⟩ (by unfold Zasm lt6;dsimp only;omega)):p:=h
theorem tl28{p:Prop}(h:p:=by exact tL ⟨cl,cl⟩ (by unfold Z38 lt6;dsimp only;omega)):p:=h
theorem tl29{p:Prop}(h:p:=by exact tL ⟨cl,trivial⟩ (by unfold Zadx lt6;dsimp only;omega)):p:=h
theorem tl30{p:Prop}(h:p:=by exact tL ⟨cl,trivial⟩ (by unfold Zadq lt6;dsimp only;omega)):p:=h
theorem tl32{p:Prop}(h:p:=by exact tL ⟨ov0,ov2,cs⟩ (by unfold Zyo lt6;dsimp only;omega)):p:=h
theorem tl33{p:Prop}(h:p:=by exact tL ⟨O0,cl⟩ (by unfold Zy3 lt6;dsimp only;omega)):p:=h
theorem Zr8{p:Prop}(h:p:=by exact tR (by obtain⟨k1,k2,k3,k4⟩:=a0;unfold amV;grind [Zbkz,usV])):p:=h
theorem Ziv{p:Prop}(h:p:=by exact tR tk93):p:=h
theorem tl36{p:Prop}(h:p:=by exact tL ⟨rfl,O0,cs⟩ (by unfold Z11 lt6;dsimp only;omega)):p:=h
theorem Z8t{p:Prop}(h:p:=by exact tR ⟨⟨h1.1.1,h1.1.2.1,h1.1.2.2⟩,Z8x⟩):p:=h
theorem tl38{p:Prop}(h:p:=by exact tL ⟨ov0,O0,cs⟩ Za46):p:=h
theorem tl39{p:Prop}(h:p:=by simp only [List.length_append,List.length_cons,List.length_take,List.length_drop];omega):p:=h
theorem Z8u{p:Prop}(h:p:=by exact tL ⟨O0,ov6,ov7,cs⟩ Zanj):p:=h
theorem tl41{p:Prop}(h:p:=by have q1:=wr (v3+1);exact tl16):p:=h
theorem tl42{p:Prop}(h:p:=by have q2:=wr (v4+1);exact tl22):p:=h
theorem tl43{p:Prop}(h:p:=by exact tJ (Zaan ⟨rfl,oa0,cl,(by first | assumption | (unfold Zzv;grind))⟩)):p:=h
theorem tl44{p:Prop}(h:p:=by exact tJ (Z13 ⟨rfl,Zai,(by grind),(by grind)⟩)):p:=h
theorem tl45{p:Prop}(h:p:=by exact tJ (Z12 ⟨rfl,Zai,(by grind),(by grind)⟩)):p:=h
theorem tl46{p:Prop}(h:p:=by have q2:=wr (v4+1);exact tl25):p:=h
theorem tl47{p:Prop}(h:p:=by exact tJ (Z7d ⟨rfl,rfl,oa0,⟨SzS.nil,SzL.nil,SzL.nil⟩,(by grind)⟩)):p:=h
theorem tl48{p:Prop}(h:p:=by exact tJ (Z14 ⟨rfl,Zai,(by grind),(by grind)⟩)):p:=h
theorem tl50{p:Prop}(h:p:=by have q1:=wr (v4+1);exact tL ⟨ov0,cs⟩ (by unfold Zt9 lt6;dsimp only;omega)):p:=h
theorem tl51{p:Prop}(h:p:=by have q2:=wr (v6+1);exact tL ⟨ov0,ov1,cs⟩ (by unfold Z5j lt6;dsimp only;omega)):p:=h
theorem tl52{p:Prop}(h:p:=by have q1:=wr (v7+1);exact tl30):p:=h
theorem tl53{p:Prop}(h:p:=by exact tL ⟨rfl,rfl,O0,O1,cs⟩ (by unfold Z5t lt6;dsimp only;omega)):p:=h
theorem tl54{p:Prop}(h:p:=by have q1:=wr (v5+1);exact tL ⟨ov0,ov1,cl⟩ (by unfold Z1w lt6;dsimp only;omega)):p:=h
theorem tl55{p:Prop}(h:p:=by have q2:=wr (v8+1);exact tl32):p:=h
theorem tl56{p:Prop}(h:p:=by have q2:=wr (v6+1);exact tl33):p:=h
theorem tl57{p:Prop}(h:p:=by have q1:=wr (v9+1);exact tL ⟨ov1,O0,cl⟩ (by unfold Z5p lt6;dsimp only;omega)):p:=h
theorem tl58{p:Prop}(h:p:=by exact tL ⟨rfl,rfl,O0,O1,cs⟩ (by unfold Zpm lt6;dsimp only;omega)):p:=h
theorem tl59{p:Prop}(h:p:=by have q2:=wr (v6+1);exact tl38):p:=h
theorem tl60{p:Prop}(h:p:=by exact tR ⟨SzL.nil,tk84⟩):p:=h
theorem tl61{p:Prop}(h:p:=by exact tL ⟨rfl,O0,cl,(by first | assumption | omega)⟩ (by unfold Zadp lt6;dsimp only;omega)):p:=h
theorem tl62{p:Prop}(h:p:=by exact tJ (Z35 ⟨O0,O1,V,V,(by grind),(by grind)⟩)):p:=h
theorem tl64{p:Prop}(h:p:=by exact tR tk61):p:=h
theorem Zgk{p:Prop}(h:p:=by exact tR Zba):p:=h
theorem tl66{p:Prop}(h:p:=by have q1:=wr (5+v0);have q2:=wr ((IntKind.wrap .i64 (5+v0)) - 11);exact tl9):p:=h
theorem tl67{p:Prop} (h:p:=by
 apply tE<;>intro h4
 .exact tR trivial
 apply tE<;>intro h5
 .exact tR trivial
 exact tR trivial):p:=h
theorem tl68{p:Prop}(h:p:=by exact tR (by first | with_reducible exact Zbg0 V O | (rw [Zbe5 V O];grind))):p:=h
theorem tl69{p:Prop}(h:p:=by exact tR (by first | exact Zbgx V V | exact Zbe3 V V V)):p:=h
theorem tl70{p:Prop}(h:p:=by exact tL ⟨rfl,O0,cl,cl,(by first | assumption | (unfold Zzv;grind))⟩ (by unfold Z4c lt6;dsimp only;omega)):p:=h
theorem tl71{p:Prop}(h:p:=by exact tJ (Zaap ⟨rfl,O0,Zai,V,V,(by grind),(by grind)⟩)):p:=h
theorem tl72{p:Prop}(h:p:=by exact tJ (Zaag ⟨rfl,O0,Zai,V,V,(by grind),(by grind)⟩)):p:=h
theorem tl73{p:Prop}(h:p:=by exact tJ (Zaaq ⟨rfl,O0,Zai,V,V,(by grind),(by grind)⟩)):p:=h
theorem tl74{p:Prop}(h:p:=by exact tJ (Zaaf ⟨rfl,O0,Zai,V,V,(by grind),(by grind)⟩)):p:=h
theorem tl75{p:Prop}(h:p:=by exact tJ (Zaah ⟨rfl,oa0,Zai,(by first | grind | (unfold inB;grind)),(by grind),(by grind)⟩)):p:=h
theorem tl76{p:Prop}(h:p:=by exact tJ (Zaar ⟨rfl,oa0,Zai,(by first | grind | (unfold inB;grind)),(by grind),(by grind)⟩)):p:=h
theorem tl77{p:Prop} (h:p:=by
 refine tB (Zix oa1) fun x1 h2=>?_;have eh2_0:=h2.1;apply tF<;>intro h3
 .exact tR trivial
 exact tR trivial):p:=h
theorem tl78{p:Prop}(h:p:=by exact tR (by first | exact Zbgn V V V (by grind) | exact Zbet V O)):p:=h
theorem tl79{p:Prop}(h:p:=by exact tR (by first | exact bl_y V V V V | exact bl_e V O)):p:=h
theorem tl80{p:Prop}(h:p:=by exact tR (by first | exact fun _=>rfl | exact sa_n V V V V | exact sa_l O)):p:=h
theorem tl81{p:Prop}(h:p:=by exact tJ (Z4f ⟨rfl,O0,O1,O2,Zai,V,(by grind),(by grind)⟩)):p:=h
theorem tl82{p:Prop} (h:p:=by
 refine tB (Zix O0) fun x2 h4=>?_;have eh4_0:=h4.1;apply tF<;>intro h5
 .exact tR trivial
 exact tR trivial):p:=h
theorem tl84{p:Prop}(h:p:=by exact tR ⟨(by first | exact li_n V V | exact li_y V V),cl,Ziw⟩):p:=h
theorem tl85{p:Prop}(h:p:=by exact tJ (Z36 ⟨⟨oa0.1,oa0.2⟩,⟨SzS.nil,SzS.nil⟩,Zai,Zai,(by grind)⟩)):p:=h
theorem tl86{p:Prop}(h:p:=by exact tR ⟨oc1,Zai,(by first | exact fx_y V V (by grind) | exact fx_n V O)⟩):p:=h
theorem tl87{p:Prop}(h:p:=by exact tJ (Zqo ⟨rfl,rfl,ov0,ov5,cl,cl,cl,cl,cl,tk86⟩)):p:=h
theorem Zkz{p:Prop}(h:p:=by exact tR ⟨tk93,(by first | (intro hr;exact absurd hr (by decide)) | (intro _;assumption))⟩):p:=h
theorem tl89{p:Prop}(h:p:=by exact tR ⟨⟨O2.1,O2.2.1,O2.2.2⟩,(by first | exact ba_c V rfl O | exact ba_o V rfl O)⟩):p:=h
theorem tl90{p:Prop}(h:p:=by exact tR ⟨cl,(by first | exact Za12 V V V Zf5 | exact Zai8 V O)⟩):p:=h
theorem tl91{p:Prop}(h:p:=by exact tJ (Z4g ⟨rfl,oa0,⟨SzS.nil,SzS.nil⟩,⟨SzS.nil,SzS.nil⟩,Zai,Zai,(by grind)⟩)):p:=h
theorem tl92{p:Prop}(h:p:=by exact tR (by first | exact eq_y V V O | exact eq_n V V V | (simp;intro e;subst e;omega))):p:=h
theorem tl93{p:Prop}(h:p:=by exact tR tk38):p:=h
theorem tl94{p:Prop} (h:p:=by
 try simp only [List.length_cons,List.length_nil,Nat.zero_add] at lh1
 exact tR ⟨SzL.tr,tk84⟩):p:=h
theorem tl95{p:Prop}(h:p:=by exact tR ⟨ov7,(by first | exact Zblt V V O O | exact Zblu V O | exact Zblw V O)⟩):p:=h
theorem tl96{p:Prop}(h:p:=by exact tR ⟨⟨O2.1,O2.2⟩,tk40⟩):p:=h
theorem tl97{p:Prop}(h:p:=by exact tR ⟨cl,cl,(by first | exact (if_pos (by decide)).trans (Zblm V O) | exact (if_neg O).trans (Zbll V V O (by grind)))⟩):p:=h
theorem Zm4{p:Prop}(h:p:=by exact tR ⟨tk75,tk81⟩):p:=h
theorem tl99{p:Prop}(h:p:=by exact tR (by first | with_reducible exact Zbk5 V V V O O | with_reducible exact Zbk4 V | with_reducible exact Zbg1 (by grind))):p:=h
theorem Zbc2{p:Prop}(h:p:=by exact tR ⟨cl,cl,(by first | exact Zbct V V V | (subst_vars;exact Zbct V V V) | exact Zblf V O)⟩):p:=h
theorem Za4h{p:Prop}(h:p:=by exact tR (by first | exact ld_y V V V V V V | exact ld_a V V | exact ld_b V V)):p:=h
theorem Zfu{p:Prop}(h:p:=by exact tR Z1q):p:=h
theorem Za4i{p:Prop}(h:p:=by exact tL ⟨O0,ov6,SzL.app (k:=16) h6 lo ov7.2 (me1 tk61),cs⟩ Zanj):p:=h
theorem Zbc3{p:Prop}(h:p:=by exact tL ⟨rfl,cl,Zai,(by first | (intro k x hk;omega) | exact Zrw V V O ⟨by omega,by omega⟩ O)⟩ (by unfold Zanx lt6;dsimp only;omega)):p:=h
theorem Za4j{p:Prop}(h:p:=by exact tR ⟨⟨O0.1,O0.2⟩,tk28⟩):p:=h
theorem Za4k{p:Prop}(h:p:=by exact tR ⟨h1.1,tk22⟩):p:=h
theorem Z33{p:Prop}(h:p:=by exact tR ⟨(by first | (intro hr;exact absurd hr (by decide)) | exact fun _=>Zba8 (v:=v5) V O),(by first | (intro hr;exact absurd hr (by decide)) | exact fun _=>Zbfj (v:=v5) V O)⟩):p:=h
theorem Zbc4{p:Prop}(h:p:=by exact tR ⟨tk92,(by first | assumption | (intro hr;exact absurd hr (by decide)) | (intro hr;grind)),tk92⟩):p:=h
theorem Za4l{p:Prop}(h:p:=by exact tR (by first | exact yo_c V V V V V V | exact yo_b V V V V | exact yo_a V V)):p:=h
theorem Zbc5{p:Prop}(h:p:=by have eh9_1:=h9.2;exact tR ⟨h9.1,tk22⟩):p:=h
theorem Zbc6{p:Prop} (h:p:=by
 apply tF<;>intro h2
 .exact tl64
 exact tl64):p:=h
theorem Zane{p:Prop}(h:p:=by exact tR ⟨(by first | (intro hr;exact absurd hr (by decide)) | (intro _ c hc;obtain⟨k,hk⟩:=List.mem_iff_getElem?.1 hc;exact i0 k c (by grind) hk)),(by first | (intro hr;exact absurd hr (by decide)) | (intro _;exact Zbe7 V O))⟩):p:=h
theorem Zbc7{p:Prop}(h:p:=by exact tJ (Zvr ⟨rfl,O1,⟨SzS.nil,SzL.nil,SzL.nil⟩,tk27⟩)):p:=h
theorem Za4m{p:Prop}(h:p:=by exact tR ⟨tk61,tk35⟩):p:=h
theorem Zbc8{p:Prop} (h:p:=by
 apply tD<;>intro h4
 .apply tD<;>intro h5
  .exact Zr8
  exact Zr8
 exact Zr8):p:=h
theorem Zaua{p:Prop}(h:p:=by exact tR (by first | exact ac_d V V V V V V V V | exact ac_c V V V V | exact ac_b V V | exact ac_a V V)):p:=h
theorem Zbc9{p:Prop}(h:p:=by exact tL ⟨rfl,rfl,ov0,cl,cl,cl,cl,tk25⟩ tk67):p:=h
theorem Zbda{p:Prop} (h:p:=by
 apply tE<;>intro h6
 .exact Zkz
 exact Zkz):p:=h
theorem Zbdb{p:Prop}(h:p:=by exact tL ⟨rfl,O0,O1,cl,cl,cl,cl,Z8v,cl,O,(by first | exact Zbld (Za8m V O) | exact Zble V O O O)⟩ Z34):p:=h
theorem Zbdc{p:Prop}(h:p:=by exact tL ⟨rfl,O0,O1,cl,cl,cl,cl,cl,cl,Z8v,cl,cl,cl,cl,O,(by first | exact MK_0 V | exact Za8l V O O O)⟩ Z34):p:=h
theorem Zbdd{p:Prop}(h:p:=by exact tL ⟨cl,cl,Zai,Zf5,(by first | with_reducible exact Zbk0 _ | with_reducible exact Zbk2 V V O O V O | with_reducible exact Zbk3 V V O O O O)⟩ (by unfold Z7c lt6;dsimp only;omega)):p:=h
theorem Zbde{p:Prop}(h:p:=by exact tL ⟨rfl,rfl,ov0,O0,cl,tk10⟩ (by unfold Zvq lt6;dsimp only;omega)):p:=h
theorem Zbdf{p:Prop}(h:p:=by have q1:=wr (v17+1);exact Zbdd):p:=h
theorem Zbdg{p:Prop}(h:p:=by have q1:=wr (v15+1);exact tL ⟨rfl,rfl,ov0,O0,ov5,ov13,cl,cl,cl,Zf5,tk21,Zai,cs⟩ Z8w):p:=h
theorem Zbdh{p:Prop}(h:p:=by exact tR ⟨ov6,oc0,cl,cl,cl,cl,cl,cl,Zbs,Zco,Zco,(by first | exact sg_e V V V | exact absurd (Zbl1 V V (Za2a V) V) id)⟩):p:=h
theorem Zanf{p:Prop}(h:p:=by have q1:=wr (v16+1);exact tL ⟨rfl,ov1,ov14,cl,V,cl,cl,V,tk83,V,tk30⟩ (by unfold Zvt lt6;dsimp only;omega)):p:=h
theorem Zbdi{p:Prop}(h:p:=by exact tL ⟨rfl,oa0,SzL.nil,cl,cl,cl,tk76,tk76,cl,cl,tk33⟩ (by unfold Zvv lt6;dsimp only;omega)):p:=h
theorem Zaub{p:Prop}(h:p:=by exact tR tk3):p:=h
theorem Zbdj{p:Prop}(h:p:=by have q1:=wr (v8+1);exact tL ⟨rfl,ov3,ov6,cl,cl,cl,cl,tk68,tk8⟩ Za44):p:=h
theorem Za4n{p:Prop}(h:p:=by have q1:=wr (v20+1);exact tL ⟨rfl,rfl,O1,ov18,cl,cl,cl,cl,cl,cl,cl,Zbs,V,cl,cl,cl,Zai,V,tk19⟩ Zbds):p:=h
theorem Zbdk{p:Prop}(h:p:=by have q1:=wr (v25+1);exact tL ⟨rfl,rfl,O1,ov8,ov23,cl,cl,cl,cl,cl,cl,cl,Zbs,V,cl,cl,cl,cl,cl,V,Zai,tk4⟩ Za41):p:=h
theorem Zbdl{p:Prop}(h:p:=by exact tL ⟨rfl,ov7,cl,Ze6,cl,cl,cl,cl,cl,cl,Zbs,V,cl,tk69,Z8v,cl,V,(by first | assumption | exact mp_e V O),Zaet,(by first | exact Zblv V | exact Zbfp V O V O O)⟩ tk96):p:=h
theorem Zbdm{p:Prop}(h:p:=by exact tL ⟨oc0,ov10,cl,cl,cl,cl,cl,cl,cl,Zbs,Zco,Zco,cl,cl,Zai,tk5,Zai,Zai,Zai⟩ Za42):p:=h
theorem Zbdn{p:Prop}(h:p:=by exact tL ⟨rfl,ov7,cl,Ze6,cl,cl,cl,cl,cl,cl,Zbs,V,cl,tk69,Z8v,cl,V,V,(by first | exact mp_0 | exact mp_y V V V O O V V V | exact mp_n V V O O V V),Zaet⟩ tk96):p:=h
theorem Zbdo{p:Prop}(h:p:=by have q1:=wr (v44+1);exact Zbdn):p:=h
theorem Zbdp{p:Prop}(h:p:=by exact tL ⟨rfl,O0,O1,cl,cl,cl,cl,cl,cl,cl,cl,Z8v,cl,cl,cl,cl,cl,cl,cl,tk0⟩ Z34):p:=h
theorem Zbdq{p:Prop}(h:p:=by have q1:=wr (v57+1);exact Zbdp):p:=h
theorem Zang{p:Prop}(h:p:=by have q1:=wr (v44+1);exact tL ⟨O1,ov7,ov42,cl,cl,cl,cl,cl,cl,cl,Zbs,V,cl,cl,cl,cl,tk58,tk2,V,V,Zai,(by grind),tk91⟩ tk99):p:=h
theorem Za4o{p:Prop}(h:p:=by have q1:=wr (v44+1);exact tL ⟨O1,SzL.tr,ov42,cl,cl,cl,cl,cl,cl,cl,Zbs,V,cl,cl,cl,cl,tk58,tk2,V,V,Zai,(by grind),tk91⟩ tk99):p:=h
theorem Zbdr{p:Prop}(h:p:=by have q1:=wr (v82+1);exact tL ⟨rfl,ov7,O1,cl,cl,cl,Ze6,cl,cl,cl,cl,cl,cl,Zbs,V,cl,tk69,Z8v,cl,cl,V,cl,cl,Ziw,cl,cl,cl,cl,cl,cl,Zbs,V,Zaet,tk94,V,Ze6,tk1⟩ tk96):p:=h
theorem tk0{p:Prop}(h:p:=by first | assumption | exact Za8k V V V V O (wm_y (m':=v9) (i':=v10) V V V V V O O O O O O O O V V) V O | exact Za2d V (wm_b (m':=v9) V V V O V O O O V) V O | exact Za2d V (wm_a (m':=v9) (i':=v10) V V V O O O O O O V) V O):p:=h
theorem tk1{p:Prop}(h:p:=by first | assumption | exact Zblx V V V V V V V O O (Za39 V V V) V V V V V | exact Zbcx V V V O O (Za39 V V V) (.inl V) | exact Zbcx V V V O O (Za39 V V V) (.inr V)):p:=h
theorem tk2{p:Prop}(h:p:=by first | exact Za37 | exact Zbcu V V V O V (by first | exact ht_c V V V V | exact (ht_m V V V V O).trans V) rfl | exact Zbcv V V V O (by first | exact ht_n V V V | exact (ht_m V V V V O).trans V | exact ht_z V | (exfalso;grind))):p:=h
theorem tk3{p:Prop}(h:p:=by first | exact de_y V V V V V V V V | exact de_e V O V V (by first | exact de_1 V | exact de_2 V V | exact de_3 V V V V | exact de_4 V V V V V)):p:=h
theorem tk4{p:Prop}(h:p:=by first | exact nu_0 V rfl | exact Za8s V V V O (by assumption:_/\_/\_).2.2 (nu_y V V V V V) | exact Za38 V V V O (nu_s V V) | exact Za38 V V V O (nu_k V)):p:=h
theorem tk5{p:Prop}(h:p:=by first | exact Zblz | exact ct_y V V V V V V V V O O V V | exact ct_n V V V O O (.inl V) | exact ct_n V V V O O (.inr V)):p:=h
theorem tk6{p:Prop}(h:p:=by first | exact Zbls V | exact dr_y V V V V O O V V V | exact Zbcw V V O O V (.inl V) | exact Zbcw V V O O V (.inr V)):p:=h
theorem tk7{p:Prop}(h:p:=by first | assumption | exact Za8k V V V V O (Zblc V V V V) V O | exact Za8l V O O O | exact Zblb V V V | exact Zbhk V):p:=h
theorem tk8{p:Prop}(h:p:=by first | rfl | exact el_y' V V V O V V V V | exact el_n V V V O (.inl O) | exact el_n' V V V O V V):p:=h
theorem tk9{p:Prop}(h:p:=by first | exact Zbk6 V | exact Za15 V V V O O O rfl | exact Za15 V V V O O O (by subst_vars;rfl) | exact Zbba V V O O O):p:=h
theorem tk10{p:Prop}(h:p:=by first | exact Zbgy | exact Zasg (v:=v5) V V O O (Zbgz (v:=v5) V O V) O | exact Zasg (v:=v5) V V O O (fun y hv _=>absurd hv O) O):p:=h
theorem tk11{p:Prop}(h:p:=by first | exact Zblq V | exact tr_y V V V V V V O O V V | exact Zblr V V O O V V):p:=h
theorem tk12{p:Prop}(h:p:=by first | rfl | exact Zbep V V V V ((by assumption:rdB _ _ _ = !_).trans (by simp [*])) O | exact Zbar V V V ((by assumption:rdB _ _ _ = !_).trans (by simp [*])) O):p:=h
theorem tk13{p:Prop}(h:p:=by first | assumption | exact Zbcs | exact Zbbc V V O O V | exact Za8d V V O O O | (rw [show IntKind.wrap .i64 (v18+1)=v18+1 by omega];assumption)):p:=h
theorem tk14{p:Prop}(h:p:=by first | exact Zbat V V O | exact Zber (v:=v0) (i:=v5) (j:=v6) V (by grind) V (by grind) O O | exact Zbes (j:=v6) V V (by grind) O):p:=h
theorem tk15{p:Prop}(h:p:=by first | exact af_h V V V | exact af_n V V V V | exact af_l V O V V V V V):p:=h
theorem tk16{p:Prop}(h:p:=by first | exact Zbk8 (by grind) | exact Zayg V V V O O rfl | exact Zayg V V V O O (by subst_vars;rfl)):p:=h
theorem tk17{p:Prop}(h:p:=by first | with_reducible exact pr_0 V V | with_reducible exact Zbe6 V (by rw [<- (by assumption:v32=a0.Abilities)];assumption) O O V V):p:=h
theorem tk18{p:Prop}(h:p:=by first | exact sg_0 V V O V V | exact sg_y V V V V V V V):p:=h
theorem tk19{p:Prop}(h:p:=by first | rfl | exact dp_n V V V O (by first | exact dp_c V V | exact dp_b V V | exact dp_a V)):p:=h
theorem Z1q{p:Prop}(h:p:=by first | (rw [Zblh (by first | (simp only [inB];simp;omega) | grind)];done) | exact Zbli (by grind) | (rw [Zblj (by first | grind | (unfold inB;grind)) (by grind)];unfold mdK;(try unfold inB at *);grind)):p:=h
theorem tk21{p:Prop}(h:p:=by first | exact Zbk7 | exact Zbbb V V O O O | exact Zbe8 V V V O O O O):p:=h
theorem tk22{p:Prop}(h:p:=by first | exact Zbln V (by grind) | exact ln_p V V V (by first | exact .inl ⟨by omega,rfl⟩ | exact .inr ⟨by omega,rfl⟩) (by grind) (by grind) (by grind)):p:=h
theorem tk23{p:Prop}(h:p:=by first | (intro k y hk;omega) | exact Zrw V V V V O | exact Zrw V V V (by grind) O):p:=h
theorem tk24{p:Prop}(h:p:=by first | exact Za37 | exact Zbcu V V V O V (by grind) rfl | exact Zbcv V V V O (by grind)):p:=h
theorem tk25{p:Prop}(h:p:=by first | exact Zbk9 O | exact Zbhe V V O O O | exact Zbhf V V O O O | assumption):p:=h
theorem tk26{p:Prop}(h:p:=by first | exact Zbl3 | exact sl_y V V V O O V | exact Zbl4 V V O O V):p:=h
theorem tk27{p:Prop}(h:p:=by rw [<- (by assumption:v5=if E0.Copy < 0 then E0.Card else E0.Copy)];first | exact (Zapm O).symm | (rw [Za13 V O];assumption)):p:=h
theorem tk28{p:Prop}(h:p:=by subst_vars;first | exact ur_1 (m:=a0) (by grind) | exact ur_2 (m:=a0) (by grind) | exact ur_3 (m:=a0) (by grind) | exact ur_4 (m:=a0) (by grind) | exact ur_5 (m:=a0) (by grind)):p:=h
theorem tk29{p:Prop}(h:p:=by first | exact sl_n V V V V V V | exact sl_0 V V V O):p:=h
theorem tk30{p:Prop}(h:p:=by first | rfl | exact nx_y V V V O O | exact nx_n V V V O O):p:=h
theorem tk31{p:Prop}(h:p:=by first | (intro k c hk;omega) | (intro k c hk hc;rcases Zat8 (v:=v4) V O hk hc V with h | h;(exact i0 k c h hc);(rw [h];assumption))):p:=h
theorem tk32{p:Prop}(h:p:=by first | assumption | exact cp_e V V V V | exact cp_n V V V V):p:=h
theorem tk33{p:Prop}(h:p:=by first | exact rl_0 | exact rl_n V V V V O O O V V O):p:=h
theorem tk34{p:Prop}(h:p:=by first | exact Zbgo V V | exact Zbgm (v:=v0) (i:=v5) (j:=v6) V V V O O):p:=h
theorem tk35{p:Prop}(h:p:=by first | (refine⟨fun _=>by omega,fun _=>rfl⟩) | (have w := ‹_∈A3.list _›;simp only [A3.list,List.mem_cons,List.not_mem_nil,or_false] at w;grind) | grind):p:=h
theorem tk36{p:Prop}(h:p:=by first | assumption | with_reducible exact lo_1 V V V V V V | (exfalso;grind)):p:=h
theorem tk37{p:Prop}(h:p:=by first | exact is_0 | exact is_y V V V V O O | exact is_s V O):p:=h
theorem tk38{p:Prop}(h:p:=by first | exact cg_c V V V V | exact cg_b V V | exact cg_a V):p:=h
theorem tk39{p:Prop}(h:p:=by first | assumption | exact Zapn | exact Za18 V V O O | exact Zbe9 V V):p:=h
theorem tk40{p:Prop}(h:p:=by subst_vars;first | exact us_1 (by grind) | exact us_2 (by grind) | exact us_3 (by grind) | exact us_4 (by grind) | exact us_5 (by grind)):p:=h
theorem tk41{p:Prop}(h:p:=by first | exact Zbhg V O V O V | exact Zbla V O):p:=h
theorem tk42{p:Prop}(h:p:=by first | (intro k x hk;omega) | exact Zbfr V V V V O O):p:=h
theorem tk43{p:Prop}(h:p:=by first | exact tr_0 rfl | assumption | exact Zbhq V V V O O O):p:=h
theorem tk44{p:Prop}(h:p:=by first | exact dr_0 rfl | assumption | exact Zbhr V V V O O O):p:=h
theorem tk45{p:Prop}(h:p:=by first | rfl | assumption | exact cp_0 V V | exact cp_c V V V):p:=h
theorem tk46{p:Prop}(h:p:=by first | exact Zbgv | exact Za79 V V V (by first | assumption | grind) O):p:=h
theorem tk47{p:Prop}(h:p:=by first | exact sc_0 V O | exact sc_n V V V O O):p:=h
theorem tk48{p:Prop}(h:p:=by first | exact Za19 | assumption | exact sub_app' (d:=v16) V V V V):p:=h
theorem Z8v{p:Prop}(h:p:=by first | assumption | exact Zbfd V O | exact Zbfb V V V):p:=h
theorem tk50{p:Prop}(h:p:=by first | (simp;done) | exact Zayh V V V V O O):p:=h
theorem tk51{p:Prop}(h:p:=by first | with_reducible exact Zba9 V V V V | (subst_vars;rfl)):p:=h
theorem tk52{p:Prop}(h:p:=by first | (intro k y hk;omega) | exact Zrw V V V (by grind) O):p:=h
theorem tk53{p:Prop}(h:p:=by first | (intro k x hk;omega) | exact Zrw V V V (by grind) O):p:=h
theorem Zbs{p:Prop}(h:p:=by first | assumption | exact Za8c | exact Zbcr (by assumption:(_:Int)=_/\∀ y:List Int,y∈_->y=[]).2):p:=h
theorem tk55{p:Prop}(h:p:=by first | assumption | exact Zbcs | exact Za8d V V O O O):p:=h
theorem tk56{p:Prop}(h:p:=by first | (intro k x hk;omega) | exact Zrw V V O (by grind) O):p:=h
theorem tk57{p:Prop}(h:p:=by first | rfl | exact bl_n V V O O V V):p:=h
theorem tk58{p:Prop}(h:p:=by first | assumption | exact Zapn | exact Za18 V V O O):p:=h
theorem tk59{p:Prop}(h:p:=by first | (simp;done) | exact Zbl2 V V V O O):p:=h
theorem Zba{p:Prop}(h:p:=by unfold SzN;first | omega | (simp only [List.length_append,List.length_cons,List.length_nil];omega)):p:=h
theorem tk61{p:Prop}(h:p:=by unfold SzT;first | omega | (simp only [List.length_append,List.length_cons,List.length_nil];omega)):p:=h
theorem tk62{p:Prop}(h:p:=by first | exact is_e V | exact is_e (is_n V V V)):p:=h
theorem tk63{p:Prop}(h:p:=by first | exact Zblk | exact Zbbh V V O (by grind) O):p:=h
theorem tk64{p:Prop}(h:p:=by first | exact Zbfn V | exact Zbfo V V V):p:=h
theorem tk65{p:Prop}(h:p:=by first | exact so_0 | exact so_n V V V O O):p:=h
theorem tk66{p:Prop}(h:p:=by first | exact rt_e V | exact rl_e V V O O):p:=h
theorem tk67{p:Prop}(h:p:=by unfold Zb3 lt6;dsimp only;omega):p:=h
theorem tk68{p:Prop}(h:p:=by first | exact Za19 | assumption | exact Zbfa V V V):p:=h
theorem tk69{p:Prop}(h:p:=by first | assumption | exact Zbff | exact Zbfg V V V):p:=h
theorem tk70{p:Prop}(h:p:=by intro m hm;simp only [List.mem_cons,List.not_mem_nil,or_false] at hm;subst hm;exact Zbgk _):p:=h
theorem tk71{p:Prop}(h:p:=by first | assumption | (rw [if_pos V];assumption) | (rw [if_neg V])):p:=h
theorem tk72{p:Prop}(h:p:=by first | assumption | exact nd_f V V | exact nd_z V):p:=h
theorem tk73{p:Prop}(h:p:=by unfold Zcy lt6;dsimp only;omega):p:=h
theorem Zdj{p:Prop}(h:p:=by first | (simp only [List.length_append,List.length_cons,List.length_nil];omega) | omega):p:=h
theorem tk75{p:Prop}(h:p:=by first | (intro hr;exact absurd hr (by decide)) | (intro hr;exact⟨by omega,by grind⟩)):p:=h
theorem tk76{p:Prop}(h:p:=by first | assumption | (have:=rt_k (a:=a1) (n:=(a0.length:Int)) O;omega)):p:=h
theorem tk77{p:Prop}(h:p:=by unfold Zdo lt6;dsimp only;omega):p:=h
theorem tk78{p:Prop}(h:p:=by first | assumption | exact Zapn | exact (Za8e V V).2):p:=h
theorem tk79{p:Prop}(h:p:=by unfold Zdp lt6;dsimp only;omega):p:=h
theorem tk80{p:Prop}(h:p:=by first | assumption | exact wr_n V V O O):p:=h
theorem tk81{p:Prop}(h:p:=by first | (intro hr;exact absurd hr (by decide)) | (intro _;assumption) | assumption):p:=h
theorem tk82{p:Prop}(h:p:=by unfold Zd5 lt6;dsimp only;omega):p:=h
theorem tk83{p:Prop}(h:p:=by first | assumption | exact Zbg7 V V | (left;omega)):p:=h
theorem tk84{p:Prop}(h:p:=by first | rfl | assumption | (simpa using (by assumption:_=[]++a0)) | grind):p:=h
theorem tk85{p:Prop}(h:p:=by first | omega | exact (Za8e V V).1 | (simp;done)):p:=h
theorem tk86{p:Prop}(h:p:=by first | assumption | exact is_n V V V):p:=h
theorem tk87{p:Prop}(h:p:=by first | omega | (have:=(by assumption:ML _ _ _) _ V;omega)):p:=h
theorem tk88{p:Prop}(h:p:=by first | assumption | exact Za2c V O V):p:=h
theorem tk89{p:Prop}(h:p:=by unfold Ze2 lt6;dsimp only;omega):p:=h
theorem tk90{p:Prop}(h:p:=by first | (intro hr;exact absurd hr Bool.false_ne_true) | (intro _;omega)):p:=h
theorem tk91{p:Prop}(h:p:=by first | assumption | exact (Zzu V).trans V):p:=h
theorem tk92{p:Prop}(h:p:=by first | (intro hr;exact absurd hr (by decide)) | (intro hr;grind)):p:=h
theorem tk93{p:Prop}(h:p:=by first | (intro hr;exact absurd hr (by decide)) | (intro _;omega)):p:=h
theorem tk94{p:Prop}(h:p:=by first | assumption | (rw [<- (by assumption:_=b0)];assumption)):p:=h
theorem Ze6{p:Prop}(h:p:=by first | assumption | exact Zbly V V):p:=h
theorem tk96{p:Prop}(h:p:=by unfold Zim lt6;dsimp only;omega):p:=h
theorem tk97{p:Prop}(h:p:=by first | assumption | exact fa_m V V):p:=h
theorem tk99{p:Prop}(h:p:=by unfold Zjt lt6;dsimp only;omega):p:=h
theorem Zanh{p:Prop}(h:p:=by first | omega | exact shl_ne' O O | decide):p:=h
theorem Za40{p:Prop}(h:p:=by first | assumption | exact Zbha V O):p:=h
theorem Zbds{p:Prop}(h:p:=by unfold Zkq lt6;dsimp only;omega):p:=h
theorem Za41{p:Prop}(h:p:=by unfold Zks lt6;dsimp only;omega):p:=h
theorem Za42{p:Prop}(h:p:=by unfold Zme lt6;dsimp only;omega):p:=h
theorem Zaer{p:Prop}(h:p:=by unfold Zmg lt6;dsimp only;omega):p:=h
theorem Zaes{p:Prop}(h:p:=by unfold Zmh lt6;dsimp only;omega):p:=h
theorem Zbdt{p:Prop}(h:p:=by unfold Znv lt6;dsimp only;omega):p:=h
theorem Zbdu{p:Prop}(h:p:=by unfold Znw lt6;dsimp only;omega):p:=h
theorem Zbdv{p:Prop}(h:p:=by first | omega | (rw [(by assumption:v13=_)];omega)):p:=h
theorem Za43{p:Prop}(h:p:=by have e:(A6.list E0).length=6:=rfl;omega):p:=h
theorem Zaet{p:Prop}(h:p:=by first | assumption | exact Za2a V):p:=h
theorem Zaeu{p:Prop}(h:p:=by first | assumption | exact Za8r V):p:=h
theorem Za44{p:Prop}(h:p:=by unfold Zxq lt6;dsimp only;omega):p:=h
theorem Z8w{p:Prop}(h:p:=by unfold Z4d lt6;dsimp only;omega):p:=h
theorem Z34{p:Prop}(h:p:=by unfold Z4i lt6;dsimp only;omega):p:=h
theorem Za45{p:Prop}(h:p:=by unfold Z4j lt6;dsimp only;omega):p:=h
theorem Za46{p:Prop}(h:p:=by unfold Z69 lt6;dsimp only;omega):p:=h
theorem Zani{p:Prop}(h:p:=by unfold Z7g lt6;dsimp only;omega):p:=h
theorem Zauc{p:Prop}(h:p:=by unfold Zaao lt6;dsimp only;omega):p:=h
theorem Za47{p:Prop}(h:p:=by unfold Zrr lt6;dsimp only;omega):p:=h
theorem Zanj{p:Prop}(h:p:=by unfold Zi5 lt6;dsimp only;omega):p:=h
theorem Zco{p:Prop}(h:p:=by first | rfl | assumption | grind):p:=h
theorem Za48{p:Prop}(h:p:=by first | rfl | (subst_vars;rfl)):p:=h
theorem Z8x{p:Prop}(h:p:=by subst_vars;unfold apV;grind):p:=h
theorem Za49{p:Prop}(h:p:=by intro _ _;unfold wtP;grind):p:=h
theorem Zf5{p:Prop}(h:p:=by first | assumption | grind):p:=h
theorem Zai{p:Prop}(h:p:=by first | rfl | assumption):p:=h
theorem Ziw{p:Prop}(h:p:=by first | omega | grind):p:=h
theorem Zf6{p:Prop}(h:p:=by first | assumption):p:=h
abbrev Zhj(x:Zac):Prop:=(SzL 16 SzT) x.Subs
theorem Zapy{x:Zac}(h:Z5b x):Zhj x:=(Zfk h.2.2 (fun _ h=>Zbgl h))
abbrev Zao(x:Ze):Prop:=SzS x.Sub
theorem Zen{x:Ze}(h:Zep x):Zao x:=(Zakv h.2.2.2.2.2.2.2.1)
abbrev Z3(x:Zd):Prop:=SzS x.Sub/\Zao x.Filter
theorem Zyg{x:Zd}(h:Zt3 x):Z3 x:=⟨Zakv h.2.2.2.1,Zen h.2.2.2.2⟩
abbrev Zp5(x:Zcs):Prop:=Zao x.Filter
theorem Zae1{x:Zcs}(h:Zvh x):Zp5 x:=(Zen h.2.2)
abbrev Zge(x:Za9):Prop:=Zao x.Filter
theorem Zapz{x:Za9}(h:Z5c x):Zge x:=(Zen h.2.2)
abbrev Zt6(x:Zgn):Prop:=Zao x.Filter
theorem Zas4{x:Zgn}(h:Z8j x):Zt6 x:=(Zen h.2.2)
abbrev Zyh(x:Zbk):Prop:=Zao x.Filter
theorem Zajf{x:Zbk}(h:Zya x):Zyh x:=(Zen h.2.2.2)
abbrev Zab(x:Zs):Prop:=Zt6 x.Ref/\Zyh x.Amount/\SzS x.Card/\Zao x.Filter/\(SzL 176 Z3) x.Mods
theorem Zajg{x:Zs}(h:Zyb x):Zab x:=⟨Zas4 h.2.1,Zajf h.2.2.1,Zakv h.2.2.2.2.2.1,Zen h.2.2.2.2.2.2.1,Zfk h.2.2.2.2.2.2.2.2 (fun _ h=>(Zyg h))⟩
abbrev Zex(x:Za6):Prop:=Zao x.Filter
theorem Zae2{x:Za6}(h:Zvi x):Zex x:=(Zen h.2.2.1)
abbrev Z5(x:Zh):Prop:=Zao x.Filter/\(SzL 176 Z3) x.Mods/\Zp5 x.Trigger/\(SzL 144 Zge) x.Specs/\(SzL 560 Zab) x.Effects/\Zex x.Replace
theorem Zql{x:Zh}(h:Zma x):Z5 x:=⟨Zen h.2.1,Zfk h.2.2.1 (fun _ h=>(Zyg h)),Zae1 h.2.2.2.2.2.1,Zfk h.2.2.2.2.2.2.2.1 (fun _ h=>(Zapz h)),Zfk h.2.2.2.2.2.2.2.2.1 (fun _ h=>(Zajg h)),Zae2 h.2.2.2.2.2.2.2.2.2⟩
abbrev Zag(x:Zm):Prop:=SzS x.Name/\Zhj x.Line/\(SzL 640 Z5) x.Abilities
theorem Zap0{x:Zm}(h:Zahw x):Zag x:=⟨Zakv h.1,Zapy h.2.2.2.2.1,Zfk h.2.2.2.2.2.2.2.2 (fun _ h=>(Zql h))⟩
abbrev Zj4(x:Zkf):Prop:=(SzL 8 (fun _=>True)) x.Library/\(SzL 8 (fun _=>True)) x.Hand/\(SzL 8 (fun _=>True)) x.Graveyard
theorem Zajh{x:Zkf}(h:Zyc x):Zj4 x:=⟨Zfk h.2.2.2.2.2.2.1 (fun _ _=>trivial),Zfk h.2.2.2.2.2.2.2.1 (fun _ _=>trivial),Zfk h.2.2.2.2.2.2.2.2 (fun _ _=>trivial)⟩
abbrev Zv7(x:Zmw):Prop:=Z5 x.Ability/\(SzL 16 (fun _=>True)) x.Targets
theorem Zap1{x:Zmw}(h:Z5d x):Zv7 x:=⟨Zql h.2.2.2.2.2.2.1,Zfk h.2.2.2.2.2.2.2.1 (fun _ _=>trivial)⟩
abbrev Zvn(x:Zkw):Prop:=Z5 x.Ability
theorem Zae3{x:Zkw}(h:Zvj x):Zvn x:=(Zql h.2.2.1)
abbrev Zfp(x:Zav):Prop:=(SzL 8 (fun _=>True)) x.Objects/\(SzL 176 Z3) x.Mods
theorem Zap2{x:Zav}(h:Z5e x):Zfp x:=⟨Zfk h.2.2.2.2.1 (fun _ _=>trivial),Zfk h.2.2.2.2.2 (fun _ h=>(Zyg h))⟩
abbrev Z8(x:Zk):Prop:=(SzL 152 Zj4) x.Players/\(SzL 128 (fun _=>True)) x.Objects/\(SzL 8 (fun _=>True)) x.Battlefield/\(SzL 8 (fun _=>True)) x.Exile/\(SzL 824 Zv7) x.Stack/\(SzL 768 Zvn) x.Waiting/\(SzL 80 Zfp) x.Conts/\(SzL 8 (fun _=>True)) x.Extra
theorem Zank{x:Zk}(h:Zadh x):Z8 x:=⟨Zfk h.1 (fun _ h=>(Zajh h)),Zfk h.2.1 (fun _ _=>trivial),Zfk h.2.2.1 (fun _ _=>trivial),Zfk h.2.2.2.1 (fun _ _=>trivial),Zfk h.2.2.2.2.1 (fun _ h=>(Zap1 h)),Zfk h.2.2.2.2.2.1 (fun _ h=>(Zae3 h)),Zfk h.2.2.2.2.2.2.1 (fun _ h=>(Zap2 h)),Zfk h.2.2.2.2.2.2.2.2.2.2.2.2.2.2.2.2.1 (fun _ _=>trivial)⟩
abbrev Zbt(x:Zv):Prop:=(SzL 8 (fun _=>True)) x.Objects/\Zao x.Filter/\(SzL 176 Z3) x.Mods
abbrev Zz(x:Zb):Prop:=SzS x.Name/\Zhj x.Line/\(SzL 640 Z5) x.Abilities
abbrev Z2(x:Zc):Prop:=Z8 x.s/\(SzL 224 Zbt) x.forces/\(SzL 176 Zz) x.traits/\(SzL 1 (fun _=>True)) x.dropped/\(SzL 1 (fun _=>True)) x.done/\(SzL 24 (SzL 8 (fun _=>True))) x.hits
abbrev Zyi(x:Zaa):Prop:=(SzL 8 (fun _=>True)) x.hits/\(SzL 8 (fun _=>True)) x.numbers
theorem Zahx{a0:Int}:Tot (Zaek a0) (fun r=>True):=by
 apply tZ;dsimp only [Zabn,LT.den];exact tl19
def Z8y:Zmx->Prop
 | .L0 v0 v3=>(SzT v0)/\(0<=v3)
 | .L1 v0 v3=>(SzT v0)/\(0<=v3)/\(v3 < (v0.length:Int))/\(0<=v3)/\(v3 < v0.length)
def Zxk:Zmx->M6
 | .L0 v0 v3=>(1,((v0.length:Int) - v3).toNat,1000000,0,0,0)
 | .L1 v0 v3=>(1,((v0.length:Int) - v3).toNat,0,0,0,0)
theorem Zaad{v0:List UInt8}{v3:Int}(h:Z8y (.L1 v0 v3)):Tot (Zkg v0 v3).den (Nx Z8y Zxk (1,((v0.length:Int) - v3).toNat,0,0,0,0) (fun r=>True)):=by
 obtain⟨ov0,cv3,bd2,i0,i1⟩:=h;have lb_v0:v0.length<=562949953421312:=ov0;dsimp only [Zkg,LT.den];apply tD<;>intro h1
 .refine Tot.ix fun x1 h2=>?_;apply tE<;>intro h3
  .have q1:=wr (v3 - 1);refine Tot.ix fun x2 h4=>?_;apply tE<;>intro h5
   .exact tR trivial
   have q2:=wr (v3+1);exact tl16
  exact tl41
 exact tl41
theorem Zanl{a0:List UInt8}(oa0:SzT a0):Tot (Zak0 a0) (fun r=>True):=by
 apply Tot.rn Z8y Zxk
 .have lb_a0:a0.length<=562949953421312:=oa0;dsimp only [Zaih,LT.den];apply tD<;>intro h1
  .exact tR trivial
  apply tD<;>intro h2
  .exact tR trivial
  refine Tot.ix fun x1 h3=>tB (Zahx) fun x2 h4=>?_;apply tO<;>intro h5
  .exact tR trivial
  have q1:=wr ((a0.length:Int) - 1);refine Tot.ix fun x3 h6=>?_;apply tE<;>intro h7
  .exact tR trivial
  exact tL ⟨oa0,cl⟩ (by unfold Zxk lt6;dsimp only;omega)
 intro s hs;cases s with
 | L0 v0 v3=>
  obtain⟨ov0,cv3⟩:=hs;dsimp only [Zu2,Zsg,LT.den,Zxk];apply tD<;>intro h1
  .refine Tot.ix fun x1 h2=>tB (Zahx) fun x2 h3=>?_;apply tO<;>intro h4
   .refine Tot.ix fun x3 h5=>?_;apply tD<;>intro h6
    .refine Tot.ix fun x4 h7=>?_;apply tN<;>intro h8
     .exact tR trivial
     exact tl6
    refine Tot.ix fun x4 h7=>?_;apply tD<;>intro h8
    .refine Tot.ix fun x5 h9=>?_;apply tN<;>intro h10
     .exact tR trivial
     exact tl6
    exact tl6
   exact tl6
  exact tR trivial
 | L1 _ _=>exact Zaad hs
def Zyj(n m:Int):Bool:=decide (n>=0)&&decide (n<=m)
def Zado(c:Zt):Bool:=Zyj c.Generic 99&&(Zyj c.X 2&&c.Color.list.all fun n=>Zyj n 9)
theorem Za5a(c:Zt):Z52 c=some (Zado c):=by
 unfold Z52 LF.run;dsimp only [Zaii,LT.den]
 have hl:Zc3 Zkx.step (.L0 c 0)=some (c.Color.list.all fun n=>Zyj n 9):=by
  have:=Z0b (st:=fun i=>Zmy.L0 c (i:Int)) (step:=Zkx.step) (bad:=false) c.Color.list (fun n=>Zyj n 9) (fun i x hx=>by
   have hi:=(List.getElem?_eq_some_iff.1 hx).1
   have hi:i < 5:=hi
   show (Zot _ _).den=_
   dsimp only [Zot,LT.den]
   rw [decide_eq_true O,Zke hx,Zfj O O]
   simp only [cond_true,Option.bind_some]
   unfold Zyj
   by_cases h1:x < 0
   .rw [decide_eq_true h1,decide_eq_false (show ¬ x>=0 by omega)];rfl
   .rw [decide_eq_false h1,decide_eq_true (show x>=0 by omega)]
    by_cases h2:x > 9
    .rw [decide_eq_true h2,decide_eq_false (show ¬ x<=9 by omega)];rfl
    .rw [decide_eq_false h2,decide_eq_true (show x<=9 by omega)];rfl)
  rw [show (Zmy.L0 c 0) = .L0 c ((0:Nat):Int) from rfl,this]
  have he:Zc3 Zkx.step (.L0 c ((c.Color.list.length:Nat):Int))=some true:=by
   refine Zdu ?_
   show (Zot c 5).den=_
   rfl
  rw [he]
  cases c.Color.list.all fun n=>Zyj n 9<;>rfl
 refine (Zbu fun _=>Zbu fun _=>Zbu fun _=>Zbu fun _=>(show Option.bind (some (Sum.inl (Zmy.L0 c 0))) (Zhm Zkx.step)=some (c.Color.list.all fun n=>Zyj n 9) from hl)).trans ?_;congr 1
 unfold Zado Zyj;rw [Bool.eq_iff_iff];simp only [Bool.and_eq_true,Bool.not_eq_true',decide_eq_false_iff_not,decide_eq_true_eq,ge_iff_le,gt_iff_lt,Int.not_lt];constructor
 .rintro ⟨h1,h2,h3,h4,h5⟩;exact⟨⟨h1,h2⟩,⟨h3,h4⟩,h5⟩
 .rintro ⟨⟨h1,h2⟩,⟨h3,h4⟩,h5⟩;exact⟨h1,h2,h3,h4,h5⟩
theorem Z8z(a0:Zt):Tot (Z52 a0) (fun r=>(r=true->a0.X<=2)/\(r=true->∀ n,n∈A5.list a0.Color->n<=9)/\(r=Z1n a0)):=by
 refine⟨_,Za5a a0,fun h=>?_,fun h n hn=>?_,?_⟩
 .simp only [Zado,Zyj,Bool.and_eq_true,decide_eq_true_eq] at h;exact h.2.1.2
 .simp only [Zado,Zyj,Bool.and_eq_true,decide_eq_true_eq,List.all_eq_true] at h;exact (h.2.2 n hn).2
 .unfold Zado Zyj Z1n;rw [Bool.eq_iff_iff];simp only [Bool.and_eq_true,decide_eq_true_eq,List.all_eq_true,ge_iff_le];exact⟨fun⟨⟨h1,h2⟩,⟨h3,h4⟩,h5⟩=>⟨h1,h2,h3,h4,h5⟩,fun⟨h1,h2,h3,h4,h5⟩=>⟨⟨h1,h2⟩,⟨h3,h4⟩,h5⟩⟩
theorem Zae4:Tot (Zrk) (fun r=>((SzL 16 SzN) r)/\(r.length=6)):=by
 apply tZ;dsimp only [Z2q,LT.den];have q1:(SzL 16 SzN) ([([99,114,101,97,116,117,114,101]:List UInt8),([105,110,115,116,97,110,116]:List UInt8),([114,105,116,117,97,108]:List UInt8),([114,101,108,105,99]:List UInt8),([99,104,97,114,109]:List UInt8),([108,97,110,100]:List UInt8)]:List (List UInt8)):=⟨by simp only [List.length_cons,List.length_nil];omega,mem_cons' Zba (mem_cons' Zba (mem_cons' Zba (mem_cons' Zba (mem_cons' Zba (mem_cons' Zba (fun _ h=>by cases h))))))⟩;have lq1:([([99,114,101,97,116,117,114,101]:List UInt8),([105,110,115,116,97,110,116]:List UInt8),([114,105,116,117,97,108]:List UInt8),([114,101,108,105,99]:List UInt8),([99,104,97,114,109]:List UInt8),([108,97,110,100]:List UInt8)]:List (List UInt8)).length=6:=rfl;exact tR ⟨q1,cl⟩
theorem Zyk(a0:List UInt8)(oa0:SzT a0):Tot (Z2s a0) (fun r=>r=Zvk a0):=⟨_,Zadi a0,rfl⟩
def Za00:Zwo->Prop
 | .L0 v0 v1 v5=>(0<=v5)/\(v1<=100)
def Zanm:Zwo->M6
 | .L0 v0 v1 v5=>(1,(v1 - v5).toNat,1000000,0,0,0)
theorem Z5h{a0:Int}{a1:Int}(h0:a1<=100):Tot (Za1w a0 a1) (fun r=>True):=by
 apply Tot.rn Za00 Zanm
 .dsimp only [Zarb,LT.den];exact tl18
 rintro ⟨v0,v1,v5⟩ ⟨cv5,i0⟩;dsimp only [Zabr,Zak1,LT.den];apply tD<;>intro h1
 .have q1:=wr (v5+1);exact tl18
 exact tR trivial
def Za5b(a0:Zac):Z0h->Prop
 | .L0 E0 v3=>(E0=a0)/\(Zhj E0)/\(0<=v3)/\(1<=E0.Types/\E0.Types<=63)
def Zadp:Z0h->M6
 | .L0 E0 v3=>(1,((E0.Subs.length:Int) - v3).toNat,1000000,0,0,0)
theorem Za5c{a0:Zac}(oa0:Zhj a0):Tot (Za65 a0) (fun r=>(r=true->1<=a0.Types/\a0.Types<=63)):=by
 apply Tot.rn (Za5b a0) Zadp
 .dsimp only [Zavy,LT.den];apply tD<;>intro h1
  .exact Ziv
  apply tD<;>intro h2
  .exact Ziv
  apply tD<;>intro h3
  .exact Ziv
  apply tD<;>intro h4
  .exact Ziv
  apply tD<;>intro h5
  .exact Ziv
  exact tL ⟨rfl,oa0,cl,(by first | assumption | omega)⟩ (by unfold Zadp lt6;dsimp only;omega)
 rintro ⟨E0,v3⟩ ⟨al0,O0,cv3,i0⟩;subst al0;dsimp only [Zaik,Zarc,LT.den];have q1:=O0.1;apply tD<;>intro h1
 .refine Tot.ix fun x1 h2=>?_;have oh2:SzT x1:=O0.2 x1 h2.1;refine tB (Zyk x1 oh2) fun x2 h3=>?_;apply tO<;>intro h4
  .exact Ziv
  apply tD<;>intro h5
  .have q2:=wr (v3 - 1);refine Tot.ix fun x3 h6=>?_;apply tO<;>intro h7
   .exact Ziv
   have q3:=wr (v3+1);exact tl61
  have q2:=wr (v3+1);exact tl61
 apply tE<;>intro h2
 .exact Ziv
 apply tE<;>intro h3
 .exact Ziv
 refine tB (Z5h cl) fun x1 h4=>?_;apply tO<;>intro h5
 .exact tB (Z5h cl) fun x2 h6=>tR tk93
 exact Ziv
theorem Zann{a0:Int}:Tot (Za67 a0) (fun r=>True):=by
 apply tZ;dsimp only [Zavz,LT.den];exact tl19
theorem Zaji{a0:Zm}(oa0:Zag a0):Tot (Zabs a0) (fun r=>True):=by
 apply tZ;dsimp only [Z53,LT.den];exact tR trivial
def Zas5:Zqt->Prop
 | .L0 v0 v1 v7=>(0<=v7)/\True
def Zadq:Zqt->M6
 | .L0 v0 v1 v7=>(1,(6 - v7).toNat,1000000,0,0,0)
theorem Zaae{a0:Int}{a1:Int}{a2:Int}:Tot (Z2t a0 a1 a2) (fun r=>True):=by
 apply Tot.rn Zas5 Zadq
 .dsimp only [Z4w,LT.den];apply tD<;>intro h1
  .exact tR trivial
  apply tD<;>intro h2
  .exact tR trivial
  apply tD<;>intro h3
  .exact tR trivial
  apply tD<;>intro h4
  .exact tR trivial
  exact tl30
 rintro ⟨v0,v1,v7⟩ ⟨cv7,_⟩;dsimp only [Zny,Zlj,LT.den];apply tD<;>intro h1
 .apply tE<;>intro h2
  .apply tE<;>intro h3
   .exact tR trivial
   exact tl52
  exact tl52
 exact tR trivial
theorem Zyl{a0:Za}:Tot (Z2u a0) (fun r=>(r=true->0<=a0.Kind/\a0.Kind<=3)):=by
 apply tZ;dsimp only [Z4x,LT.den];apply tD<;>intro h1
 .exact tl2
 apply tD<;>intro h2
 .exact tl2
 apply tD<;>intro h3
 .exact tl2
 apply tD<;>intro h4
 .exact tl2
 apply tN<;>intro h5
 .exact tl14
 exact tl14
abbrev Zahy(a0:Ze)(r:Bool):Prop:=(r=true->0<=a0.Zone/\a0.Zone<=5/\0<=a0.Who/\a0.Who<=2/\0<=a0.Self/\a0.Self<=2/\0<=a0.Tap/\a0.Tap<=2/\0<=a0.Power.Kind/\a0.Power.Kind<=3/\0<=a0.Tough.Kind/\a0.Tough.Kind<=3/\0<=a0.Value.Kind/\a0.Value.Kind<=3)
def Z80(a0:Ze):Z0j->Prop
 | .L0 E0=>(E0=a0)/\(Zao E0)/\(0<=E0.Zone/\E0.Zone<=5/\0<=E0.Who/\E0.Who<=2/\0<=E0.Self/\E0.Self<=2/\0<=E0.Tap/\E0.Tap<=2)
def Zask:Z0j->M6
 | .L0 E0=>(0,0,0,0,0,0)
theorem Zym{a0:Ze}{E0:Ze}(h:(Z80 a0) (.L0 E0)):Tot (Zov E0).den (Nx (Z80 a0) Zask (0,0,0,0,0,0) (Zahy a0)):=by
 obtain⟨al0,O0,i0⟩:=h;subst al0;dsimp only [Zov,LT.den];refine tB (Zyl) fun x1 h1=>?_;have eh1_0:=h1;apply tF<;>intro h2
 .have h2_0:=eh1_0 h2;refine tB (Zyl) fun x2 h3=>?_;have eh3_0:=h3;apply tF<;>intro h4
  .have h4_0:=eh3_0 h4;refine tB (Zyl) fun x3 h5=>?_;have eh5_0:=h5;exact tR (by intro hr;have:=eh5_0 hr;first | omega | (cases hr;done))
  exact tl2
 exact tl2
theorem Za01{a0:Ze}(oa0:Zao a0):Tot (Zabu a0) (Zahy a0):=by
 apply Tot.rn (Z80 a0) Zask
 .dsimp only [Zail,LT.den];apply tD<;>intro h1
  .exact tl2
  apply tD<;>intro h2
  .exact tl2
  apply tD<;>intro h3
  .exact tl2
  apply tD<;>intro h4
  .exact tl2
  apply tD<;>intro h5
  .exact tl2
  apply tD<;>intro h6
  .exact tl2
  apply tD<;>intro h7
  .exact tl2
  apply tD<;>intro h8
  .exact tl2
  refine tB (Zaae) fun x1 h9=>?_;apply tO<;>intro h10
  .exact tl2
  refine tB (Zaae) fun x2 h11=>?_;apply tO<;>intro h12
  .exact tl2
  apply tO<;>intro h13
  .refine tB (Zyk a0.Sub (SzS.t oa0)) fun x3 h14=>?_;apply tO<;>intro h15
   .exact tl2
   apply tD<;>intro h16
   .exact tl2
   apply tD<;>intro h17
   .exact tl2
   exact tJ (Zym ⟨rfl,oa0,cl⟩)
  apply tD<;>intro h14
  .exact tl2
  apply tD<;>intro h15
  .exact tl2
  exact tJ (Zym ⟨rfl,oa0,cl⟩)
 intro s hs;cases s with
 | L0 _=>exact Zym hs
theorem Zix{a0:Ze}(oa0:Zao a0):Tot (Zabu a0) (fun r=>(r=true->0<=a0.Zone/\a0.Zone<=5/\0<=a0.Who/\a0.Who<=2/\0<=a0.Self/\a0.Self<=2/\0<=a0.Tap/\a0.Tap<=2/\0<=a0.Power.Kind/\a0.Power.Kind<=3/\0<=a0.Tough.Kind/\a0.Tough.Kind<=3/\0<=a0.Value.Kind/\a0.Value.Kind<=3)/\(r=Z8k a0)):=(Tot.we (Za01 oa0)).mono fun r h=>⟨h.1,Option.some.inj (h.2.symm.trans (Za77 a0))⟩
abbrev Zyn(a0:Zd)(r:Zd):Prop:=(Z3 r)/\(Zy (Zl r) (Zl Zaeq)=Zfy a0)
def Zpi(a0:Zd):Zpu->Prop
 | .L0 E0 E1 v7 v8=>(Z3 E0)/\(Z3 E1)/\(v7=a0.Kind)/\(E0={ a0 with Kind:=0 })/\(v8=true↔v7=2\/v7=3\/v7=6\/v7=7\/v7=8\/v7=9)
 | .L1 E0 E1 v7 v16=>(Z3 E0)/\(Z3 E1)/\(v7=a0.Kind)/\(E0={ a0 with Kind:=0 })/\(¬ (v7=2\/v7=3\/v7=6\/v7=7\/v7=8\/v7=9))/\(v16=true↔v7=4\/v7=5)
def Z5i:Zpu->M6
 | .L0 E0 E1 v7 v8=>(0,0,0,0,0,0)
 | .L1 E0 E1 v7 v16=>(0,0,0,0,0,0)
theorem Z35{a0:Zd}{E0:Zd}{E1:Zd}{v7:Int}{v16:Bool}(h:(Zpi a0) (.L1 E0 E1 v7 v16)):Tot (Zqu E0 E1 v7 v16).den (Nx (Zpi a0) Z5i (0,0,0,0,0,0) (Zyn a0)):=by
 obtain⟨O0,O1,i0,i1,i2,i3⟩:=h;dsimp only [Zqu,LT.den];apply tF<;>intro h1
 .exact tR ⟨⟨SzS.nil,O0.2⟩,tk28⟩
 apply tE<;>intro h2
 .exact tR ⟨⟨O0.1,SzS.nil⟩,tk28⟩
 apply tE<;>intro h3
 .exact Za4j
 apply tE<;>intro h4
 .exact Za4j
 exact tR ⟨O0,tk28⟩
theorem Z36{a0:Zd}{E0:Zd}{E1:Zd}{v7:Int}{v8:Bool}(h:(Zpi a0) (.L0 E0 E1 v7 v8)):Tot (Zhe E0 E1 v7 v8).den (Nx (Zpi a0) Z5i (0,0,0,0,0,0) (Zyn a0)):=by
 obtain⟨O0,O1,i0,i1,i2⟩:=h;dsimp only [Zhe,LT.den];apply tF<;>intro h1
 .exact Za4j
 apply tE<;>intro h2
 .exact tl62
 exact tl62
theorem Zays{a0:Zd}(oa0:Z3 a0):Tot (Zav1 a0) (Zyn a0):=by
 apply Tot.rn (Zpi a0) Z5i
 .dsimp only [Zak3,LT.den];apply tE<;>intro h1
  .exact tl85
  apply tE<;>intro h2
  .exact tl85
  apply tE<;>intro h3
  .exact tl85
  apply tE<;>intro h4
  .exact tl85
  apply tE<;>intro h5
  .exact tl85
  exact tl85
 intro s hs;cases s with
 | L0 _ _ _ _=>exact Z36 hs
 | L1 _ _ _ _=>exact Z35 hs
theorem Zas6{a0:Int}:Tot (Zare a0) (fun r=>(r=(inB a0 1 63&&decide (Zay .and .i64 a0 6=0)))):=by
 apply tZ;dsimp only [Zafo,LT.den];apply tD<;>intro h1
 .apply tD<;>intro h2
  .exact tl1
  exact tl1
 exact tl1
def Zm5(a0:Zd):Zrx->Prop
 | .L0 E0 v18 v19=>(E0=a0)/\(Z3 E0)/\(v18=E0.Kind)/\(inB E0.Kind 1 14=true)/\(Zfy E0=true)/\(v19=true↔E0.Kind=2\/E0.Kind=3)
 | .L1 E0 v18 v25=>(E0=a0)/\(Z3 E0)/\(v18=E0.Kind)/\(inB E0.Kind 1 14=true)/\(Zfy E0=true)/\(v25=true↔E0.Kind=4\/E0.Kind=5)/\(¬ (E0.Kind=2\/E0.Kind=3))
 | .L2 E0 v18 v51=>(E0=a0)/\(Z3 E0)/\(v18=E0.Kind)/\(inB E0.Kind 1 14=true)/\(Zfy E0=true)/\(v51=true↔E0.Kind=8\/E0.Kind=9)/\(¬ (2<=E0.Kind/\E0.Kind<=7))
def Z37:Zrx->M6
 | .L0 E0 v18 v19=>(0,0,0,0,0,0)
 | .L1 E0 v18 v25=>(0,0,0,0,0,0)
 | .L2 E0 v18 v51=>(0,0,0,0,0,0)
theorem Zaaf{a0:Zd}{E0:Zd}{v18:Int}{v51:Bool}(h:(Zm5 a0) (.L2 E0 v18 v51)):Tot (Zwp E0 v18 v51).den (Nx (Zm5 a0) Z37 (0,0,0,0,0,0) (fun r=>(r=mdV a0))):=by
 obtain⟨al0,O0,i0,i1,i2,i3,i4⟩:=h;subst al0;dsimp only [Zwp,LT.den];apply tF<;>intro h1
 .apply tD<;>intro h2
  .exact Zfu
  exact Zfu
 apply tE<;>intro h2
 .exact tB (Zix O0.2) fun x1 h3=>tR Z1q
 apply tE<;>intro h3
 .apply tD<;>intro h4
  .apply tD<;>intro h5
   .apply tD<;>intro h6
    .exact Zfu
    exact Zfu
   exact Zfu
  exact Zfu
 apply tE<;>intro h4
 .apply tD<;>intro h5
  .apply tD<;>intro h6
   .apply tD<;>intro h7
    .exact Zfu
    exact Zfu
   exact Zfu
  exact Zfu
 exact Zfu
theorem Zaag{a0:Zd}{E0:Zd}{v18:Int}{v25:Bool}(h:(Zm5 a0) (.L1 E0 v18 v25)):Tot (Zwq E0 v18 v25).den (Nx (Zm5 a0) Z37 (0,0,0,0,0,0) (fun r=>(r=mdV a0))):=by
 obtain⟨al0,O0,i0,i1,i2,i3,i4⟩:=h;subst al0;dsimp only [Zwq,LT.den];apply tF<;>intro h1
 .exact tB (Zyk E0.Sub (SzS.t O0.1)) fun x1 h2=>tR Z1q
 apply tE<;>intro h2
 .apply tD<;>intro h3
  .exact Zfu
  exact Zfu
 apply tE<;>intro h3
 .apply tD<;>intro h4
  .exact Zfu
  exact Zfu
 apply tE<;>intro h4
 .exact tl74
 exact tl74
theorem Zaah{a0:Zd}{E0:Zd}{v18:Int}{v19:Bool}(h:(Zm5 a0) (.L0 E0 v18 v19)):Tot (Zwr E0 v18 v19).den (Nx (Zm5 a0) Z37 (0,0,0,0,0,0) (fun r=>(r=mdV a0))):=by
 obtain⟨al0,O0,i0,i1,i2,i3⟩:=h;subst al0;dsimp only [Zwr,LT.den];apply tF<;>intro h1
 .exact tB (Zas6) fun x1 h2=>tR Z1q
 apply tE<;>intro h2
 .exact tl72
 exact tl72
theorem Zano{a0:Zd}(oa0:Z3 a0):Tot (Za68 a0) (fun r=>(r=mdV a0)):=by
 apply Tot.rn (Zm5 a0) Z37
 .dsimp only [Zav3,LT.den];apply tD<;>intro h1
  .exact Zfu
  apply tD<;>intro h2
  .exact Zfu
  refine tB (Zays oa0) fun x1 h3=>?_;apply tO<;>intro h4
  .exact Zfu
  apply tE<;>intro h5
  .exact tl75
  exact tl75
 intro s hs;cases s with
 | L0 _ _ _=>exact Zaah hs
 | L1 _ _ _=>exact Zaag hs
 | L2 _ _ _=>exact Zaaf hs
def Zap3:Zow->Prop
 | .L0 v0 v1 v2 v7 v8=>((SzL 16 SzN) v0)/\(SzN v2)/\(0<=v8)/\(v7.length<=200*v8.toNat)/\(v0.length<=100)/\(v8<=v0.length)
def Zyo:Zow->M6
 | .L0 v0 v1 v2 v7 v8=>(1,((v0.length:Int) - v8).toNat,1000000,0,0,0)
theorem Zap4{a0:List (List UInt8)}{a1:Int}{a2:List UInt8}(oa0:(SzL 16 SzN) a0)(oa2:SzN a2)(h0:a0.length<=100):Tot (Zak5 a0 a1 a2) (fun r=>(SzT r)/\(r.length<=20000)):=by
 apply Tot.rn Zap3 Zyo
 .dsimp only [Zabv,LT.den];exact tL ⟨oa0,oa2,cs⟩ (by unfold Zyo lt6;dsimp only;omega)
 rintro ⟨v0,v1,v2,v7,v8⟩ ⟨ov0,ov2,cv8,i0,i1,i2⟩;have lb_v2:v2.length<=100:=ov2;dsimp only [Z0k,Z9b,LT.den];apply tD<;>intro h1
 .refine tB (Z5h cl) fun x1 h2=>?_;apply tF<;>intro h3
  .apply tO<;>intro h4
   .refine tB (tK Zdj) fun x2 h5=>Tot.ix fun x3 h6=>?_;have oh6:SzN x3:=ov0.2 x3 h6.1;have q1:x3.length<=100:=oh6;refine tB (tK Zdj) fun x4 h7=>?_;exact tl55
   refine Tot.ix fun x2 h5=>?_;have oh5:SzN x2:=ov0.2 x2 h5.1;have q1:x2.length<=100:=oh5;refine tB (tK Zdj) fun x3 h6=>?_;exact tl55
  have q1:=wr (v8+1);exact tl32
 exact tR ⟨tk61,cl⟩
theorem Zqm{a0:Int}:Tot (Z9c a0) (fun r=>(SzT r)/\(r.length<=20000)):=by
 apply tZ;dsimp only [Z2v,LT.den];apply tD<;>intro h1
 .exact tR ⟨SzT.nil,cl⟩
 apply tD<;>intro h2
 .exact tR ⟨SzT.nil,cl⟩
 refine tB (Zae4) fun x1 h3=>tB (Zap4 h3.1 Zba cl) fun x2 h4=>?_;have eh4_1:=h4.2;exact tR ⟨h4.1,cl⟩
theorem Za5d{a0:Int}:Tot (Za69 a0) (fun r=>True):=by
 apply tZ;dsimp only [Zav5,LT.den];exact tl19
theorem Zt7{a0:Int}:Tot (Zav7 a0) (fun r=>(SzN r)):=by
 apply tZ;dsimp only [Zak6,LT.den];apply tE<;>intro h1
 .exact Zgk
 apply tE<;>intro h2
 .exact Zgk
 apply tE<;>intro h3
 .exact Zgk
 apply tE<;>intro h4
 .exact Zgk
 apply tE<;>intro h5
 .exact Zgk
 exact tR (SzN.nil)
def Zayt:Zs9->Prop
 | .L0 v0 v3 v4=>(0<=v4)/\(v3.length<=200*v4.toNat)/\(v4<=5)
def Zahz:Zs9->M6
 | .L0 v0 v3 v4=>(1,(5 - v4).toNat,1000000,0,0,0)
theorem Zadr{a0:Int}:Tot (Zav8 a0) (fun r=>(SzT r)):=by
 apply Tot.rn Zayt Zahz
 .dsimp only [Zak8,LT.den];refine tB (Za5d) fun x1 h1=>?_;apply tO<;>intro h2
  .exact tR (SzT.nil)
  apply tE<;>intro h3
  .exact tl64
  exact tl25
 rintro ⟨v0,v3,v4⟩ ⟨cv4,i0,i1⟩;dsimp only [Z72,Zafq,LT.den];apply tD<;>intro h1
 .refine tB (tK Zanh) fun x1 h2=>tB (tK Zanh) fun x2 h3=>?_;apply tE<;>intro h4
  .apply tO<;>intro h5
   .refine tB (tK Zdj) fun x3 h6=>tB (Zt7) fun x4 h7=>?_;have q1:x4.length<=100:=h7;refine tB (tK Zdj) fun x5 h8=>?_;exact tl46
   refine tB (Zt7) fun x3 h6=>?_;have q1:x3.length<=100:=h6;refine tB (tK Zdj) fun x4 h7=>?_;exact tl46
  have q1:=wr (v4+1);exact tl25
 exact tl64
theorem Zas7:Tot (Zabw) (fun r=>((SzL 16 SzN) r)/\(r.length=17)):=by
 apply tZ;dsimp only [Zafs,LT.den];have q1:(SzL 16 SzN) ([([102,108,121,105,110,103]:List UInt8),([114,101,97,99,104]:List UInt8),([104,97,115,116,101]:List UInt8),([118,105,103,105,108,97,110,116]:List UInt8),([116,114,97,109,112,108,101]:List UInt8),([102,105,114,115,116,45,115,116,114,105,107,101]:List UInt8),([100,111,117,98,108,101,45,115,116,114,105,107,101]:List UInt8),([100,101,97,100,108,121]:List UInt8),([108,105,102,101,108,105,110,107]:List UInt8),([109,101,110,97,99,101]:List UInt8),([100,101,102,101,110,100,101,114]:List UInt8),([119,97,114,100,101,100]:List UInt8),([115,116,117,114,100,121]:List UInt8),([101,108,117,115,105,118,101]:List UInt8),([110,111,45,97,116,116,97,99,107]:List UInt8),([110,111,45,98,108,111,99,107]:List UInt8),([109,117,115,116,45,97,116,116,97,99,107]:List UInt8)]:List (List UInt8)):=⟨by simp only [List.length_cons,List.length_nil];omega,mem_cons' Zba (mem_cons' Zba (mem_cons' Zba (mem_cons' Zba (mem_cons' Zba (mem_cons' Zba (mem_cons' Zba (mem_cons' Zba (mem_cons' Zba (mem_cons' Zba (mem_cons' Zba (mem_cons' Zba (mem_cons' Zba (mem_cons' Zba (mem_cons' Zba (mem_cons' Zba (mem_cons' Zba (fun _ h=>by cases h)))))))))))))))))⟩;have lq1:([([102,108,121,105,110,103]:List UInt8),([114,101,97,99,104]:List UInt8),([104,97,115,116,101]:List UInt8),([118,105,103,105,108,97,110,116]:List UInt8),([116,114,97,109,112,108,101]:List UInt8),([102,105,114,115,116,45,115,116,114,105,107,101]:List UInt8),([100,111,117,98,108,101,45,115,116,114,105,107,101]:List UInt8),([100,101,97,100,108,121]:List UInt8),([108,105,102,101,108,105,110,107]:List UInt8),([109,101,110,97,99,101]:List UInt8),([100,101,102,101,110,100,101,114]:List UInt8),([119,97,114,100,101,100]:List UInt8),([115,116,117,114,100,121]:List UInt8),([101,108,117,115,105,118,101]:List UInt8),([110,111,45,97,116,116,97,99,107]:List UInt8),([110,111,45,98,108,111,99,107]:List UInt8),([109,117,115,116,45,97,116,116,97,99,107]:List UInt8)]:List (List UInt8)).length=17:=rfl;exact tR ⟨q1,cl⟩
theorem Z1r{a0:Int}:Tot (Zawa a0) (fun r=>(SzN r)):=by
 apply tZ;dsimp only [Zak9,LT.den];apply tD<;>intro h1
 .exact tR (SzN.nil)
 apply tD<;>intro h2
 .exact tR (SzN.nil)
 refine tB (Zas7) fun x1 h3=>Tot.ix fun x2 h4=>?_;have oh4:SzN x2:=h3.1.2 x2 h4.1;exact tR oh4
def Zayu:Zta->Prop
 | .L0 v0 v3 v4=>(0<=v4)/\(v3.length<=200*v4.toNat)/\(v4<=17)
def Zah0:Zta->M6
 | .L0 v0 v3 v4=>(1,(17 - v4).toNat,1000000,0,0,0)
theorem Zads{a0:Int}:Tot (Zawb a0) (fun r=>(SzT r)):=by
 apply Tot.rn Zayu Zah0
 .dsimp only [Zalb,LT.den];refine tB (Zann) fun x1 h1=>?_;apply tO<;>intro h2
  .exact tR (SzT.nil)
  exact tl22
 rintro ⟨v0,v3,v4⟩ ⟨cv4,i0,i1⟩;dsimp only [Z73,Zafu,LT.den];apply tD<;>intro h1
 .apply tE<;>intro h2
  .apply tO<;>intro h3
   .refine tB (tK Zdj) fun x1 h4=>tB (Z1r) fun x2 h5=>?_;have q1:x2.length<=100:=h5;refine tB (tK Zdj) fun x3 h6=>?_;exact tl42
   refine tB (Z1r) fun x1 h4=>?_;have q1:x1.length<=100:=h4;refine tB (tK Zdj) fun x2 h5=>?_;exact tl42
  have q1:=wr (v4+1);exact tl22
 exact Zbc6
theorem Zae5:Tot (Zxw) (fun r=>((SzL 16 SzN) r)/\(r.length=6)):=by
 apply tZ;dsimp only [Z2x,LT.den];have q1:(SzL 16 SzN) ([([]:List UInt8),([105,110,45,104,97,110,100]:List UInt8),([105,110,45,108,105,98,114,97,114,121]:List UInt8),([105,110,45,103,114,97,118,101,121,97,114,100]:List UInt8),([105,110,45,101,120,105,108,101]:List UInt8),([111,110,45,115,116,97,99,107]:List UInt8)]:List (List UInt8)):=⟨by simp only [List.length_cons,List.length_nil];omega,mem_cons' (SzN.nil) (mem_cons' Zba (mem_cons' Zba (mem_cons' Zba (mem_cons' Zba (mem_cons' Zba (fun _ h=>by cases h))))))⟩;have lq1:([([]:List UInt8),([105,110,45,104,97,110,100]:List UInt8),([105,110,45,108,105,98,114,97,114,121]:List UInt8),([105,110,45,103,114,97,118,101,121,97,114,100]:List UInt8),([105,110,45,101,120,105,108,101]:List UInt8),([111,110,45,115,116,97,99,107]:List UInt8)]:List (List UInt8)).length=6:=rfl;exact tR ⟨q1,cl⟩
theorem Zajj:Tot (Z0l) (fun r=>((SzL 16 SzN) r)/\(r.length=3)):=by
 apply tZ;dsimp only [Z55,LT.den];have q1:(SzL 16 SzN) ([([]:List UInt8),([121,111,117,114,115]:List UInt8),([116,104,101,105,114,115]:List UInt8)]:List (List UInt8)):=⟨by simp only [List.length_cons,List.length_nil];omega,mem_cons' (SzN.nil) (mem_cons' Zba (mem_cons' Zba (fun _ h=>by cases h)))⟩;have lq1:([([]:List UInt8),([121,111,117,114,115]:List UInt8),([116,104,101,105,114,115]:List UInt8)]:List (List UInt8)).length=3:=rfl;exact tR ⟨q1,cl⟩
theorem Zae6:Tot (Zxx) (fun r=>((SzL 16 SzN) r)/\(r.length=3)):=by
 apply tZ;dsimp only [Z2z,LT.den];have q1:(SzL 16 SzN) ([([]:List UInt8),([115,101,108,102]:List UInt8),([111,116,104,101,114]:List UInt8)]:List (List UInt8)):=⟨by simp only [List.length_cons,List.length_nil];omega,mem_cons' (SzN.nil) (mem_cons' Zba (mem_cons' Zba (fun _ h=>by cases h)))⟩;have lq1:([([]:List UInt8),([115,101,108,102]:List UInt8),([111,116,104,101,114]:List UInt8)]:List (List UInt8)).length=3:=rfl;exact tR ⟨q1,cl⟩
theorem Zajk:Tot (Z0m) (fun r=>((SzL 16 SzN) r)/\(r.length=3)):=by
 apply tZ;dsimp only [Z57,LT.den];have q1:(SzL 16 SzN) ([([]:List UInt8),([116,97,112,112,101,100]:List UInt8),([117,110,116,97,112,112,101,100]:List UInt8)]:List (List UInt8)):=⟨by simp only [List.length_cons,List.length_nil];omega,mem_cons' (SzN.nil) (mem_cons' Zba (mem_cons' Zba (fun _ h=>by cases h)))⟩;have lq1:([([]:List UInt8),([116,97,112,112,101,100]:List UInt8),([117,110,116,97,112,112,101,100]:List UInt8)]:List (List UInt8)).length=3:=rfl;exact tR ⟨q1,cl⟩
def Za02:Zws->Prop
 | .L0 v0 v1 v5=>(0<=v5)/\(v1<=100)
def Zanp:Zws->M6
 | .L0 v0 v1 v5=>(1,(v1 - v5).toNat,1000000,0,0,0)
theorem Zrd{a0:Int}{a1:Int}(h0:a1<=100):Tot (Za1x a0 a1) (fun r=>True):=by
 apply Tot.rn Za02 Zanp
 .dsimp only [Zarg,LT.den];exact tl17
 rintro ⟨v0,v1,v5⟩ ⟨cv5,i0⟩;dsimp only [Zabx,Zale,LT.den];apply tD<;>intro h1
 .have q1:=wr (v5+1);exact tl17
 exact tR trivial
def Zajl:Zlk->Prop
 | .L0 v0 v3 v4=>(0<=v4)/\(v0<=100)
def Z38:Zlk->M6
 | .L0 v0 v3 v4=>(1,(v0 - v4).toNat,1000000,0,0,0)
theorem Z1s{a0:Int}(h0:a0<=100):Tot (Zaby a0) (fun r=>(SzT r)/\(r.length<=20000)):=by
 apply Tot.rn Zajl Z38
 .dsimp only [Z59,LT.den];exact tl28
 rintro ⟨v0,v3,v4⟩ ⟨cv4,i0⟩;dsimp only [Zu4,Z21,LT.den];apply tD<;>intro h1
 .have q1:=wr (v3*2);have q2:=wr (v4+1);exact tl28
 refine tB (Zqm) fun x1 h2=>?_;have eh2_1:=h2.2;exact tR ⟨h2.1,cl⟩
theorem Zas8:Tot (Zabz) (fun r=>((SzL 16 SzN) r)/\(r.length=4)):=by
 apply tZ;dsimp only [Zafw,LT.den];have q1:(SzL 16 SzN) ([([]:List UInt8),([62,61]:List UInt8),([60,61]:List UInt8),([61]:List UInt8)]:List (List UInt8)):=⟨by simp only [List.length_cons,List.length_nil];omega,mem_cons' (SzN.nil) (mem_cons' Zba (mem_cons' Zba (mem_cons' Zba (fun _ h=>by cases h))))⟩;have lq1:([([]:List UInt8),([62,61]:List UInt8),([60,61]:List UInt8),([61]:List UInt8)]:List (List UInt8)).length=4:=rfl;exact tR ⟨q1,cl⟩
theorem Zbdw{n:Int}(h0:0<=n)(h1:n < 18446744073709551616):Zqg .u64 n 10=n / 10:=by
 unfold Zqg;rw [Int.tdiv_eq_ediv_of_nonneg h0];have h2:0<=n / 10:=by omega
 have h3:n / 10 < 18446744073709551616:=by omega
 simp only [IntKind.wrap,IntKind.bits,IntKind.signed,Bool.false_and,Bool.false_eq_true,if_false];exact Int.emod_eq_of_lt h2 h3
theorem Z39:∀ (k:Nat) (n:Int) (s:List UInt8),k<=20->0<=n->n < 10 ^ k->n < 18446744073709551616->s.length+k<=40->Tot (Zc3 Ztc.step (.L0 n s)) fun r=>SzN r/\r.length<=40
 | 0,n,s,_,h0,h1,_,hs=>by
  have:n=0:=by omega
  subst this
  refine Tot.stop (r:=s) ?_ ⟨show s.length<=100 by omega,by omega⟩
  show (Zh5 _ _).den=_
  dsimp only [Zh5,LT.den]
  rfl
 | k+1,n,s,hk,h0,h1,h2,hs=>by
  by_cases hn:n > 0
  .obtain⟨d,hd,hl⟩:=Tot.str (xs:=[IntKind.wrap .u8 (IntKind.wrap .u64 (48+(Int.tmod n 10)))]) (by simp) tk70
   simp only [List.length_cons,List.length_nil] at hl
   have e:Ztc.step (.L0 n s)=some (.inl (.L0 (n / 10) (d++s))):=by
    show (Zh5 _ _).den=_
    dsimp only [Zh5,LT.den]
    rw [decide_eq_true hn,cond_true,hd,Option.bind_some,decide_eq_true (show d.length+s.length<=9223372036854775807 by omega),Zbdw h0 h2]
    rfl
   obtain⟨r,hr,hp⟩:=Z39 k (n / 10) (d++s) O O (by
    rw [Int.pow_succ] at h1
    have:n / 10 < 10 ^ k:=Int.ediv_lt_of_lt_mul (by decide) h1
    exact this) O (by rw [List.length_append];omega)
   exact⟨r,by rw [Zku e];exact hr,hp⟩
  .refine Tot.stop (r:=s) ?_ ⟨show s.length<=100 by omega,by omega⟩
   show (Zh5 _ _).den=_
   dsimp only [Zh5,LT.den]
   rw [decide_eq_false hn];rfl
theorem Z67(a0:Int)(h0:0<=a0)(h1:a0 < 18446744073709551616):Tot (Z74 a0) (fun r=>(SzN r)/\(r.length<=40)):=by
 unfold Z74 LF.run;dsimp only [Zab0,LT.den];obtain⟨d,hd,hl⟩:=Tot.str (xs:=[IntKind.wrap .u8 (IntKind.wrap .u64 (48+(Int.tmod a0 10)))]) (by simp) tk70;simp only [List.length_cons,List.length_nil] at hl;rw [hd,Option.bind_some,Option.bind_some,Zmv,Zbdw h0 h1];exact Z39 20 (a0 / 10) d O O O O O
theorem Zmd{a0:Int}:Tot (Zawd a0) (fun r=>(SzN r)):=by
 apply tZ;dsimp only [Zalf,LT.den];apply tD<;>intro h1
 .have q1:0<=IntKind.wrap .u64 (0 - (IntKind.wrap .u64 a0))/\IntKind.wrap .u64 (0 - (IntKind.wrap .u64 a0)) < 18446744073709551616:=Za1t _;exact tB (Z67 (IntKind.wrap .u64 (0 - (IntKind.wrap .u64 a0))) cl cl) fun x1 h2=>tB (tK Zdj) fun x2 h3=>tR Zba
 have q1:0<=IntKind.wrap .u64 a0/\IntKind.wrap .u64 a0 < 18446744073709551616:=Za1t _;exact tB (Z67 (IntKind.wrap .u64 a0) cl cl) fun x1 h2=>tR h2.1
theorem Zqn{a0:List UInt8}{a1:Za}(oa0:SzN a0)(h0:0<=a1.Kind)(h1:a1.Kind<=3):Tot (Z9e a0 a1) (fun r=>(SzT r)):=by
 apply tZ;have lb_a0:a0.length<=100:=oa0;dsimp only [Z23,LT.den];apply tE<;>intro h1
 .exact tR (SzT.nil)
 refine tB (Zas8) fun x1 h2=>Tot.ix fun x2 h3=>?_;have oh3:SzN x2:=h2.1.2 x2 h3.1;have q1:x2.length<=100:=oh3;refine tB (tK Zdj) fun x3 h4=>tB (Zmd) fun x4 h5=>?_;have q2:x4.length<=100:=h5;exact tB (tK Zdj) fun x5 h6=>tR tk61
def Zayv:Ztd->Prop
 | .L0 v0 v1 v5 v6=>((SzL 16 SzT) v0)/\(SzN v1)/\(0<=v6)/\(v5.length<=1125899906842624*v6.toNat)/\(v0.length<=100)/\(v6<=v0.length)
def Z5j:Ztd->M6
 | .L0 v0 v1 v5 v6=>(1,((v0.length:Int) - v6).toNat,1000000,0,0,0)
theorem Zayw{a0:List (List UInt8)}{a1:List UInt8}(oa0:(SzL 16 SzT) a0)(oa1:SzN a1)(h0:a0.length<=100):Tot (Zawe a0 a1) (fun r=>(r.length<=144115188075855872)):=by
 apply Tot.rn Zayv Z5j
 .dsimp only [Zalh,LT.den];exact tL ⟨oa0,oa1,cs⟩ (by unfold Z5j lt6;dsimp only;omega)
 rintro ⟨v0,v1,v5,v6⟩ ⟨ov0,ov1,cv6,i0,i1,i2⟩;have lb_v1:v1.length<=100:=ov1;dsimp only [Z75,Zafy,LT.den];apply tD<;>intro h1
 .apply tD<;>intro h2
  .refine tB (tK Zdj) fun x1 h3=>Tot.ix fun x2 h4=>?_;have oh4:SzT x2:=ov0.2 x2 h4.1;have q1:x2.length<=562949953421312:=oh4;refine tB (tK Zdj) fun x3 h5=>?_;exact tl51
  refine Tot.ix fun x1 h3=>?_;have oh3:SzT x1:=ov0.2 x1 h3.1;have q1:x1.length<=562949953421312:=oh3;refine tB (tK Zdj) fun x2 h4=>?_;exact tl51
 exact tR cl
theorem Zfz{b0:List (List UInt8)}{a1:List UInt8}(ob0:(SzL 16 SzT) b0)(oa1:SzT a1)(h0:b0.length<=1000):Tot (Zab1 b0 a1) (fun r=>((SzL 16 SzT) r)/\(r.length<=b0.length+1)):=by
 apply tZ;dsimp only [Z6a,LT.den];apply tF<;>intro h1
 .exact tR ⟨ob0,cl⟩
 refine Tot.ap fun x1 h2=>?_;have lh2:=Zb7 h2;exact tR ⟨SzL.app (k:=16) h2 lo ob0.2 (me1 oa1),cl⟩
def Z1t:Zhf->Prop
 | .L0 E0 v6 v7 v8=>(Zao E0)/\((SzL 16 SzN) v6)/\((SzL 16 SzT) v7)/\(0<=v8)/\(v7.length<=3+v8.toNat)/\(v8<=6)/\(v6.length=3)/\(0<=E0.Tap/\E0.Tap<=2/\0<=E0.Power.Kind/\E0.Power.Kind<=3/\0<=E0.Tough.Kind/\E0.Tough.Kind<=3/\0<=E0.Value.Kind/\E0.Value.Kind<=3)
 | .L1 E0 v6 v7 v9=>(Zao E0)/\((SzL 16 SzN) v6)/\((SzL 16 SzT) v7)/\(0<=v9)/\(v7.length<=9+v9.toNat)/\(v9<=6)/\(v6.length=3)/\(0<=E0.Tap/\E0.Tap<=2/\0<=E0.Power.Kind/\E0.Power.Kind<=3/\0<=E0.Tough.Kind/\E0.Tough.Kind<=3/\0<=E0.Value.Kind/\E0.Value.Kind<=3)
 | .L2 E0 v6 v7 v10=>(Zao E0)/\((SzL 16 SzN) v6)/\((SzL 16 SzT) v7)/\(0<=v10)/\(v7.length<=15+v10.toNat)/\(v10<=5)/\(v6.length=3)/\(0<=E0.Tap/\E0.Tap<=2/\0<=E0.Power.Kind/\E0.Power.Kind<=3/\0<=E0.Tough.Kind/\E0.Tough.Kind<=3/\0<=E0.Value.Kind/\E0.Value.Kind<=3)
 | .L3 E0 v6 v7 v11=>(Zao E0)/\((SzL 16 SzN) v6)/\((SzL 16 SzT) v7)/\(0<=v11)/\(v7.length<=20+v11.toNat)/\(v11<=5)/\(v6.length=3)/\(0<=E0.Tap/\E0.Tap<=2/\0<=E0.Power.Kind/\E0.Power.Kind<=3/\0<=E0.Tough.Kind/\E0.Tough.Kind<=3/\0<=E0.Value.Kind/\E0.Value.Kind<=3)
 | .L4 E0 v6 v7=>(Zao E0)/\((SzL 16 SzN) v6)/\((SzL 16 SzT) v7)/\(v7.length<=26)/\(v6.length=3)/\(0<=E0.Tap/\E0.Tap<=2/\0<=E0.Power.Kind/\E0.Power.Kind<=3/\0<=E0.Tough.Kind/\E0.Tough.Kind<=3/\0<=E0.Value.Kind/\E0.Value.Kind<=3)
 | .L5 E0 v6 v7 v12=>(Zao E0)/\((SzL 16 SzN) v6)/\((SzL 16 SzT) v7)/\(0<=v12)/\(v7.length<=26+v12.toNat)/\(v12<=17)/\(v6.length=3)/\(0<=E0.Tap/\E0.Tap<=2/\0<=E0.Power.Kind/\E0.Power.Kind<=3/\0<=E0.Tough.Kind/\E0.Tough.Kind<=3/\0<=E0.Value.Kind/\E0.Value.Kind<=3)
def Zi5:Zhf->M6
 | .L0 E0 v6 v7 v8=>(9,(6 - v8).toNat,1000000,0,0,0)
 | .L1 E0 v6 v7 v9=>(7,(6 - v9).toNat,1000000,0,0,0)
 | .L2 E0 v6 v7 v10=>(5,(5 - v10).toNat,1000000,0,0,0)
 | .L3 E0 v6 v7 v11=>(3,(5 - v11).toNat,1000000,0,0,0)
 | .L4 E0 v6 v7=>(2,0,0,0,0,0)
 | .L5 E0 v6 v7 v12=>(1,(17 - v12).toNat,1000000,0,0,0)
theorem Zt8{E0:Ze}{v6:List (List UInt8)}{v7:List (List UInt8)}(h:Z1t (.L4 E0 v6 v7)):Tot (Zqv E0 v6 v7).den (Nx Z1t Zi5 (2,0,0,0,0,0) (fun r=>(r.length<=144115188075855872))):=by
 obtain⟨O0,ov6,ov7,i0,i1,i2⟩:=h;dsimp only [Zqv,LT.den];exact Z8u
theorem Zayx{a0:Ze}(oa0:Zao a0):Tot (Zawf a0) (fun r=>(r.length<=144115188075855872)):=by
 apply Tot.rn Z1t Zi5
 .dsimp only [Zali,LT.den];refine tB (Zix oa0) fun x1 h1=>?_;have eh1_0:=h1.1;apply tO<;>intro h2
  .exact tR cl
  have h2_0:=eh1_0 h2;refine tB (Zae5) fun x2 h3=>tB (Zajj) fun x3 h4=>tB (Zae6) fun x4 h5=>tB (Zajk) fun x5 h6=>?_;have eh6_1:=h6.2;refine Tot.ix fun x6 h7=>?_;have oh7:SzN x6:=h3.1.2 x6 h7.1;refine tB (Zfz SzL.nil (SzN.t oh7) cl) fun x7 h8=>?_;have eh8_1:=h8.2;try simp only [List.length_nil,List.length_cons,Nat.zero_add] at eh8_1
  refine Tot.ix fun x8 h9=>?_;have oh9:SzN x8:=h4.1.2 x8 h9.1;refine tB (Zfz h8.1 (SzN.t oh9) cl) fun x9 h10=>Tot.ix fun x10 h11=>?_;have oh11:SzN x10:=h5.1.2 x10 h11.1;exact tB (Zfz h10.1 (SzN.t oh11) cl) fun x11 h12=>tL ⟨oa0,h6.1,h12.1,cs⟩ Zanj
 intro s hs;cases s with
 | L0 E0 v6 v7 v8=>
  obtain⟨O0,ov6,ov7,cv8,i0,i1,i2,i3⟩:=hs;have lb_v7:=ov7.1;dsimp only [Zmz,Zafz,LT.den,Zi5];apply tD<;>intro h1
  .refine tB (Zrd cl) fun x1 h2=>?_;apply tF<;>intro h3
   .refine tB (Z1s cl) fun x2 h4=>Tot.ap fun x3 h5=>?_;have lh5:=Zb7 h5;have q1:=wr (v8+1);exact tL ⟨O0,ov6,SzL.app (k:=16) h5 lo ov7.2 (me1 h4.1),cs⟩ Zanj
   have q1:=wr (v8+1);exact Z8u
  exact Z8u
 | L1 E0 v6 v7 v9=>
  obtain⟨O0,ov6,ov7,cv9,i0,i1,i2,i3⟩:=hs;have lb_v7:=ov7.1;dsimp only [Zmz,Zaf0,LT.den,Zi5];apply tD<;>intro h1
  .refine tB (Zrd cl) fun x1 h2=>?_;apply tF<;>intro h3
   .refine tB (Z1s cl) fun x2 h4=>?_;have q1:x2.length<=562949953421312:=h4.1;refine tB (tK Zdj) fun x3 h5=>?_;have q2:=ov7.1;refine Tot.ap fun x4 h6=>?_;have lh6:=Zb7 h6;have q3:=wr (v9+1);exact Za4i
   have q1:=wr (v9+1);exact Z8u
  exact Z8u
 | L2 E0 v6 v7 v10=>
  obtain⟨O0,ov6,ov7,cv10,i0,i1,i2,i3⟩:=hs;have lb_v7:=ov7.1;dsimp only [Zmz,Zaf1,LT.den,Zi5];apply tD<;>intro h1
  .refine tB (Zrd cl) fun x1 h2=>?_;apply tF<;>intro h3
   .refine tB (Zt7) fun x2 h4=>Tot.ap fun x3 h5=>?_;have lh5:=Zb7 h5;have q1:=wr (v10+1);exact tL ⟨O0,ov6,SzL.app (k:=16) h5 lo ov7.2 (me1 (SzN.t h4)),cs⟩ Zanj
   have q1:=wr (v10+1);exact Z8u
  exact Z8u
 | L3 E0 v6 v7 v11=>
  obtain⟨O0,ov6,ov7,cv11,i0,i1,i2,i3⟩:=hs;have lb_v7:=ov7.1;dsimp only [Zmz,Zaf2,LT.den,Zi5];apply tD<;>intro h1
  .refine tB (Zrd cl) fun x1 h2=>?_;apply tF<;>intro h3
   .refine tB (Zt7) fun x2 h4=>?_;have q1:x2.length<=100:=h4;refine tB (tK Zdj) fun x3 h5=>?_;have q2:=ov7.1;refine Tot.ap fun x4 h6=>?_;have lh6:=Zb7 h6;have q3:=wr (v11+1);exact Za4i
   have q1:=wr (v11+1);exact Z8u
  apply tO<;>intro h2
  .have q1:E0.Sub.length<=281474976710656:=O0;refine tB (tK Zdj) fun x1 h3=>Tot.ap fun x2 h4=>?_;have lh4:=Zb7 h4;exact tJ (Zt8 ⟨O0,ov6,SzL.app (k:=16) h4 lo ov7.2 (me1 tk61),cs⟩)
  exact tJ (Zt8 ⟨O0,ov6,ov7,cs⟩)
 | L4 _ _ _=>exact Zt8 hs
 | L5 E0 v6 v7 v12=>
  obtain⟨O0,ov6,ov7,cv12,i0,i1,i2,i3⟩:=hs;have lb_v7:=ov7.1;dsimp only [Zmz,Zaf3,LT.den,Zi5];apply tD<;>intro h1
  .refine tB (Zrd cl) fun x1 h2=>?_;apply tF<;>intro h3
   .refine tB (Z1r) fun x2 h4=>?_;have q1:x2.length<=100:=h4;refine tB (tK Zdj) fun x3 h5=>?_;have q2:=ov7.1;refine Tot.ap fun x4 h6=>?_;have lh6:=Zb7 h6;have q3:=wr (v12+1);exact Za4i
   have q1:=wr (v12+1);exact Z8u
  refine Tot.ix fun x1 h2=>?_;have oh2:SzN x1:=ov6.2 x1 h2.1;refine tB (Zfz ov7 (SzN.t oh2) cl) fun x2 h3=>tB (Zqn Zba cl cl) fun x3 h4=>tB (Zfz h3.1 h4 cl) fun x4 h5=>tB (Zqn Zba cl cl) fun x5 h6=>tB (Zfz h5.1 h6 cl) fun x6 h7=>tB (Zqn Zba cl cl) fun x7 h8=>tB (Zfz h7.1 h8 cl) fun x8 h9=>?_;apply tE<;>intro h10
  .exact tR cl
  exact tB (Zayw h9.1 Zba cl) fun x9 h11=>tR cl
theorem Zadt{a0:Zd}(oa0:Z3 a0):Tot (Zawg a0) (fun r=>(r.length<=288230376151711744)):=by
 apply tZ;dsimp only [Zalj,LT.den];refine tB (Zano oa0) fun x1 h1=>?_;apply tO<;>intro h2
 .exact tR cl
 apply tE<;>intro h3
 .exact tR cl
 apply tE<;>intro h4
 .exact tB (Zqm) fun x2 h5=>tB (tK Zdj) fun x3 h6=>tR cl
 apply tE<;>intro h5
 .exact tB (Zqm) fun x2 h6=>tB (tK Zdj) fun x3 h7=>tR cl
 apply tE<;>intro h6
 .have q1:a0.Sub.length<=281474976710656:=oa0.1;exact tB (tK Zdj) fun x2 h7=>tR cl
 apply tE<;>intro h7
 .have q1:a0.Sub.length<=281474976710656:=oa0.1;exact tB (tK Zdj) fun x2 h8=>tR cl
 apply tE<;>intro h8
 .refine tB (Zadr) fun x2 h9=>?_;have q1:x2.length<=562949953421312:=h9;exact tB (tK Zdj) fun x3 h10=>tR cl
 apply tE<;>intro h9
 .refine tB (Zadr) fun x2 h10=>?_;have q1:x2.length<=562949953421312:=h10;exact tB (tK Zdj) fun x3 h11=>tR cl
 apply tE<;>intro h10
 .refine tB (Zads) fun x2 h11=>?_;have q1:x2.length<=562949953421312:=h11;exact tB (tK Zdj) fun x3 h12=>tR cl
 apply tE<;>intro h11
 .refine tB (Zads) fun x2 h12=>?_;have q1:x2.length<=562949953421312:=h12;exact tB (tK Zdj) fun x3 h13=>tR cl
 apply tE<;>intro h12
 .exact tR cl
 apply tE<;>intro h13
 .exact tB (Zayx oa0.2) fun x2 h14=>tB (tK Zdj) fun x3 h15=>tB (tK Zdj) fun x4 h16=>tR cl
 apply tE<;>intro h14
 .refine tB (Zmd) fun x2 h15=>?_;have q1:x2.length<=100:=h15;refine tB (tK Zdj) fun x3 h16=>tB (tK Zdj) fun x4 h17=>tB (Zmd) fun x5 h18=>?_;have q2:x5.length<=100:=h18;exact tB (tK Zdj) fun x6 h19=>tR cl
 apply tE<;>intro h15
 .refine tB (Zmd) fun x2 h16=>?_;have q1:x2.length<=100:=h16;refine tB (tK Zdj) fun x3 h17=>tB (tK Zdj) fun x4 h18=>tB (Zmd) fun x5 h19=>?_;have q2:x5.length<=100:=h19;exact tB (tK Zdj) fun x6 h20=>tR cl
 exact tR cl
def Zajm:Zll->Prop
 | .L0 v0 v3 v4=>((SzL 176 Z3) v0)/\(0<=v4)/\(v3.length<=576460752303423488*v4.toNat)/\(v0.length<=6)/\(v4<=v0.length)
def Zt9:Zll->M6
 | .L0 v0 v3 v4=>(1,((v0.length:Int) - v4).toNat,1000000,0,0,0)
theorem Zr9{a0:List Zd}(oa0:(SzL 176 Z3) a0):Tot (Zab2 a0) (fun r=>(r.length<=4611686018427387904)):=by
 apply Tot.rn Zajm Zt9
 .have lb_a0:=oa0.1;dsimp only [Z6c,LT.den];apply tE<;>intro h1
  .exact tR cl
  apply tD<;>intro h2
  .exact tR cl
  exact tL ⟨oa0,cs⟩ (by unfold Zt9 lt6;dsimp only;omega)
 rintro ⟨v0,v3,v4⟩ ⟨ov0,cv4,i0,i1,i2⟩;dsimp only [Zu5,Z25,LT.den];apply tD<;>intro h1
 .refine Tot.ix fun x1 h2=>?_;have oh2:Z3 x1:=ov0.2 x1 h2.1;refine tB (Zano oh2) fun x2 h3=>?_;apply tO<;>intro h4
  .exact tR cl
  apply tD<;>intro h5
  .refine tB (tK Zdj) fun x3 h6=>tB (Zadt oh2) fun x4 h7=>tB (tK Zdj) fun x5 h8=>?_;exact tl50
  refine tB (Zadt oh2) fun x3 h6=>tB (tK Zdj) fun x4 h7=>?_;exact tl50
 exact tR cl
theorem Zas9{a0:Zhn}:Tot (Zarh a0) (fun r=>True):=by
 apply tZ;dsimp only [Zaf5,LT.den];refine tB (Z8z a0.Mana) fun x1 h1=>?_;have eh1_0:=h1.1;have eh1_1:=h1.2.1;apply tF<;>intro h2
 .apply tE<;>intro h3
  .exact tl20
  exact tR trivial
 exact tR trivial
theorem Zadu{a0:Int}:Tot (Zawi a0) (fun r=>(SzN r)):=by
 apply tZ;dsimp only [Zall,LT.den];apply tE<;>intro h1
 .exact Zgk
 apply tE<;>intro h2
 .exact Zgk
 apply tE<;>intro h3
 .exact Zgk
 apply tE<;>intro h4
 .exact Zgk
 apply tE<;>intro h5
 .exact Zgk
 apply tE<;>intro h6
 .exact Zgk
 apply tE<;>intro h7
 .exact Zgk
 apply tE<;>intro h8
 .exact Zgk
 apply tE<;>intro h9
 .exact Zgk
 apply tE<;>intro h10
 .exact Zgk
 apply tE<;>intro h11
 .exact Zgk
 apply tE<;>intro h12
 .exact Zgk
 apply tE<;>intro h13
 .exact Zgk
 apply tE<;>intro h14
 .exact Zgk
 exact tR (SzN.nil)
theorem Z68{a0:Int}:Tot (Zaln a0) (fun r=>True):=by
 apply tZ;dsimp only [Zab3,LT.den];apply tE<;>intro h1
 .exact tR trivial
 apply tE<;>intro h2
 .exact tR trivial
 apply tE<;>intro h3
 .exact tR trivial
 exact tl67
theorem Zae7{a0:Int}:Tot (Z9g a0) (fun r=>True):=by
 apply tZ;dsimp only [Z26,LT.den];refine tB (Zadu) fun x1 h1=>?_;apply tO<;>intro h2
 .refine tB (Z68) fun x2 h3=>?_;apply tO<;>intro h4
  .exact tR trivial
  exact tR trivial
 exact tR trivial
def Z81:Z0o->Prop
 | .L0 E0=>(Zp5 E0)/\True
def Zasl:Z0o->M6
 | .L0 E0=>(0,0,0,0,0,0)
theorem Zyp{E0:Zcs}(h:Z81 (.L0 E0)):Tot (Zwt E0).den (Nx Z81 Zasl (0,0,0,0,0,0) (fun r=>True)):=by
 obtain⟨O0,_⟩:=h;dsimp only [Zwt,LT.den];refine tB (Zae7) fun x1 h1=>?_;apply tO<;>intro h2
 .exact tR trivial
 apply tE<;>intro h3
 .exact tl82
 exact tl82
theorem Za5e{a0:Zcs}(oa0:Zp5 a0):Tot (Za7b a0) (fun r=>True):=by
 apply Tot.rn Z81 Zasl
 .dsimp only [Zawj,LT.den];refine tB (Zadu) fun x1 h1=>?_;apply tF<;>intro h2
  .exact tR trivial
  apply tD<;>intro h3
  .exact tR trivial
  apply tD<;>intro h4
  .exact tR trivial
  refine tB (Z68) fun x2 h5=>?_;apply tO<;>intro h6
  .apply tN<;>intro h7
   .exact tR trivial
   exact tJ (Zyp ⟨oa0,trivial⟩)
  exact tJ (Zyp ⟨oa0,trivial⟩)
 intro s hs;cases s with
 | L0 _=>exact Zyp hs
theorem Zyq{a0:Ze}(oa0:Zao a0):Tot (Zari a0) (fun r=>True):=by
 apply tZ;dsimp only [Zaf8,LT.den];refine tB (Zix oa0) fun x1 h1=>?_;have eh1_0:=h1.1;exact tl23
theorem Zata{a0:Za6}(oa0:Zex a0):Tot (Zarj a0) (fun r=>True):=by
 apply tZ;dsimp only [Zaga,LT.den];apply tN<;>intro h1
 .exact tR trivial
 refine tB (Zyq oa0) fun x1 h2=>?_;apply tO<;>intro h3
 .exact tR trivial
 apply tE<;>intro h4
 .apply tE<;>intro h5
  .apply tE<;>intro h6
   .apply tE<;>intro h7
    .exact tR trivial
    apply tE<;>intro h8
    .exact tR trivial
    exact tR trivial
   exact tR trivial
  exact tR trivial
 apply tE<;>intro h5
 .apply tE<;>intro h6
  .apply tE<;>intro h7
   .exact tR trivial
   exact tR trivial
  exact tR trivial
 apply tE<;>intro h6
 .apply tE<;>intro h7
  .apply tD<;>intro h8
   .apply tD<;>intro h9
    .apply tD<;>intro h10
     .exact tR trivial
     exact tR trivial
    exact tR trivial
   exact tR trivial
  exact tR trivial
 exact tR trivial
theorem Zatb{a0:Za6}(oa0:Zex a0):Tot (Zark a0) (fun r=>True):=by
 apply tZ;dsimp only [Zagc,LT.den];apply tN<;>intro h1
 .exact tR trivial
 apply tN<;>intro h2
 .exact tR trivial
 apply tE<;>intro h3
 .exact tl20
 apply tE<;>intro h4
 .apply tD<;>intro h5
  .exact tR trivial
  exact tR trivial
 exact tR trivial
def Zp6:Zr0->Prop
 | .L0 E0 v3 v4=>(Zex E0)/\True
 | .L1 E0 v3=>(Zex E0)/\True
 | .L2 E0 v3 v4 v109=>(Zex E0)/\True
def Z4a:Zr0->M6
 | .L0 E0 v3 v4=>(0,0,0,0,0,0)
 | .L1 E0 v3=>(0,0,0,0,0,0)
 | .L2 E0 v3 v4 v109=>(0,0,0,0,0,0)
theorem Zaai{E0:Za6}{v3:Bool}{v4:Bool}{v109:Bool}(h:(Zex E0)/\True):Tot (Zsh E0 v3 v4 v109).den (Nx Zp6 Z4a (0,0,0,0,0,0) (fun r=>True)):=by
 obtain⟨O0,_⟩:=h;dsimp only [Zsh,LT.den];apply tF<;>intro h1
 .apply tF<;>intro h2
  .apply tD<;>intro h3
   .exact tl20
   exact tR trivial
  exact tR trivial
 exact tR trivial
theorem Zaaj{E0:Za6}{v3:Bool}(h:Zp6 (.L1 E0 v3)):Tot (Zox E0 v3).den (Nx Zp6 Z4a (0,0,0,0,0,0) (fun r=>True)):=by
 obtain⟨O0,_⟩:=h;dsimp only [Zox,LT.den];apply tE<;>intro h1
 .refine tB (Zyq O0) fun x1 h2=>?_;apply tF<;>intro h3
  .exact tR trivial
  exact tl67
 apply tE<;>intro h2
 .exact tR trivial
 apply tE<;>intro h3
 .exact tR trivial
 exact tR trivial
theorem Zaak{E0:Za6}{v3:Bool}{v4:Bool}(h:Zp6 (.L0 E0 v3 v4)):Tot (Zsi E0 v3 v4).den (Nx Zp6 Z4a (0,0,0,0,0,0) (fun r=>True)):=by
 obtain⟨O0,_⟩:=h;dsimp only [Zsi,LT.den];apply tE<;>intro h1
 .apply tN<;>intro h2
  .apply tN<;>intro h3
   .apply tN<;>intro h4
    .apply tN<;>intro h5
     .exact tR trivial
     exact tl10
    exact tl10
   exact tl10
  exact tl10
 apply tE<;>intro h2
 .apply tF<;>intro h3
  .apply tE<;>intro h4
   .exact tB (Zyq O0) fun x1 h5=>tR trivial
   exact tR trivial
  exact tR trivial
 apply tE<;>intro h3
 .apply tE<;>intro h4
  .apply tD<;>intro h5
   .apply tD<;>intro h6
    .exact tR trivial
    exact tR trivial
   exact tR trivial
  apply tE<;>intro h5
  .apply tD<;>intro h6
   .apply tD<;>intro h7
    .exact tR trivial
    exact tR trivial
   exact tR trivial
  exact tR trivial
 apply tE<;>intro h4
 .exact tl12
 apply tE<;>intro h5
 .exact tl12
 exact tl12
theorem Za5f{a0:Za6}(oa0:Zex a0):Tot (Za7d a0) (fun r=>True):=by
 apply Tot.rn Zp6 Z4a
 .dsimp only [Zawn,LT.den];apply tE<;>intro h1
  .exact tB (Zata oa0) fun x1 h2=>tR trivial
  refine tB (Zatb oa0) fun x1 h2=>?_;apply tO<;>intro h3
  .exact tR trivial
  apply tE<;>intro h4
  .exact tl7
  apply tE<;>intro h5
  .exact tl7
  exact tl7
 intro s hs;cases s with
 | L0 _ _ _=>exact Zaak hs
 | L1 _ _=>exact Zaaj hs
 | L2 _ _ _ _=>exact Zaai hs
theorem Zayy{a0:Za9}(oa0:Zge a0):Tot (Zawp a0) (fun r=>True):=by
 apply tZ;dsimp only [Zalo,LT.den];apply tO<;>intro h1
 .exact tl23
 refine tB (Zix oa0) fun x1 h2=>?_;have eh2_0:=h2.1;apply tF<;>intro h3
 .exact tl67
 exact tR trivial
def Zatc:Zqw->Prop
 | .L0 v0 v3=>((SzL 144 Zge) v0)/\(0<=v3)
def Z1u:Zqw->M6
 | .L0 v0 v3=>(1,((v0.length:Int) - v3).toNat,1000000,0,0,0)
theorem Zatd{a0:List Za9}(oa0:(SzL 144 Zge) a0):Tot (Zarl a0) (fun r=>True):=by
 apply Tot.rn Zatc Z1u
 .dsimp only [Zage,LT.den];exact tL ⟨oa0,cl⟩ (by unfold Z1u lt6;dsimp only;omega)
 rintro ⟨v0,v3⟩ ⟨ov0,cv3⟩;have lb_v0:=ov0.1;dsimp only [Z4z,Zab5,LT.den];apply tD<;>intro h1
 .refine Tot.ix fun x1 h2=>?_;have oh2:Zge x1:=ov0.2 x1 h2.1;refine tB (Zayy oh2) fun x2 h3=>?_;apply tO<;>intro h4
  .exact tR trivial
  have q1:=wr (v3+1);exact tL ⟨ov0,cl⟩ (by unfold Z1u lt6;dsimp only;omega)
 exact tR trivial
theorem Zayz{a0:Int}:Tot (Zawr a0) (fun r=>(SzN r)):=by
 apply tZ;dsimp only [Zalq,LT.den];apply tD<;>intro h1
 .exact tR (SzN.nil)
 apply tD<;>intro h2
 .exact tR (SzN.nil)
 have q1:(SzL 16 SzN) ([([100,97,109,97,103,101]:List UInt8),([100,101,115,116,114,111,121]:List UInt8),([109,111,118,101]:List UInt8),([100,114,97,119]:List UInt8),([100,105,115,99,97,114,100]:List UInt8),([103,97,105,110]:List UInt8),([108,111,115,101]:List UInt8),([116,97,112]:List UInt8),([117,110,116,97,112]:List UInt8),([112,117,116]:List UInt8),([116,97,107,101]:List UInt8),([99,114,101,97,116,101]:List UInt8),([109,111,100]:List UInt8),([109,97,110,97]:List UInt8),([99,111,117,110,116,101,114]:List UInt8),([99,111,112,121]:List UInt8),([98,101,99,111,109,101]:List UInt8),([115,97,99,114,105,102,105,99,101]:List UInt8),([109,105,108,108]:List UInt8),([115,99,114,121]:List UInt8),([115,101,97,114,99,104]:List UInt8),([115,104,105,101,108,100]:List UInt8),([116,117,114,110]:List UInt8),([119,105,110]:List UInt8),([100,101,102,101,97,116]:List UInt8),([118,101,110,111,109]:List UInt8)]:List (List UInt8)):=⟨by simp only [List.length_cons,List.length_nil];omega,mem_cons' Zba (mem_cons' Zba (mem_cons' Zba (mem_cons' Zba (mem_cons' Zba (mem_cons' Zba (mem_cons' Zba (mem_cons' Zba (mem_cons' Zba (mem_cons' Zba (mem_cons' Zba (mem_cons' Zba (mem_cons' Zba (mem_cons' Zba (mem_cons' Zba (mem_cons' Zba (mem_cons' Zba (mem_cons' Zba (mem_cons' Zba (mem_cons' Zba (mem_cons' Zba (mem_cons' Zba (mem_cons' Zba (mem_cons' Zba (mem_cons' Zba (mem_cons' Zba (fun _ h=>by cases h))))))))))))))))))))))))))⟩;have lq1:([([100,97,109,97,103,101]:List UInt8),([100,101,115,116,114,111,121]:List UInt8),([109,111,118,101]:List UInt8),([100,114,97,119]:List UInt8),([100,105,115,99,97,114,100]:List UInt8),([103,97,105,110]:List UInt8),([108,111,115,101]:List UInt8),([116,97,112]:List UInt8),([117,110,116,97,112]:List UInt8),([112,117,116]:List UInt8),([116,97,107,101]:List UInt8),([99,114,101,97,116,101]:List UInt8),([109,111,100]:List UInt8),([109,97,110,97]:List UInt8),([99,111,117,110,116,101,114]:List UInt8),([99,111,112,121]:List UInt8),([98,101,99,111,109,101]:List UInt8),([115,97,99,114,105,102,105,99,101]:List UInt8),([109,105,108,108]:List UInt8),([115,99,114,121]:List UInt8),([115,101,97,114,99,104]:List UInt8),([115,104,105,101,108,100]:List UInt8),([116,117,114,110]:List UInt8),([119,105,110]:List UInt8),([100,101,102,101,97,116]:List UInt8),([118,101,110,111,109]:List UInt8)]:List (List UInt8)).length=26:=rfl;have q2:=wr (a0 - 1);refine Tot.ix fun x1 h3=>?_;have oh3:SzN x1:=q1.2 x1 h3.1;exact tR oh3
def Z1v:Zpv->Prop
 | .L0 v3 v4=>True
 | .L1 v3 v14=>True
def Z5k:Zpv->M6
 | .L0 v3 v4=>(0,0,0,0,0,0)
 | .L1 v3 v14=>(0,0,0,0,0,0)
theorem Zua{v3:Int}{v14:Bool}(h:True):Tot (Zqx v3 v14).den (Nx Z1v Z5k (0,0,0,0,0,0) (fun r=>(SzN r))):=by
 dsimp only [Zqx,LT.den];apply tF<;>intro h1
 .exact Zgk
 apply tE<;>intro h2
 .exact Zgk
 apply tE<;>intro h3
 .exact Zgk
 apply tE<;>intro h4
 .exact Zgk
 apply tE<;>intro h5
 .exact Zgk
 apply tE<;>intro h6
 .exact Zgk
 apply tE<;>intro h7
 .exact Zgk
 apply tE<;>intro h8
 .exact tR (SzN.nil)
 apply tE<;>intro h9
 .exact tR (SzN.nil)
 exact Zgk
theorem Z4b{v3:Int}{v4:Bool}(h:True):Tot (Zgd v3 v4).den (Nx Z1v Z5k (0,0,0,0,0,0) (fun r=>(SzN r))):=by
 dsimp only [Zgd,LT.den];apply tF<;>intro h1
 .exact Zgk
 apply tE<;>intro h2
 .exact Zgk
 apply tE<;>intro h3
 .exact tJ (Zua trivial)
 exact tJ (Zua trivial)
theorem Zay0{a0:Int}:Tot (Zaws a0) (fun r=>(SzN r)):=by
 apply Tot.rn Z1v Z5k
 .dsimp only [Zals,LT.den];apply tE<;>intro h1
  .exact tl4
  apply tE<;>intro h2
  .exact tl4
  apply tE<;>intro h3
  .exact tl4
  apply tE<;>intro h4
  .exact tl4
  apply tE<;>intro h5
  .exact tl4
  apply tE<;>intro h6
  .exact tl4
  exact tl4
 intro s hs;cases s with
 | L0 _ _=>exact Z4b hs
 | L1 _ _=>exact Zua hs
def Zay1:Ztf->Prop
 | .L0 v1 v5 v6=>(SzT v5)/\(0<=v6)
def Z5l:Ztf->M6
 | .L0 v1 v5 v6=>(1,((v5.length:Int) - v6).toNat,1000000,0,0,0)
theorem Zht{a0:Int}{a1:Int}:Tot (Zawt a0 a1) (fun r=>True):=by
 apply Tot.rn Zay1 Z5l
 .dsimp only [Zalu,LT.den];exact tB (Zay0) fun x1 h1=>tL ⟨SzN.t h1,cl⟩ (by unfold Z5l lt6;dsimp only;omega)
 rintro ⟨v1,v5,v6⟩ ⟨ov5,cv6⟩;have lb_v5:v5.length<=562949953421312:=ov5;dsimp only [Z76,Zagf,LT.den];apply tD<;>intro h1
 .refine Tot.ix fun x1 h2=>?_;apply tE<;>intro h3
  .exact tR trivial
  have q1:=wr (v6+1);exact tL ⟨ov5,cl⟩ (by unfold Z5l lt6;dsimp only;omega)
 exact tR trivial
theorem Zajn{a0:Int}:Tot (Zab6 a0) (fun r=>True):=by
 apply tZ;dsimp only [Z6d,LT.den];exact tl21
def Zub:Zu6->Prop
 | .L0 v1 E0=>(Zt6 E0)/\True
 | .L1 E0=>(Zt6 E0)/\True
def Zadv:Zu6->M6
 | .L0 v1 E0=>(0,0,0,0,0,0)
 | .L1 E0=>(0,0,0,0,0,0)
theorem Zyr{E0:Zgn}(h:Zub (.L1 E0)):Tot (Zwu E0).den (Nx Zub Zadv (0,0,0,0,0,0) (fun r=>True)):=by
 obtain⟨O0,_⟩:=h;dsimp only [Zwu,LT.den];apply tE<;>intro h1
 .exact tB (Zix O0) fun x1 h2=>tR trivial
 exact tR trivial
theorem Zys{v1:Int}{E0:Zgn}(h:Zub (.L0 v1 E0)):Tot (Zwv v1 E0).den (Nx Zub Zadv (0,0,0,0,0,0) (fun r=>True)):=by
 obtain⟨O0,_⟩:=h;dsimp only [Zwv,LT.den];apply tD<;>intro h1
 .exact tR trivial
 apply tD<;>intro h2
 .exact tR trivial
 refine tB (Zajn) fun x1 h3=>?_;apply tF<;>intro h4
 .apply tD<;>intro h5
  .exact tR trivial
  apply tD<;>intro h6
  .exact tR trivial
  exact tJ (Zyr ⟨O0,trivial⟩)
 apply tN<;>intro h5
 .exact tR trivial
 exact tJ (Zyr ⟨O0,trivial⟩)
theorem Za5g{a0:Zgn}{a1:Int}(oa0:Zt6 a0):Tot (Za7f a0 a1) (fun r=>True):=by
 apply Tot.rn Zub Zadv
 .dsimp only [Zawu,LT.den];apply tD<;>intro h1
  .exact tJ (Zys ⟨oa0,trivial⟩)
  exact tJ (Zys ⟨oa0,trivial⟩)
 intro s hs;cases s with
 | L0 _ _=>exact Zys hs
 | L1 _=>exact Zyr hs
theorem Zadw{a0:Int}:Tot (Zaww a0) (fun r=>(SzT r)/\(r=[]↔¬ (0<=a0/\a0<=2))):=by
 apply tZ;dsimp only [Zalw,LT.den];apply tE<;>intro h1
 .exact Za4m
 apply tE<;>intro h2
 .exact Za4m
 apply tE<;>intro h3
 .exact Za4m
 exact tR ⟨SzT.nil,tk35⟩
theorem Za5h{a0:Zbk}(oa0:Zyh a0):Tot (Za7h a0) (fun r=>(r=amV a0)):=by
 apply tZ;dsimp only [Zawx,LT.den];apply tE<;>intro h1
 .apply tD<;>intro h2
  .exact Zr8
  apply tD<;>intro h3
  .exact Zr8
  exact Zbc8
 apply tE<;>intro h2
 .apply tD<;>intro h3
  .exact Zr8
  apply tD<;>intro h4
  .exact Zr8
  refine tB (Zix oa0) fun x1 h5=>?_;have eh5_0:=h5.1;have eh5_1:=h5.2;apply tO<;>intro h6
  .exact Zr8
  have h6_0:=eh5_0 h6;apply tD<;>intro h7
  .apply tD<;>intro h8
   .exact Zr8
   exact Zr8
  exact Zr8
 apply tE<;>intro h3
 .refine tB (Zadw) fun x1 h4=>?_;have eh4_1:=h4.2;apply tF<;>intro h5
  .exact Zr8
  apply tD<;>intro h6
  .apply tD<;>intro h7
   .exact Zr8
   exact Zr8
  exact Zr8
 exact Zbc8
theorem Zay2{a0:List Zd}(oa0:(SzL 176 Z3) a0):Tot (Zawz a0) (fun r=>True):=by
 apply tZ;dsimp only [Zaly,LT.den];exact tB (Zr9 oa0) fun x1 h1=>tR trivial
def Zay3:Ztg->Prop
 | .L0 E0 E1 E2 v4=>(0<=v4)/\True
def Z5m:Ztg->M6
 | .L0 E0 E1 E2 v4=>(1,(5 - v4).toNat,1000000,0,0,0)
theorem Zay4{a0:A6 Int}:Tot (Zaw0 a0) (fun r=>True):=by
 apply Tot.rn Zay3 Z5m
 .dsimp only [Zal0,LT.den];exact tB (tI O (by have e:(A6.list a0).length=6:=rfl;omega)) fun x1 h1=>tL ⟨cl,trivial⟩ (by unfold Z5m lt6;dsimp only;omega)
 rintro ⟨E0,E1,E2,v4⟩ ⟨cv4,_⟩;dsimp only [Z77,Zagh,LT.den];apply tD<;>intro h1
 .have q1:=wr (v4+1);exact tB (tI O Za43) fun x1 h2=>tB (tI O (by have e:(A5.list E2.Color).length=5:=rfl;omega)) fun x2 h3=>tB (Tot.setA5 O O) fun x3 h4=>tL ⟨cl,trivial⟩ (by unfold Z5m lt6;dsimp only;omega)
 exact tR trivial
def Zay5:Zm0->Prop
 | .L0 E0 v3 v4=>(0<=v4)/\(E0.X<=2)/\(∀ n,n∈A5.list E0.Color->n<=9)/\(v3.length<=v4.toNat)/\(v4<=2)
 | .L1 E0 v3 v5=>(0<=v5)/\(v3.length<=200+200*v5.toNat)/\(∀ n,n∈A5.list E0.Color->n<=9)/\(v5<=5)
 | .L2 E0 v3 v5 v6=>(0<=v5)/\(0<=v6)/\(v5 < 5)/\(v3.length<=200+200*v5.toNat+v6.toNat)/\(∀ n,n∈A5.list E0.Color->n<=9)/\(v5 < 5)/\(v6<=9)
def Z5n:Zm0->M6
 | .L0 E0 v3 v4=>(3,(E0.X - v4).toNat,1000000,0,0,0)
 | .L1 E0 v3 v5=>(1,(5 - v5).toNat,1000000,0,0,0)
 | .L2 E0 v3 v5 v6=>(1,(5 - v5).toNat,1,(9 - v6).toNat,1000000,0)
theorem Zay6{a0:Zt}:Tot (Zaw1 a0) (fun r=>(SzT r)):=by
 apply Tot.rn Zay5 Z5n
 .dsimp only [Zal1,LT.den];refine tB (Z8z a0) fun x1 h1=>?_;have eh1_0:=h1.1;have eh1_1:=h1.2.1;apply tO<;>intro h2
  .exact tR (SzT.nil)
  have h2_0:=eh1_0 h2;have h2_1:=eh1_1 h2;exact tl24
 intro s hs;cases s with
 | L0 E0 v3 v4=>
  obtain⟨cv4,i0,i1,i2,i3⟩:=hs;dsimp only [Zth,Zagi,LT.den];apply tD<;>intro h1
  .refine tB (tK Zdj) fun x1 h2=>?_;have q1:=wr (v4+1);exact tl24
  apply tN<;>intro h2
  .refine tB (Zmd) fun x1 h3=>?_;have q1:x1.length<=100:=h3;exact tB (tK Zdj) fun x2 h4=>tL ⟨cl,cs⟩ (by unfold Z5n lt6;dsimp only;omega)
  exact tl24
 | L1 E0 v3 v5=>
  obtain⟨cv5,i0,i1,i2⟩:=hs;dsimp only [Zth,Zagj,LT.den];apply tD<;>intro h1
  .exact tl24
  exact Zbc6
 | L2 E0 v3 v5 v6=>
  obtain⟨cv5,cv6,bd2,i0,i1,i2,i3⟩:=hs;dsimp only [Zth,Zagk,LT.den];refine tB (tI O (by have e:(A5.list E0.Color).length=5:=rfl;omega)) fun x1 h1=>?_;have ph1:=i1 x1 h1.1;apply tD<;>intro h2
  .have q1:=wr (v5+1);refine tB (Tot.slice O O (by first | omega | (simp only [List.length_cons,List.length_nil];omega))) fun x2 h3=>tB (tK Zdj) fun x3 h4=>?_;have q2:=wr (v6+1);exact tl24
  have q1:=wr (v5+1);exact tl24
theorem Zajo{a0:A6 Int}:Tot (Zab7 a0) (fun r=>(SzT r)):=by
 apply tZ;dsimp only [Z6f,LT.den];exact tB (Zay4) fun x1 h1=>tB (Zay6) fun x2 h2=>tR h2
theorem Zap5{a0:Int}{a1:Ze}(oa1:Zao a1):Tot (Zal3 a0 a1) (fun r=>True):=by
 apply tZ;dsimp only [Zab8,LT.den];apply tE<;>intro h1
 .exact tl77
 exact tl77
def Zgl:Zh6->Prop
 | .L0 E0 v5=>(Zab E0)/\True
 | .L1 E0 v5 v6=>(Zab E0)/\True
 | .L2 E0 v5 v6 v7=>(Zab E0)/\True
 | .L3 E0 v5 v6 v7 v8=>(Zab E0)/\True
 | .L4 E0 v5 v6 v7 v8 v9=>(Zab E0)/\True
 | .L5 E0 v5 v6 v7 v8 v9 v10=>(Zab E0)/\True
 | .L6 E0 v5 v6 v7 v8 v9 v10 v11=>(Zab E0)/\True
 | .L7 v5 v6 v7 v8 v9 v10 v11 v12=>True
def Zko:Zh6->M6
 | .L0 E0 v5=>(0,0,0,0,0,0)
 | .L1 E0 v5 v6=>(0,0,0,0,0,0)
 | .L2 E0 v5 v6 v7=>(0,0,0,0,0,0)
 | .L3 E0 v5 v6 v7 v8=>(0,0,0,0,0,0)
 | .L4 E0 v5 v6 v7 v8 v9=>(0,0,0,0,0,0)
 | .L5 E0 v5 v6 v7 v8 v9 v10=>(0,0,0,0,0,0)
 | .L6 E0 v5 v6 v7 v8 v9 v10 v11=>(0,0,0,0,0,0)
 | .L7 v5 v6 v7 v8 v9 v10 v11 v12=>(0,0,0,0,0,0)
theorem Zyt{v5:Bool}{v6:Bool}{v7:Bool}{v8:Bool}{v9:Bool}{v10:Bool}{v11:Bool}{v12:Bool}(h:True):Tot (Zww v5 v6 v7 v8 v9 v10 v11 v12).den (Nx Zgl Zko (0,0,0,0,0,0) (fun r=>True)):=by
 dsimp only [Zww,LT.den];apply tF<;>intro h1
 .apply tF<;>intro h2
  .apply tF<;>intro h3
   .apply tF<;>intro h4
    .apply tF<;>intro h5
     .apply tF<;>intro h6
      .apply tF<;>intro h7
       .exact tR trivial
       exact tR trivial
      exact tR trivial
     exact tR trivial
    exact tR trivial
   exact tR trivial
  exact tR trivial
 exact tR trivial
theorem Zrn{E0:Zs}{v5:Bool}{v6:Bool}{v7:Bool}{v8:Bool}{v9:Bool}{v10:Bool}{v11:Bool}(h:(Zab E0)/\True):Tot (Zsj E0 v5 v6 v7 v8 v9 v10 v11).den (Nx Zgl Zko (0,0,0,0,0,0) (fun r=>True)):=by
 obtain⟨O0,_⟩:=h;dsimp only [Zsj,LT.den];refine tB (Zht) fun x1 h1=>?_;apply tF<;>intro h2
 .exact tB (Zap5 O0.2.2.2.1) fun x2 h3=>tJ (Zyt trivial)
 exact tJ (Zyt trivial)
theorem Zyu{E0:Zs}{v5:Bool}{v6:Bool}{v7:Bool}{v8:Bool}{v9:Bool}{v10:Bool}(h:(Zab E0)/\True):Tot (Zwx E0 v5 v6 v7 v8 v9 v10).den (Nx Zgl Zko (0,0,0,0,0,0) (fun r=>True)):=by
 obtain⟨O0,_⟩:=h;dsimp only [Zwx,LT.den];refine tB (Zht) fun x1 h1=>?_;apply tF<;>intro h2
 .apply tO<;>intro h3
  .exact tB (Zajo) fun x2 h4=>tJ (Zrn ⟨O0,trivial⟩)
  exact tJ (Zrn ⟨O0,trivial⟩)
 exact tJ (Zrn ⟨O0,trivial⟩)
theorem Zyv{E0:Zs}{v5:Bool}{v6:Bool}{v7:Bool}{v8:Bool}{v9:Bool}(h:(Zab E0)/\True):Tot (Zwy E0 v5 v6 v7 v8 v9).den (Nx Zgl Zko (0,0,0,0,0,0) (fun r=>True)):=by
 obtain⟨O0,_⟩:=h;dsimp only [Zwy,LT.den];refine tB (Zht) fun x1 h1=>?_;apply tF<;>intro h2
 .exact tB (Zay2 O0.2.2.2.2) fun x2 h3=>tJ (Zyu ⟨O0,trivial⟩)
 exact tJ (Zyu ⟨O0,trivial⟩)
theorem Zyw{E0:Zs}{v5:Bool}{v6:Bool}{v7:Bool}{v8:Bool}(h:(Zab E0)/\True):Tot (Zwz E0 v5 v6 v7 v8).den (Nx Zgl Zko (0,0,0,0,0,0) (fun r=>True)):=by
 obtain⟨O0,_⟩:=h;dsimp only [Zwz,LT.den];refine tB (Zht) fun x1 h1=>?_;apply tF<;>intro h2
 .exact tB (Za5h O0.2.1) fun x2 h3=>tJ (Zyv ⟨O0,trivial⟩)
 exact tJ (Zyv ⟨O0,trivial⟩)
theorem Zro{E0:Zs}{v5:Bool}{v6:Bool}{v7:Bool}(h:(Zab E0)/\True):Tot (Zsk E0 v5 v6 v7).den (Nx Zgl Zko (0,0,0,0,0,0) (fun r=>True)):=by
 obtain⟨O0,_⟩:=h;dsimp only [Zsk,LT.den];refine tB (Zht) fun x1 h1=>?_;apply tF<;>intro h2
 .exact tB (Zanl (SzS.t O0.2.2.1)) fun x2 h3=>tJ (Zyw ⟨O0,trivial⟩)
 exact tJ (Zyw ⟨O0,trivial⟩)
theorem Zaal{E0:Zs}{v5:Bool}{v6:Bool}(h:Zgl (.L1 E0 v5 v6)):Tot (Zoy E0 v5 v6).den (Nx Zgl Zko (0,0,0,0,0,0) (fun r=>True)):=by
 obtain⟨O0,_⟩:=h;dsimp only [Zoy,LT.den];apply tE<;>intro h1
 .exact tJ (Zro ⟨O0,trivial⟩)
 refine tB (Zht) fun x1 h2=>?_;apply tF<;>intro h3
 .exact tB (Zadw) fun x2 h4=>tJ (Zro ⟨O0,trivial⟩)
 exact tJ (Zro ⟨O0,trivial⟩)
theorem Zyx{E0:Zs}{v5:Bool}(h:Zgl (.L0 E0 v5)):Tot (Zw0 E0 v5).den (Nx Zgl Zko (0,0,0,0,0,0) (fun r=>True)):=by
 obtain⟨O0,_⟩:=h;dsimp only [Zw0,LT.den];apply tE<;>intro h1
 .exact tl11
 refine tB (Zht) fun x1 h2=>?_;apply tF<;>intro h3
 .apply tD<;>intro h4
  .exact tl11
  exact tl11
 exact tl11
theorem Za5i{a0:Zs}{a1:Int}(oa0:Zab a0):Tot (Za7j a0 a1) (fun r=>True):=by
 apply Tot.rn Zgl Zko
 .dsimp only [Zaw2,LT.den];refine tB (Zayz) fun x1 h1=>?_;apply tF<;>intro h2
  .exact tR trivial
  refine tB (Zht) fun x2 h3=>?_;apply tF<;>intro h4
  .exact tB (Za5g oa0.1) fun x3 h5=>tJ (Zyx ⟨oa0,trivial⟩)
  exact tJ (Zyx ⟨oa0,trivial⟩)
 intro s hs;cases s with
 | L0 _ _=>exact Zyx hs
 | L1 _ _ _=>exact Zaal hs
 | L2 _ _ _ _=>exact Zro hs
 | L3 _ _ _ _ _=>exact Zyw hs
 | L4 _ _ _ _ _ _=>exact Zyv hs
 | L5 _ _ _ _ _ _ _=>exact Zyu hs
 | L6 _ _ _ _ _ _ _ _=>exact Zrn hs
 | L7 _ _ _ _ _ _ _ _=>exact Zyt hs
def Zanq:Zna->Prop
 | .L0 v0 v1 v5=>((SzL 560 Zab) v0)/\(0<=v5)
def Zvo:Zna->M6
 | .L0 v0 v1 v5=>(1,((v0.length:Int) - v5).toNat,1000000,0,0,0)
theorem Zanr{a0:List Zs}{a1:Int}(oa0:(SzL 560 Zab) a0):Tot (Zagl a0 a1) (fun r=>True):=by
 apply Tot.rn Zanq Zvo
 .dsimp only [Z9h,LT.den];exact tL ⟨oa0,cl⟩ (by unfold Zvo lt6;dsimp only;omega)
 rintro ⟨v0,v1,v5⟩ ⟨ov0,cv5⟩;have lb_v0:=ov0.1;dsimp only [Zxy,Z6h,LT.den];apply tD<;>intro h1
 .refine Tot.ix fun x1 h2=>?_;have oh2:Zab x1:=ov0.2 x1 h2.1;refine tB (Za5i oh2) fun x2 h3=>?_;apply tO<;>intro h4
  .exact tR trivial
  have q1:=wr (v5+1);exact tL ⟨ov0,cl⟩ (by unfold Zvo lt6;dsimp only;omega)
 apply tD<;>intro h2
 .exact tR trivial
 exact tR trivial
def Zgm:Zm1->Prop
 | .L0 E0 v3=>(Z5 E0)/\True
 | .L1 E0 v3=>(Z5 E0)/\True
 | .L2 E0 v3=>(Z5 E0)/\True
 | .L3 E0 v3=>(Z5 E0)/\True
 | .L4 E0 v3=>(Z5 E0)/\True
def Zsr:Zm1->M6
 | .L0 E0 v3=>(0,0,0,0,0,0)
 | .L1 E0 v3=>(0,0,0,0,0,0)
 | .L2 E0 v3=>(0,0,0,0,0,0)
 | .L3 E0 v3=>(0,0,0,0,0,0)
 | .L4 E0 v3=>(0,0,0,0,0,0)
theorem Zyy{E0:Zh}{v3:Bool}(h:Zgm (.L4 E0 v3)):Tot (Zw1 E0 v3).den (Nx Zgm Zsr (0,0,0,0,0,0) (fun r=>True)):=by
 obtain⟨O0,_⟩:=h;dsimp only [Zw1,LT.den];apply tF<;>intro h1
 .refine tB (Zatd O0.2.2.2.1) fun x1 h2=>?_;apply tF<;>intro h3
  .exact tB (Zanr O0.2.2.2.2.1) fun x2 h4=>tR trivial
  exact tR trivial
 apply tE<;>intro h2
 .exact tR trivial
 exact tR trivial
theorem Zyz{E0:Zh}{v3:Bool}(h:Zgm (.L3 E0 v3)):Tot (Zw2 E0 v3).den (Nx Zgm Zsr (0,0,0,0,0,0) (fun r=>True)):=by
 obtain⟨O0,_⟩:=h;dsimp only [Zw2,LT.den];apply tE<;>intro h1
 .refine tB (Za5f O0.2.2.2.2.2) fun x1 h2=>?_;apply tO<;>intro h3
  .exact tR trivial
  exact tJ (Zyy ⟨O0,trivial⟩)
 apply tO<;>intro h2
 .exact tR trivial
 exact tJ (Zyy ⟨O0,trivial⟩)
theorem Zy0{E0:Zh}{v3:Bool}(h:Zgm (.L2 E0 v3)):Tot (Zw3 E0 v3).den (Nx Zgm Zsr (0,0,0,0,0,0) (fun r=>True)):=by
 obtain⟨O0,_⟩:=h;dsimp only [Zw3,LT.den];apply tE<;>intro h1
 .refine tB (Za5e O0.2.2.1) fun x1 h2=>?_;apply tO<;>intro h3
  .exact tR trivial
  exact tJ (Zyz ⟨O0,trivial⟩)
 apply tO<;>intro h2
 .exact tR trivial
 apply tF<;>intro h3
 .exact tR trivial
 exact tJ (Zyz ⟨O0,trivial⟩)
theorem Zy1{E0:Zh}{v3:Bool}(h:Zgm (.L1 E0 v3)):Tot (Zw4 E0 v3).den (Nx Zgm Zsr (0,0,0,0,0,0) (fun r=>True)):=by
 obtain⟨O0,_⟩:=h;dsimp only [Zw4,LT.den];apply tE<;>intro h1
 .refine tB (Zas9) fun x1 h2=>?_;apply tO<;>intro h3
  .exact tR trivial
  exact tJ (Zy0 ⟨O0,trivial⟩)
 apply tO<;>intro h2
 .exact tR trivial
 apply tF<;>intro h3
 .exact tR trivial
 exact tJ (Zy0 ⟨O0,trivial⟩)
theorem Zaam{E0:Zh}{v3:Bool}(h:Zgm (.L0 E0 v3)):Tot (Zsl E0 v3).den (Nx Zgm Zsr (0,0,0,0,0,0) (fun r=>True)):=by
 obtain⟨O0,_⟩:=h;dsimp only [Zsl,LT.den];apply tE<;>intro h1
 .refine tB (Zix O0.1) fun x1 h2=>?_;have eh2_0:=h2.1;apply tO<;>intro h3
  .exact tR trivial
  apply tN<;>intro h4
  .exact tR trivial
  refine tB (Zr9 O0.2.1) fun x2 h5=>?_;apply tF<;>intro h6
  .exact tR trivial
  exact tJ (Zy1 ⟨O0,trivial⟩)
 apply tO<;>intro h2
 .exact tR trivial
 apply tD<;>intro h3
 .exact tR trivial
 exact tJ (Zy1 ⟨O0,trivial⟩)
theorem Zzw{a0:Zh}(oa0:Z5 a0):Tot (Za7l a0) (fun r=>True):=by
 apply Tot.rn Zgm Zsr
 .dsimp only [Zaw4,LT.den];apply tD<;>intro h1
  .exact tR trivial
  apply tD<;>intro h2
  .exact tR trivial
  apply tE<;>intro h3
  .exact tl8
  apply tE<;>intro h4
  .exact tl8
  exact tl8
 intro s hs;cases s with
 | L0 _ _=>exact Zaam hs
 | L1 _ _=>exact Zy1 hs
 | L2 _ _=>exact Zy0 hs
 | L3 _ _=>exact Zyz hs
 | L4 _ _=>exact Zyy hs
theorem Zay7{a0:Zm}(oa0:Zag a0):Tot (Zaw6 a0) (fun r=>True):=by
 apply tZ;dsimp only [Zal4,LT.den];exact tl21
def Z82(a0:Zm):Zu7->Prop
 | .L0 E0=>(E0=a0)/\(Zag E0)/\(E0.Abilities.length<=8)/\(Zzv E0)
 | .L1 E0 v3 v4=>(E0=a0)/\(Zag E0)/\(0<=v4)/\(E0.Abilities.length<=8)/\(Zzv E0)
def Z4c:Zu7->M6
 | .L0 E0=>(2,0,0,0,0,0)
 | .L1 E0 v3 v4=>(1,((E0.Abilities.length:Int) - v4).toNat,1000000,0,0,0)
theorem Zaan{a0:Zm}{E0:Zm}(h:(Z82 a0) (.L0 E0)):Tot (Zw5 E0).den (Nx (Z82 a0) Z4c (2,0,0,0,0,0) (fun r=>(r=true->a0.Abilities.length<=8)/\(r=true->Zzv a0))):=by
 obtain⟨al0,O0,i0,i1⟩:=h;subst al0;dsimp only [Zw5,LT.den];exact tl70
theorem Za5j{a0:Zm}(oa0:Zag a0):Tot (Za7m a0) (fun r=>(r=true->a0.Abilities.length<=8)/\(r=true->Zzv a0)):=by
 apply Tot.rn (Z82 a0) Z4c
 .dsimp only [Zaw7,LT.den];refine tB (Zanl (SzS.t oa0.1)) fun x1 h1=>?_;apply tO<;>intro h2
  .exact Zkz
  refine tB (Z8z a0.Cost) fun x2 h3=>?_;have eh3_0:=h3.1;have eh3_1:=h3.2.1;apply tO<;>intro h4
  .exact Zkz
  refine tB (Za5c oa0.2.1) fun x3 h5=>?_;have eh5_0:=h5;apply tO<;>intro h6
  .exact Zkz
  refine tB (Zann) fun x4 h7=>?_;apply tO<;>intro h8
  .exact Zkz
  apply tD<;>intro h9
  .exact Zkz
  apply tD<;>intro h10
  .exact Zkz
  apply tD<;>intro h11
  .exact Zkz
  apply tD<;>intro h12
  .exact Zkz
  apply tD<;>intro h13
  .exact Zkz
  apply tD<;>intro h14
  .exact Zkz
  refine tB (Zaji oa0) fun x5 h15=>?_;apply tO<;>intro h16
  .apply tN<;>intro h17
   .exact Zkz
   apply tN<;>intro h18
   .exact Zkz
   have q1:=oa0.2.2.1;apply tD<;>intro h19
   .exact Zkz
   exact tl43
  have q1:=oa0.2.2.1;apply tD<;>intro h17
  .exact Zkz
  exact tl43
 intro s hs;cases s with
 | L0 _=>exact Zaan hs
 | L1 E0 v3 v4=>
  obtain⟨al0,O0,cv4,i0,i1⟩:=hs;subst al0;dsimp only [Zais,Zarm,LT.den,Z4c];apply tD<;>intro h1
  .refine Tot.ix fun x1 h2=>?_;have oh2:Z5 x1:=O0.2.2.2 x1 h2.1;refine tB (Zzw oh2) fun x2 h3=>?_;apply tO<;>intro h4
   .exact Zkz
   apply tE<;>intro h5
   .have q1:=wr (v3+1);have q2:=wr (v4+1);exact tl70
   have q1:=wr (v4+1);exact tl70
  refine tB (Zay7 O0) fun x1 h2=>?_;apply tF<;>intro h3
  .apply tO<;>intro h4
   .apply tE<;>intro h5
    .exact Zbda
    exact Zkz
   exact Zkz
  apply tE<;>intro h4
  .apply tO<;>intro h5
   .exact Zbda
   exact Zkz
  exact Zkz
def Zay8:Zti->Prop
 | .L0 v0 v1 v5=>((SzL 176 Zag) v0)/\(SzT v1)/\(0<=v5)
def Z5o:Zti->M6
 | .L0 v0 v1 v5=>(1,((v0.length:Int) - v5).toNat,1000000,0,0,0)
theorem Zay9{a0:List Zm}{a1:List UInt8}(oa0:(SzL 176 Zag) a0)(oa1:SzT a1):Tot (Zaw8 a0 a1) (fun r=>True):=by
 apply Tot.rn Zay8 Z5o
 .dsimp only [Zal6,LT.den];exact tL ⟨oa0,oa1,cl⟩ (by unfold Z5o lt6;dsimp only;omega)
 rintro ⟨v0,v1,v5⟩ ⟨ov0,ov1,cv5⟩;have lb_v0:=ov0.1;dsimp only [Z78,Zagm,LT.den];apply tD<;>intro h1
 .refine Tot.ix fun x1 h2=>?_;apply tF<;>intro h3
  .exact tR trivial
  have q1:=wr (v5+1);exact tL ⟨ov0,ov1,cl⟩ (by unfold Z5o lt6;dsimp only;omega)
 exact tR trivial
def Zate:Zqy->Prop
 | .L0 v0 v1 v5=>((SzL 176 Zag) v0)/\(SzT v1)/\(0<=v5)
def Z1w:Zqy->M6
 | .L0 v0 v1 v5=>(1,((v0.length:Int) - v5).toNat,1000000,0,0,0)
theorem Zatf{a0:List Zm}{a1:List UInt8}(oa0:(SzL 176 Zag) a0)(oa1:SzT a1):Tot (Zarn a0 a1) (fun r=>True):=by
 apply Tot.rn Zate Z1w
 .dsimp only [Zagn,LT.den];exact tL ⟨oa0,oa1,cl⟩ (by unfold Z1w lt6;dsimp only;omega)
 rintro ⟨v0,v1,v5⟩ ⟨ov0,ov1,cv5⟩;have lb_v0:=ov0.1;dsimp only [Z40,Zaca,LT.den];apply tD<;>intro h1
 .refine Tot.ix fun x1 h2=>?_;apply tF<;>intro h3
  .apply tF<;>intro h4
   .exact tR trivial
   exact tl54
  exact tl54
 exact tR trivial
def Zans:Zj0->Prop
 | .L0 v0 E0 v5=>((SzL 176 Zag) v0)/\(Zag E0)/\(0<=v5)
 | .L1 v0 E0 v5 v6=>((SzL 176 Zag) v0)/\(Zag E0)/\(0<=v5)/\(0<=v6)/\(v5 < (E0.Abilities.length:Int))/\(v5 < (E0.Abilities.length:Int))
def Z69:Zj0->M6
 | .L0 v0 E0 v5=>(1,((E0.Abilities.length:Int) - v5).toNat,1000000,0,0,0)
 | .L1 v0 E0 v5 v6=>(1,((E0.Abilities.length:Int) - v5).toNat,1,((((E0.Abilities[v5.toNat]?).map fun x=>x.Effects.length).getD 0:Nat) - v6).toNat,1000000,0)
theorem Zant{a0:List Zm}{a1:Zm}(oa0:(SzL 176 Zag) a0)(oa1:Zag a1):Tot (Zago a0 a1) (fun r=>True):=by
 apply Tot.rn Zans Z69
 .dsimp only [Z9i,LT.den];exact tL ⟨oa0,oa1,cl⟩ Za46
 intro s hs;cases s with
 | L0 v0 E0 v5=>
  obtain⟨ov0,O0,cv5⟩:=hs;dsimp only [Zrl,Z6i,LT.den];apply tD<;>intro h1
  .exact tl38
  exact tR trivial
 | L1 v0 E0 v5 v6=>
  obtain⟨ov0,O0,cv5,cv6,bd4,i0⟩:=hs;dsimp only [Zrl,Z6j,LT.den];have lx_0:E0.Abilities.length*640<=140737488351232:=O0.2.2.1;refine Tot.ix fun x1 h1=>?_;have oh1:Z5 x1:=O0.2.2.2 x1 h1.1;have mh1:((E0.Abilities[v5.toNat]?).map fun x=>x.Effects.length).getD 0=x1.Effects.length:=by rw [h1.2];rfl
  have q1:=oh1.2.2.2.2.1.1;apply tD<;>intro h2
  .refine Tot.ix fun x2 h3=>?_;have oh3:Zab x2:=oh1.2.2.2.2.1.2 x2 h3.1;apply tE<;>intro h4
   .refine tB (Zatf ov0 (SzS.t oh3.2.2.1)) fun x3 h5=>?_;apply tO<;>intro h6
    .exact tR trivial
    exact tl59
   exact tl59
  have q2:=wr (v5+1);exact tL ⟨ov0,O0,cl⟩ Za46
abbrev Zap6(a0:List Zm)(r:Int×Int):Prop:=(r.2=0->∀ c,c∈a0->c.Abilities.length<=8)/\(r.2=0->∀ c,c∈a0->Zzv c)
def Zatg(a0:List Zm):Zqz->Prop
 | .L0 v0 v4=>(v0=a0)/\((SzL 176 Zag) v0)/\(0<=v4)/\(∀ (k:Nat) c,(k:Int) < v4->v0[k]?=some c->c.Abilities.length<=8)/\(∀ (k:Nat) x,(k:Int) < v4->v0[k]?=some x->Zzv x)
def Z1x:Zqz->M6
 | .L0 v0 v4=>(1,((v0.length:Int) - v4).toNat,1000000,0,0,0)
theorem Zath{a0:List Zm}(oa0:(SzL 176 Zag) a0):Tot (Zaro a0) (Zap6 a0):=by
 apply Tot.rn (Zatg a0) Z1x
 .dsimp only [Zagp,LT.den];apply tD<;>intro h1
  .exact Zane
  exact tL ⟨rfl,oa0,cl,tk31,tk56⟩ (by unfold Z1x lt6;dsimp only;omega)
 rintro ⟨v0,v4⟩ ⟨al0,ov0,cv4,i0,i1⟩;have lb_v0:=ov0.1;subst al0;dsimp only [Z41,Zacb,LT.den];apply tD<;>intro h1
 .refine Tot.ix fun x1 h2=>?_;have oh2:Zag x1:=ov0.2 x1 h2.1;have mh2:=h2.2;refine tB (Za5j oh2) fun x2 h3=>?_;have eh3_0:=h3.1;have eh3_1:=h3.2;apply tO<;>intro h4
  .exact Zane
  have h4_0:=eh3_0 h4;refine tB (Zay9 ov0 (SzS.t oh2.1)) fun x3 h5=>?_;apply tD<;>intro h6
  .exact Zane
  refine tB (Zant ov0 oh2) fun x4 h7=>?_;apply tO<;>intro h8
  .exact Zane
  have q1:=wr (v4+1);exact tL ⟨rfl,ov0,cl,tk31,tk56⟩ (by unfold Z1x lt6;dsimp only;omega)
 exact Zane
theorem Zef{a0:Int}{a1:Int}{a2:Int}:Tot (Za7o a0 a1 a2) (fun r=>(r=true↔(a1<=a0/\a0<=a2))):=by
 apply tZ;dsimp only [Zaxb,LT.den];apply tD<;>intro h1
 .exact tR (by grind)
 exact tR (by grind)
def Zati:Zq0->Prop
 | .L0 E0 v3=>(0<=v3)/\True
def Zadx:Zq0->M6
 | .L0 E0 v3=>(1,(6 - v3).toNat,1000000,0,0,0)
theorem Zatj{a0:A6 Int}:Tot (Zarp a0) (fun r=>True):=by
 apply Tot.rn Zati Zadx
 .dsimp only [Zagq,LT.den];exact tl29
 rintro ⟨E0,v3⟩ ⟨cv3,_⟩;dsimp only [Z42,Zacc,LT.den];apply tD<;>intro h1
 .refine tB (tI O Za43) fun x1 h2=>?_;apply tD<;>intro h3
  .exact tR trivial
  refine tB (tI O Za43) fun x2 h4=>?_;apply tD<;>intro h5
  .exact tR trivial
  have q1:=wr (v3+1);exact tl29
 exact tR trivial
def Zatk(a0:Zk)(a1:Int):Zq1->Prop
 | .L0 v1 E0 v5=>(E0=a0)/\(v1=a1)/\(Z8 E0)/\(0<=v5)/\(NoId E0.Objects v1 v5)
def Z1y:Zq1->M6
 | .L0 v1 E0 v5=>(1,((E0.Objects.length:Int) - v5).toNat,1000000,0,0,0)
theorem Zatl{a0:Zk}{a1:Int}(oa0:Z8 a0):Tot (Zarq a0 a1) (fun r=>(r < (a0.Objects.length:Int))/\(r=ixO a0.Objects a1)):=by
 apply Tot.rn (Zatk a0 a1) Z1y
 .dsimp only [Zagr,LT.den];exact tL ⟨rfl,rfl,oa0,cl,tk46⟩ (by unfold Z1y lt6;dsimp only;omega)
 rintro ⟨v1,E0,v5⟩ ⟨al0,al1,O0,cv5,i0⟩;subst al0;subst al1;dsimp only [Z43,Zacd,LT.den];have q1:=O0.2.1.1;apply tD<;>intro h1
 .refine Tot.ix fun x1 h2=>?_;have mh2:=h2.2;apply tE<;>intro h3
  .exact tl90
  have q2:=wr (v5+1);exact tL ⟨rfl,rfl,O0,cl,tk46⟩ (by unfold Z1y lt6;dsimp only;omega)
 exact tl90
theorem Zaza{a0:Zk}{a1:Int}(oa0:Z8 a0):Tot (Zaxf a0 a1) (fun r=>(r=fdV a0.Objects a1)):=by
 apply tZ;dsimp only [Zal7,LT.den];refine tB (Zatl oa0) fun x1 h1=>?_;have eh1_0:=h1.1;have eh1_1:=h1.2;apply tD<;>intro h2
 .exact tl69
 refine Tot.ix fun x2 h3=>?_;have mh3:=h3.2;exact tl69
theorem Z7a{a0:Zk}{a1:Int}(oa0:Z8 a0):Tot (Zal9 a0 a1) (fun r=>True):=by
 apply tZ;dsimp only [Zace,LT.den];exact tB (Zaza oa0) fun x1 h1=>tR trivial
def Zatm:Zq2->Prop
 | .L0 v0 v1 v5 v6=>((SzL 8 (fun _=>True)) v0)/\(0<=v6)
def Z1z:Zq2->M6
 | .L0 v0 v1 v5 v6=>(1,((v0.length:Int) - v6).toNat,1000000,0,0,0)
theorem Zy2{a0:List Int}{a1:Int}(oa0:(SzL 8 (fun _=>True)) a0):Tot (Zarr a0 a1) (fun r=>True):=by
 apply Tot.rn Zatm Z1z
 .dsimp only [Zags,LT.den];exact tL ⟨oa0,cl⟩ (by unfold Z1z lt6;dsimp only;omega)
 rintro ⟨v0,v1,v5,v6⟩ ⟨ov0,cv6⟩;have lb_v0:=ov0.1;dsimp only [Z44,Zacg,LT.den];apply tD<;>intro h1
 .refine Tot.ix fun x1 h2=>?_;apply tE<;>intro h3
  .have q1:=wr (v5+1);have q2:=wr (v6+1);exact tl26
  have q1:=wr (v6+1);exact tl26
 exact tR trivial
def Zazb:Ztj->Prop
 | .L0 v1 v2 v3 E0 v9=>((SzL 8 (fun _=>True)) v1)/\(Z8 E0)/\(0<=v9)
def Z5p:Ztj->M6
 | .L0 v1 v2 v3 E0 v9=>(1,((v1.length:Int) - v9).toNat,1000000,0,0,0)
theorem Zpj{a0:Zk}{a1:List Int}{a2:Int}{a3:Int}(oa0:Z8 a0)(oa1:(SzL 8 (fun _=>True)) a1):Tot (Zaxg a0 a1 a2 a3) (fun r=>True):=by
 apply Tot.rn Zazb Z5p
 .dsimp only [Zama,LT.den];exact tL ⟨oa1,oa0,cl⟩ (by unfold Z5p lt6;dsimp only;omega)
 rintro ⟨v1,v2,v3,E0,v9⟩ ⟨ov1,O0,cv9⟩;have lb_v1:=ov1.1;dsimp only [Z79,Zagt,LT.den];apply tD<;>intro h1
 .refine Tot.ix fun x1 h2=>tB (Z7a O0) fun x2 h3=>?_;apply tO<;>intro h4
  .exact tR trivial
  apply tN<;>intro h5
  .exact tR trivial
  apply tD<;>intro h6
  .apply tN<;>intro h7
   .exact tR trivial
   refine tB (Zy2 ov1) fun x3 h8=>?_;apply tN<;>intro h9
   .exact tR trivial
   exact tl57
  refine tB (Zy2 ov1) fun x3 h7=>?_;apply tN<;>intro h8
  .exact tR trivial
  exact tl57
 exact tR trivial
def Zanu:Znb->Prop
 | .L0 E0 v3=>(Z8 E0)/\(0<=v3)
def Zvp:Znb->M6
 | .L0 E0 v3=>(1,((E0.Players.length:Int) - v3).toNat,1000000,0,0,0)
theorem Zanv{a0:Zk}(oa0:Z8 a0):Tot (Zagu a0) (fun r=>True):=by
 apply Tot.rn Zanu Zvp
 .dsimp only [Z9k,LT.den];have q1:=oa0.1.1;refine tB (Zef) fun x1 h1=>?_;apply tO<;>intro h2
  .exact tR trivial
  exact tL ⟨oa0,cl⟩ (by unfold Zvp lt6;dsimp only;omega)
 rintro ⟨E0,v3⟩ ⟨O0,cv3⟩;dsimp only [Zxz,Z6k,LT.den];have q1:=O0.1.1;apply tD<;>intro h1
 .refine Tot.ix fun x1 h2=>?_;have oh2:Zj4 x1:=O0.1.2 x1 h2.1;refine tB (Zef) fun x2 h3=>?_;apply tO<;>intro h4
  .exact tR trivial
  refine tB (Zef) fun x3 h5=>?_;apply tO<;>intro h6
  .exact tR trivial
  refine tB (Zef) fun x4 h7=>?_;apply tO<;>intro h8
  .exact tR trivial
  refine tB (Zatj) fun x5 h9=>?_;apply tO<;>intro h10
  .exact tR trivial
  refine tB (Zpj O0 oh2.1) fun x6 h11=>?_;apply tO<;>intro h12
  .exact tR trivial
  refine tB (Zpj O0 oh2.2.1) fun x7 h13=>?_;apply tO<;>intro h14
  .exact tR trivial
  refine tB (Zpj O0 oh2.2.2) fun x8 h15=>?_;apply tO<;>intro h16
  .exact tR trivial
  have q2:=wr (v3+1);exact tL ⟨O0,cl⟩ (by unfold Zvp lt6;dsimp only;omega)
 refine tB (Zpj O0 O0.2.2.1) fun x1 h2=>?_;apply tF<;>intro h3
 .exact tB (Zpj O0 O0.2.2.2.1) fun x2 h4=>tR trivial
 exact tR trivial
theorem Zg4{a0:Zk}{a1:Int}(oa0:Z8 a0):Tot (Zamb a0 a1) (fun r=>(r=true↔(0<=a1/\a1 < (a0.Players.length:Int)))):=by
 apply tZ;dsimp only [Zach,LT.den];have q1:=oa0.1.1;have q2:=wr ((a0.Players.length:Int) - 1);exact tB (Zef) fun x1 h1=>tR (by grind)
def Za5k:Z0r->Prop
 | .L0 E0 v3=>(0<=v3)/\True
def Zasm:Z0r->M6
 | .L0 E0 v3=>(1,(3 - v3).toNat,1000000,0,0,0)
theorem Za5l{a0:A3 Int}:Tot (Za7p a0) (fun r=>True):=by
 apply Tot.rn Za5k Zasm
 .dsimp only [Zaxh,LT.den];exact tl27
 rintro ⟨E0,v3⟩ ⟨cv3,_⟩;dsimp only [Zait,Zars,LT.den];apply tD<;>intro h1
 .refine tB (tI O (by have e:(A3.list E0).length=3:=rfl;omega)) fun x1 h2=>?_;apply tD<;>intro h3
  .exact tR trivial
  refine tB (tI O (by have e:(A3.list E0).length=3:=rfl;omega)) fun x2 h4=>?_;apply tD<;>intro h5
  .exact tR trivial
  have q1:=wr (v3+1);exact tl27
 exact tR trivial
theorem Zazc{a0:Zg}:Tot (Zaxi a0) (fun r=>True):=by
 apply tZ;dsimp only [Zamc,LT.den];exact tR trivial
theorem Zatn{a0:Zg}:Tot (Zart a0) (fun r=>True):=by
 apply tZ;dsimp only [Zagv,LT.den];exact tR trivial
theorem Za5m{a0:Zg}{a1:Int}{a2:Int}:Tot (Za7r a0 a1 a2) (fun r=>(r=true->1<=a0.Id)):=by
 apply tZ;dsimp only [Zaxk,LT.den];apply tD<;>intro h1
 .exact tl2
 apply tD<;>intro h2
 .exact tl2
 apply tD<;>intro h3
 .exact tl2
 apply tD<;>intro h4
 .exact tl2
 apply tD<;>intro h5
 .exact tl2
 apply tD<;>intro h6
 .exact tl2
 apply tD<;>intro h7
 .exact tl2
 apply tD<;>intro h8
 .exact tl2
 apply tD<;>intro h9
 .exact tl2
 apply tD<;>intro h10
 .exact tl2
 apply tD<;>intro h11
 .exact tl2
 apply tD<;>intro h12
 .exact tl2
 apply tD<;>intro h13
 .exact tl2
 apply tD<;>intro h14
 .exact tl2
 apply tD<;>intro h15
 .exact tl2
 apply tD<;>intro h16
 .exact tl2
 apply tD<;>intro h17
 .exact tl2
 refine tB (Za5l) fun x1 h18=>?_;apply tO<;>intro h19
 .exact tl2
 apply tD<;>intro h20
 .exact tl2
 apply tD<;>intro h21
 .exact tl2
 apply tD<;>intro h22
 .exact tl2
 apply tD<;>intro h23
 .exact tl2
 apply tE<;>intro h24
 .exact tl14
 refine tB (Zazc) fun x2 h25=>?_;apply tF<;>intro h26
 .refine tB (Zatn) fun x3 h27=>?_;apply tF<;>intro h28
  .apply tO<;>intro h29
   .apply tO<;>intro h30
    .exact tl14
    exact tl2
   exact tl2
  exact tl2
 exact tl2
def Zap7:Zoz->Prop
 | .L0 v1 E0 v5 v6=>(Z8 E0)/\(0<=v6)
def Zy3:Zoz->M6
 | .L0 v1 E0 v5 v6=>(1,((E0.Stack.length:Int) - v6).toNat,1000000,0,0,0)
theorem Zap8{a0:Zk}{a1:Int}(oa0:Z8 a0):Tot (Zame a0 a1) (fun r=>True):=by
 apply Tot.rn Zap7 Zy3
 .dsimp only [Zacj,LT.den];exact tL ⟨oa0,cl⟩ (by unfold Zy3 lt6;dsimp only;omega)
 rintro ⟨v1,E0,v5,v6⟩ ⟨O0,cv6⟩;dsimp only [Z0s,Z9l,LT.den];have q1:=O0.2.2.2.2.1.1;apply tD<;>intro h1
 .refine Tot.ix fun x1 h2=>?_;apply tE<;>intro h3
  .apply tE<;>intro h4
   .have q2:=wr (v5+1);have q3:=wr (v6+1);exact tl33
   exact tl56
  exact tl56
 exact tR trivial
theorem Zpk{a0:List Int}(oa0:(SzL 8 (fun _=>True)) a0):Tot (Zaxm a0) (fun r=>((SzL 8 (fun _=>True)) r)):=by
 apply tZ;have lb_a0:=oa0.1;dsimp only [Zamf,LT.den];refine Tot.ap fun x1 h1=>?_;have lh1:x1.length=([]:List Int).length+a0.length:=by rw [h1,List.length_append]
 try simp only [List.length_cons,List.length_nil,Nat.zero_add] at lh1
 exact tR SzL.tr
theorem Zazd{a0:Zk}{a1:Int}{a2:Int}(oa0:Z8 a0):Tot (Zaiu a0 a1 a2) (fun r=>((SzL 8 (fun _=>True)) r)):=by
 apply tZ;dsimp only [Zamh,LT.den];apply tE<;>intro h1
 .exact tB (Zpk oa0.2.2.1) fun x1 h2=>tR h2
 apply tE<;>intro h2
 .exact tB (Zpk oa0.2.2.2.1) fun x1 h3=>tR h3
 apply tD<;>intro h3
 .exact tR SzL.nil
 apply tD<;>intro h4
 .exact tR SzL.nil
 apply tE<;>intro h5
 .refine Tot.ix fun x1 h6=>?_;have oh6:Zj4 x1:=oa0.1.2 x1 h6.1;exact tB (Zpk oh6.2.1) fun x2 h7=>tR h7
 apply tE<;>intro h6
 .refine Tot.ix fun x1 h7=>?_;have oh7:Zj4 x1:=oa0.1.2 x1 h7.1;exact tB (Zpk oh7.1) fun x2 h8=>tR h8
 apply tE<;>intro h7
 .refine Tot.ix fun x1 h8=>?_;have oh8:Zj4 x1:=oa0.1.2 x1 h8.1;exact tB (Zpk oh8.2.2) fun x2 h9=>tR h9
 exact tR SzL.nil
theorem Z7b{a0:Zk}{a1:Zg}(oa0:Z8 a0):Tot (Zamj a0 a1) (fun r=>True):=by
 apply tZ;dsimp only [Zack,LT.den];apply tE<;>intro h1
 .exact tB (Zap8 oa0) fun x1 h2=>tR trivial
 exact tB (Zazd oa0) fun x1 h2=>tB (Zy2 h2) fun x2 h3=>tR trivial
def Zanw(a0:List Zm)(a1:Zk):Znc->Prop
 | .L0 v0 E0 v5=>(v0=a0)/\(E0=a1)/\((SzL 176 Zag) v0)/\(Z8 E0)/\(0<=v5)/\(Z8o E0.Objects v5)
def Zvq:Znc->M6
 | .L0 v0 E0 v5=>(1,((E0.Objects.length:Int) - v5).toNat,1000000,0,0,0)
theorem Zof{a0:List Zm}{a1:Zk}(oa0:(SzL 176 Zag) a0)(oa1:Z8 a1):Tot (Zagx a0 a1) (fun r=>(r=true->Ids a1.Objects)/\(r=true->Zd4 a1.Objects)):=by
 apply Tot.rn (Zanw a0 a1) Zvq
 .dsimp only [Z9n,LT.den];have q1:=oa1.2.1.1;apply tD<;>intro h1
  .exact Z33
  exact tL ⟨rfl,rfl,oa0,oa1,cl,tk10⟩ (by unfold Zvq lt6;dsimp only;omega)
 rintro ⟨v0,E0,v5⟩ ⟨al0,al1,ov0,O0,cv5,i0⟩;subst al0;subst al1;dsimp only [Zx0,Z6l,LT.den];have q1:=O0.2.1.1;apply tD<;>intro h1
 .refine Tot.ix fun x1 h2=>?_;have mh2:=h2.2;refine tB (Za5m) fun x2 h3=>?_;have eh3_0:=h3;apply tO<;>intro h4
  .exact Z33
  have h4_0:=eh3_0 h4;apply tD<;>intro h5
  .exact Z33
  apply tD<;>intro h6
  .exact Z33
  apply tD<;>intro h7
  .have q2:=wr (v5 - 1);refine Tot.ix fun x3 h8=>?_;have mh8:=h8.2;apply tD<;>intro h9
   .exact Z33
   refine tB (Z7b O0) fun x4 h10=>?_;apply tO<;>intro h11
   .exact Z33
   have q3:=wr (v5+1);exact Zbde
  refine tB (Z7b O0) fun x3 h8=>?_;apply tO<;>intro h9
  .exact Z33
  have q2:=wr (v5+1);exact Zbde
 exact Z33
def Zajp:Zlm->Prop
 | .L0 v0 v1 v5=>((SzL 176 Z3) v0)/\((SzL 176 Z3) v1)/\(0<=v5)/\(v0.length=v1.length)
def Zuc:Zlm->M6
 | .L0 v0 v1 v5=>(1,((v0.length:Int) - v5).toNat,1000000,0,0,0)
theorem Z10{a0:List Zd}{a1:List Zd}(oa0:(SzL 176 Z3) a0)(oa1:(SzL 176 Z3) a1):Tot (Zacm a0 a1) (fun r=>True):=by
 apply Tot.rn Zajp Zuc
 .dsimp only [Z6m,LT.den];apply tN<;>intro h1
  .exact tR trivial
  exact tL ⟨oa0,oa1,cs⟩ (by unfold Zuc lt6;dsimp only;omega)
 rintro ⟨v0,v1,v5⟩ ⟨ov0,ov1,cv5,i0⟩;have lb_v0:=ov0.1;dsimp only [Zu8,Z29,LT.den];apply tD<;>intro h1
 .refine Tot.ix fun x1 h2=>Tot.ix fun x2 h3=>?_;apply tO<;>intro h4
  .exact tR trivial
  have q1:=wr (v5+1);exact tL ⟨ov0,ov1,cs⟩ (by unfold Zuc lt6;dsimp only;omega)
 exact tR trivial
theorem Zaze{a0:Zs}{a1:Zs}(oa0:Zab a0)(oa1:Zab a1):Tot (Zaxo a0 a1) (fun r=>True):=by
 apply tZ;dsimp only [Zamk,LT.den];apply tE<;>intro h1
 .apply tF<;>intro h2
  .apply tF<;>intro h3
   .apply tE<;>intro h4
    .apply tE<;>intro h5
     .apply tF<;>intro h6
      .apply tF<;>intro h7
       .apply tF<;>intro h8
        .exact tB (Z10 oa0.2.2.2.2 oa1.2.2.2.2) fun x1 h9=>tR trivial
        exact tR trivial
       exact tR trivial
      exact tR trivial
     exact tR trivial
    exact tR trivial
   exact tR trivial
  exact tR trivial
 exact tR trivial
def Zajq:Zln->Prop
 | .L0 v0 v1 v5=>((SzL 560 Zab) v0)/\((SzL 560 Zab) v1)/\(0<=v5)/\(v0.length=v1.length)
def Zud:Zln->M6
 | .L0 v0 v1 v5=>(1,((v0.length:Int) - v5).toNat,1000000,0,0,0)
theorem Zajr{a0:List Zs}{a1:List Zs}(oa0:(SzL 560 Zab) a0)(oa1:(SzL 560 Zab) a1):Tot (Zacn a0 a1) (fun r=>True):=by
 apply Tot.rn Zajq Zud
 .dsimp only [Z6n,LT.den];apply tN<;>intro h1
  .exact tR trivial
  exact tL ⟨oa0,oa1,cs⟩ (by unfold Zud lt6;dsimp only;omega)
 rintro ⟨v0,v1,v5⟩ ⟨ov0,ov1,cv5,i0⟩;have lb_v0:=ov0.1;dsimp only [Zu9,Z3b,LT.den];apply tD<;>intro h1
 .refine Tot.ix fun x1 h2=>?_;have oh2:Zab x1:=ov0.2 x1 h2.1;refine Tot.ix fun x2 h3=>?_;have oh3:Zab x2:=ov1.2 x2 h3.1;refine tB (Zaze oh2 oh3) fun x3 h4=>?_;apply tO<;>intro h5
  .exact tR trivial
  have q1:=wr (v5+1);exact tL ⟨ov0,ov1,cs⟩ (by unfold Zud lt6;dsimp only;omega)
 exact tR trivial
def Zazf:Ztk->Prop
 | .L0 E0 E1 v5=>(Z5 E0)/\(Z5 E1)/\(0<=v5)/\(E0.Specs.length=E1.Specs.length)
def Z5q:Ztk->M6
 | .L0 E0 E1 v5=>(1,((E0.Specs.length:Int) - v5).toNat,1000000,0,0,0)
theorem Zazg{a0:Zh}{a1:Zh}(oa0:Z5 a0)(oa1:Z5 a1):Tot (Zaxp a0 a1) (fun r=>True):=by
 apply Tot.rn Zazf Z5q
 .dsimp only [Zamn,LT.den];have q1:=oa0.2.2.2.1.1;apply tN<;>intro h1
  .exact tR trivial
  exact tL ⟨oa0,oa1,cs⟩ (by unfold Z5q lt6;dsimp only;omega)
 rintro ⟨E0,E1,v5⟩ ⟨O0,O1,cv5,i0⟩;dsimp only [Z8a,Zagy,LT.den];have q1:=O0.2.2.2.1.1;apply tD<;>intro h1
 .refine Tot.ix fun x1 h2=>Tot.ix fun x2 h3=>?_;apply tO<;>intro h4
  .exact tR trivial
  have q2:=wr (v5+1);exact tL ⟨O0,O1,cs⟩ (by unfold Z5q lt6;dsimp only;omega)
 apply tE<;>intro h2
 .apply tF<;>intro h3
  .refine tB (Z10 O0.2.1 O1.2.1) fun x1 h4=>?_;apply tF<;>intro h5
   .apply tF<;>intro h6
    .apply tF<;>intro h7
     .apply tF<;>intro h8
      .apply tF<;>intro h9
       .refine tB (Zajr O0.2.2.2.2.1 O1.2.2.2.2.1) fun x2 h10=>?_;apply tF<;>intro h11
        .exact tR trivial
        exact tR trivial
       exact tR trivial
      exact tR trivial
     exact tR trivial
    exact tR trivial
   exact tR trivial
  exact tR trivial
 exact tR trivial
theorem Zazh{a0:Zk}{a1:Zmw}(oa0:Z8 a0)(oa1:Zv7 a1):Tot (Zaxq a0 a1) (fun r=>True):=by
 apply tZ;dsimp only [Zamo,LT.den];have q1:=wr (a0.NextId - 1);refine tB (Zef) fun x1 h1=>?_;apply tO<;>intro h2
 .exact tR trivial
 refine tB (Zef) fun x2 h3=>?_;apply tO<;>intro h4
 .exact tR trivial
 apply tD<;>intro h5
 .exact tR trivial
 refine tB (Zg4 oa0) fun x3 h6=>?_;apply tO<;>intro h7
 .exact tR trivial
 refine tB (Z7a oa0) fun x4 h8=>?_;apply tE<;>intro h9
 .refine tB (Zazg oa1.1 ⟨SzS.nil,SzL.nil,SzS.nil,SzL.nil,SzL.nil,SzS.nil⟩) fun x5 h10=>?_;apply tE<;>intro h11
  .apply tF<;>intro h12
   .apply tE<;>intro h13
    .apply tF<;>intro h14
     .exact tR trivial
     exact tB (Zzw oa1.1) fun x6 h15=>tR trivial
    exact tR trivial
   exact tR trivial
  exact tR trivial
 apply tE<;>intro h10
 .apply tO<;>intro h11
  .exact tB (Zzw oa1.1) fun x5 h12=>tR trivial
  exact tR trivial
 exact tR trivial
def Za5n:Z0t->Prop
 | .L0 v0 v3=>((SzL 8 (fun _=>True)) v0)/\(0<=v3)/\(1<=v3)
def Zady:Z0t->M6
 | .L0 v0 v3=>(1,((v0.length:Int) - v3).toNat,1000000,0,0,0)
theorem Za5o{a0:List Int}(oa0:(SzL 8 (fun _=>True)) a0):Tot (Za7t a0) (fun r=>True):=by
 apply Tot.rn Za5n Zady
 .dsimp only [Zaxr,LT.den];exact tL ⟨oa0,cs⟩ (by unfold Zady lt6;dsimp only;omega)
 rintro ⟨v0,v3⟩ ⟨ov0,cv3,i0⟩;have lb_v0:=ov0.1;dsimp only [Zaiv,Zaru,LT.den];apply tD<;>intro h1
 .have q1:=wr (v3 - 1);refine Tot.ix fun x1 h2=>Tot.ix fun x2 h3=>?_;apply tD<;>intro h4
  .exact tR trivial
  have q2:=wr (v3+1);exact tL ⟨ov0,cs⟩ (by unfold Zady lt6;dsimp only;omega)
 exact tR trivial
def Zato(a0:Zk):Zi3->Prop
 | .L0 E0 v3=>(E0=a0)/\(Z8 E0)/\(0<=v3)/\(E0.Conts.length<=64)
 | .L1 E0 v3 v4=>(E0=a0)/\(Z8 E0)/\(0<=v4)/\(0<=v3)/\(v3 < (E0.Stack.length:Int))/\(E0.Conts.length<=64)
 | .L2 E0 v5=>(E0=a0)/\(Z8 E0)/\(0<=v5)/\(E0.Conts.length<=64)
 | .L3 E0 v7=>(E0=a0)/\(Z8 E0)/\(0<=v7)/\(E0.Conts.length<=64)
def Z11:Zi3->M6
 | .L0 E0 v3=>(5,((E0.Stack.length:Int) - v3).toNat,1000000,0,0,0)
 | .L1 E0 v3 v4=>(5,((E0.Stack.length:Int) - v3).toNat,1,(v3 - v4).toNat,1000000,0)
 | .L2 E0 v5=>(3,((E0.Waiting.length:Int) - v5).toNat,1000000,0,0,0)
 | .L3 E0 v7=>(1,((E0.Conts.length:Int) - v7).toNat,1000000,0,0,0)
theorem Zrp{a0:Zk}(oa0:Z8 a0):Tot (Zarv a0) (fun r=>(r=true->a0.Conts.length<=64)):=by
 apply Tot.rn (Zato a0) Z11
 .dsimp only [Zagz,LT.den];have q1:=oa0.2.2.2.2.1.1;apply tD<;>intro h1
  .exact Ziv
  apply tD<;>intro h2
  .exact Ziv
  have q2:=oa0.2.2.2.2.2.2.1.1;apply tD<;>intro h3
  .exact Ziv
  exact tL ⟨rfl,oa0,cs⟩ (by unfold Z11 lt6;dsimp only;omega)
 intro s hs;cases s with
 | L0 E0 v3=>
  obtain⟨al0,O0,cv3,i0⟩:=hs;subst al0;dsimp only [Zn0,Zaco,LT.den];have q1:=O0.2.2.2.2.1.1;apply tD<;>intro h1
  .refine Tot.ix fun x1 h2=>?_;have oh2:Zv7 x1:=O0.2.2.2.2.1.2 x1 h2.1;refine tB (Zazh O0 oh2) fun x2 h3=>?_;apply tO<;>intro h4
   .exact Ziv
   exact tl36
  exact tl36
 | L1 E0 v3 v4=>
  obtain⟨al0,O0,cv4,cv3,bd4,i0⟩:=hs;subst al0;dsimp only [Zn0,Zacp,LT.den];have lx_0:E0.Stack.length*824<=140737488351232:=O0.2.2.2.2.1.1;apply tD<;>intro h1
  .refine Tot.ix fun x1 h2=>Tot.ix fun x2 h3=>?_;apply tE<;>intro h4
   .exact Ziv
   have q1:=wr (v4+1);exact tl36
  have q1:=wr (v3+1);exact tl36
 | L2 E0 v5=>
  obtain⟨al0,O0,cv5,i0⟩:=hs;subst al0;dsimp only [Zn0,Zacq,LT.den];have q1:=O0.2.2.2.2.2.1.1;apply tD<;>intro h1
  .refine Tot.ix fun x1 h2=>?_;have oh2:Zvn x1:=O0.2.2.2.2.2.1.2 x1 h2.1;refine tB (Zg4 O0) fun x2 h3=>?_;apply tO<;>intro h4
   .exact Ziv
   apply tN<;>intro h5
   .exact Ziv
   refine tB (Zzw oh2) fun x3 h6=>?_;apply tO<;>intro h7
   .exact Ziv
   have q2:=wr (v5+1);exact tl36
  exact tl36
 | L3 E0 v7=>
  obtain⟨al0,O0,cv7,i0⟩:=hs;subst al0;dsimp only [Zn0,Zacr,LT.den];have q1:=O0.2.2.2.2.2.2.1.1;apply tD<;>intro h1
  .refine Tot.ix fun x1 h2=>?_;have oh2:Zfp x1:=O0.2.2.2.2.2.2.1.2 x1 h2.1;refine tB (Zg4 O0) fun x2 h3=>?_;apply tO<;>intro h4
   .exact Ziv
   apply tD<;>intro h5
   .exact Ziv
   refine tB (Zef) fun x3 h6=>?_;apply tO<;>intro h7
   .exact Ziv
   refine tB (Za5o oh2.1) fun x4 h8=>?_;apply tO<;>intro h9
   .exact Ziv
   refine tB (Zr9 oh2.2) fun x5 h10=>?_;apply tF<;>intro h11
   .exact Ziv
   have q2:=wr (v7+1);exact tl36
  exact Ziv
abbrev Za03(a0:List Zm)(a1:Zk)(r:Bool):Prop:=(r=true->a1.Objects.length<=2048/\a1.Conts.length<=64)/\(r=true->Zd4 a1.Objects)
def Za5p(a0:List Zm)(a1:Zk):Z0u->Prop
 | .L0 v0 E0 v5=>(v0=a0)/\(E0=a1)/\((SzL 176 Zag) v0)/\(Z8 E0)/\(0<=v5)/\(E0.Objects.length<=2048)
def Zadz:Z0u->M6
 | .L0 v0 E0 v5=>(1,((E0.Extra.length:Int) - v5).toNat,1000000,0,0,0)
theorem Za5q{a0:List Zm}{a1:Zk}(oa0:(SzL 176 Zag) a0)(oa1:Z8 a1):Tot (Za7v a0 a1) (Za03 a0 a1):=by
 apply Tot.rn (Za5p a0 a1) Zadz
 .dsimp only [Zaxs,LT.den];refine tB (Zef) fun x1 h1=>?_;apply tO<;>intro h2
  .exact Zm4
  refine tB (Zef) fun x2 h3=>?_;apply tO<;>intro h4
  .exact Zm4
  refine tB (Zef) fun x3 h5=>?_;apply tO<;>intro h6
  .exact Zm4
  refine tB (Zef) fun x4 h7=>?_;apply tO<;>intro h8
  .exact Zm4
  have q1:=oa1.2.1.1;apply tD<;>intro h9
  .exact Zm4
  refine tB (Zanv oa1) fun x5 h10=>?_;apply tO<;>intro h11
  .exact Zm4
  refine tB (Zg4 oa1) fun x6 h12=>?_;apply tO<;>intro h13
  .exact Zm4
  refine tB (Zg4 oa1) fun x7 h14=>?_;have eh14_0:=h14;apply tO<;>intro h15
  .exact Zm4
  refine tB (Zef) fun x8 h16=>?_;apply tO<;>intro h17
  .exact Zm4
  apply tD<;>intro h18
  .exact Zm4
  refine tB (Zef) fun x9 h19=>?_;apply tO<;>intro h20
  .exact Zm4
  exact tL ⟨rfl,rfl,oa0,oa1,cs⟩ (by unfold Zadz lt6;dsimp only;omega)
 rintro ⟨v0,E0,v5⟩ ⟨al0,al1,ov0,O0,cv5,i0⟩;subst al0;subst al1;dsimp only [Zaiw,Zarw,LT.den];have q1:=O0.2.2.2.2.2.2.2.1;apply tD<;>intro h1
 .refine Tot.ix fun x1 h2=>tB (Zg4 O0) fun x2 h3=>?_;apply tO<;>intro h4
  .exact Zm4
  have q2:=wr (v5+1);exact tL ⟨rfl,rfl,ov0,O0,cs⟩ (by unfold Zadz lt6;dsimp only;omega)
 apply tE<;>intro h2
 .refine tB (Zg4 O0) fun x1 h3=>?_;apply tO<;>intro h4
  .exact Zm4
  apply tN<;>intro h5
  .apply tN<;>intro h6
   .exact Zm4
   refine tB (Zof ov0 O0) fun x2 h7=>?_;have eh7_0:=h7.1;have eh7_1:=h7.2;apply tF<;>intro h8
   .have h8_1:=eh7_1 h8;exact tB (Zrp O0) fun x3 h9=>tR ⟨tk75,tk81⟩
   exact Zm4
  refine tB (Zof ov0 O0) fun x2 h6=>?_;have eh6_0:=h6.1;have eh6_1:=h6.2;apply tF<;>intro h7
  .have h7_1:=eh6_1 h7;exact tB (Zrp O0) fun x3 h8=>tR ⟨tk75,tk81⟩
  exact Zm4
 apply tN<;>intro h3
 .apply tN<;>intro h4
  .exact Zm4
  refine tB (Zof ov0 O0) fun x1 h5=>?_;have eh5_0:=h5.1;have eh5_1:=h5.2;apply tF<;>intro h6
  .have h6_1:=eh5_1 h6;exact tB (Zrp O0) fun x2 h7=>tR ⟨tk75,tk81⟩
  exact Zm4
 refine tB (Zof ov0 O0) fun x1 h4=>?_;have eh4_0:=h4.1;have eh4_1:=h4.2;apply tF<;>intro h5
 .have h5_1:=eh4_1 h5;exact tB (Zrp O0) fun x2 h6=>tR ⟨tk75,tk81⟩
 exact Zm4
theorem Zatp{a0:List Zm}{a1:Zk}(oa0:(SzL 176 Zag) a0)(oa1:Z8 a1):Tot (Zarx a0 a1) (fun r=>(r=true->a1.Objects.length<=2048/\a1.Conts.length<=64/\∀ c,c∈a0->c.Abilities.length<=8)/\(r=true->Zd4 a1.Objects)/\(r=true->∀ c,c∈a0->Zzv c)):=by
 apply tZ;dsimp only [Zag0,LT.den];refine tB (Zath oa0) fun x1 h1=>?_;apply tE<;>intro h2
 .refine tB (Za5q oa0 oa1) fun x2 h3=>?_;have eh3_1:=h3.2;exact Zbc4
 exact Zbc4
def Za04(a0:Zt):Zo1->Prop
 | .L0 E0 v6 v7=>(E0=a0)/\(0<=v7)/\(v6=E0.Color)/\(∀ (k:Nat) x,(k:Int) < v7->(A5.list E0.Color)[k]?=some x->0<=x/\x<=9)
def Zanx:Zo1->M6
 | .L0 E0 v6 v7=>(1,(5 - v7).toNat,1000000,0,0,0)
theorem Za05{a0:Zt}:Tot (Zael a0) (fun r=>(r=Z1n a0)):=by
 apply Tot.rn (Za04 a0) Zanx
 .dsimp only [Zacs,LT.den];exact Zbc3
 rintro ⟨E0,v6,v7⟩ ⟨al0,cv7,i0,i1⟩;subst al0;dsimp only [Zsm,Zpx,LT.den];apply tD<;>intro h1
 .refine tB (tI O (by have e:(A5.list v6).length=5:=rfl;omega)) fun x1 h2=>?_;have mh2:=h2.2;rw [i0] at mh2;apply tD<;>intro h3
  .exact tl68
  apply tD<;>intro h4
  .exact tl68
  have q1:=wr (v7+1);exact Zbc3
 apply tD<;>intro h2
 .apply tD<;>intro h3
  .apply tD<;>intro h4
   .exact tl68
   exact tl68
  exact tl68
 exact tl68
def Zany(a0:Zt):Znd->Prop
 | .L0 v3 v16 v17=>(0<=v17)/\(v17<=5)/\(v16=a0.Color)/\(Z1n a0=true)/\(v3=coP v16 v17)
def Z7c:Znd->M6
 | .L0 v3 v16 v17=>(1,(5 - v17).toNat,1000000,0,0,0)
theorem Zanz{a0:Zt}:Tot (Zag3 a0) (fun r=>(r=coV a0)):=by
 apply Tot.rn (Zany a0) Z7c
 .dsimp only [Z9o,LT.den];refine tB (Za05) fun x1 h1=>?_;apply tO<;>intro h2
  .exact tl99
  apply tF<;>intro h3
  .exact tl99
  exact Zbdd
 rintro ⟨v3,v16,v17⟩ ⟨cv17,i0,i1,i2,i3⟩;dsimp only [Zx1,Z6o,LT.den];apply tD<;>intro h1
 .refine tB (tI O (by have e:(A5.list v16).length=5:=rfl;omega)) fun x1 h2=>?_;have mh2:=h2.2;apply tD<;>intro h3
  .refine tB (tK Zanh) fun x2 h4=>?_;exact Zbdf
  exact Zbdf
 exact tl99
theorem Zfq{a0:List (List UInt8)}(oa0:(SzL 16 SzT) a0):Tot (Zej a0) (fun r=>((SzL 16 SzT) r)/\(r=a0)):=by
 unfold Zej;split
 .apply tZ;have lb_a0:=oa0.1;dsimp only [Zf7,LT.den];refine Tot.ap fun x1 h1=>?_;have lh1:x1.length=([]:List (List UInt8)).length+a0.length:=by rw [h1,List.length_append]
  try simp only [List.length_cons,List.length_nil,Nat.zero_add] at lh1
  exact tR ⟨SzL.app (k:=16) h1 lo (fun _ h=>by cases h) oa0.2,tk84⟩
 apply tZ;dsimp only [Zdv,LT.den];exact tl60
theorem Zbj{a0:List Zd}(oa0:(SzL 176 Z3) a0):Tot (Zct a0) (fun r=>((SzL 176 Z3) r)/\(r=a0)):=by
 unfold Zct;split
 .apply tZ;have lb_a0:=oa0.1;dsimp only [Zfn,LT.den];refine Tot.ap fun x1 h1=>?_;have lh1:x1.length=([]:List Zd).length+a0.length:=by rw [h1,List.length_append]
  try simp only [List.length_cons,List.length_nil,Nat.zero_add] at lh1
  exact tR ⟨SzL.app (k:=176) h1 lo (fun _ h=>by cases h) oa0.2,tk84⟩
 apply tZ;dsimp only [Zdi,LT.den];exact tl60
theorem Zha{a0:List Za9}(oa0:(SzL 144 Zge) a0):Tot (Zcj a0) (fun r=>((SzL 144 Zge) r)/\(r=a0)):=by
 unfold Zcj;split
 .apply tZ;have lb_a0:=oa0.1;dsimp only [Zes,LT.den];refine Tot.ap fun x1 h1=>?_;have lh1:x1.length=([]:List Za9).length+a0.length:=by rw [h1,List.length_append]
  try simp only [List.length_cons,List.length_nil,Nat.zero_add] at lh1
  exact tR ⟨SzL.app (k:=144) h1 lo (fun _ h=>by cases h) oa0.2,tk84⟩
 apply tZ;dsimp only [Zc4,LT.den];exact tl60
theorem Zgc{a0:List Zs}(oa0:(SzL 560 Zab) a0):Tot (Zcv a0) (fun r=>((SzL 560 Zab) r)/\(r=a0)):=by
 unfold Zcv;split
 .apply tZ;have lb_a0:=oa0.1;dsimp only [Zd0,LT.den];refine Tot.ap fun x1 h1=>?_;have lh1:x1.length=([]:List Zs).length+a0.length:=by rw [h1,List.length_append]
  try simp only [List.length_cons,List.length_nil,Nat.zero_add] at lh1
  exact tR ⟨SzL.app (k:=560) h1 lo (fun _ h=>by cases h) oa0.2,tk84⟩
 apply tZ;dsimp only [Zcg,LT.den];exact tl60
def Z83(a0:Zh):Zhp->Prop
 | .L0 E0 E1 v18 v19=>(Z5 E0)/\(Z5 E1)/\(0<=v19)/\(v18=(a0.Effects.length:Int))/\(v18=(E0.Effects.length:Int))/\(E0=a0)
def Zn4:Zhp->M6
 | .L0 E0 E1 v18 v19=>(1,(v18 - v19).toNat,1000000,0,0,0)
theorem Z84{a0:Zh}(oa0:Z5 a0):Tot (Zr2 a0) (fun r=>(Z5 r)/\(r=a0)):=by
 apply Tot.rn (Z83 a0) Zn4
 .dsimp only [Zw6,LT.den];refine tB (Zbj oa0.2.1) fun x1 h1=>?_;have eh1_1:=h1.2;refine tB (Zha oa0.2.2.2.1) fun x2 h2=>?_;have eh2_1:=h2.2;refine tB (Zgc oa0.2.2.2.2.1) fun x3 h3=>?_;have eh3_1:=h3.2;exact tL ⟨⟨oa0.1,h1.1,oa0.2.2.1,h2.1,h3.1,oa0.2.2.2.2.2⟩,⟨SzS.nil,SzL.nil,SzS.nil,SzL.nil,SzL.nil,SzS.nil⟩,cl,Zf5,Zf5,tk51⟩ (by unfold Zn4 lt6;dsimp only;omega)
 rintro ⟨E0,E1,v18,v19⟩ ⟨O0,O1,cv19,i0,i1,i2⟩;dsimp only [Zo4,Zur,LT.den];have lq:=O0.2.2.2.2.1.1;apply tD<;>intro h1
 .refine Tot.ix fun x1 h2=>?_;have oh2:Zab x1:=O0.2.2.2.2.1.2 x1 h2.1;have mh2:=h2.2;refine tB (Zbj oh2.2.2.2.2) fun x2 h3=>?_;have eh3_1:=h3.2;refine tB (Tot.set O O) fun x3 h4=>?_;have vh4:=h4.2.2;have q1:=wr (v19+1);exact tL ⟨⟨O0.1,O0.2.1,O0.2.2.1,O0.2.2.2.1,⟨lo,fun e he=>(h4.2.1 e he).elim (fun w=>by rw [w];exact⟨oh2.1,oh2.2.1,oh2.2.2.1,oh2.2.2.2.1,h3.1⟩) (O0.2.2.2.2.1.2 e)⟩,O0.2.2.2.2.2⟩,O1,cl,Zf5,Zf5,tk51⟩ (by unfold Zn4 lt6;dsimp only;omega)
 exact tR ⟨O0,V⟩
def Zajs(a0:Zm):Zlo->Prop
 | .L0 E0 E1 v32 v33 v34=>(Zz E0)/\(Zz E1)/\((SzL 640 Z5) v32)/\(0<=v34)/\(v33=(v32.length:Int))/\(E1.Abilities.length<=v34.toNat)/\(v34<=v33)/\(v32=a0.Abilities)/\(E1={ prV a0 with Abilities:=a0.Abilities.take v34.toNat })
def Zue:Zlo->M6
 | .L0 E0 E1 v32 v33 v34=>(1,(v33 - v34).toNat,1000000,0,0,0)
theorem Zajt{a0:Zm}(oa0:Zag a0):Tot (Zact a0) (fun r=>(Zz r)/\(r=prV a0)):=by
 apply Tot.rn (Zajs a0) Zue
 .dsimp only [Z6p,LT.den];refine tB (Zanz) fun x1 h1=>tB (Zfq oa0.2.1) fun x2 h2=>?_;have eh2_1:=h2.2;have q1:=oa0.2.2.1;exact tL ⟨⟨SzS.nil,SzL.nil,SzL.nil⟩,⟨oa0.1,h2.1,SzL.nil⟩,oa0.2.2,cl,cl,cl,cl,Zai,tk17⟩ (by unfold Zue lt6;dsimp only;omega)
 rintro ⟨E0,E1,v32,v33,v34⟩ ⟨O0,O1,ov32,cv34,i0,i1,i2,i3,i4⟩;have lb_v32:=ov32.1;dsimp only [Zva,Z3c,LT.den];apply tD<;>intro h1
 .refine Tot.ix fun x1 h2=>?_;have oh2:Z5 x1:=ov32.2 x1 h2.1;have mh2:=h2.2;refine tB (Z84 oh2) fun x2 h3=>?_;have eh3_1:=h3.2;have q1:=O1.2.2.1;refine Tot.ap fun x3 h4=>?_;have lh4:=Zb7 h4;have q2:=wr (v34+1);exact tL ⟨O0,⟨O1.1,O1.2.1,SzL.app (k:=640) h4 lo O1.2.2.2 (me1 h3.1)⟩,ov32,cl,cl,cl,cl,Zai,tk17⟩ (by unfold Zue lt6;dsimp only;omega)
 exact tR ⟨O1,(by exact Zbg2 V Ziw)⟩
def Zre(a0:List Zm)(a1:Zg):Zsn->Prop
 | .L0 v0 E0 E1 v5=>(v0=a0)/\(E0=a1)/\((SzL 176 Zag) v0)/\(Zz E1)/\(v5=if E0.Copy < 0 then E0.Card else E0.Copy)
 | .L1 E0 E1 E2=>(E0=a1)/\(Zz E1)/\(Zz E2)/\(E2=Z8p a0 (if E0.Copy < 0 then E0.Card else E0.Copy))
def Z85:Zsn->M6
 | .L0 v0 E0 E1 v5=>(0,0,0,0,0,0)
 | .L1 E0 E1 E2=>(0,0,0,0,0,0)
theorem Zvr{a0:List Zm}{a1:Zg}{E0:Zg}{E1:Zb}{E2:Zb}(h:(Zre a0 a1) (.L1 E0 E1 E2)):Tot (Zpy E0 E1 E2).den (Nx (Zre a0 a1) Z85 (0,0,0,0,0,0) (fun r=>(Zz r)/\(r=baV a0 a1))):=by
 obtain⟨al0,O1,O2,i0⟩:=h;subst al0;dsimp only [Zpy,LT.den];apply tE<;>intro h1
 .exact tl89
 apply tE<;>intro h2
 .exact tl89
 exact tl89
theorem Z7d{a0:List Zm}{a1:Zg}{v0:List Zm}{E0:Zg}{E1:Zb}{v5:Int}(h:(Zre a0 a1) (.L0 v0 E0 E1 v5)):Tot (Ztm v0 E0 E1 v5).den (Nx (Zre a0 a1) Z85 (0,0,0,0,0,0) (fun r=>(Zz r)/\(r=baV a0 a1))):=by
 obtain⟨al0,al1,ov0,O1,i0⟩:=h;subst al0;subst al1;dsimp only [Ztm,LT.den];apply tD<;>intro h1
 .apply tD<;>intro h2
  .refine Tot.ix fun x1 h3=>?_;have oh3:Zag x1:=ov0.2 x1 h3.1;have mh3:=h3.2;refine tB (Zajt oh3) fun x2 h4=>?_;have eh4_1:=h4.2;exact tJ (Zvr ⟨rfl,O1,h4.1,tk27⟩)
  exact Zbc7
 exact Zbc7
theorem Zah1{a0:List Zm}{a1:Zg}(oa0:(SzL 176 Zag) a0):Tot (Zao3 a0 a1) (fun r=>(Zz r)/\(r=baV a0 a1)):=by
 apply Tot.rn (Zre a0 a1) Z85
 .dsimp only [Zarz,LT.den];apply tD<;>intro h1
  .exact tl47
  exact tl47
 intro s hs;cases s with
 | L0 _ _ _ _=>exact Z7d hs
 | L1 _ _ _=>exact Zvr hs
theorem Zxl{a0:List Int}(oa0:(SzL 8 (fun _=>True)) a0):Tot (Zez a0) (fun r=>((SzL 8 (fun _=>True)) r)/\(r=a0)):=by
 unfold Zez;split
 .apply tZ;have lb_a0:=oa0.1;dsimp only [Zio,LT.den];refine Tot.ap fun x1 h1=>?_;have lh1:x1.length=([]:List Int).length+a0.length:=by rw [h1,List.length_append]
  exact tl94
 apply tZ;dsimp only [Zfs,LT.den];exact tl60
end Go.PW
