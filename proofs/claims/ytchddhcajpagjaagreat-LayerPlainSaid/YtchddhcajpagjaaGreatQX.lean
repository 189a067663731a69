import Derived.Test.YtchddhcajpagjaaGreatQE
import Derived.Test.YtchddhcajpagjaaGreatPwYc
import Derived.Test.YtchddhcajpagjaaGreatQDc
import Derived.Test.YtchddhcajpagjaaGreatQJ
set_option linter.all false
set_option maxRecDepth 100000
namespace Go.PW
theorem tl0{p:Prop}(h:p:=by exact tR (by unfold nB;grind)):p:=h
theorem tl1{p:Prop}(h:p:=by exact tR (by unfold inB;grind)):p:=h
theorem tl2{p:Prop}(h:p:=by exact tR (by unfold Zr9;grind)):p:=h
theorem tl3{p:Prop}(h:p:=by exact tR (by intro hr;cases hr)):p:=h
theorem tl4{p:Prop}(h:p:=by exact tJ (Z4e trivial)):p:=h
theorem tl5{p:Prop}(h:p:=by exact tR Zjm):p:=h
theorem tl6{p:Prop}(h:p:=by exact tJ (Zaaj ⟨ov0,cs⟩)):p:=h
theorem tl7{p:Prop}(h:p:=by exact tR (by unfold clV Z7t Z0a;grind)):p:=h
theorem tl8{p:Prop}(h:p:=by exact tJ (Zaas ⟨oa0,trivial⟩)):p:=h
theorem tl9{p:Prop}(h:p:=by exact tJ (Zaaq ⟨oa0,trivial⟩)):p:=h
theorem tl10{p:Prop}(h:p:=by exact tR (by first | rfl | (unfold stV;grind))):p:=h
theorem tl11{p:Prop}(h:p:=by exact tJ (Zaar ⟨O0,trivial⟩)):p:=h
theorem tl12{p:Prop}(h:p:=by exact tJ (Zaao ⟨O0,trivial⟩)):p:=h
theorem tl13{p:Prop}(h:p:=by exact tJ (Zaap ⟨O0,trivial⟩)):p:=h
theorem tl14{p:Prop}(h:p:=by exact tR ⟨h1.1,Z82⟩):p:=h
theorem tl15{p:Prop}(h:p:=by exact tR (by intro hr;first | omega | (cases hr;done))):p:=h
theorem tl16{p:Prop}(h:p:=by exact tJ (Zrh ⟨rfl,rfl,oa0,(by grind)⟩)):p:=h
theorem tl17{p:Prop}(h:p:=by exact tL ⟨cl,cl⟩ (by unfold Zanr lt6;dsimp only;omega)):p:=h
theorem tl18{p:Prop}(h:p:=by exact tL ⟨ov0,cl⟩ (by unfold Zxp lt6;dsimp only;omega)):p:=h
theorem tl19{p:Prop}(h:p:=by exact tL ⟨cl,cl⟩ (by unfold Zanu lt6;dsimp only;omega)):p:=h
theorem tl20{p:Prop} (h:p:=by
 apply tD<;>intro h4
 .exact tR trivial
 exact tR trivial):p:=h
theorem tl21{p:Prop}(h:p:=by exact tL ⟨cl,cs⟩ (by unfold Zah8 lt6;dsimp only;omega)):p:=h
theorem tl22{p:Prop} (h:p:=by
 apply tE<;>intro h1
 .exact tR trivial
 exact tR trivial):p:=h
theorem tl23{p:Prop} (h:p:=by
 apply tD<;>intro h1
 .exact tR trivial
 exact tR trivial):p:=h
theorem tl24{p:Prop}(h:p:=by exact tL ⟨cl,cs⟩ (by unfold Z5s lt6;dsimp only;omega)):p:=h
theorem tl25{p:Prop} (h:p:=by
 apply tF<;>intro h2
 .exact tR trivial
 exact tR trivial):p:=h
theorem tl26{p:Prop}(h:p:=by exact tL ⟨cl,cs⟩ (by unfold Zah7 lt6;dsimp only;omega)):p:=h
theorem tl27{p:Prop}(h:p:=by exact tL ⟨ov0,cl⟩ (by unfold Z12 lt6;dsimp only;omega)):p:=h
theorem tl28{p:Prop}(h:p:=by exact tL ⟨cl,trivial⟩ (by unfold Zast lt6;dsimp only;omega)):p:=h
theorem tl29{p:Prop}(h:p:=by exact tL ⟨cl,cl⟩ (by unfold Z4b lt6;dsimp only;omega)):p:=h
theorem tl30{p:Prop}(h:p:=by exact tL ⟨cl,trivial⟩ (by unfold Zad4 lt6;dsimp only;omega)):p:=h
theorem tl31{p:Prop}(h:p:=by exact tL ⟨cl,trivial⟩ (by unfold Zadx lt6;dsimp only;omega)):p:=h
theorem tl33{p:Prop}(h:p:=by exact tL ⟨ov0,ov2,cs⟩ (by unfold Zyt lt6;dsimp only;omega)):p:=h
theorem tl34{p:Prop}(h:p:=by exact tL ⟨O0,cl⟩ (by unfold Zy8 lt6;dsimp only;omega)):p:=h
theorem Zsb{p:Prop}(h:p:=by exact tR (by obtain⟨k1,k2,k3,k4⟩:=a0;unfold amV;grind [Zbk5,usV])):p:=h
theorem Ziy{p:Prop}(h:p:=by exact tR tk91):p:=h
theorem tl37{p:Prop}(h:p:=by exact tL ⟨rfl,O0,cs⟩ (by unfold Z14 lt6;dsimp only;omega)):p:=h
theorem Z8y{p:Prop}(h:p:=by exact tR ⟨⟨h1.1.1,h1.1.2.1,h1.1.2.2⟩,Z82⟩):p:=h
theorem tl39{p:Prop}(h:p:=by exact tL ⟨ov0,O0,cs⟩ Za5l):p:=h
theorem Z8z{p:Prop}(h:p:=by exact tL ⟨O0,ov6,ov7,cs⟩ Zano):p:=h
theorem tl41{p:Prop}(h:p:=by simp only [List.length_append,List.length_cons,List.length_take,List.length_drop];omega):p:=h
theorem tl42{p:Prop}(h:p:=by have q1:=wr (v3+1);exact tl18):p:=h
theorem tl43{p:Prop}(h:p:=by have q2:=wr (v4+1);exact tl21):p:=h
theorem tl44{p:Prop}(h:p:=by exact tJ (Z16 ⟨rfl,Zai,(by grind),(by grind)⟩)):p:=h
theorem tl45{p:Prop}(h:p:=by exact tJ (Z17 ⟨rfl,Zai,(by grind),(by grind)⟩)):p:=h
theorem tl46{p:Prop}(h:p:=by exact tJ (Z7j ⟨rfl,rfl,oa0,⟨SzS.nil,SzL.nil,SzL.nil⟩,(by grind)⟩)):p:=h
theorem tl47{p:Prop}(h:p:=by exact tJ (Zaat ⟨rfl,oa0,cl,(by first | assumption | (unfold Zlg;grind))⟩)):p:=h
theorem tl48{p:Prop}(h:p:=by exact tJ (Z18 ⟨rfl,Zai,(by grind),(by grind)⟩)):p:=h
theorem tl49{p:Prop}(h:p:=by have q2:=wr (v4+1);exact tl26):p:=h
theorem tl51{p:Prop}(h:p:=by have q1:=wr (v4+1);exact tL ⟨ov0,cs⟩ (by unfold Zub lt6;dsimp only;omega)):p:=h
theorem tl52{p:Prop}(h:p:=by have q2:=wr (v6+1);exact tL ⟨ov0,ov1,cs⟩ (by unfold Z5o lt6;dsimp only;omega)):p:=h
theorem tl53{p:Prop}(h:p:=by have q1:=wr (v7+1);exact tl31):p:=h
theorem tl54{p:Prop}(h:p:=by exact tL ⟨rfl,rfl,O0,O1,cs⟩ (by unfold Z5z lt6;dsimp only;omega)):p:=h
theorem tl55{p:Prop}(h:p:=by have q1:=wr (v5+1);exact tL ⟨ov0,ov1,cl⟩ (by unfold Z1z lt6;dsimp only;omega)):p:=h
theorem tl56{p:Prop}(h:p:=by have q2:=wr (v8+1);exact tl33):p:=h
theorem tl57{p:Prop}(h:p:=by have q2:=wr (v6+1);exact tl34):p:=h
theorem tl58{p:Prop}(h:p:=by have q1:=wr (v9+1);exact tL ⟨ov1,O0,cl⟩ (by unfold Z5u lt6;dsimp only;omega)):p:=h
theorem tl59{p:Prop}(h:p:=by exact tL ⟨rfl,rfl,O0,O1,cs⟩ (by unfold Zpn lt6;dsimp only;omega)):p:=h
theorem tl60{p:Prop}(h:p:=by have q2:=wr (v6+1);exact tl39):p:=h
theorem tl61{p:Prop}(h:p:=by exact tR ⟨SzL.nil,tk83⟩):p:=h
theorem tl62{p:Prop}(h:p:=by exact tL ⟨rfl,O0,cl,(by first | assumption | omega)⟩ (by unfold Zadw lt6;dsimp only;omega)):p:=h
theorem tl63{p:Prop}(h:p:=by exact tJ (Z38 ⟨O0,O1,‹_›,‹_›,(by grind),(by grind)⟩)):p:=h
theorem tl65{p:Prop}(h:p:=by exact tR tk61):p:=h
theorem Zgk{p:Prop}(h:p:=by exact tR Za8):p:=h
theorem tl67{p:Prop}(h:p:=by have q1:=wr (5+v0);have q2:=wr ((IntKind.wrap .i64 (5+v0)) - 11);exact tl10):p:=h
theorem tl68{p:Prop} (h:p:=by
 apply tE<;>intro h4
 .exact tR trivial
 apply tE<;>intro h5
 .exact tR trivial
 exact tR trivial):p:=h
theorem tl69{p:Prop}(h:p:=by exact tJ (Zaaz ⟨rfl,rfl,oa0,⟨SzS.nil,SzL.nil,SzL.nil⟩,Zex,(by grind)⟩)):p:=h
theorem tl70{p:Prop}(h:p:=by exact tR (by first | with_reducible exact Zbg9 ‹_› (by omega) | (rw [Zbfk ‹_› (by omega)];grind))):p:=h
theorem tl71{p:Prop}(h:p:=by exact tR (by first | exact Zbg5 ‹_› ‹_› | exact Zbfh ‹_› ‹_› ‹_›)):p:=h
theorem tl72{p:Prop}(h:p:=by exact tL ⟨rfl,O0,cl,cl,(by first | assumption | (unfold Zlg;grind))⟩ (by unfold Z4f lt6;dsimp only;omega)):p:=h
theorem tl73{p:Prop}(h:p:=by exact tJ (Zaaw ⟨rfl,O0,Zai,‹_›,‹_›,(by grind),(by grind)⟩)):p:=h
theorem tl74{p:Prop}(h:p:=by exact tJ (Zaam ⟨rfl,O0,Zai,‹_›,‹_›,(by grind),(by grind)⟩)):p:=h
theorem tl75{p:Prop}(h:p:=by exact tJ (Zaal ⟨rfl,O0,Zai,‹_›,‹_›,(by grind),(by grind)⟩)):p:=h
theorem tl76{p:Prop}(h:p:=by exact tJ (Zaav ⟨rfl,O0,Zai,‹_›,‹_›,(by grind),(by grind)⟩)):p:=h
theorem tl77{p:Prop}(h:p:=by exact tJ (Zaan ⟨rfl,oa0,Zai,(by first | grind | (unfold inB;grind)),(by grind),(by grind)⟩)):p:=h
theorem tl78{p:Prop}(h:p:=by exact tJ (Zaax ⟨rfl,oa0,Zai,(by first | grind | (unfold inB;grind)),(by grind),(by grind)⟩)):p:=h
theorem tl79{p:Prop}(h:p:=by exact tR (by first | exact Zbgx ‹_› ‹_› ‹_› (by grind) | exact Zbe7 ‹_› (by omega))):p:=h
theorem tl80{p:Prop}(h:p:=by exact tR (by first | exact bl_y ‹_› ‹_› ‹_› ‹_› | exact bl_e ‹_› (by omega))):p:=h
theorem tl81{p:Prop} (h:p:=by
 refine tB (Zi0 oa1) fun x1 h2=>?_;have eh2_0:=h2.1;apply tF<;>intro h3
 .exact tR trivial
 exact tR trivial):p:=h
theorem tl82{p:Prop}(h:p:=by exact tJ (Z4i ⟨rfl,O0,O1,O2,Zai,‹_›,(by grind),(by grind)⟩)):p:=h
theorem tl83{p:Prop} (h:p:=by
 refine tB (Zi0 O0) fun x2 h4=>?_;have eh4_0:=h4.1;apply tF<;>intro h5
 .exact tR trivial
 exact tR trivial):p:=h
theorem tl85{p:Prop}(h:p:=by exact tR ⟨(by first | exact li_n ‹_› ‹_› | exact li_y ‹_› ‹_›),cl,Zjm⟩):p:=h
theorem tl86{p:Prop}(h:p:=by exact tR (by first | with_reducible exact Zbc3 ‹_› rfl ‹_› (by omega) (by omega) | with_reducible exact Za8r (by grind))):p:=h
theorem tl87{p:Prop}(h:p:=by exact tJ (Z39 ⟨⟨oa0.1,oa0.2⟩,⟨SzS.nil,SzS.nil⟩,Zai,Zai,(by grind)⟩)):p:=h
theorem tl88{p:Prop}(h:p:=by exact tR ⟨oc1,Zai,(by first | exact fx_y ‹_› ‹_› (by grind) | exact fx_n ‹_› (by omega))⟩):p:=h
theorem Zk0{p:Prop}(h:p:=by exact tR ⟨tk91,(by first | (intro hr;exact absurd hr (by decide)) | (intro _;assumption))⟩):p:=h
theorem tl90{p:Prop}(h:p:=by exact tR ⟨⟨O2.1,O2.2.1,O2.2.2⟩,tk70⟩):p:=h
theorem tl91{p:Prop}(h:p:=by exact tR ⟨cl,(by first | exact Za2e ‹_› ‹_› ‹_› Zex | exact Zajd ‹_› (by omega))⟩):p:=h
theorem tl92{p:Prop}(h:p:=by exact tR ⟨⟨O2.1,O2.2.1,O2.2.2⟩,cl,tk70⟩):p:=h
theorem tl93{p:Prop}(h:p:=by exact tJ (Z4j ⟨rfl,oa0,⟨SzS.nil,SzS.nil⟩,⟨SzS.nil,SzS.nil⟩,Zai,Zai,(by grind)⟩)):p:=h
theorem tl94{p:Prop}(h:p:=by exact tR (by first | exact eq_y ‹_› ‹_› (by omega) | exact eq_n ‹_› ‹_› ‹_› | (simp;intro e;subst e;omega))):p:=h
theorem tl95{p:Prop}(h:p:=by exact tR tk38):p:=h
theorem tl96{p:Prop} (h:p:=by
 try simp only [List.length_cons,List.length_nil,Nat.zero_add] at lh1
 exact tR ⟨SzL.tr,tk83⟩):p:=h
theorem tl97{p:Prop}(h:p:=by exact tR ⟨ov7,(by first | exact Zblx ‹_› ‹_› (by omega) (by omega) | exact Zbly ‹_› (by omega) | exact Zbl0 ‹_› (by omega))⟩):p:=h
theorem tl98{p:Prop}(h:p:=by exact tR ⟨⟨O2.1,O2.2⟩,tk40⟩):p:=h
theorem tl99{p:Prop}(h:p:=by exact tR ⟨cl,cl,(by first | exact (if_pos (by decide)).trans (Zblq ‹_› (by omega)) | exact (if_neg (by omega)).trans (Zblp ‹_› ‹_› (by omega) (by grind)))⟩):p:=h
theorem Ziz{p:Prop}(h:p:=by exact tR ⟨tk74,tk80⟩):p:=h
theorem Za4t{p:Prop}(h:p:=by exact tR (by first | with_reducible exact Zbc3 ‹_› ‹_› ‹_› (by omega) (by omega) | with_reducible exact Zbk8 ‹_› | with_reducible exact Za8r (by grind))):p:=h
theorem Zbdc{p:Prop}(h:p:=by exact tR ⟨cl,cl,(by first | exact Zbc6 ‹_› ‹_› ‹_› | (subst_vars;exact Zbc6 ‹_› ‹_› ‹_›) | exact Zblj ‹_› (by omega))⟩):p:=h
theorem Za4u{p:Prop}(h:p:=by exact tR (by first | exact ld_y ‹_› ‹_› ‹_› ‹_› ‹_› ‹_› | exact ld_a ‹_› ‹_› | exact ld_b ‹_› ‹_›)):p:=h
theorem Zft{p:Prop}(h:p:=by exact tR Z1t):p:=h
theorem Za4v{p:Prop}(h:p:=by exact tL ⟨O0,ov6,SzL.app (k:=16) h6 lo ov7.2 (me1 tk61),cs⟩ Zano):p:=h
theorem Zbdd{p:Prop}(h:p:=by exact tL ⟨rfl,cl,Zai,(by first | (intro k x hk;omega) | exact Zrw ‹_› ‹_› (by omega) ⟨by omega,by omega⟩ (by omega))⟩ (by unfold Zan2 lt6;dsimp only;omega)):p:=h
theorem Za4w{p:Prop}(h:p:=by exact tR ⟨⟨O0.1,O0.2⟩,tk30⟩):p:=h
theorem Za4x{p:Prop}(h:p:=by exact tR ⟨h1.1,tk25⟩):p:=h
theorem Z36{p:Prop}(h:p:=by exact tR ⟨(by first | (intro hr;exact absurd hr (by decide)) | exact fun _=>Zbbh (v:=v5) ‹_› (by omega)),(by first | (intro hr;exact absurd hr (by decide)) | exact fun _=>Zbfy (v:=v5) ‹_› (by omega))⟩):p:=h
theorem Zbde{p:Prop}(h:p:=by exact tR ⟨tk90,(by first | assumption | (intro hr;exact absurd hr (by decide)) | (intro hr;grind)),tk90⟩):p:=h
theorem Za4y{p:Prop}(h:p:=by exact tR (by first | exact yo_c ‹_› ‹_› ‹_› ‹_› ‹_› ‹_› | exact yo_b ‹_› ‹_› ‹_› ‹_› | exact yo_a ‹_› ‹_›)):p:=h
theorem Zbdf{p:Prop}(h:p:=by have eh9_1:=h9.2;exact tR ⟨h9.1,tk25⟩):p:=h
theorem Zbdg{p:Prop} (h:p:=by
 apply tF<;>intro h2
 .exact tl65
 exact tl65):p:=h
theorem Zanl{p:Prop}(h:p:=by exact tR ⟨(by first | (intro hr;exact absurd hr (by decide)) | (intro _ c hc;obtain⟨k,hk⟩:=List.mem_iff_getElem?.1 hc;exact i0 k c (by grind) hk)),(by first | (intro hr;exact absurd hr (by decide)) | (intro _;exact Zbfm ‹_› (by omega)))⟩):p:=h
theorem Zbdh{p:Prop}(h:p:=by exact tJ (Zvv ⟨rfl,O1,⟨SzS.nil,SzL.nil,SzL.nil⟩,tk29⟩)):p:=h
theorem Zbdi{p:Prop}(h:p:=by exact tJ (Zzd ⟨rfl,O1,⟨SzS.nil,SzL.nil,SzL.nil⟩,cl,tk29⟩)):p:=h
theorem Za4z{p:Prop}(h:p:=by exact tR ⟨tk61,tk37⟩):p:=h
theorem Zbdj{p:Prop} (h:p:=by
 apply tD<;>intro h4
 .apply tD<;>intro h5
  .exact Zsb
  exact Zsb
 exact Zsb):p:=h
theorem Zaul{p:Prop}(h:p:=by exact tR (by first | exact ac_d ‹_› ‹_› ‹_› ‹_› ‹_› ‹_› ‹_› ‹_› | exact ac_c ‹_› ‹_› ‹_› ‹_› | exact ac_b ‹_› ‹_› | exact ac_a ‹_› ‹_›)):p:=h
theorem Zbdk{p:Prop}(h:p:=by exact tL ⟨rfl,rfl,ov0,cl,cl,cl,cl,tk28⟩ tk64):p:=h
theorem Zbdl{p:Prop} (h:p:=by
 apply tE<;>intro h6
 .exact Zk0
 exact Zk0):p:=h
theorem Zbdm{p:Prop}(h:p:=by exact tL ⟨rfl,O0,O1,cl,cl,cl,cl,cl,cl,Z80,cl,cl,cl,cl,(by omega),(by first | exact MK_0 ‹_› | exact Za81 ‹_› (by omega) (by omega) (by omega))⟩ Z37):p:=h
theorem Zbdn{p:Prop}(h:p:=by exact tL ⟨rfl,O0,O1,cl,cl,cl,cl,Z80,cl,(by omega),(by first | exact Zblh (Za82 ‹_› (by omega)) | exact Zbli ‹_› (by omega) (by omega) (by omega))⟩ Z37):p:=h
theorem Zbdo{p:Prop}(h:p:=by exact tL ⟨cl,cl,Zai,Zex,(by first | with_reducible exact Zbc1 _ | with_reducible exact Zbk7 ‹_› ‹_› (by omega) (by omega) ‹_› (by omega) | with_reducible exact Zbc2 ‹_› ‹_› (by omega) (by omega) (by omega) (by omega))⟩ (by unfold Z7i lt6;dsimp only;omega)):p:=h
theorem Zbdp{p:Prop}(h:p:=by exact tL ⟨rfl,rfl,ov0,O0,cl,tk11⟩ (by unfold Zvu lt6;dsimp only;omega)):p:=h
theorem Zbdq{p:Prop}(h:p:=by have q1:=wr (v17+1);exact Zbdo):p:=h
theorem Zbdr{p:Prop}(h:p:=by have q1:=wr (v15+1);exact tL ⟨rfl,rfl,ov0,O0,ov5,ov13,cl,cl,cl,Zex,tk24,Zai,cs⟩ Z81):p:=h
theorem Zbds{p:Prop}(h:p:=by exact tR ⟨ov6,oc0,cl,cl,cl,cl,cl,cl,Zbq,Zcm,Zcm,(by first | exact sg_e ‹_› ‹_› ‹_› | exact absurd (Zbl5 ‹_› ‹_› (Za2m ‹_›) ‹_›) id)⟩):p:=h
theorem Zanm{p:Prop}(h:p:=by have q1:=wr (v16+1);exact tL ⟨rfl,ov1,ov14,cl,‹_›,cl,cl,‹_›,tk82,‹_›,tk33⟩ (by unfold Zvx lt6;dsimp only;omega)):p:=h
theorem Zaum{p:Prop}(h:p:=by exact tR tk4):p:=h
theorem Za40{p:Prop}(h:p:=by exact tL ⟨rfl,cl,cl,(by first | with_reducible exact Zbc1 _ | with_reducible exact Zbg8 ‹_› ‹_› (by omega) (by omega) ‹_› ‹_› (by omega) (by omega) | with_reducible exact Zbc2 ‹_› ‹_› (by omega) (by omega) (by omega) (by omega)),(by first | with_reducible exact Zbfi (by omega) ‹_› (by omega) (by omega) | rfl),Zex⟩ (by unfold Zaay lt6;dsimp only;omega)):p:=h
theorem Zaun{p:Prop}(h:p:=by exact tR tk3):p:=h
theorem Zbdt{p:Prop}(h:p:=by have q1:=wr (v8+1);exact tL ⟨rfl,ov3,ov6,cl,cl,cl,cl,tk65,tk9⟩ Za5j):p:=h
theorem Za41{p:Prop}(h:p:=by have q1:=wr (v20+1);exact tL ⟨rfl,rfl,O1,ov18,cl,cl,cl,cl,cl,cl,cl,Zbq,‹_›,cl,cl,cl,Zai,‹_›,tk22⟩ Zbd3):p:=h
theorem Zbdu{p:Prop}(h:p:=by exact tJ (Zmg ⟨rfl,rfl,ov0,O0,ov5,h3.1,cl,cl,tk75,tk69,cl,tk57,cl,tk14⟩)):p:=h
theorem Zbdv{p:Prop}(h:p:=by have q1:=wr (v25+1);exact tL ⟨rfl,rfl,O1,ov8,ov23,cl,cl,cl,cl,cl,cl,cl,Zbq,‹_›,cl,cl,cl,cl,cl,‹_›,Zai,tk5⟩ Za5g):p:=h
theorem Zbdw{p:Prop}(h:p:=by exact tL ⟨rfl,ov7,cl,Ze7,cl,cl,cl,cl,cl,cl,Zbq,‹_›,cl,tk66,Z80,cl,‹_›,(by first | assumption | exact mp_e ‹_› (by omega)),Zae0,(by first | exact Zblz ‹_› | exact Zbf4 ‹_› (by omega) ‹_› (by omega) (by omega))⟩ tk94):p:=h
theorem Zbdx{p:Prop}(h:p:=by exact tL ⟨oc0,ov10,cl,cl,cl,cl,cl,cl,cl,Zbq,Zcm,Zcm,cl,cl,Zai,tk6,Zai,Zai,Zai⟩ Za5h):p:=h
theorem Zbdy{p:Prop}(h:p:=by exact tL ⟨rfl,ov7,cl,Ze7,cl,cl,cl,cl,cl,cl,Zbq,‹_›,cl,tk66,Z80,cl,‹_›,‹_›,(by first | exact mp_0 | exact mp_y ‹_› ‹_› ‹_› (by omega) (by omega) ‹_› ‹_› ‹_› | exact mp_n ‹_› ‹_› (by omega) (by omega) ‹_› ‹_›),Zae0⟩ tk94):p:=h
theorem Zbdz{p:Prop}(h:p:=by have q1:=wr (v44+1);exact Zbdy):p:=h
theorem Zbd0{p:Prop}(h:p:=by exact tL ⟨rfl,O0,O1,cl,cl,cl,cl,cl,cl,cl,cl,Z80,cl,cl,cl,cl,cl,cl,cl,tk0⟩ Z37):p:=h
theorem Zbd1{p:Prop}(h:p:=by have q1:=wr (v57+1);exact Zbd0):p:=h
theorem Zann{p:Prop}(h:p:=by have q1:=wr (v44+1);exact tL ⟨O1,ov7,ov42,cl,cl,cl,cl,cl,cl,cl,Zbq,‹_›,cl,cl,cl,cl,tk58,tk2,‹_›,‹_›,Zai,(by grind),tk89⟩ tk97):p:=h
theorem Za42{p:Prop}(h:p:=by have q1:=wr (v44+1);exact tL ⟨O1,SzL.tr,ov42,cl,cl,cl,cl,cl,cl,cl,Zbq,‹_›,cl,cl,cl,cl,tk58,tk2,‹_›,‹_›,Zai,(by grind),tk89⟩ tk97):p:=h
theorem Zbd2{p:Prop}(h:p:=by have q1:=wr (v82+1);exact tL ⟨rfl,ov7,O1,cl,cl,cl,Ze7,cl,cl,cl,cl,cl,cl,Zbq,‹_›,cl,tk66,Z80,cl,cl,‹_›,cl,cl,Zjm,cl,cl,cl,cl,cl,cl,Zbq,‹_›,Zae0,tk92,‹_›,Ze7,tk1⟩ tk94):p:=h
theorem tk0{p:Prop}(h:p:=by first | assumption | exact Za80 ‹_› ‹_› ‹_› ‹_› (by omega) (wm_y (m':=v9) (i':=v10) ‹_› ‹_› ‹_› ‹_› ‹_› (by omega) (by omega) (by omega) (by omega) (by omega) (by omega) (by omega) (by omega) ‹_› ‹_›) ‹_› (by omega) | exact Za2p ‹_› (wm_b (m':=v9) ‹_› ‹_› ‹_› (by omega) ‹_› (by omega) (by omega) (by omega) ‹_›) ‹_› (by omega) | exact Za2p ‹_› (wm_a (m':=v9) (i':=v10) ‹_› ‹_› ‹_› (by omega) (by omega) (by omega) (by omega) (by omega) (by omega) ‹_›) ‹_› (by omega)):p:=h
theorem tk1{p:Prop}(h:p:=by first | assumption | exact Zbl1 ‹_› ‹_› ‹_› ‹_› ‹_› ‹_› ‹_› (by omega) (by omega) (Za4k ‹_› ‹_› ‹_›) ‹_› ‹_› ‹_› ‹_› ‹_› | exact Zbda ‹_› ‹_› ‹_› (by omega) (by omega) (Za4k ‹_› ‹_› ‹_›) (.inl ‹_›) | exact Zbda ‹_› ‹_› ‹_› (by omega) (by omega) (Za4k ‹_› ‹_› ‹_›) (.inr ‹_›)):p:=h
theorem tk2{p:Prop}(h:p:=by first | exact Za4i | exact Zbc7 ‹_› ‹_› ‹_› (by omega) ‹_› (by first | exact ht_c ‹_› ‹_› ‹_› ‹_› | exact (ht_m ‹_› ‹_› ‹_› ‹_› (by omega)).trans ‹_›) rfl | exact Zbc8 ‹_› ‹_› ‹_› (by omega) (by first | exact ht_n ‹_› ‹_› ‹_› | exact (ht_m ‹_› ‹_› ‹_› ‹_› (by omega)).trans ‹_› | exact ht_z ‹_› | (exfalso;grind))):p:=h
theorem tk3{p:Prop}(h:p:=by first | rfl | assumption | (exfalso;omega) | exact pl_s ‹_› ‹_› ‹_› ‹_› | exact absurd (pl_p (pl_c ‹_› ‹_› ‹_› ‹_›) ‹_› ‹_› ‹_› ‹_› ‹_› ‹_›) ‹_› | exact absurd (pl_t (pl_c ‹_› ‹_› ‹_› ‹_›) ‹_› ‹_› ‹_› ‹_› ‹_› ‹_›) ‹_›):p:=h
theorem tk4{p:Prop}(h:p:=by first | exact de_y ‹_› ‹_› ‹_› ‹_› ‹_› ‹_› ‹_› ‹_› | exact de_e ‹_› (by omega) ‹_› ‹_› (by first | exact de_1 ‹_› | exact de_2 ‹_› ‹_› | exact de_3 ‹_› ‹_› ‹_› ‹_› | exact de_4 ‹_› ‹_› ‹_› ‹_› ‹_›)):p:=h
theorem tk5{p:Prop}(h:p:=by first | exact nu_0 ‹_› rfl | exact Za87 ‹_› ‹_› ‹_› (by omega) (by assumption:_/\_/\_).2.2 (nu_y ‹_› ‹_› ‹_› ‹_› ‹_›) | exact Za4j ‹_› ‹_› ‹_› (by omega) (nu_s ‹_› ‹_›) | exact Za4j ‹_› ‹_› ‹_› (by omega) (nu_k ‹_›)):p:=h
theorem tk6{p:Prop}(h:p:=by first | exact Zbl3 | exact ct_y ‹_› ‹_› ‹_› ‹_› ‹_› ‹_› ‹_› ‹_› (by omega) (by omega) ‹_› ‹_› | exact ct_n ‹_› ‹_› ‹_› (by omega) (by omega) (.inl ‹_›) | exact ct_n ‹_› ‹_› ‹_› (by omega) (by omega) (.inr ‹_›)):p:=h
theorem tk7{p:Prop}(h:p:=by first | exact Zblw ‹_› | exact dr_y ‹_› ‹_› ‹_› ‹_› (by omega) (by omega) ‹_› ‹_› ‹_› | exact Zbc9 ‹_› ‹_› (by omega) (by omega) ‹_› (.inl ‹_›) | exact Zbc9 ‹_› ‹_› (by omega) (by omega) ‹_› (.inr ‹_›)):p:=h
theorem tk8{p:Prop}(h:p:=by first | assumption | exact Za80 ‹_› ‹_› ‹_› ‹_› (by omega) (Zblg ‹_› ‹_› ‹_› ‹_›) ‹_› (by omega) | exact Za81 ‹_› (by omega) (by omega) (by omega) | exact Zblf ‹_› ‹_› ‹_› | exact Zbht ‹_›):p:=h
theorem tk9{p:Prop}(h:p:=by first | rfl | exact el_y' ‹_› ‹_› ‹_› (by omega) ‹_› ‹_› ‹_› ‹_› | exact el_n ‹_› ‹_› ‹_› (by omega) (.inl (by omega)) | exact el_n' ‹_› ‹_› ‹_› (by omega) ‹_› ‹_›):p:=h
theorem tk10{p:Prop}(h:p:=by first | exact Zbla ‹_› | exact Za2h ‹_› ‹_› ‹_› (by omega) (by omega) (by omega) rfl | exact Za2h ‹_› ‹_› ‹_› (by omega) (by omega) (by omega) (by subst_vars;rfl) | exact Zbbk ‹_› ‹_› (by omega) (by omega) (by omega)):p:=h
theorem tk11{p:Prop}(h:p:=by first | exact Zbg6 | exact Zasn (v:=v5) ‹_› ‹_› (by omega) (by omega) (Zbg7 (v:=v5) ‹_› (by omega) ‹_›) (by omega) | exact Zasn (v:=v5) ‹_› ‹_› (by omega) (by omega) (fun y hv _=>absurd hv (by omega)) (by omega)):p:=h
theorem tk12{p:Prop}(h:p:=by first | exact Zblu ‹_› | exact tr_y ‹_› ‹_› ‹_› ‹_› ‹_› ‹_› (by omega) (by omega) ‹_› ‹_› | exact Zblv ‹_› ‹_› (by omega) (by omega) ‹_› ‹_›):p:=h
theorem tk13{p:Prop}(h:p:=by first | rfl | exact Zbe3 ‹_› ‹_› ‹_› ‹_› ((by assumption:rdB _ _ _ = !_).trans (by simp [*])) (by omega) | exact Zba1 ‹_› ‹_› ‹_› ((by assumption:rdB _ _ _ = !_).trans (by simp [*])) (by omega)):p:=h
theorem tk14{p:Prop}(h:p:=by first | exact pl_y ‹_› ‹_› ‹_› ‹_› | exact pl_n ‹_› ‹_› ‹_› ‹_› (.inl ‹_›) | exact pl_n ‹_› ‹_› ‹_› ‹_› (.inr ‹_›)):p:=h
theorem tk15{p:Prop}(h:p:=by first | assumption | exact Zbc5 | exact Zbbm ‹_› ‹_› (by omega) (by omega) ‹_› | exact Za8t ‹_› ‹_› (by omega) (by omega) (by omega) | (rw [show IntKind.wrap .i64 (v18+1)=v18+1 by omega];assumption)):p:=h
theorem tk16{p:Prop}(h:p:=by first | exact Zba3 ‹_› ‹_› (by omega) | exact Zbe5 (v:=v0) (i:=v5) (j:=v6) ‹_› (by grind) ‹_› (by grind) (by omega) (by omega) | exact Zbe6 (j:=v6) ‹_› ‹_› (by grind) (by omega)):p:=h
theorem tk17{p:Prop}(h:p:=by first | exact af_h ‹_› ‹_› ‹_› | exact af_n ‹_› ‹_› ‹_› ‹_› | exact af_l ‹_› (by omega) ‹_› ‹_› ‹_› ‹_› ‹_›):p:=h
theorem tk18{p:Prop}(h:p:=by first | with_reducible exact pr_0 ‹_› ‹_› | with_reducible exact pr_0' ‹_› ‹_› | with_reducible exact Za2g ‹_› ‹_› (by omega) (by omega) ‹_› ‹_›):p:=h
theorem tk19{p:Prop}(h:p:=by first | exact Zblc (by grind) | exact Zayu ‹_› ‹_› ‹_› (by omega) (by omega) rfl | exact Zayu ‹_› ‹_› ‹_› (by omega) (by omega) (by subst_vars;rfl)):p:=h
theorem tk20{p:Prop}(h:p:=by first | with_reducible exact pr_0 ‹_› ‹_› | with_reducible exact Za2g ‹_› (by rw [<- (by assumption:v32=a0.Abilities)];assumption) (by omega) (by omega) ‹_› ‹_›):p:=h
theorem tk21{p:Prop}(h:p:=by first | exact sg_0 ‹_› ‹_› (by omega) ‹_› ‹_› | exact sg_y ‹_› ‹_› ‹_› ‹_› ‹_› ‹_› ‹_›):p:=h
theorem tk22{p:Prop}(h:p:=by first | rfl | exact dp_n ‹_› ‹_› ‹_› (by omega) (by first | exact dp_c ‹_› ‹_› | exact dp_b ‹_› ‹_› | exact dp_a ‹_›)):p:=h
theorem Z1t{p:Prop}(h:p:=by first | (rw [Zbll (by first | (simp only [inB];simp;omega) | grind)];done) | exact Zblm (by grind) | (rw [Zbln (by first | grind | (unfold inB;grind)) (by grind)];unfold mdK;(try unfold inB at *);grind)):p:=h
theorem tk24{p:Prop}(h:p:=by first | exact Zblb | exact Zbbl ‹_› ‹_› (by omega) (by omega) (by omega) | exact Zbfn ‹_› ‹_› ‹_› (by omega) (by omega) (by omega) (by omega)):p:=h
theorem tk25{p:Prop}(h:p:=by first | exact Zblr ‹_› (by grind) | exact ln_p ‹_› ‹_› ‹_› (by first | exact .inl ⟨by omega,rfl⟩ | exact .inr ⟨by omega,rfl⟩) (by grind) (by grind) (by grind)):p:=h
theorem tk26{p:Prop}(h:p:=by first | (intro k y hk;omega) | exact Zrw ‹_› ‹_› ‹_› ‹_› (by omega) | exact Zrw ‹_› ‹_› ‹_› (by grind) (by omega)):p:=h
theorem tk27{p:Prop}(h:p:=by first | exact Za4i | exact Zbc7 ‹_› ‹_› ‹_› (by omega) ‹_› (by grind) rfl | exact Zbc8 ‹_› ‹_› ‹_› (by omega) (by grind)):p:=h
theorem tk28{p:Prop}(h:p:=by first | exact Zbld (by omega) | exact Zbhn ‹_› ‹_› (by omega) (by omega) (by omega) | exact Zbho ‹_› ‹_› (by omega) (by omega) (by omega) | assumption):p:=h
theorem tk29{p:Prop}(h:p:=by rw [<- (by assumption:v5=if E0.Copy < 0 then E0.Card else E0.Copy)];first | exact (Z7c (by omega)).symm | (rw [Zapq ‹_› (by omega)];assumption)):p:=h
theorem tk30{p:Prop}(h:p:=by subst_vars;first | exact ur_1 (m:=a0) (by grind) | exact ur_2 (m:=a0) (by grind) | exact ur_3 (m:=a0) (by grind) | exact ur_4 (m:=a0) (by grind) | exact ur_5 (m:=a0) (by grind)):p:=h
theorem tk31{p:Prop}(h:p:=by first | exact sl_n ‹_› ‹_› ‹_› ‹_› ‹_› ‹_› | exact sl_0 ‹_› ‹_› ‹_› (by omega)):p:=h
theorem tk32{p:Prop}(h:p:=by first | with_reducible exact Zbk9 ‹_› ‹_› | with_reducible exact Zbbj ‹_› ‹_› (by omega) (by omega) ‹_› ‹_›):p:=h
theorem tk33{p:Prop}(h:p:=by first | rfl | exact nx_y ‹_› ‹_› ‹_› (by omega) (by omega) | exact nx_n ‹_› ‹_› ‹_› (by omega) (by omega)):p:=h
theorem tk34{p:Prop}(h:p:=by first | (intro k c hk;omega) | (intro k c hk hc;rcases Zaui (v:=v4) ‹_› (by omega) hk hc ‹_› with h | h;(exact i0 k c h hc);(rw [h];assumption))):p:=h
theorem tk35{p:Prop}(h:p:=by first | assumption | exact cp_e ‹_› ‹_› ‹_› ‹_› | exact cp_n ‹_› ‹_› ‹_› ‹_›):p:=h
theorem tk36{p:Prop}(h:p:=by first | exact Zbgy ‹_› ‹_› | exact Zbgw (v:=v0) (i:=v5) (j:=v6) ‹_› ‹_› ‹_› (by omega) (by omega)):p:=h
theorem tk37{p:Prop}(h:p:=by first | (refine⟨fun _=>by omega,fun _=>rfl⟩) | (have w := ‹_∈A3.list _›;simp only [A3.list,List.mem_cons,List.not_mem_nil,or_false] at w;grind) | grind):p:=h
theorem tk38{p:Prop}(h:p:=by first | exact cg_c ‹_› ‹_› ‹_› ‹_› | exact cg_b ‹_› ‹_› | exact cg_a ‹_›):p:=h
theorem tk39{p:Prop}(h:p:=by first | assumption | exact Zapr | exact Za2k ‹_› ‹_› (by omega) (by omega) | exact Zbfo ‹_› ‹_›):p:=h
theorem tk40{p:Prop}(h:p:=by subst_vars;first | exact us_1 (by grind) | exact us_2 (by grind) | exact us_3 (by grind) | exact us_4 (by grind) | exact us_5 (by grind)):p:=h
theorem tk41{p:Prop}(h:p:=by first | exact Zbhp ‹_› (by omega) ‹_› (by omega) ‹_› | exact Zble ‹_› (by omega)):p:=h
theorem tk42{p:Prop}(h:p:=by first | (intro k x hk;omega) | exact Zbf6 ‹_› ‹_› ‹_› ‹_› (by omega) (by omega)):p:=h
theorem tk43{p:Prop}(h:p:=by first | exact tr_0 rfl | assumption | exact Zbh0 ‹_› ‹_› ‹_› (by omega) (by omega) (by omega)):p:=h
theorem tk44{p:Prop}(h:p:=by first | exact dr_0 rfl | assumption | exact Zbh1 ‹_› ‹_› ‹_› (by omega) (by omega) (by omega)):p:=h
theorem tk45{p:Prop}(h:p:=by first | rfl | assumption | exact cp_0 ‹_› ‹_› | exact cp_c ‹_› ‹_› ‹_›):p:=h
theorem tk46{p:Prop}(h:p:=by first | exact Zbg3 | exact Za8n ‹_› ‹_› ‹_› (by first | assumption | grind) (by omega)):p:=h
theorem tk47{p:Prop}(h:p:=by first | exact Za2l | assumption | exact sub_app' (d:=v16) ‹_› ‹_› ‹_› ‹_›):p:=h
theorem Z80{p:Prop}(h:p:=by first | assumption | exact Zbfs ‹_› (by omega) | exact Zbfq ‹_› ‹_› ‹_›):p:=h
theorem tk49{p:Prop}(h:p:=by first | (simp;done) | exact Zayv ‹_› ‹_› ‹_› ‹_› (by omega) (by omega)):p:=h
theorem tk50{p:Prop}(h:p:=by first | with_reducible exact Zbbi ‹_› ‹_› ‹_› ‹_› | (subst_vars;rfl)):p:=h
theorem tk51{p:Prop}(h:p:=by first | (intro k y hk;omega) | exact Zrw ‹_› ‹_› ‹_› (by grind) (by omega)):p:=h
theorem tk52{p:Prop}(h:p:=by first | (intro k x hk;omega) | exact Zrw ‹_› ‹_› ‹_› (by grind) (by omega)):p:=h
theorem Zbq{p:Prop}(h:p:=by first | assumption | exact Za8s | exact Zbc4 (by assumption:(_:Int)=_/\∀ y:List Int,y∈_->y=[]).2):p:=h
theorem tk54{p:Prop}(h:p:=by first | assumption | exact Zbc5 | exact Za8t ‹_› ‹_› (by omega) (by omega) (by omega)):p:=h
theorem tk55{p:Prop}(h:p:=by first | (intro k x hk;omega) | exact Zrw ‹_› ‹_› (by omega) (by grind) (by omega)):p:=h
theorem tk56{p:Prop}(h:p:=by first | rfl | exact bl_n ‹_› ‹_› (by omega) (by omega) ‹_› ‹_›):p:=h
theorem tk57{p:Prop}(h:p:=by first | with_reducible assumption | with_reducible exact pl_0 ‹_› ‹_› ‹_›):p:=h
theorem tk58{p:Prop}(h:p:=by first | assumption | exact Zapr | exact Za2k ‹_› ‹_› (by omega) (by omega)):p:=h
theorem tk59{p:Prop}(h:p:=by first | (simp;done) | exact Zbl6 ‹_› ‹_› ‹_› (by omega) (by omega)):p:=h
theorem Za8{p:Prop}(h:p:=by unfold SzN;first | omega | (simp only [List.length_append,List.length_cons,List.length_nil];omega)):p:=h
theorem tk61{p:Prop}(h:p:=by unfold SzT;first | omega | (simp only [List.length_append,List.length_cons,List.length_nil];omega)):p:=h
theorem tk62{p:Prop}(h:p:=by first | exact Zblo | exact Zbbr ‹_› ‹_› (by omega) (by grind) (by omega)):p:=h
theorem tk63{p:Prop}(h:p:=by first | exact Zbf2 ‹_› | exact Zbf3 ‹_› ‹_› ‹_›):p:=h
theorem tk64{p:Prop}(h:p:=by unfold Zb2 lt6;dsimp only;omega):p:=h
theorem tk65{p:Prop}(h:p:=by first | exact Za2l | assumption | exact Zbfp ‹_› ‹_› ‹_›):p:=h
theorem tk66{p:Prop}(h:p:=by first | assumption | exact Zbfu | exact Zbfv ‹_› ‹_› ‹_›):p:=h
theorem tk67{p:Prop}(h:p:=by intro m hm;simp only [List.mem_cons,List.not_mem_nil,or_false] at hm;subst hm;exact Zbgu _):p:=h
theorem tk68{p:Prop}(h:p:=by first | assumption | (rw [if_pos ‹_›];assumption) | (rw [if_neg ‹_›])):p:=h
theorem tk69{p:Prop}(h:p:=by first | assumption | exact (by assumption:x1=true->∀ c,c∈a0->Zlg c) ‹_›):p:=h
theorem tk70{p:Prop}(h:p:=by first | exact ba_c ‹_› rfl (by omega) | exact ba_o ‹_› rfl (by omega)):p:=h
theorem tk71{p:Prop}(h:p:=by first | assumption | exact nd_f ‹_› ‹_› | exact nd_z ‹_›):p:=h
theorem tk72{p:Prop}(h:p:=by unfold Zcv lt6;dsimp only;omega):p:=h
theorem Zdj{p:Prop}(h:p:=by first | (simp only [List.length_append,List.length_cons,List.length_nil];omega) | omega):p:=h
theorem tk74{p:Prop}(h:p:=by first | (intro hr;exact absurd hr (by decide)) | (intro hr;exact⟨by omega,by grind⟩)):p:=h
theorem tk75{p:Prop}(h:p:=by first | assumption | exact ((by assumption:x1=true->_/\_/\_) ‹_›).2.2):p:=h
theorem tk76{p:Prop}(h:p:=by unfold Zdo lt6;dsimp only;omega):p:=h
theorem tk77{p:Prop}(h:p:=by first | assumption | exact Zapr | exact (Za8u ‹_› ‹_›).2):p:=h
theorem tk78{p:Prop}(h:p:=by unfold Zdp lt6;dsimp only;omega):p:=h
theorem tk79{p:Prop}(h:p:=by first | assumption | exact wr_n ‹_› ‹_› (by omega) (by omega)):p:=h
theorem tk80{p:Prop}(h:p:=by first | (intro hr;exact absurd hr (by decide)) | (intro _;assumption) | assumption):p:=h
theorem tk81{p:Prop}(h:p:=by unfold Zd5 lt6;dsimp only;omega):p:=h
theorem tk82{p:Prop}(h:p:=by first | assumption | exact Zbhg ‹_› ‹_› | (left;omega)):p:=h
theorem tk83{p:Prop}(h:p:=by first | rfl | assumption | (simpa using (by assumption:_=[]++a0)) | grind):p:=h
theorem tk84{p:Prop}(h:p:=by first | omega | exact (Za8u ‹_› ‹_›).1 | (simp;done)):p:=h
theorem tk85{p:Prop}(h:p:=by first | omega | (have:=(by assumption:ML _ _ _) _ ‹_›;omega)):p:=h
theorem tk86{p:Prop}(h:p:=by first | assumption | exact Za2o ‹_› (by omega) ‹_›):p:=h
theorem tk87{p:Prop}(h:p:=by unfold Ze3 lt6;dsimp only;omega):p:=h
theorem tk88{p:Prop}(h:p:=by first | (intro hr;exact absurd hr Bool.false_ne_true) | (intro _;omega)):p:=h
theorem tk89{p:Prop}(h:p:=by first | assumption | exact (Zzz ‹_›).trans ‹_›):p:=h
theorem tk90{p:Prop}(h:p:=by first | (intro hr;exact absurd hr (by decide)) | (intro hr;grind)):p:=h
theorem tk91{p:Prop}(h:p:=by first | (intro hr;exact absurd hr (by decide)) | (intro _;omega)):p:=h
theorem tk92{p:Prop}(h:p:=by first | assumption | (rw [<- (by assumption:_=b0)];assumption)):p:=h
theorem Ze7{p:Prop}(h:p:=by first | assumption | exact Zbl2 ‹_› ‹_›):p:=h
theorem tk94{p:Prop}(h:p:=by unfold Zio lt6;dsimp only;omega):p:=h
theorem tk95{p:Prop}(h:p:=by first | assumption | exact fa_m ‹_› ‹_›):p:=h
theorem tk97{p:Prop}(h:p:=by unfold Zjw lt6;dsimp only;omega):p:=h
theorem tk98{p:Prop}(h:p:=by first | omega | exact shl_ne' (by omega) (by omega) | decide):p:=h
theorem tk99{p:Prop}(h:p:=by first | assumption | exact Zbhj ‹_› (by omega)):p:=h
theorem Zbd3{p:Prop}(h:p:=by unfold Zkr lt6;dsimp only;omega):p:=h
theorem Za5g{p:Prop}(h:p:=by unfold Zkt lt6;dsimp only;omega):p:=h
theorem Zbd4{p:Prop}(h:p:=by have e:(A5.list E0.Color).length=5:=rfl;omega):p:=h
theorem Zbd5{p:Prop}(h:p:=by exact Zbls ‹_› ‹_› ‹_›):p:=h
theorem Za5h{p:Prop}(h:p:=by unfold Zmc lt6;dsimp only;omega):p:=h
theorem Zaey{p:Prop}(h:p:=by unfold Zme lt6;dsimp only;omega):p:=h
theorem Zaez{p:Prop}(h:p:=by unfold Zmf lt6;dsimp only;omega):p:=h
theorem Zbd6{p:Prop}(h:p:=by unfold Znu lt6;dsimp only;omega):p:=h
theorem Zbd7{p:Prop}(h:p:=by unfold Znv lt6;dsimp only;omega):p:=h
theorem Zbd8{p:Prop}(h:p:=by exact Zbhb ‹_› (by first | omega | grind)):p:=h
theorem Zbd9{p:Prop}(h:p:=by first | omega | (rw [(by assumption:v13=_)];omega)):p:=h
theorem Za5i{p:Prop}(h:p:=by have e:(A6.list E0).length=6:=rfl;omega):p:=h
theorem Zae0{p:Prop}(h:p:=by first | assumption | exact Za2m ‹_›):p:=h
theorem Zae1{p:Prop}(h:p:=by first | assumption | exact Za86 ‹_›):p:=h
theorem Za5j{p:Prop}(h:p:=by unfold Zxv lt6;dsimp only;omega):p:=h
theorem Zauo{p:Prop}(h:p:=by have e:(A3.list a0).length=3:=rfl;omega):p:=h
theorem Z81{p:Prop}(h:p:=by unfold Z4g lt6;dsimp only;omega):p:=h
theorem Z37{p:Prop}(h:p:=by unfold Z4l lt6;dsimp only;omega):p:=h
theorem Za5k{p:Prop}(h:p:=by unfold Z4m lt6;dsimp only;omega):p:=h
theorem Za5l{p:Prop}(h:p:=by unfold Z7f lt6;dsimp only;omega):p:=h
theorem Zaup{p:Prop}(h:p:=by unfold Zaau lt6;dsimp only;omega):p:=h
theorem Zano{p:Prop}(h:p:=by unfold Zi8 lt6;dsimp only;omega):p:=h
theorem Zcm{p:Prop}(h:p:=by first | rfl | assumption | grind):p:=h
theorem Za5m{p:Prop}(h:p:=by first | rfl | (subst_vars;rfl)):p:=h
theorem Z82{p:Prop}(h:p:=by subst_vars;unfold apV;grind):p:=h
theorem Za5n{p:Prop}(h:p:=by intro _ _;unfold wtP;grind):p:=h
theorem Zex{p:Prop}(h:p:=by first | assumption | grind):p:=h
theorem Zai{p:Prop}(h:p:=by first | rfl | assumption):p:=h
theorem Zjm{p:Prop}(h:p:=by first | omega | grind):p:=h
theorem Zf4{p:Prop}(h:p:=by first | assumption):p:=h
abbrev Zhm(x:Z7):Prop:=(SzL 16 SzT) x.Subs
theorem Zap1{x:Z7}(h:Z5g x):Zhm x:=(Zfk h.2.2 (fun _ h=>Zbgv h))
abbrev Zan(x:Zg):Prop:=SzS x.Sub
theorem Zen{x:Zg}(h:Zep x):Zan x:=(Zak3 h.2.2.2.2.2.2.2.1)
abbrev Z5(x:Zc):Prop:=SzS x.Sub/\Zan x.Filter
theorem Zyl{x:Zc}(h:Zt7 x):Z5 x:=⟨Zak3 h.2.2.2.1,Zen h.2.2.2.2⟩
abbrev Zp7(x:Zcg):Prop:=Zan x.Filter
theorem Zae8{x:Zcg}(h:Zvl x):Zp7 x:=(Zen h.2.2)
abbrev Zgc(x:Zaz):Prop:=Zan x.Filter
theorem Zap2{x:Zaz}(h:Z5h x):Zgc x:=(Zen h.2.2)
abbrev Zt8(x:Zgn):Prop:=Zan x.Filter
theorem Zatc{x:Zgn}(h:Z8o x):Zt8 x:=(Zen h.2.2)
abbrev Zym(x:Zbi):Prop:=Zan x.Filter
theorem Zajm{x:Zbi}(h:Zyg x):Zym x:=(Zen h.2.2.2)
abbrev Zab(x:Zs):Prop:=Zt8 x.Ref/\Zym x.Amount/\SzS x.Card/\Zan x.Filter/\(SzL 176 Z5) x.Mods
theorem Zajn{x:Zs}(h:Zyh x):Zab x:=⟨Zatc h.2.1,Zajm h.2.2.1,Zak3 h.2.2.2.2.2.1,Zen h.2.2.2.2.2.2.1,Zfk h.2.2.2.2.2.2.2.2 (fun _ h=>(Zyl h))⟩
abbrev Zey(x:Za1):Prop:=Zan x.Filter
theorem Zae9{x:Za1}(h:Zvm x):Zey x:=(Zen h.2.2.1)
abbrev Zv(x:Zd):Prop:=Zan x.Filter/\(SzL 176 Z5) x.Mods/\Zp7 x.Trigger/\(SzL 144 Zgc) x.Specs/\(SzL 560 Zab) x.Effects/\Zey x.Replace
theorem Zqn{x:Zd}(h:Zma x):Zv x:=⟨Zen h.2.1,Zfk h.2.2.1 (fun _ h=>(Zyl h)),Zae8 h.2.2.2.2.2.1,Zfk h.2.2.2.2.2.2.2.1 (fun _ h=>(Zap2 h)),Zfk h.2.2.2.2.2.2.2.2.1 (fun _ h=>(Zajn h)),Zae9 h.2.2.2.2.2.2.2.2.2⟩
abbrev Zaa(x:Zl):Prop:=SzS x.Name/\Zhm x.Line/\(SzL 640 Zv) x.Abilities
theorem Zap3{x:Zl}(h:Zah4 x):Zaa x:=⟨Zak3 h.1,Zap1 h.2.2.2.2.1,Zfk h.2.2.2.2.2.2.2.2 (fun _ h=>(Zqn h))⟩
abbrev Zj5(x:Zkg):Prop:=(SzL 8 (fun _=>True)) x.Library/\(SzL 8 (fun _=>True)) x.Hand/\(SzL 8 (fun _=>True)) x.Graveyard
theorem Zajo{x:Zkg}(h:Zyi x):Zj5 x:=⟨Zfk h.2.2.2.2.2.2.1 (fun _ _=>trivial),Zfk h.2.2.2.2.2.2.2.1 (fun _ _=>trivial),Zfk h.2.2.2.2.2.2.2.2 (fun _ _=>trivial)⟩
abbrev Zwb(x:Zmv):Prop:=Zv x.Ability/\(SzL 16 (fun _=>True)) x.Targets
theorem Zap4{x:Zmv}(h:Z5i x):Zwb x:=⟨Zqn h.2.2.2.2.2.2.1,Zfk h.2.2.2.2.2.2.2.1 (fun _ _=>trivial)⟩
abbrev Zvr(x:Zkx):Prop:=Zv x.Ability
theorem Zafa{x:Zkx}(h:Zvn x):Zvr x:=(Zqn h.2.2.1)
abbrev Zre(x:Zc7):Prop:=(SzL 8 (fun _=>True)) x.Objects/\(SzL 176 Z5) x.Mods
theorem Zap5{x:Zc7}(h:Z5j x):Zre x:=⟨Zfk h.2.2.2.2.1 (fun _ _=>trivial),Zfk h.2.2.2.2.2 (fun _ h=>(Zyl h))⟩
abbrev Zad(x:Zm):Prop:=(SzL 152 Zj5) x.Players/\(SzL 128 (fun _=>True)) x.Objects/\(SzL 8 (fun _=>True)) x.Battlefield/\(SzL 8 (fun _=>True)) x.Exile/\(SzL 824 Zwb) x.Stack/\(SzL 768 Zvr) x.Waiting/\(SzL 80 Zre) x.Conts/\(SzL 8 (fun _=>True)) x.Extra
theorem Zanp{x:Zm}(h:Zadn x):Zad x:=⟨Zfk h.1 (fun _ h=>(Zajo h)),Zfk h.2.1 (fun _ _=>trivial),Zfk h.2.2.1 (fun _ _=>trivial),Zfk h.2.2.2.1 (fun _ _=>trivial),Zfk h.2.2.2.2.1 (fun _ h=>(Zap4 h)),Zfk h.2.2.2.2.2.1 (fun _ h=>(Zafa h)),Zfk h.2.2.2.2.2.2.1 (fun _ h=>(Zap5 h)),Zfk h.2.2.2.2.2.2.2.2.2.2.2.2.2.2.2.2.1 (fun _ _=>trivial)⟩
abbrev Zbr(x:Z0):Prop:=(SzL 8 (fun _=>True)) x.Objects/\Zan x.Filter/\(SzL 176 Z5) x.Mods
abbrev Zu(x:Za):Prop:=SzS x.Name/\Zhm x.Line/\(SzL 640 Zv) x.Abilities
abbrev Z4(x:Ze):Prop:=Zad x.s/\(SzL 224 Zbr) x.forces/\(SzL 176 Zu) x.traits/\(SzL 1 (fun _=>True)) x.dropped/\(SzL 1 (fun _=>True)) x.done/\(SzL 24 (SzL 8 (fun _=>True))) x.hits
abbrev Zyn(x:Zac):Prop:=(SzL 8 (fun _=>True)) x.hits/\(SzL 8 (fun _=>True)) x.numbers
theorem Zah5{a0:Int}:Tot (Zaer a0) (fun r=>True):=by
 apply tZ;dsimp only [Zabt,LT.den];exact tl23
def Z83:Zmw->Prop
 | .L0 v0 v3=>(SzT v0)/\(0<=v3)
 | .L1 v0 v3=>(SzT v0)/\(0<=v3)/\(v3 < (v0.length:Int))/\(0<=v3)/\(v3 < v0.length)
def Zxp:Zmw->M6
 | .L0 v0 v3=>(1,((v0.length:Int) - v3).toNat,1000000,0,0,0)
 | .L1 v0 v3=>(1,((v0.length:Int) - v3).toNat,0,0,0,0)
theorem Zaaj{v0:List UInt8}{v3:Int}(h:Z83 (.L1 v0 v3)):Tot (Zkh v0 v3).den (Nx Z83 Zxp (1,((v0.length:Int) - v3).toNat,0,0,0,0) (fun r=>True)):=by
 obtain⟨ov0,cv3,bd2,i0,i1⟩:=h;have lb_v0:v0.length<=562949953421312:=ov0;dsimp only [Zkh,LT.den];apply tD<;>intro h1
 .refine Tot.ix fun x1 h2=>?_;apply tE<;>intro h3
  .have q1:=wr (v3 - 1);refine Tot.ix fun x2 h4=>?_;apply tE<;>intro h5
   .exact tR trivial
   have q2:=wr (v3+1);exact tl18
  exact tl42
 exact tl42
theorem Zanq{a0:List UInt8}(oa0:SzT a0):Tot (Zak8 a0) (fun r=>True):=by
 apply Tot.rn Z83 Zxp
 .have lb_a0:a0.length<=562949953421312:=oa0;dsimp only [Zain,LT.den];apply tD<;>intro h1
  .exact tR trivial
  apply tD<;>intro h2
  .exact tR trivial
  refine Tot.ix fun x1 h3=>tB (Zah5) fun x2 h4=>?_;apply tO<;>intro h5
  .exact tR trivial
  have q1:=wr ((a0.length:Int) - 1);refine Tot.ix fun x3 h6=>?_;apply tE<;>intro h7
  .exact tR trivial
  exact tL ⟨oa0,cl⟩ (by unfold Zxp lt6;dsimp only;omega)
 intro s hs;cases s with
 | L0 v0 v3=>
  obtain⟨ov0,cv3⟩:=hs;dsimp only [Zu5,Zsj,LT.den,Zxp];apply tD<;>intro h1
  .refine Tot.ix fun x1 h2=>tB (Zah5) fun x2 h3=>?_;apply tO<;>intro h4
   .refine Tot.ix fun x3 h5=>?_;apply tD<;>intro h6
    .refine Tot.ix fun x4 h7=>?_;apply tN<;>intro h8
     .exact tR trivial
     exact tl6
    refine Tot.ix fun x4 h7=>?_;apply tD<;>intro h8
    .refine Tot.ix fun x5 h9=>?_;apply tN<;>intro h10
     .exact tR trivial
     exact tl6
    exact tl6
   exact tl6
  exact tR trivial
 | L1 _ _=>exact Zaaj hs
def Zyo(n m:Int):Bool:=decide (n>=0)&&decide (n<=m)
def Zadv(c:Zt):Bool:=Zyo c.Generic 99&&(Zyo c.X 2&&c.Color.list.all fun n=>Zyo n 9)
theorem Za5o(c:Zt):Z57 c=some (Zadv c):=by
 unfold Z57 LF.run;dsimp only [Zaio,LT.den]
 have hl:Zc0 Zky.step (.L0 c 0)=some (c.Color.list.all fun n=>Zyo n 9):=by
  have:=Z0i (st:=fun i=>Zmx.L0 c (i:Int)) (step:=Zky.step) (bad:=false) c.Color.list (fun n=>Zyo n 9) (fun i x hx=>by
   have hi:=(List.getElem?_eq_some_iff.1 hx).1
   have hi:i < 5:=hi
   show (Zos _ _).den=_
   dsimp only [Zos,LT.den]
   rw [decide_eq_true (by omega),Zkf hx,Zge (by omega) (by omega)]
   simp only [cond_true,Option.bind_some]
   unfold Zyo
   by_cases h1:x < 0
   .rw [decide_eq_true h1,decide_eq_false (show ¬ x>=0 by omega)];rfl
   .rw [decide_eq_false h1,decide_eq_true (show x>=0 by omega)]
    by_cases h2:x > 9
    .rw [decide_eq_true h2,decide_eq_false (show ¬ x<=9 by omega)];rfl
    .rw [decide_eq_false h2,decide_eq_true (show x<=9 by omega)];rfl)
  rw [show (Zmx.L0 c 0) = .L0 c ((0:Nat):Int) from rfl,this]
  have he:Zc0 Zky.step (.L0 c ((c.Color.list.length:Nat):Int))=some true:=by
   refine Zdu ?_
   show (Zos c 5).den=_
   rfl
  rw [he]
  cases c.Color.list.all fun n=>Zyo n 9<;>rfl
 refine (Zbs fun _=>Zbs fun _=>Zbs fun _=>Zbs fun _=>(show Option.bind (some (Sum.inl (Zmx.L0 c 0))) (Zhp Zky.step)=some (c.Color.list.all fun n=>Zyo n 9) from hl)).trans ?_;congr 1
 unfold Zadv Zyo;rw [Bool.eq_iff_iff];simp only [Bool.and_eq_true,Bool.not_eq_true',decide_eq_false_iff_not,decide_eq_true_eq,ge_iff_le,gt_iff_lt,Int.not_lt];constructor
 .rintro ⟨h1,h2,h3,h4,h5⟩;exact⟨⟨h1,h2⟩,⟨h3,h4⟩,h5⟩
 .rintro ⟨⟨h1,h2⟩,⟨h3,h4⟩,h5⟩;exact⟨h1,h2,h3,h4,h5⟩
theorem Zz0(a0:Zt):Tot (Z57 a0) (fun r=>(r=true->a0.X<=2)/\(r=true->∀ n,n∈A5.list a0.Color->n<=9)/\(r=Zyj a0)):=by
 refine⟨_,Za5o a0,fun h=>?_,fun h n hn=>?_,?_⟩
 .simp only [Zadv,Zyo,Bool.and_eq_true,decide_eq_true_eq] at h;exact h.2.1.2
 .simp only [Zadv,Zyo,Bool.and_eq_true,decide_eq_true_eq,List.all_eq_true] at h;exact (h.2.2 n hn).2
 .unfold Zadv Zyo Zyj;rw [Bool.eq_iff_iff];simp only [Bool.and_eq_true,decide_eq_true_eq,List.all_eq_true,ge_iff_le];exact⟨fun⟨⟨h1,h2⟩,⟨h3,h4⟩,h5⟩=>⟨h1,h2,h3,h4,h5⟩,fun⟨h1,h2,h3,h4,h5⟩=>⟨⟨h1,h2⟩,⟨h3,h4⟩,h5⟩⟩
theorem Zafb:Tot (Zrm) (fun r=>((SzL 16 SzN) r)/\(r.length=6)):=by
 apply tZ;dsimp only [Z2t,LT.den];have q1:(SzL 16 SzN) ([([99,114,101,97,116,117,114,101]:List UInt8),([105,110,115,116,97,110,116]:List UInt8),([114,105,116,117,97,108]:List UInt8),([114,101,108,105,99]:List UInt8),([99,104,97,114,109]:List UInt8),([108,97,110,100]:List UInt8)]:List (List UInt8)):=⟨by simp only [List.length_cons,List.length_nil];omega,mem_cons' Za8 (mem_cons' Za8 (mem_cons' Za8 (mem_cons' Za8 (mem_cons' Za8 (mem_cons' Za8 (fun _ h=>by cases h))))))⟩;have lq1:([([99,114,101,97,116,117,114,101]:List UInt8),([105,110,115,116,97,110,116]:List UInt8),([114,105,116,117,97,108]:List UInt8),([114,101,108,105,99]:List UInt8),([99,104,97,114,109]:List UInt8),([108,97,110,100]:List UInt8)]:List (List UInt8)).length=6:=rfl;exact tR ⟨q1,cl⟩
theorem Zyp(a0:List UInt8)(oa0:SzT a0):Tot (Z2v a0) (fun r=>r=Zvo a0):=⟨_,Zado a0,rfl⟩
def Za1b:Zws->Prop
 | .L0 v0 v1 v5=>(0<=v5)/\(v1<=100)
def Zanr:Zws->M6
 | .L0 v0 v1 v5=>(1,(v1 - v5).toNat,1000000,0,0,0)
theorem Z5m{a0:Int}{a1:Int}(h0:a1<=100):Tot (Za17 a0 a1) (fun r=>True):=by
 apply Tot.rn Za1b Zanr
 .dsimp only [Zarg,LT.den];exact tl17
 rintro ⟨v0,v1,v5⟩ ⟨cv5,i0⟩;dsimp only [Zabx,Zak9,LT.den];apply tD<;>intro h1
 .have q1:=wr (v5+1);exact tl17
 exact tR trivial
def Za5p(a0:Z7):Z0o->Prop
 | .L0 E0 v3=>(E0=a0)/\(Zhm E0)/\(0<=v3)/\(1<=E0.Types/\E0.Types<=63)
def Zadw:Z0o->M6
 | .L0 E0 v3=>(1,((E0.Subs.length:Int) - v3).toNat,1000000,0,0,0)
theorem Za5q{a0:Z7}(oa0:Zhm a0):Tot (Za7j a0) (fun r=>(r=true->1<=a0.Types/\a0.Types<=63)):=by
 apply Tot.rn (Za5p a0) Zadw
 .dsimp only [Zawb,LT.den];apply tD<;>intro h1
  .exact Ziy
  apply tD<;>intro h2
  .exact Ziy
  apply tD<;>intro h3
  .exact Ziy
  apply tD<;>intro h4
  .exact Ziy
  apply tD<;>intro h5
  .exact Ziy
  exact tL ⟨rfl,oa0,cl,(by first | assumption | omega)⟩ (by unfold Zadw lt6;dsimp only;omega)
 rintro ⟨E0,v3⟩ ⟨al0,O0,cv3,i0⟩;subst al0;dsimp only [Zaiq,Zarh,LT.den];have q1:=O0.1;apply tD<;>intro h1
 .refine Tot.ix fun x1 h2=>?_;have oh2:SzT x1:=O0.2 x1 h2.1;refine tB (Zyp x1 oh2) fun x2 h3=>?_;apply tO<;>intro h4
  .exact Ziy
  apply tD<;>intro h5
  .have q2:=wr (v3 - 1);refine Tot.ix fun x3 h6=>?_;apply tO<;>intro h7
   .exact Ziy
   have q3:=wr (v3+1);exact tl62
  have q2:=wr (v3+1);exact tl62
 apply tE<;>intro h2
 .exact Ziy
 apply tE<;>intro h3
 .exact Ziy
 refine tB (Z5m cl) fun x1 h4=>?_;apply tO<;>intro h5
 .exact tB (Z5m cl) fun x2 h6=>tR tk91
 exact Ziy
theorem Zans{a0:Int}:Tot (Za7l a0) (fun r=>True):=by
 apply tZ;dsimp only [Zawc,LT.den];exact tl23
theorem Zajp{a0:Zl}(oa0:Zaa a0):Tot (Zaby a0) (fun r=>True):=by
 apply tZ;dsimp only [Z58,LT.den];exact tR trivial
def Zatd:Zqu->Prop
 | .L0 v0 v1 v7=>(0<=v7)/\True
def Zadx:Zqu->M6
 | .L0 v0 v1 v7=>(1,(6 - v7).toNat,1000000,0,0,0)
theorem Zaak{a0:Int}{a1:Int}{a2:Int}:Tot (Z2w a0 a1 a2) (fun r=>True):=by
 apply Tot.rn Zatd Zadx
 .dsimp only [Z40,LT.den];apply tD<;>intro h1
  .exact tR trivial
  apply tD<;>intro h2
  .exact tR trivial
  apply tD<;>intro h3
  .exact tR trivial
  apply tD<;>intro h4
  .exact tR trivial
  exact tl31
 rintro ⟨v0,v1,v7⟩ ⟨cv7,_⟩;dsimp only [Znx,Zll,LT.den];apply tD<;>intro h1
 .apply tE<;>intro h2
  .apply tE<;>intro h3
   .exact tR trivial
   exact tl53
  exact tl53
 exact tR trivial
theorem Zyq{a0:Zb}:Tot (Z2x a0) (fun r=>(r=true->0<=a0.Kind/\a0.Kind<=3)):=by
 apply tZ;dsimp only [Z41,LT.den];apply tD<;>intro h1
 .exact tl3
 apply tD<;>intro h2
 .exact tl3
 apply tD<;>intro h3
 .exact tl3
 apply tD<;>intro h4
 .exact tl3
 apply tN<;>intro h5
 .exact tl15
 exact tl15
abbrev Zah6(a0:Zg)(r:Bool):Prop:=(r=true->0<=a0.Zone/\a0.Zone<=5/\0<=a0.Who/\a0.Who<=2/\0<=a0.Self/\a0.Self<=2/\0<=a0.Tap/\a0.Tap<=2/\0<=a0.Power.Kind/\a0.Power.Kind<=3/\0<=a0.Tough.Kind/\a0.Tough.Kind<=3/\0<=a0.Value.Kind/\a0.Value.Kind<=3)
def Z84(a0:Zg):Z0q->Prop
 | .L0 E0=>(E0=a0)/\(Zan E0)/\(0<=E0.Zone/\E0.Zone<=5/\0<=E0.Who/\E0.Who<=2/\0<=E0.Self/\E0.Self<=2/\0<=E0.Tap/\E0.Tap<=2)
def Zasr:Z0q->M6
 | .L0 E0=>(0,0,0,0,0,0)
theorem Zyr{a0:Zg}{E0:Zg}(h:(Z84 a0) (.L0 E0)):Tot (Zou E0).den (Nx (Z84 a0) Zasr (0,0,0,0,0,0) (Zah6 a0)):=by
 obtain⟨al0,O0,i0⟩:=h;subst al0;dsimp only [Zou,LT.den];refine tB (Zyq) fun x1 h1=>?_;have eh1_0:=h1;apply tF<;>intro h2
 .have h2_0:=eh1_0 h2;refine tB (Zyq) fun x2 h3=>?_;have eh3_0:=h3;apply tF<;>intro h4
  .have h4_0:=eh3_0 h4;refine tB (Zyq) fun x3 h5=>?_;have eh5_0:=h5;exact tR (by intro hr;have:=eh5_0 hr;first | omega | (cases hr;done))
  exact tl3
 exact tl3
theorem Za1c{a0:Zg}(oa0:Zan a0):Tot (Zab0 a0) (Zah6 a0):=by
 apply Tot.rn (Z84 a0) Zasr
 .dsimp only [Zair,LT.den];apply tD<;>intro h1
  .exact tl3
  apply tD<;>intro h2
  .exact tl3
  apply tD<;>intro h3
  .exact tl3
  apply tD<;>intro h4
  .exact tl3
  apply tD<;>intro h5
  .exact tl3
  apply tD<;>intro h6
  .exact tl3
  apply tD<;>intro h7
  .exact tl3
  apply tD<;>intro h8
  .exact tl3
  refine tB (Zaak) fun x1 h9=>?_;apply tO<;>intro h10
  .exact tl3
  refine tB (Zaak) fun x2 h11=>?_;apply tO<;>intro h12
  .exact tl3
  apply tO<;>intro h13
  .refine tB (Zyp a0.Sub (SzS.t oa0)) fun x3 h14=>?_;apply tO<;>intro h15
   .exact tl3
   apply tD<;>intro h16
   .exact tl3
   apply tD<;>intro h17
   .exact tl3
   exact tJ (Zyr ⟨rfl,oa0,cl⟩)
  apply tD<;>intro h14
  .exact tl3
  apply tD<;>intro h15
  .exact tl3
  exact tJ (Zyr ⟨rfl,oa0,cl⟩)
 intro s hs;cases s with
 | L0 _=>exact Zyr hs
theorem Zi0{a0:Zg}(oa0:Zan a0):Tot (Zab0 a0) (fun r=>(r=true->0<=a0.Zone/\a0.Zone<=5/\0<=a0.Who/\a0.Who<=2/\0<=a0.Self/\a0.Self<=2/\0<=a0.Tap/\a0.Tap<=2/\0<=a0.Power.Kind/\a0.Power.Kind<=3/\0<=a0.Tough.Kind/\a0.Tough.Kind<=3/\0<=a0.Value.Kind/\a0.Value.Kind<=3)/\(r=Z8p a0)):=(Tot.we (Za1c oa0)).mono fun r h=>⟨h.1,Option.some.inj (h.2.symm.trans (Za8l a0))⟩
abbrev Zys(a0:Zc)(r:Zc):Prop:=(Z5 r)/\(Z1 (Zk r) (Zk Zaex)=Zfx a0)
def Zpj(a0:Zc):Zpw->Prop
 | .L0 E0 E1 v7 v8=>(Z5 E0)/\(Z5 E1)/\(v7=a0.Kind)/\(E0={ a0 with Kind:=0 })/\(v8=true↔v7=2\/v7=3\/v7=6\/v7=7\/v7=8\/v7=9)
 | .L1 E0 E1 v7 v16=>(Z5 E0)/\(Z5 E1)/\(v7=a0.Kind)/\(E0={ a0 with Kind:=0 })/\(¬ (v7=2\/v7=3\/v7=6\/v7=7\/v7=8\/v7=9))/\(v16=true↔v7=4\/v7=5)
def Z5n:Zpw->M6
 | .L0 E0 E1 v7 v8=>(0,0,0,0,0,0)
 | .L1 E0 E1 v7 v16=>(0,0,0,0,0,0)
theorem Z38{a0:Zc}{E0:Zc}{E1:Zc}{v7:Int}{v16:Bool}(h:(Zpj a0) (.L1 E0 E1 v7 v16)):Tot (Zqv E0 E1 v7 v16).den (Nx (Zpj a0) Z5n (0,0,0,0,0,0) (Zys a0)):=by
 obtain⟨O0,O1,i0,i1,i2,i3⟩:=h;dsimp only [Zqv,LT.den];apply tF<;>intro h1
 .exact tR ⟨⟨SzS.nil,O0.2⟩,tk30⟩
 apply tE<;>intro h2
 .exact tR ⟨⟨O0.1,SzS.nil⟩,tk30⟩
 apply tE<;>intro h3
 .exact Za4w
 apply tE<;>intro h4
 .exact Za4w
 exact tR ⟨O0,tk30⟩
theorem Z39{a0:Zc}{E0:Zc}{E1:Zc}{v7:Int}{v8:Bool}(h:(Zpj a0) (.L0 E0 E1 v7 v8)):Tot (Zhh E0 E1 v7 v8).den (Nx (Zpj a0) Z5n (0,0,0,0,0,0) (Zys a0)):=by
 obtain⟨O0,O1,i0,i1,i2⟩:=h;dsimp only [Zhh,LT.den];apply tF<;>intro h1
 .exact Za4w
 apply tE<;>intro h2
 .exact tl63
 exact tl63
theorem Zay6{a0:Zc}(oa0:Z5 a0):Tot (Zawe a0) (Zys a0):=by
 apply Tot.rn (Zpj a0) Z5n
 .dsimp only [Zalb,LT.den];apply tE<;>intro h1
  .exact tl87
  apply tE<;>intro h2
  .exact tl87
  apply tE<;>intro h3
  .exact tl87
  apply tE<;>intro h4
  .exact tl87
  apply tE<;>intro h5
  .exact tl87
  exact tl87
 intro s hs;cases s with
 | L0 _ _ _ _=>exact Z39 hs
 | L1 _ _ _ _=>exact Z38 hs
theorem Zate{a0:Int}:Tot (Zarj a0) (fun r=>(r=(inB a0 1 63&&decide (Zau .and .i64 a0 6=0)))):=by
 apply tZ;dsimp only [Zafv,LT.den];apply tD<;>intro h1
 .apply tD<;>intro h2
  .exact tl1
  exact tl1
 exact tl1
def Zm3(a0:Zc):Zrx->Prop
 | .L0 E0 v18 v19=>(E0=a0)/\(Z5 E0)/\(v18=E0.Kind)/\(inB E0.Kind 1 14=true)/\(Zfx E0=true)/\(v19=true↔E0.Kind=2\/E0.Kind=3)
 | .L1 E0 v18 v25=>(E0=a0)/\(Z5 E0)/\(v18=E0.Kind)/\(inB E0.Kind 1 14=true)/\(Zfx E0=true)/\(v25=true↔E0.Kind=4\/E0.Kind=5)/\(¬ (E0.Kind=2\/E0.Kind=3))
 | .L2 E0 v18 v51=>(E0=a0)/\(Z5 E0)/\(v18=E0.Kind)/\(inB E0.Kind 1 14=true)/\(Zfx E0=true)/\(v51=true↔E0.Kind=8\/E0.Kind=9)/\(¬ (2<=E0.Kind/\E0.Kind<=7))
def Z4a:Zrx->M6
 | .L0 E0 v18 v19=>(0,0,0,0,0,0)
 | .L1 E0 v18 v25=>(0,0,0,0,0,0)
 | .L2 E0 v18 v51=>(0,0,0,0,0,0)
theorem Zaal{a0:Zc}{E0:Zc}{v18:Int}{v51:Bool}(h:(Zm3 a0) (.L2 E0 v18 v51)):Tot (Zwt E0 v18 v51).den (Nx (Zm3 a0) Z4a (0,0,0,0,0,0) (fun r=>(r=mdV a0))):=by
 obtain⟨al0,O0,i0,i1,i2,i3,i4⟩:=h;subst al0;dsimp only [Zwt,LT.den];apply tF<;>intro h1
 .apply tD<;>intro h2
  .exact Zft
  exact Zft
 apply tE<;>intro h2
 .exact tB (Zi0 O0.2) fun x1 h3=>tR Z1t
 apply tE<;>intro h3
 .apply tD<;>intro h4
  .apply tD<;>intro h5
   .apply tD<;>intro h6
    .exact Zft
    exact Zft
   exact Zft
  exact Zft
 apply tE<;>intro h4
 .apply tD<;>intro h5
  .apply tD<;>intro h6
   .apply tD<;>intro h7
    .exact Zft
    exact Zft
   exact Zft
  exact Zft
 exact Zft
theorem Zaam{a0:Zc}{E0:Zc}{v18:Int}{v25:Bool}(h:(Zm3 a0) (.L1 E0 v18 v25)):Tot (Zwu E0 v18 v25).den (Nx (Zm3 a0) Z4a (0,0,0,0,0,0) (fun r=>(r=mdV a0))):=by
 obtain⟨al0,O0,i0,i1,i2,i3,i4⟩:=h;subst al0;dsimp only [Zwu,LT.den];apply tF<;>intro h1
 .exact tB (Zyp E0.Sub (SzS.t O0.1)) fun x1 h2=>tR Z1t
 apply tE<;>intro h2
 .apply tD<;>intro h3
  .exact Zft
  exact Zft
 apply tE<;>intro h3
 .apply tD<;>intro h4
  .exact Zft
  exact Zft
 apply tE<;>intro h4
 .exact tl75
 exact tl75
theorem Zaan{a0:Zc}{E0:Zc}{v18:Int}{v19:Bool}(h:(Zm3 a0) (.L0 E0 v18 v19)):Tot (Zwv E0 v18 v19).den (Nx (Zm3 a0) Z4a (0,0,0,0,0,0) (fun r=>(r=mdV a0))):=by
 obtain⟨al0,O0,i0,i1,i2,i3⟩:=h;subst al0;dsimp only [Zwv,LT.den];apply tF<;>intro h1
 .exact tB (Zate) fun x1 h2=>tR Z1t
 apply tE<;>intro h2
 .exact tl74
 exact tl74
theorem Zant{a0:Zc}(oa0:Z5 a0):Tot (Za7m a0) (fun r=>(r=mdV a0)):=by
 apply Tot.rn (Zm3 a0) Z4a
 .dsimp only [Zawg,LT.den];apply tD<;>intro h1
  .exact Zft
  apply tD<;>intro h2
  .exact Zft
  refine tB (Zay6 oa0) fun x1 h3=>?_;apply tO<;>intro h4
  .exact Zft
  apply tE<;>intro h5
  .exact tl77
  exact tl77
 intro s hs;cases s with
 | L0 _ _ _=>exact Zaan hs
 | L1 _ _ _=>exact Zaam hs
 | L2 _ _ _=>exact Zaal hs
def Zap6:Zov->Prop
 | .L0 v0 v1 v2 v7 v8=>((SzL 16 SzN) v0)/\(SzN v2)/\(0<=v8)/\(v7.length<=200*v8.toNat)/\(v0.length<=100)/\(v8<=v0.length)
def Zyt:Zov->M6
 | .L0 v0 v1 v2 v7 v8=>(1,((v0.length:Int) - v8).toNat,1000000,0,0,0)
theorem Zap7{a0:List (List UInt8)}{a1:Int}{a2:List UInt8}(oa0:(SzL 16 SzN) a0)(oa2:SzN a2)(h0:a0.length<=100):Tot (Zald a0 a1 a2) (fun r=>(SzT r)/\(r.length<=20000)):=by
 apply Tot.rn Zap6 Zyt
 .dsimp only [Zab1,LT.den];exact tL ⟨oa0,oa2,cs⟩ (by unfold Zyt lt6;dsimp only;omega)
 rintro ⟨v0,v1,v2,v7,v8⟩ ⟨ov0,ov2,cv8,i0,i1,i2⟩;have lb_v2:v2.length<=100:=ov2;dsimp only [Z0r,Z9f,LT.den];apply tD<;>intro h1
 .refine tB (Z5m cl) fun x1 h2=>?_;apply tF<;>intro h3
  .apply tO<;>intro h4
   .refine tB (tK Zdj) fun x2 h5=>Tot.ix fun x3 h6=>?_;have oh6:SzN x3:=ov0.2 x3 h6.1;have q1:x3.length<=100:=oh6;refine tB (tK Zdj) fun x4 h7=>?_;exact tl56
   refine Tot.ix fun x2 h5=>?_;have oh5:SzN x2:=ov0.2 x2 h5.1;have q1:x2.length<=100:=oh5;refine tB (tK Zdj) fun x3 h6=>?_;exact tl56
  have q1:=wr (v8+1);exact tl33
 exact tR ⟨tk61,cl⟩
theorem Zqo{a0:Int}:Tot (Z9g a0) (fun r=>(SzT r)/\(r.length<=20000)):=by
 apply tZ;dsimp only [Z2y,LT.den];apply tD<;>intro h1
 .exact tR ⟨SzT.nil,cl⟩
 apply tD<;>intro h2
 .exact tR ⟨SzT.nil,cl⟩
 refine tB (Zafb) fun x1 h3=>tB (Zap7 h3.1 Za8 cl) fun x2 h4=>?_;have eh4_1:=h4.2;exact tR ⟨h4.1,cl⟩
theorem Za5r{a0:Int}:Tot (Za7n a0) (fun r=>True):=by
 apply tZ;dsimp only [Zawi,LT.den];exact tl23
theorem Zt9{a0:Int}:Tot (Zawk a0) (fun r=>(SzN r)):=by
 apply tZ;dsimp only [Zale,LT.den];apply tE<;>intro h1
 .exact Zgk
 apply tE<;>intro h2
 .exact Zgk
 apply tE<;>intro h3
 .exact Zgk
 apply tE<;>intro h4
 .exact Zgk
 apply tE<;>intro h5
 .exact Zgk
 exact tR (SzN.nil)
def Zay7:Ztd->Prop
 | .L0 v0 v3 v4=>(0<=v4)/\(v3.length<=200*v4.toNat)/\(v4<=5)
def Zah7:Ztd->M6
 | .L0 v0 v3 v4=>(1,(5 - v4).toNat,1000000,0,0,0)
theorem Zady{a0:Int}:Tot (Zawl a0) (fun r=>(SzT r)):=by
 apply Tot.rn Zay7 Zah7
 .dsimp only [Zalg,LT.den];refine tB (Za5r) fun x1 h1=>?_;apply tO<;>intro h2
  .exact tR (SzT.nil)
  apply tE<;>intro h3
  .exact tl65
  exact tl26
 rintro ⟨v0,v3,v4⟩ ⟨cv4,i0,i1⟩;dsimp only [Z78,Zafx,LT.den];apply tD<;>intro h1
 .refine tB (tK tk98) fun x1 h2=>tB (tK tk98) fun x2 h3=>?_;apply tE<;>intro h4
  .apply tO<;>intro h5
   .refine tB (tK Zdj) fun x3 h6=>tB (Zt9) fun x4 h7=>?_;have q1:x4.length<=100:=h7;refine tB (tK Zdj) fun x5 h8=>?_;exact tl49
   refine tB (Zt9) fun x3 h6=>?_;have q1:x3.length<=100:=h6;refine tB (tK Zdj) fun x4 h7=>?_;exact tl49
  have q1:=wr (v4+1);exact tl26
 exact tl65
theorem Zatf:Tot (Zab2) (fun r=>((SzL 16 SzN) r)/\(r.length=17)):=by
 apply tZ;dsimp only [Zafz,LT.den];have q1:(SzL 16 SzN) ([([102,108,121,105,110,103]:List UInt8),([114,101,97,99,104]:List UInt8),([104,97,115,116,101]:List UInt8),([118,105,103,105,108,97,110,116]:List UInt8),([116,114,97,109,112,108,101]:List UInt8),([102,105,114,115,116,45,115,116,114,105,107,101]:List UInt8),([100,111,117,98,108,101,45,115,116,114,105,107,101]:List UInt8),([100,101,97,100,108,121]:List UInt8),([108,105,102,101,108,105,110,107]:List UInt8),([109,101,110,97,99,101]:List UInt8),([100,101,102,101,110,100,101,114]:List UInt8),([119,97,114,100,101,100]:List UInt8),([115,116,117,114,100,121]:List UInt8),([101,108,117,115,105,118,101]:List UInt8),([110,111,45,97,116,116,97,99,107]:List UInt8),([110,111,45,98,108,111,99,107]:List UInt8),([109,117,115,116,45,97,116,116,97,99,107]:List UInt8)]:List (List UInt8)):=⟨by simp only [List.length_cons,List.length_nil];omega,mem_cons' Za8 (mem_cons' Za8 (mem_cons' Za8 (mem_cons' Za8 (mem_cons' Za8 (mem_cons' Za8 (mem_cons' Za8 (mem_cons' Za8 (mem_cons' Za8 (mem_cons' Za8 (mem_cons' Za8 (mem_cons' Za8 (mem_cons' Za8 (mem_cons' Za8 (mem_cons' Za8 (mem_cons' Za8 (mem_cons' Za8 (fun _ h=>by cases h)))))))))))))))))⟩;have lq1:([([102,108,121,105,110,103]:List UInt8),([114,101,97,99,104]:List UInt8),([104,97,115,116,101]:List UInt8),([118,105,103,105,108,97,110,116]:List UInt8),([116,114,97,109,112,108,101]:List UInt8),([102,105,114,115,116,45,115,116,114,105,107,101]:List UInt8),([100,111,117,98,108,101,45,115,116,114,105,107,101]:List UInt8),([100,101,97,100,108,121]:List UInt8),([108,105,102,101,108,105,110,107]:List UInt8),([109,101,110,97,99,101]:List UInt8),([100,101,102,101,110,100,101,114]:List UInt8),([119,97,114,100,101,100]:List UInt8),([115,116,117,114,100,121]:List UInt8),([101,108,117,115,105,118,101]:List UInt8),([110,111,45,97,116,116,97,99,107]:List UInt8),([110,111,45,98,108,111,99,107]:List UInt8),([109,117,115,116,45,97,116,116,97,99,107]:List UInt8)]:List (List UInt8)).length=17:=rfl;exact tR ⟨q1,cl⟩
theorem Z1u{a0:Int}:Tot (Zawn a0) (fun r=>(SzN r)):=by
 apply tZ;dsimp only [Zalh,LT.den];apply tD<;>intro h1
 .exact tR (SzN.nil)
 apply tD<;>intro h2
 .exact tR (SzN.nil)
 refine tB (Zatf) fun x1 h3=>Tot.ix fun x2 h4=>?_;have oh4:SzN x2:=h3.1.2 x2 h4.1;exact tR oh4
def Zay8:Zte->Prop
 | .L0 v0 v3 v4=>(0<=v4)/\(v3.length<=200*v4.toNat)/\(v4<=17)
def Zah8:Zte->M6
 | .L0 v0 v3 v4=>(1,(17 - v4).toNat,1000000,0,0,0)
theorem Zadz{a0:Int}:Tot (Zawo a0) (fun r=>(SzT r)):=by
 apply Tot.rn Zay8 Zah8
 .dsimp only [Zalj,LT.den];refine tB (Zans) fun x1 h1=>?_;apply tO<;>intro h2
  .exact tR (SzT.nil)
  exact tl21
 rintro ⟨v0,v3,v4⟩ ⟨cv4,i0,i1⟩;dsimp only [Z79,Zaf1,LT.den];apply tD<;>intro h1
 .apply tE<;>intro h2
  .apply tO<;>intro h3
   .refine tB (tK Zdj) fun x1 h4=>tB (Z1u) fun x2 h5=>?_;have q1:x2.length<=100:=h5;refine tB (tK Zdj) fun x3 h6=>?_;exact tl43
   refine tB (Z1u) fun x1 h4=>?_;have q1:x1.length<=100:=h4;refine tB (tK Zdj) fun x2 h5=>?_;exact tl43
  have q1:=wr (v4+1);exact tl21
 exact Zbdg
theorem Zafc:Tot (Zx1) (fun r=>((SzL 16 SzN) r)/\(r.length=6)):=by
 apply tZ;dsimp only [Z20,LT.den];have q1:(SzL 16 SzN) ([([]:List UInt8),([105,110,45,104,97,110,100]:List UInt8),([105,110,45,108,105,98,114,97,114,121]:List UInt8),([105,110,45,103,114,97,118,101,121,97,114,100]:List UInt8),([105,110,45,101,120,105,108,101]:List UInt8),([111,110,45,115,116,97,99,107]:List UInt8)]:List (List UInt8)):=⟨by simp only [List.length_cons,List.length_nil];omega,mem_cons' (SzN.nil) (mem_cons' Za8 (mem_cons' Za8 (mem_cons' Za8 (mem_cons' Za8 (mem_cons' Za8 (fun _ h=>by cases h))))))⟩;have lq1:([([]:List UInt8),([105,110,45,104,97,110,100]:List UInt8),([105,110,45,108,105,98,114,97,114,121]:List UInt8),([105,110,45,103,114,97,118,101,121,97,114,100]:List UInt8),([105,110,45,101,120,105,108,101]:List UInt8),([111,110,45,115,116,97,99,107]:List UInt8)]:List (List UInt8)).length=6:=rfl;exact tR ⟨q1,cl⟩
theorem Zajq:Tot (Z0s) (fun r=>((SzL 16 SzN) r)/\(r.length=3)):=by
 apply tZ;dsimp only [Z6a,LT.den];have q1:(SzL 16 SzN) ([([]:List UInt8),([121,111,117,114,115]:List UInt8),([116,104,101,105,114,115]:List UInt8)]:List (List UInt8)):=⟨by simp only [List.length_cons,List.length_nil];omega,mem_cons' (SzN.nil) (mem_cons' Za8 (mem_cons' Za8 (fun _ h=>by cases h)))⟩;have lq1:([([]:List UInt8),([121,111,117,114,115]:List UInt8),([116,104,101,105,114,115]:List UInt8)]:List (List UInt8)).length=3:=rfl;exact tR ⟨q1,cl⟩
theorem Zafd:Tot (Zx2) (fun r=>((SzL 16 SzN) r)/\(r.length=3)):=by
 apply tZ;dsimp only [Z22,LT.den];have q1:(SzL 16 SzN) ([([]:List UInt8),([115,101,108,102]:List UInt8),([111,116,104,101,114]:List UInt8)]:List (List UInt8)):=⟨by simp only [List.length_cons,List.length_nil];omega,mem_cons' (SzN.nil) (mem_cons' Za8 (mem_cons' Za8 (fun _ h=>by cases h)))⟩;have lq1:([([]:List UInt8),([115,101,108,102]:List UInt8),([111,116,104,101,114]:List UInt8)]:List (List UInt8)).length=3:=rfl;exact tR ⟨q1,cl⟩
theorem Zajr:Tot (Z0t) (fun r=>((SzL 16 SzN) r)/\(r.length=3)):=by
 apply tZ;dsimp only [Z6c,LT.den];have q1:(SzL 16 SzN) ([([]:List UInt8),([116,97,112,112,101,100]:List UInt8),([117,110,116,97,112,112,101,100]:List UInt8)]:List (List UInt8)):=⟨by simp only [List.length_cons,List.length_nil];omega,mem_cons' (SzN.nil) (mem_cons' Za8 (mem_cons' Za8 (fun _ h=>by cases h)))⟩;have lq1:([([]:List UInt8),([116,97,112,112,101,100]:List UInt8),([117,110,116,97,112,112,101,100]:List UInt8)]:List (List UInt8)).length=3:=rfl;exact tR ⟨q1,cl⟩
def Za1d:Zww->Prop
 | .L0 v0 v1 v5=>(0<=v5)/\(v1<=100)
def Zanu:Zww->M6
 | .L0 v0 v1 v5=>(1,(v1 - v5).toNat,1000000,0,0,0)
theorem Zrf{a0:Int}{a1:Int}(h0:a1<=100):Tot (Za18 a0 a1) (fun r=>True):=by
 apply Tot.rn Za1d Zanu
 .dsimp only [Zarl,LT.den];exact tl19
 rintro ⟨v0,v1,v5⟩ ⟨cv5,i0⟩;dsimp only [Zab3,Zalm,LT.den];apply tD<;>intro h1
 .have q1:=wr (v5+1);exact tl19
 exact tR trivial
def Zajs:Zlm->Prop
 | .L0 v0 v3 v4=>(0<=v4)/\(v0<=100)
def Z4b:Zlm->M6
 | .L0 v0 v3 v4=>(1,(v0 - v4).toNat,1000000,0,0,0)
theorem Z1v{a0:Int}(h0:a0<=100):Tot (Zab4 a0) (fun r=>(SzT r)/\(r.length<=20000)):=by
 apply Tot.rn Zajs Z4b
 .dsimp only [Z6e,LT.den];exact tl29
 rintro ⟨v0,v3,v4⟩ ⟨cv4,i0⟩;dsimp only [Zu7,Z24,LT.den];apply tD<;>intro h1
 .have q1:=wr (v3*2);have q2:=wr (v4+1);exact tl29
 refine tB (Zqo) fun x1 h2=>?_;have eh2_1:=h2.2;exact tR ⟨h2.1,cl⟩
theorem Zatg:Tot (Zab5) (fun r=>((SzL 16 SzN) r)/\(r.length=4)):=by
 apply tZ;dsimp only [Zaf3,LT.den];have q1:(SzL 16 SzN) ([([]:List UInt8),([62,61]:List UInt8),([60,61]:List UInt8),([61]:List UInt8)]:List (List UInt8)):=⟨by simp only [List.length_cons,List.length_nil];omega,mem_cons' (SzN.nil) (mem_cons' Za8 (mem_cons' Za8 (mem_cons' Za8 (fun _ h=>by cases h))))⟩;have lq1:([([]:List UInt8),([62,61]:List UInt8),([60,61]:List UInt8),([61]:List UInt8)]:List (List UInt8)).length=4:=rfl;exact tR ⟨q1,cl⟩
theorem Zbea{n:Int}(h0:0<=n)(h1:n < 18446744073709551616):Zjz .u64 n 10=n / 10:=by
 unfold Zjz;rw [Int.tdiv_eq_ediv_of_nonneg h0];have h2:0<=n / 10:=by omega
 have h3:n / 10 < 18446744073709551616:=by omega
 simp only [IntKind.wrap,IntKind.bits,IntKind.signed,Bool.false_and,Bool.false_eq_true,if_false];exact Int.emod_eq_of_lt h2 h3
theorem Z4c:∀ (k:Nat) (n:Int) (s:List UInt8),k<=20->0<=n->n < 10 ^ k->n < 18446744073709551616->s.length+k<=40->Tot (Zc0 Ztg.step (.L0 n s)) fun r=>SzN r/\r.length<=40
 | 0,n,s,_,h0,h1,_,hs=>by
  have:n=0:=by omega
  subst this
  refine Tot.stop (r:=s) ?_ ⟨show s.length<=100 by omega,by omega⟩
  show (Zh7 _ _).den=_
  dsimp only [Zh7,LT.den]
  rfl
 | k+1,n,s,hk,h0,h1,h2,hs=>by
  by_cases hn:n > 0
  .obtain⟨d,hd,hl⟩:=Tot.str (xs:=[IntKind.wrap .u8 (IntKind.wrap .u64 (48+(Int.tmod n 10)))]) (by simp) tk67
   simp only [List.length_cons,List.length_nil] at hl
   have e:Ztg.step (.L0 n s)=some (.inl (.L0 (n / 10) (d++s))):=by
    show (Zh7 _ _).den=_
    dsimp only [Zh7,LT.den]
    rw [decide_eq_true hn,cond_true,hd,Option.bind_some,decide_eq_true (show d.length+s.length<=9223372036854775807 by omega),Zbea h0 h2]
    rfl
   obtain⟨r,hr,hp⟩:=Z4c k (n / 10) (d++s) (by omega) (by omega) (by
    rw [Int.pow_succ] at h1
    have:n / 10 < 10 ^ k:=Int.ediv_lt_of_lt_mul (by decide) h1
    exact this) (by omega) (by rw [List.length_append];omega)
   exact⟨r,by rw [Zkv e];exact hr,hp⟩
  .refine Tot.stop (r:=s) ?_ ⟨show s.length<=100 by omega,by omega⟩
   show (Zh7 _ _).den=_
   dsimp only [Zh7,LT.den]
   rw [decide_eq_false hn];rfl
theorem Z7d(a0:Int)(h0:0<=a0)(h1:a0 < 18446744073709551616):Tot (Z8a a0) (fun r=>(SzN r)/\(r.length<=40)):=by
 unfold Z8a LF.run;dsimp only [Zab6,LT.den];obtain⟨d,hd,hl⟩:=Tot.str (xs:=[IntKind.wrap .u8 (IntKind.wrap .u64 (48+(Int.tmod a0 10)))]) (by simp) tk67;simp only [List.length_cons,List.length_nil] at hl;rw [hd,Option.bind_some,Option.bind_some,Zmu,Zbea h0 h1];exact Z4c 20 (a0 / 10) d (by omega) (by omega) (by omega) (by omega) (by omega)
theorem Zmb{a0:Int}:Tot (Zawq a0) (fun r=>(SzN r)):=by
 apply tZ;dsimp only [Zaln,LT.den];apply tD<;>intro h1
 .have q1:0<=IntKind.wrap .u64 (0 - (IntKind.wrap .u64 a0))/\IntKind.wrap .u64 (0 - (IntKind.wrap .u64 a0)) < 18446744073709551616:=Za14 _;exact tB (Z7d (IntKind.wrap .u64 (0 - (IntKind.wrap .u64 a0))) cl cl) fun x1 h2=>tB (tK Zdj) fun x2 h3=>tR Za8
 have q1:0<=IntKind.wrap .u64 a0/\IntKind.wrap .u64 a0 < 18446744073709551616:=Za14 _;exact tB (Z7d (IntKind.wrap .u64 a0) cl cl) fun x1 h2=>tR h2.1
theorem Zqp{a0:List UInt8}{a1:Zb}(oa0:SzN a0)(h0:0<=a1.Kind)(h1:a1.Kind<=3):Tot (Z9i a0 a1) (fun r=>(SzT r)):=by
 apply tZ;have lb_a0:a0.length<=100:=oa0;dsimp only [Z26,LT.den];apply tE<;>intro h1
 .exact tR (SzT.nil)
 refine tB (Zatg) fun x1 h2=>Tot.ix fun x2 h3=>?_;have oh3:SzN x2:=h2.1.2 x2 h3.1;have q1:x2.length<=100:=oh3;refine tB (tK Zdj) fun x3 h4=>tB (Zmb) fun x4 h5=>?_;have q2:x4.length<=100:=h5;exact tB (tK Zdj) fun x5 h6=>tR tk61
def Zay9:Zth->Prop
 | .L0 v0 v1 v5 v6=>((SzL 16 SzT) v0)/\(SzN v1)/\(0<=v6)/\(v5.length<=1125899906842624*v6.toNat)/\(v0.length<=100)/\(v6<=v0.length)
def Z5o:Zth->M6
 | .L0 v0 v1 v5 v6=>(1,((v0.length:Int) - v6).toNat,1000000,0,0,0)
theorem Zaza{a0:List (List UInt8)}{a1:List UInt8}(oa0:(SzL 16 SzT) a0)(oa1:SzN a1)(h0:a0.length<=100):Tot (Zawr a0 a1) (fun r=>(r.length<=144115188075855872)):=by
 apply Tot.rn Zay9 Z5o
 .dsimp only [Zalp,LT.den];exact tL ⟨oa0,oa1,cs⟩ (by unfold Z5o lt6;dsimp only;omega)
 rintro ⟨v0,v1,v5,v6⟩ ⟨ov0,ov1,cv6,i0,i1,i2⟩;have lb_v1:v1.length<=100:=ov1;dsimp only [Z8b,Zaf5,LT.den];apply tD<;>intro h1
 .apply tD<;>intro h2
  .refine tB (tK Zdj) fun x1 h3=>Tot.ix fun x2 h4=>?_;have oh4:SzT x2:=ov0.2 x2 h4.1;have q1:x2.length<=562949953421312:=oh4;refine tB (tK Zdj) fun x3 h5=>?_;exact tl52
  refine Tot.ix fun x1 h3=>?_;have oh3:SzT x1:=ov0.2 x1 h3.1;have q1:x1.length<=562949953421312:=oh3;refine tB (tK Zdj) fun x2 h4=>?_;exact tl52
 exact tR cl
theorem Zfy{b0:List (List UInt8)}{a1:List UInt8}(ob0:(SzL 16 SzT) b0)(oa1:SzT a1)(h0:b0.length<=1000):Tot (Zab7 b0 a1) (fun r=>((SzL 16 SzT) r)/\(r.length<=b0.length+1)):=by
 apply tZ;dsimp only [Z6f,LT.den];apply tF<;>intro h1
 .exact tR ⟨ob0,cl⟩
 refine Tot.ap fun x1 h2=>?_;have lh2:=Zc6 h2;exact tR ⟨SzL.app (k:=16) h2 lo ob0.2 (me1 oa1),cl⟩
def Z1w:Zhi->Prop
 | .L0 E0 v6 v7 v8=>(Zan E0)/\((SzL 16 SzN) v6)/\((SzL 16 SzT) v7)/\(0<=v8)/\(v7.length<=3+v8.toNat)/\(v8<=6)/\(v6.length=3)/\(0<=E0.Tap/\E0.Tap<=2/\0<=E0.Power.Kind/\E0.Power.Kind<=3/\0<=E0.Tough.Kind/\E0.Tough.Kind<=3/\0<=E0.Value.Kind/\E0.Value.Kind<=3)
 | .L1 E0 v6 v7 v9=>(Zan E0)/\((SzL 16 SzN) v6)/\((SzL 16 SzT) v7)/\(0<=v9)/\(v7.length<=9+v9.toNat)/\(v9<=6)/\(v6.length=3)/\(0<=E0.Tap/\E0.Tap<=2/\0<=E0.Power.Kind/\E0.Power.Kind<=3/\0<=E0.Tough.Kind/\E0.Tough.Kind<=3/\0<=E0.Value.Kind/\E0.Value.Kind<=3)
 | .L2 E0 v6 v7 v10=>(Zan E0)/\((SzL 16 SzN) v6)/\((SzL 16 SzT) v7)/\(0<=v10)/\(v7.length<=15+v10.toNat)/\(v10<=5)/\(v6.length=3)/\(0<=E0.Tap/\E0.Tap<=2/\0<=E0.Power.Kind/\E0.Power.Kind<=3/\0<=E0.Tough.Kind/\E0.Tough.Kind<=3/\0<=E0.Value.Kind/\E0.Value.Kind<=3)
 | .L3 E0 v6 v7 v11=>(Zan E0)/\((SzL 16 SzN) v6)/\((SzL 16 SzT) v7)/\(0<=v11)/\(v7.length<=20+v11.toNat)/\(v11<=5)/\(v6.length=3)/\(0<=E0.Tap/\E0.Tap<=2/\0<=E0.Power.Kind/\E0.Power.Kind<=3/\0<=E0.Tough.Kind/\E0.Tough.Kind<=3/\0<=E0.Value.Kind/\E0.Value.Kind<=3)
 | .L4 E0 v6 v7=>(Zan E0)/\((SzL 16 SzN) v6)/\((SzL 16 SzT) v7)/\(v7.length<=26)/\(v6.length=3)/\(0<=E0.Tap/\E0.Tap<=2/\0<=E0.Power.Kind/\E0.Power.Kind<=3/\0<=E0.Tough.Kind/\E0.Tough.Kind<=3/\0<=E0.Value.Kind/\E0.Value.Kind<=3)
 | .L5 E0 v6 v7 v12=>(Zan E0)/\((SzL 16 SzN) v6)/\((SzL 16 SzT) v7)/\(0<=v12)/\(v7.length<=26+v12.toNat)/\(v12<=17)/\(v6.length=3)/\(0<=E0.Tap/\E0.Tap<=2/\0<=E0.Power.Kind/\E0.Power.Kind<=3/\0<=E0.Tough.Kind/\E0.Tough.Kind<=3/\0<=E0.Value.Kind/\E0.Value.Kind<=3)
def Zi8:Zhi->M6
 | .L0 E0 v6 v7 v8=>(9,(6 - v8).toNat,1000000,0,0,0)
 | .L1 E0 v6 v7 v9=>(7,(6 - v9).toNat,1000000,0,0,0)
 | .L2 E0 v6 v7 v10=>(5,(5 - v10).toNat,1000000,0,0,0)
 | .L3 E0 v6 v7 v11=>(3,(5 - v11).toNat,1000000,0,0,0)
 | .L4 E0 v6 v7=>(2,0,0,0,0,0)
 | .L5 E0 v6 v7 v12=>(1,(17 - v12).toNat,1000000,0,0,0)
theorem Zua{E0:Zg}{v6:List (List UInt8)}{v7:List (List UInt8)}(h:Z1w (.L4 E0 v6 v7)):Tot (Zqw E0 v6 v7).den (Nx Z1w Zi8 (2,0,0,0,0,0) (fun r=>(r.length<=144115188075855872))):=by
 obtain⟨O0,ov6,ov7,i0,i1,i2⟩:=h;dsimp only [Zqw,LT.den];exact Z8z
theorem Zazb{a0:Zg}(oa0:Zan a0):Tot (Zaws a0) (fun r=>(r.length<=144115188075855872)):=by
 apply Tot.rn Z1w Zi8
 .dsimp only [Zalq,LT.den];refine tB (Zi0 oa0) fun x1 h1=>?_;have eh1_0:=h1.1;apply tO<;>intro h2
  .exact tR cl
  have h2_0:=eh1_0 h2;refine tB (Zafc) fun x2 h3=>tB (Zajq) fun x3 h4=>tB (Zafd) fun x4 h5=>tB (Zajr) fun x5 h6=>?_;have eh6_1:=h6.2;refine Tot.ix fun x6 h7=>?_;have oh7:SzN x6:=h3.1.2 x6 h7.1;refine tB (Zfy SzL.nil (SzN.t oh7) cl) fun x7 h8=>?_;have eh8_1:=h8.2;try simp only [List.length_nil,List.length_cons,Nat.zero_add] at eh8_1
  refine Tot.ix fun x8 h9=>?_;have oh9:SzN x8:=h4.1.2 x8 h9.1;refine tB (Zfy h8.1 (SzN.t oh9) cl) fun x9 h10=>Tot.ix fun x10 h11=>?_;have oh11:SzN x10:=h5.1.2 x10 h11.1;exact tB (Zfy h10.1 (SzN.t oh11) cl) fun x11 h12=>tL ⟨oa0,h6.1,h12.1,cs⟩ Zano
 intro s hs;cases s with
 | L0 E0 v6 v7 v8=>
  obtain⟨O0,ov6,ov7,cv8,i0,i1,i2,i3⟩:=hs;have lb_v7:=ov7.1;dsimp only [Zmy,Zaf6,LT.den,Zi8];apply tD<;>intro h1
  .refine tB (Zrf cl) fun x1 h2=>?_;apply tF<;>intro h3
   .refine tB (Z1v cl) fun x2 h4=>Tot.ap fun x3 h5=>?_;have lh5:=Zc6 h5;have q1:=wr (v8+1);exact tL ⟨O0,ov6,SzL.app (k:=16) h5 lo ov7.2 (me1 h4.1),cs⟩ Zano
   have q1:=wr (v8+1);exact Z8z
  exact Z8z
 | L1 E0 v6 v7 v9=>
  obtain⟨O0,ov6,ov7,cv9,i0,i1,i2,i3⟩:=hs;have lb_v7:=ov7.1;dsimp only [Zmy,Zaf7,LT.den,Zi8];apply tD<;>intro h1
  .refine tB (Zrf cl) fun x1 h2=>?_;apply tF<;>intro h3
   .refine tB (Z1v cl) fun x2 h4=>?_;have q1:x2.length<=562949953421312:=h4.1;refine tB (tK Zdj) fun x3 h5=>?_;have q2:=ov7.1;refine Tot.ap fun x4 h6=>?_;have lh6:=Zc6 h6;have q3:=wr (v9+1);exact Za4v
   have q1:=wr (v9+1);exact Z8z
  exact Z8z
 | L2 E0 v6 v7 v10=>
  obtain⟨O0,ov6,ov7,cv10,i0,i1,i2,i3⟩:=hs;have lb_v7:=ov7.1;dsimp only [Zmy,Zaf8,LT.den,Zi8];apply tD<;>intro h1
  .refine tB (Zrf cl) fun x1 h2=>?_;apply tF<;>intro h3
   .refine tB (Zt9) fun x2 h4=>Tot.ap fun x3 h5=>?_;have lh5:=Zc6 h5;have q1:=wr (v10+1);exact tL ⟨O0,ov6,SzL.app (k:=16) h5 lo ov7.2 (me1 (SzN.t h4)),cs⟩ Zano
   have q1:=wr (v10+1);exact Z8z
  exact Z8z
 | L3 E0 v6 v7 v11=>
  obtain⟨O0,ov6,ov7,cv11,i0,i1,i2,i3⟩:=hs;have lb_v7:=ov7.1;dsimp only [Zmy,Zaf9,LT.den,Zi8];apply tD<;>intro h1
  .refine tB (Zrf cl) fun x1 h2=>?_;apply tF<;>intro h3
   .refine tB (Zt9) fun x2 h4=>?_;have q1:x2.length<=100:=h4;refine tB (tK Zdj) fun x3 h5=>?_;have q2:=ov7.1;refine Tot.ap fun x4 h6=>?_;have lh6:=Zc6 h6;have q3:=wr (v11+1);exact Za4v
   have q1:=wr (v11+1);exact Z8z
  apply tO<;>intro h2
  .have q1:E0.Sub.length<=281474976710656:=O0;refine tB (tK Zdj) fun x1 h3=>Tot.ap fun x2 h4=>?_;have lh4:=Zc6 h4;exact tJ (Zua ⟨O0,ov6,SzL.app (k:=16) h4 lo ov7.2 (me1 tk61),cs⟩)
  exact tJ (Zua ⟨O0,ov6,ov7,cs⟩)
 | L4 _ _ _=>exact Zua hs
 | L5 E0 v6 v7 v12=>
  obtain⟨O0,ov6,ov7,cv12,i0,i1,i2,i3⟩:=hs;have lb_v7:=ov7.1;dsimp only [Zmy,Zaga,LT.den,Zi8];apply tD<;>intro h1
  .refine tB (Zrf cl) fun x1 h2=>?_;apply tF<;>intro h3
   .refine tB (Z1u) fun x2 h4=>?_;have q1:x2.length<=100:=h4;refine tB (tK Zdj) fun x3 h5=>?_;have q2:=ov7.1;refine Tot.ap fun x4 h6=>?_;have lh6:=Zc6 h6;have q3:=wr (v12+1);exact Za4v
   have q1:=wr (v12+1);exact Z8z
  refine Tot.ix fun x1 h2=>?_;have oh2:SzN x1:=ov6.2 x1 h2.1;refine tB (Zfy ov7 (SzN.t oh2) cl) fun x2 h3=>tB (Zqp Za8 cl cl) fun x3 h4=>tB (Zfy h3.1 h4 cl) fun x4 h5=>tB (Zqp Za8 cl cl) fun x5 h6=>tB (Zfy h5.1 h6 cl) fun x6 h7=>tB (Zqp Za8 cl cl) fun x7 h8=>tB (Zfy h7.1 h8 cl) fun x8 h9=>?_;apply tE<;>intro h10
  .exact tR cl
  exact tB (Zaza h9.1 Za8 cl) fun x9 h11=>tR cl
theorem Zad0{a0:Zc}(oa0:Z5 a0):Tot (Zawt a0) (fun r=>(r.length<=288230376151711744)):=by
 apply tZ;dsimp only [Zalr,LT.den];refine tB (Zant oa0) fun x1 h1=>?_;apply tO<;>intro h2
 .exact tR cl
 apply tE<;>intro h3
 .exact tR cl
 apply tE<;>intro h4
 .exact tB (Zqo) fun x2 h5=>tB (tK Zdj) fun x3 h6=>tR cl
 apply tE<;>intro h5
 .exact tB (Zqo) fun x2 h6=>tB (tK Zdj) fun x3 h7=>tR cl
 apply tE<;>intro h6
 .have q1:a0.Sub.length<=281474976710656:=oa0.1;exact tB (tK Zdj) fun x2 h7=>tR cl
 apply tE<;>intro h7
 .have q1:a0.Sub.length<=281474976710656:=oa0.1;exact tB (tK Zdj) fun x2 h8=>tR cl
 apply tE<;>intro h8
 .refine tB (Zady) fun x2 h9=>?_;have q1:x2.length<=562949953421312:=h9;exact tB (tK Zdj) fun x3 h10=>tR cl
 apply tE<;>intro h9
 .refine tB (Zady) fun x2 h10=>?_;have q1:x2.length<=562949953421312:=h10;exact tB (tK Zdj) fun x3 h11=>tR cl
 apply tE<;>intro h10
 .refine tB (Zadz) fun x2 h11=>?_;have q1:x2.length<=562949953421312:=h11;exact tB (tK Zdj) fun x3 h12=>tR cl
 apply tE<;>intro h11
 .refine tB (Zadz) fun x2 h12=>?_;have q1:x2.length<=562949953421312:=h12;exact tB (tK Zdj) fun x3 h13=>tR cl
 apply tE<;>intro h12
 .exact tR cl
 apply tE<;>intro h13
 .exact tB (Zazb oa0.2) fun x2 h14=>tB (tK Zdj) fun x3 h15=>tB (tK Zdj) fun x4 h16=>tR cl
 apply tE<;>intro h14
 .refine tB (Zmb) fun x2 h15=>?_;have q1:x2.length<=100:=h15;refine tB (tK Zdj) fun x3 h16=>tB (tK Zdj) fun x4 h17=>tB (Zmb) fun x5 h18=>?_;have q2:x5.length<=100:=h18;exact tB (tK Zdj) fun x6 h19=>tR cl
 apply tE<;>intro h15
 .refine tB (Zmb) fun x2 h16=>?_;have q1:x2.length<=100:=h16;refine tB (tK Zdj) fun x3 h17=>tB (tK Zdj) fun x4 h18=>tB (Zmb) fun x5 h19=>?_;have q2:x5.length<=100:=h19;exact tB (tK Zdj) fun x6 h20=>tR cl
 exact tR cl
def Zajt:Zln->Prop
 | .L0 v0 v3 v4=>((SzL 176 Z5) v0)/\(0<=v4)/\(v3.length<=576460752303423488*v4.toNat)/\(v0.length<=6)/\(v4<=v0.length)
def Zub:Zln->M6
 | .L0 v0 v3 v4=>(1,((v0.length:Int) - v4).toNat,1000000,0,0,0)
theorem Zsc{a0:List Zc}(oa0:(SzL 176 Z5) a0):Tot (Zab8 a0) (fun r=>(r.length<=4611686018427387904)):=by
 apply Tot.rn Zajt Zub
 .have lb_a0:=oa0.1;dsimp only [Z6h,LT.den];apply tE<;>intro h1
  .exact tR cl
  apply tD<;>intro h2
  .exact tR cl
  exact tL ⟨oa0,cs⟩ (by unfold Zub lt6;dsimp only;omega)
 rintro ⟨v0,v3,v4⟩ ⟨ov0,cv4,i0,i1,i2⟩;dsimp only [Zu8,Z28,LT.den];apply tD<;>intro h1
 .refine Tot.ix fun x1 h2=>?_;have oh2:Z5 x1:=ov0.2 x1 h2.1;refine tB (Zant oh2) fun x2 h3=>?_;apply tO<;>intro h4
  .exact tR cl
  apply tD<;>intro h5
  .refine tB (tK Zdj) fun x3 h6=>tB (Zad0 oh2) fun x4 h7=>tB (tK Zdj) fun x5 h8=>?_;exact tl51
  refine tB (Zad0 oh2) fun x3 h6=>tB (tK Zdj) fun x4 h7=>?_;exact tl51
 exact tR cl
theorem Zath{a0:Zgs}:Tot (Zarm a0) (fun r=>True):=by
 apply tZ;dsimp only [Zagc,LT.den];refine tB (Zz0 a0.Mana) fun x1 h1=>?_;have eh1_0:=h1.1;have eh1_1:=h1.2.1;apply tF<;>intro h2
 .apply tE<;>intro h3
  .exact tl20
  exact tR trivial
 exact tR trivial
theorem Zad1{a0:Int}:Tot (Zawv a0) (fun r=>(SzN r)):=by
 apply tZ;dsimp only [Zalt,LT.den];apply tE<;>intro h1
 .exact Zgk
 apply tE<;>intro h2
 .exact Zgk
 apply tE<;>intro h3
 .exact Zgk
 apply tE<;>intro h4
 .exact Zgk
 apply tE<;>intro h5
 .exact Zgk
 apply tE<;>intro h6
 .exact Zgk
 apply tE<;>intro h7
 .exact Zgk
 apply tE<;>intro h8
 .exact Zgk
 apply tE<;>intro h9
 .exact Zgk
 apply tE<;>intro h10
 .exact Zgk
 apply tE<;>intro h11
 .exact Zgk
 apply tE<;>intro h12
 .exact Zgk
 apply tE<;>intro h13
 .exact Zgk
 apply tE<;>intro h14
 .exact Zgk
 exact tR (SzN.nil)
theorem Z7e{a0:Int}:Tot (Zalv a0) (fun r=>True):=by
 apply tZ;dsimp only [Zab9,LT.den];apply tE<;>intro h1
 .exact tR trivial
 apply tE<;>intro h2
 .exact tR trivial
 apply tE<;>intro h3
 .exact tR trivial
 exact tl68
theorem Zafe{a0:Int}:Tot (Z9k a0) (fun r=>True):=by
 apply tZ;dsimp only [Z29,LT.den];refine tB (Zad1) fun x1 h1=>?_;apply tO<;>intro h2
 .refine tB (Z7e) fun x2 h3=>?_;apply tO<;>intro h4
  .exact tR trivial
  exact tR trivial
 exact tR trivial
def Z85:Z0v->Prop
 | .L0 E0=>(Zp7 E0)/\True
def Zass:Z0v->M6
 | .L0 E0=>(0,0,0,0,0,0)
theorem Zyu{E0:Zcg}(h:Z85 (.L0 E0)):Tot (Zwx E0).den (Nx Z85 Zass (0,0,0,0,0,0) (fun r=>True)):=by
 obtain⟨O0,_⟩:=h;dsimp only [Zwx,LT.den];refine tB (Zafe) fun x1 h1=>?_;apply tO<;>intro h2
 .exact tR trivial
 apply tE<;>intro h3
 .exact tl83
 exact tl83
theorem Za5s{a0:Zcg}(oa0:Zp7 a0):Tot (Za7p a0) (fun r=>True):=by
 apply Tot.rn Z85 Zass
 .dsimp only [Zaww,LT.den];refine tB (Zad1) fun x1 h1=>?_;apply tF<;>intro h2
  .exact tR trivial
  apply tD<;>intro h3
  .exact tR trivial
  apply tD<;>intro h4
  .exact tR trivial
  refine tB (Z7e) fun x2 h5=>?_;apply tO<;>intro h6
  .apply tN<;>intro h7
   .exact tR trivial
   exact tJ (Zyu ⟨oa0,trivial⟩)
  exact tJ (Zyu ⟨oa0,trivial⟩)
 intro s hs;cases s with
 | L0 _=>exact Zyu hs
theorem Zyv{a0:Zg}(oa0:Zan a0):Tot (Zarn a0) (fun r=>True):=by
 apply tZ;dsimp only [Zagf,LT.den];refine tB (Zi0 oa0) fun x1 h1=>?_;have eh1_0:=h1.1;exact tl25
theorem Zati{a0:Za1}(oa0:Zey a0):Tot (Zaro a0) (fun r=>True):=by
 apply tZ;dsimp only [Zagh,LT.den];apply tN<;>intro h1
 .exact tR trivial
 refine tB (Zyv oa0) fun x1 h2=>?_;apply tO<;>intro h3
 .exact tR trivial
 apply tE<;>intro h4
 .apply tE<;>intro h5
  .apply tE<;>intro h6
   .apply tE<;>intro h7
    .exact tR trivial
    apply tE<;>intro h8
    .exact tR trivial
    exact tR trivial
   exact tR trivial
  exact tR trivial
 apply tE<;>intro h5
 .apply tE<;>intro h6
  .apply tE<;>intro h7
   .exact tR trivial
   exact tR trivial
  exact tR trivial
 apply tE<;>intro h6
 .apply tE<;>intro h7
  .apply tD<;>intro h8
   .apply tD<;>intro h9
    .apply tD<;>intro h10
     .exact tR trivial
     exact tR trivial
    exact tR trivial
   exact tR trivial
  exact tR trivial
 exact tR trivial
theorem Zatj{a0:Za1}(oa0:Zey a0):Tot (Zarp a0) (fun r=>True):=by
 apply tZ;dsimp only [Zagj,LT.den];apply tN<;>intro h1
 .exact tR trivial
 apply tN<;>intro h2
 .exact tR trivial
 apply tE<;>intro h3
 .exact tl20
 apply tE<;>intro h4
 .apply tD<;>intro h5
  .exact tR trivial
  exact tR trivial
 exact tR trivial
def Zp8:Zr0->Prop
 | .L0 E0 v3 v4=>(Zey E0)/\True
 | .L1 E0 v3=>(Zey E0)/\True
 | .L2 E0 v3 v4 v109=>(Zey E0)/\True
def Z4d:Zr0->M6
 | .L0 E0 v3 v4=>(0,0,0,0,0,0)
 | .L1 E0 v3=>(0,0,0,0,0,0)
 | .L2 E0 v3 v4 v109=>(0,0,0,0,0,0)
theorem Zaao{E0:Za1}{v3:Bool}{v4:Bool}{v109:Bool}(h:(Zey E0)/\True):Tot (Zsk E0 v3 v4 v109).den (Nx Zp8 Z4d (0,0,0,0,0,0) (fun r=>True)):=by
 obtain⟨O0,_⟩:=h;dsimp only [Zsk,LT.den];apply tF<;>intro h1
 .apply tF<;>intro h2
  .apply tD<;>intro h3
   .exact tl20
   exact tR trivial
  exact tR trivial
 exact tR trivial
theorem Zaap{E0:Za1}{v3:Bool}(h:Zp8 (.L1 E0 v3)):Tot (Zow E0 v3).den (Nx Zp8 Z4d (0,0,0,0,0,0) (fun r=>True)):=by
 obtain⟨O0,_⟩:=h;dsimp only [Zow,LT.den];apply tE<;>intro h1
 .refine tB (Zyv O0) fun x1 h2=>?_;apply tF<;>intro h3
  .exact tR trivial
  exact tl68
 apply tE<;>intro h2
 .exact tR trivial
 apply tE<;>intro h3
 .exact tR trivial
 exact tR trivial
theorem Zaaq{E0:Za1}{v3:Bool}{v4:Bool}(h:Zp8 (.L0 E0 v3 v4)):Tot (Zsl E0 v3 v4).den (Nx Zp8 Z4d (0,0,0,0,0,0) (fun r=>True)):=by
 obtain⟨O0,_⟩:=h;dsimp only [Zsl,LT.den];apply tE<;>intro h1
 .apply tN<;>intro h2
  .apply tN<;>intro h3
   .apply tN<;>intro h4
    .apply tN<;>intro h5
     .exact tR trivial
     exact tl13
    exact tl13
   exact tl13
  exact tl13
 apply tE<;>intro h2
 .apply tF<;>intro h3
  .apply tE<;>intro h4
   .exact tB (Zyv O0) fun x1 h5=>tR trivial
   exact tR trivial
  exact tR trivial
 apply tE<;>intro h3
 .apply tE<;>intro h4
  .apply tD<;>intro h5
   .apply tD<;>intro h6
    .exact tR trivial
    exact tR trivial
   exact tR trivial
  apply tE<;>intro h5
  .apply tD<;>intro h6
   .apply tD<;>intro h7
    .exact tR trivial
    exact tR trivial
   exact tR trivial
  exact tR trivial
 apply tE<;>intro h4
 .exact tl12
 apply tE<;>intro h5
 .exact tl12
 exact tl12
theorem Za5t{a0:Za1}(oa0:Zey a0):Tot (Za7r a0) (fun r=>True):=by
 apply Tot.rn Zp8 Z4d
 .dsimp only [Zaw0,LT.den];apply tE<;>intro h1
  .exact tB (Zati oa0) fun x1 h2=>tR trivial
  refine tB (Zatj oa0) fun x1 h2=>?_;apply tO<;>intro h3
  .exact tR trivial
  apply tE<;>intro h4
  .exact tl9
  apply tE<;>intro h5
  .exact tl9
  exact tl9
 intro s hs;cases s with
 | L0 _ _ _=>exact Zaaq hs
 | L1 _ _=>exact Zaap hs
 | L2 _ _ _ _=>exact Zaao hs
theorem Zazc{a0:Zaz}(oa0:Zgc a0):Tot (Zaw2 a0) (fun r=>True):=by
 apply tZ;dsimp only [Zalw,LT.den];apply tO<;>intro h1
 .exact tl25
 refine tB (Zi0 oa0) fun x1 h2=>?_;have eh2_0:=h2.1;apply tF<;>intro h3
 .exact tl68
 exact tR trivial
def Zatk:Zqx->Prop
 | .L0 v0 v3=>((SzL 144 Zgc) v0)/\(0<=v3)
def Z1x:Zqx->M6
 | .L0 v0 v3=>(1,((v0.length:Int) - v3).toNat,1000000,0,0,0)
theorem Zatl{a0:List Zaz}(oa0:(SzL 144 Zgc) a0):Tot (Zarq a0) (fun r=>True):=by
 apply Tot.rn Zatk Z1x
 .dsimp only [Zagl,LT.den];exact tL ⟨oa0,cl⟩ (by unfold Z1x lt6;dsimp only;omega)
 rintro ⟨v0,v3⟩ ⟨ov0,cv3⟩;have lb_v0:=ov0.1;dsimp only [Z43,Zacb,LT.den];apply tD<;>intro h1
 .refine Tot.ix fun x1 h2=>?_;have oh2:Zgc x1:=ov0.2 x1 h2.1;refine tB (Zazc oh2) fun x2 h3=>?_;apply tO<;>intro h4
  .exact tR trivial
  have q1:=wr (v3+1);exact tL ⟨ov0,cl⟩ (by unfold Z1x lt6;dsimp only;omega)
 exact tR trivial
theorem Zazd{a0:Int}:Tot (Zaw4 a0) (fun r=>(SzN r)):=by
 apply tZ;dsimp only [Zaly,LT.den];apply tD<;>intro h1
 .exact tR (SzN.nil)
 apply tD<;>intro h2
 .exact tR (SzN.nil)
 have q1:(SzL 16 SzN) ([([100,97,109,97,103,101]:List UInt8),([100,101,115,116,114,111,121]:List UInt8),([109,111,118,101]:List UInt8),([100,114,97,119]:List UInt8),([100,105,115,99,97,114,100]:List UInt8),([103,97,105,110]:List UInt8),([108,111,115,101]:List UInt8),([116,97,112]:List UInt8),([117,110,116,97,112]:List UInt8),([112,117,116]:List UInt8),([116,97,107,101]:List UInt8),([99,114,101,97,116,101]:List UInt8),([109,111,100]:List UInt8),([109,97,110,97]:List UInt8),([99,111,117,110,116,101,114]:List UInt8),([99,111,112,121]:List UInt8),([98,101,99,111,109,101]:List UInt8),([115,97,99,114,105,102,105,99,101]:List UInt8),([109,105,108,108]:List UInt8),([115,99,114,121]:List UInt8),([115,101,97,114,99,104]:List UInt8),([115,104,105,101,108,100]:List UInt8),([116,117,114,110]:List UInt8),([119,105,110]:List UInt8),([100,101,102,101,97,116]:List UInt8),([118,101,110,111,109]:List UInt8)]:List (List UInt8)):=⟨by simp only [List.length_cons,List.length_nil];omega,mem_cons' Za8 (mem_cons' Za8 (mem_cons' Za8 (mem_cons' Za8 (mem_cons' Za8 (mem_cons' Za8 (mem_cons' Za8 (mem_cons' Za8 (mem_cons' Za8 (mem_cons' Za8 (mem_cons' Za8 (mem_cons' Za8 (mem_cons' Za8 (mem_cons' Za8 (mem_cons' Za8 (mem_cons' Za8 (mem_cons' Za8 (mem_cons' Za8 (mem_cons' Za8 (mem_cons' Za8 (mem_cons' Za8 (mem_cons' Za8 (mem_cons' Za8 (mem_cons' Za8 (mem_cons' Za8 (mem_cons' Za8 (fun _ h=>by cases h))))))))))))))))))))))))))⟩;have lq1:([([100,97,109,97,103,101]:List UInt8),([100,101,115,116,114,111,121]:List UInt8),([109,111,118,101]:List UInt8),([100,114,97,119]:List UInt8),([100,105,115,99,97,114,100]:List UInt8),([103,97,105,110]:List UInt8),([108,111,115,101]:List UInt8),([116,97,112]:List UInt8),([117,110,116,97,112]:List UInt8),([112,117,116]:List UInt8),([116,97,107,101]:List UInt8),([99,114,101,97,116,101]:List UInt8),([109,111,100]:List UInt8),([109,97,110,97]:List UInt8),([99,111,117,110,116,101,114]:List UInt8),([99,111,112,121]:List UInt8),([98,101,99,111,109,101]:List UInt8),([115,97,99,114,105,102,105,99,101]:List UInt8),([109,105,108,108]:List UInt8),([115,99,114,121]:List UInt8),([115,101,97,114,99,104]:List UInt8),([115,104,105,101,108,100]:List UInt8),([116,117,114,110]:List UInt8),([119,105,110]:List UInt8),([100,101,102,101,97,116]:List UInt8),([118,101,110,111,109]:List UInt8)]:List (List UInt8)).length=26:=rfl;have q2:=wr (a0 - 1);refine Tot.ix fun x1 h3=>?_;have oh3:SzN x1:=q1.2 x1 h3.1;exact tR oh3
def Z1y:Zpx->Prop
 | .L0 v3 v4=>True
 | .L1 v3 v14=>True
def Z5p:Zpx->M6
 | .L0 v3 v4=>(0,0,0,0,0,0)
 | .L1 v3 v14=>(0,0,0,0,0,0)
theorem Zuc{v3:Int}{v14:Bool}(h:True):Tot (Zqy v3 v14).den (Nx Z1y Z5p (0,0,0,0,0,0) (fun r=>(SzN r))):=by
 dsimp only [Zqy,LT.den];apply tF<;>intro h1
 .exact Zgk
 apply tE<;>intro h2
 .exact Zgk
 apply tE<;>intro h3
 .exact Zgk
 apply tE<;>intro h4
 .exact Zgk
 apply tE<;>intro h5
 .exact Zgk
 apply tE<;>intro h6
 .exact Zgk
 apply tE<;>intro h7
 .exact Zgk
 apply tE<;>intro h8
 .exact tR (SzN.nil)
 apply tE<;>intro h9
 .exact tR (SzN.nil)
 exact Zgk
theorem Z4e{v3:Int}{v4:Bool}(h:True):Tot (Zgb v3 v4).den (Nx Z1y Z5p (0,0,0,0,0,0) (fun r=>(SzN r))):=by
 dsimp only [Zgb,LT.den];apply tF<;>intro h1
 .exact Zgk
 apply tE<;>intro h2
 .exact Zgk
 apply tE<;>intro h3
 .exact tJ (Zuc trivial)
 exact tJ (Zuc trivial)
theorem Zaze{a0:Int}:Tot (Zaw5 a0) (fun r=>(SzN r)):=by
 apply Tot.rn Z1y Z5p
 .dsimp only [Zal0,LT.den];apply tE<;>intro h1
  .exact tl4
  apply tE<;>intro h2
  .exact tl4
  apply tE<;>intro h3
  .exact tl4
  apply tE<;>intro h4
  .exact tl4
  apply tE<;>intro h5
  .exact tl4
  apply tE<;>intro h6
  .exact tl4
  exact tl4
 intro s hs;cases s with
 | L0 _ _=>exact Z4e hs
 | L1 _ _=>exact Zuc hs
def Zazf:Ztj->Prop
 | .L0 v1 v5 v6=>(SzT v5)/\(0<=v6)
def Z5q:Ztj->M6
 | .L0 v1 v5 v6=>(1,((v5.length:Int) - v6).toNat,1000000,0,0,0)
theorem Zhv{a0:Int}{a1:Int}:Tot (Zaw6 a0 a1) (fun r=>True):=by
 apply Tot.rn Zazf Z5q
 .dsimp only [Zal2,LT.den];exact tB (Zaze) fun x1 h1=>tL ⟨SzN.t h1,cl⟩ (by unfold Z5q lt6;dsimp only;omega)
 rintro ⟨v1,v5,v6⟩ ⟨ov5,cv6⟩;have lb_v5:v5.length<=562949953421312:=ov5;dsimp only [Z8c,Zagm,LT.den];apply tD<;>intro h1
 .refine Tot.ix fun x1 h2=>?_;apply tE<;>intro h3
  .exact tR trivial
  have q1:=wr (v6+1);exact tL ⟨ov5,cl⟩ (by unfold Z5q lt6;dsimp only;omega)
 exact tR trivial
theorem Zaju{a0:Int}:Tot (Zacc a0) (fun r=>True):=by
 apply tZ;dsimp only [Z6i,LT.den];exact tl22
def Zud:Zu9->Prop
 | .L0 v1 E0=>(Zt8 E0)/\True
 | .L1 E0=>(Zt8 E0)/\True
def Zad2:Zu9->M6
 | .L0 v1 E0=>(0,0,0,0,0,0)
 | .L1 E0=>(0,0,0,0,0,0)
theorem Zyw{E0:Zgn}(h:Zud (.L1 E0)):Tot (Zwy E0).den (Nx Zud Zad2 (0,0,0,0,0,0) (fun r=>True)):=by
 obtain⟨O0,_⟩:=h;dsimp only [Zwy,LT.den];apply tE<;>intro h1
 .exact tB (Zi0 O0) fun x1 h2=>tR trivial
 exact tR trivial
theorem Zyx{v1:Int}{E0:Zgn}(h:Zud (.L0 v1 E0)):Tot (Zwz v1 E0).den (Nx Zud Zad2 (0,0,0,0,0,0) (fun r=>True)):=by
 obtain⟨O0,_⟩:=h;dsimp only [Zwz,LT.den];apply tD<;>intro h1
 .exact tR trivial
 apply tD<;>intro h2
 .exact tR trivial
 refine tB (Zaju) fun x1 h3=>?_;apply tF<;>intro h4
 .apply tD<;>intro h5
  .exact tR trivial
  apply tD<;>intro h6
  .exact tR trivial
  exact tJ (Zyw ⟨O0,trivial⟩)
 apply tN<;>intro h5
 .exact tR trivial
 exact tJ (Zyw ⟨O0,trivial⟩)
theorem Za5u{a0:Zgn}{a1:Int}(oa0:Zt8 a0):Tot (Za7t a0 a1) (fun r=>True):=by
 apply Tot.rn Zud Zad2
 .dsimp only [Zaw7,LT.den];apply tD<;>intro h1
  .exact tJ (Zyx ⟨oa0,trivial⟩)
  exact tJ (Zyx ⟨oa0,trivial⟩)
 intro s hs;cases s with
 | L0 _ _=>exact Zyx hs
 | L1 _=>exact Zyw hs
theorem Zad3{a0:Int}:Tot (Zaw9 a0) (fun r=>(SzT r)/\(r=[]↔¬ (0<=a0/\a0<=2))):=by
 apply tZ;dsimp only [Zal4,LT.den];apply tE<;>intro h1
 .exact Za4z
 apply tE<;>intro h2
 .exact Za4z
 apply tE<;>intro h3
 .exact Za4z
 exact tR ⟨SzT.nil,tk37⟩
theorem Za5v{a0:Zbi}(oa0:Zym a0):Tot (Za7v a0) (fun r=>(r=amV a0)):=by
 apply tZ;dsimp only [Zaxa,LT.den];apply tE<;>intro h1
 .apply tD<;>intro h2
  .exact Zsb
  apply tD<;>intro h3
  .exact Zsb
  exact Zbdj
 apply tE<;>intro h2
 .apply tD<;>intro h3
  .exact Zsb
  apply tD<;>intro h4
  .exact Zsb
  refine tB (Zi0 oa0) fun x1 h5=>?_;have eh5_0:=h5.1;have eh5_1:=h5.2;apply tO<;>intro h6
  .exact Zsb
  have h6_0:=eh5_0 h6;apply tD<;>intro h7
  .apply tD<;>intro h8
   .exact Zsb
   exact Zsb
  exact Zsb
 apply tE<;>intro h3
 .refine tB (Zad3) fun x1 h4=>?_;have eh4_1:=h4.2;apply tF<;>intro h5
  .exact Zsb
  apply tD<;>intro h6
  .apply tD<;>intro h7
   .exact Zsb
   exact Zsb
  exact Zsb
 exact Zbdj
theorem Zazg{a0:List Zc}(oa0:(SzL 176 Z5) a0):Tot (Zaxc a0) (fun r=>True):=by
 apply tZ;dsimp only [Zal6,LT.den];exact tB (Zsc oa0) fun x1 h1=>tR trivial
def Zazh:Ztk->Prop
 | .L0 E0 E1 E2 v4=>(0<=v4)/\True
def Z5r:Ztk->M6
 | .L0 E0 E1 E2 v4=>(1,(5 - v4).toNat,1000000,0,0,0)
theorem Zazi{a0:A6 Int}:Tot (Zaxd a0) (fun r=>True):=by
 apply Tot.rn Zazh Z5r
 .dsimp only [Zal8,LT.den];exact tB (tI (by omega) (by have e:(A6.list a0).length=6:=rfl;omega)) fun x1 h1=>tL ⟨cl,trivial⟩ (by unfold Z5r lt6;dsimp only;omega)
 rintro ⟨E0,E1,E2,v4⟩ ⟨cv4,_⟩;dsimp only [Z8d,Zago,LT.den];apply tD<;>intro h1
 .have q1:=wr (v4+1);exact tB (tI (by omega) Za5i) fun x1 h2=>tB (tI (by omega) (by have e:(A5.list E2.Color).length=5:=rfl;omega)) fun x2 h3=>tB (Tot.setA5 (by omega) (by omega)) fun x3 h4=>tL ⟨cl,trivial⟩ (by unfold Z5r lt6;dsimp only;omega)
 exact tR trivial
def Zazj:Zmz->Prop
 | .L0 E0 v3 v4=>(0<=v4)/\(E0.X<=2)/\(∀ n,n∈A5.list E0.Color->n<=9)/\(v3.length<=v4.toNat)/\(v4<=2)
 | .L1 E0 v3 v5=>(0<=v5)/\(v3.length<=200+200*v5.toNat)/\(∀ n,n∈A5.list E0.Color->n<=9)/\(v5<=5)
 | .L2 E0 v3 v5 v6=>(0<=v5)/\(0<=v6)/\(v5 < 5)/\(v3.length<=200+200*v5.toNat+v6.toNat)/\(∀ n,n∈A5.list E0.Color->n<=9)/\(v5 < 5)/\(v6<=9)
def Z5s:Zmz->M6
 | .L0 E0 v3 v4=>(3,(E0.X - v4).toNat,1000000,0,0,0)
 | .L1 E0 v3 v5=>(1,(5 - v5).toNat,1000000,0,0,0)
 | .L2 E0 v3 v5 v6=>(1,(5 - v5).toNat,1,(9 - v6).toNat,1000000,0)
theorem Zazk{a0:Zt}:Tot (Zaxe a0) (fun r=>(SzT r)):=by
 apply Tot.rn Zazj Z5s
 .dsimp only [Zal9,LT.den];refine tB (Zz0 a0) fun x1 h1=>?_;have eh1_0:=h1.1;have eh1_1:=h1.2.1;apply tO<;>intro h2
  .exact tR (SzT.nil)
  have h2_0:=eh1_0 h2;have h2_1:=eh1_1 h2;exact tl24
 intro s hs;cases s with
 | L0 E0 v3 v4=>
  obtain⟨cv4,i0,i1,i2,i3⟩:=hs;dsimp only [Ztl,Zagp,LT.den];apply tD<;>intro h1
  .refine tB (tK Zdj) fun x1 h2=>?_;have q1:=wr (v4+1);exact tl24
  apply tN<;>intro h2
  .refine tB (Zmb) fun x1 h3=>?_;have q1:x1.length<=100:=h3;exact tB (tK Zdj) fun x2 h4=>tL ⟨cl,cs⟩ (by unfold Z5s lt6;dsimp only;omega)
  exact tl24
 | L1 E0 v3 v5=>
  obtain⟨cv5,i0,i1,i2⟩:=hs;dsimp only [Ztl,Zagq,LT.den];apply tD<;>intro h1
  .exact tl24
  exact Zbdg
 | L2 E0 v3 v5 v6=>
  obtain⟨cv5,cv6,bd2,i0,i1,i2,i3⟩:=hs;dsimp only [Ztl,Zagr,LT.den];refine tB (tI (by omega) Zbd4) fun x1 h1=>?_;have ph1:=i1 x1 h1.1;apply tD<;>intro h2
  .have q1:=wr (v5+1);refine tB (Tot.slice (by omega) (by omega) (by first | omega | (simp only [List.length_cons,List.length_nil];omega))) fun x2 h3=>tB (tK Zdj) fun x3 h4=>?_;have q2:=wr (v6+1);exact tl24
  have q1:=wr (v5+1);exact tl24
theorem Zajv{a0:A6 Int}:Tot (Zacd a0) (fun r=>(SzT r)):=by
 apply tZ;dsimp only [Z6k,LT.den];exact tB (Zazi) fun x1 h1=>tB (Zazk) fun x2 h2=>tR h2
theorem Zap8{a0:Int}{a1:Zg}(oa1:Zan a1):Tot (Zamb a0 a1) (fun r=>True):=by
 apply tZ;dsimp only [Zace,LT.den];apply tE<;>intro h1
 .exact tl81
 exact tl81
def Zgl:Zh8->Prop
 | .L0 E0 v5=>(Zab E0)/\True
 | .L1 E0 v5 v6=>(Zab E0)/\True
 | .L2 E0 v5 v6 v7=>(Zab E0)/\True
 | .L3 E0 v5 v6 v7 v8=>(Zab E0)/\True
 | .L4 E0 v5 v6 v7 v8 v9=>(Zab E0)/\True
 | .L5 E0 v5 v6 v7 v8 v9 v10=>(Zab E0)/\True
 | .L6 E0 v5 v6 v7 v8 v9 v10 v11=>(Zab E0)/\True
 | .L7 v5 v6 v7 v8 v9 v10 v11 v12=>True
def Zkp:Zh8->M6
 | .L0 E0 v5=>(0,0,0,0,0,0)
 | .L1 E0 v5 v6=>(0,0,0,0,0,0)
 | .L2 E0 v5 v6 v7=>(0,0,0,0,0,0)
 | .L3 E0 v5 v6 v7 v8=>(0,0,0,0,0,0)
 | .L4 E0 v5 v6 v7 v8 v9=>(0,0,0,0,0,0)
 | .L5 E0 v5 v6 v7 v8 v9 v10=>(0,0,0,0,0,0)
 | .L6 E0 v5 v6 v7 v8 v9 v10 v11=>(0,0,0,0,0,0)
 | .L7 v5 v6 v7 v8 v9 v10 v11 v12=>(0,0,0,0,0,0)
theorem Zyy{v5:Bool}{v6:Bool}{v7:Bool}{v8:Bool}{v9:Bool}{v10:Bool}{v11:Bool}{v12:Bool}(h:True):Tot (Zw0 v5 v6 v7 v8 v9 v10 v11 v12).den (Nx Zgl Zkp (0,0,0,0,0,0) (fun r=>True)):=by
 dsimp only [Zw0,LT.den];apply tF<;>intro h1
 .apply tF<;>intro h2
  .apply tF<;>intro h3
   .apply tF<;>intro h4
    .apply tF<;>intro h5
     .apply tF<;>intro h6
      .apply tF<;>intro h7
       .exact tR trivial
       exact tR trivial
      exact tR trivial
     exact tR trivial
    exact tR trivial
   exact tR trivial
  exact tR trivial
 exact tR trivial
theorem Zrp{E0:Zs}{v5:Bool}{v6:Bool}{v7:Bool}{v8:Bool}{v9:Bool}{v10:Bool}{v11:Bool}(h:(Zab E0)/\True):Tot (Zsm E0 v5 v6 v7 v8 v9 v10 v11).den (Nx Zgl Zkp (0,0,0,0,0,0) (fun r=>True)):=by
 obtain⟨O0,_⟩:=h;dsimp only [Zsm,LT.den];refine tB (Zhv) fun x1 h1=>?_;apply tF<;>intro h2
 .exact tB (Zap8 O0.2.2.2.1) fun x2 h3=>tJ (Zyy trivial)
 exact tJ (Zyy trivial)
theorem Zyz{E0:Zs}{v5:Bool}{v6:Bool}{v7:Bool}{v8:Bool}{v9:Bool}{v10:Bool}(h:(Zab E0)/\True):Tot (Zw1 E0 v5 v6 v7 v8 v9 v10).den (Nx Zgl Zkp (0,0,0,0,0,0) (fun r=>True)):=by
 obtain⟨O0,_⟩:=h;dsimp only [Zw1,LT.den];refine tB (Zhv) fun x1 h1=>?_;apply tF<;>intro h2
 .apply tO<;>intro h3
  .exact tB (Zajv) fun x2 h4=>tJ (Zrp ⟨O0,trivial⟩)
  exact tJ (Zrp ⟨O0,trivial⟩)
 exact tJ (Zrp ⟨O0,trivial⟩)
theorem Zy0{E0:Zs}{v5:Bool}{v6:Bool}{v7:Bool}{v8:Bool}{v9:Bool}(h:(Zab E0)/\True):Tot (Zw2 E0 v5 v6 v7 v8 v9).den (Nx Zgl Zkp (0,0,0,0,0,0) (fun r=>True)):=by
 obtain⟨O0,_⟩:=h;dsimp only [Zw2,LT.den];refine tB (Zhv) fun x1 h1=>?_;apply tF<;>intro h2
 .exact tB (Zazg O0.2.2.2.2) fun x2 h3=>tJ (Zyz ⟨O0,trivial⟩)
 exact tJ (Zyz ⟨O0,trivial⟩)
theorem Zy1{E0:Zs}{v5:Bool}{v6:Bool}{v7:Bool}{v8:Bool}(h:(Zab E0)/\True):Tot (Zw3 E0 v5 v6 v7 v8).den (Nx Zgl Zkp (0,0,0,0,0,0) (fun r=>True)):=by
 obtain⟨O0,_⟩:=h;dsimp only [Zw3,LT.den];refine tB (Zhv) fun x1 h1=>?_;apply tF<;>intro h2
 .exact tB (Za5v O0.2.1) fun x2 h3=>tJ (Zy0 ⟨O0,trivial⟩)
 exact tJ (Zy0 ⟨O0,trivial⟩)
theorem Zrq{E0:Zs}{v5:Bool}{v6:Bool}{v7:Bool}(h:(Zab E0)/\True):Tot (Zsn E0 v5 v6 v7).den (Nx Zgl Zkp (0,0,0,0,0,0) (fun r=>True)):=by
 obtain⟨O0,_⟩:=h;dsimp only [Zsn,LT.den];refine tB (Zhv) fun x1 h1=>?_;apply tF<;>intro h2
 .exact tB (Zanq (SzS.t O0.2.2.1)) fun x2 h3=>tJ (Zy1 ⟨O0,trivial⟩)
 exact tJ (Zy1 ⟨O0,trivial⟩)
theorem Zaar{E0:Zs}{v5:Bool}{v6:Bool}(h:Zgl (.L1 E0 v5 v6)):Tot (Zox E0 v5 v6).den (Nx Zgl Zkp (0,0,0,0,0,0) (fun r=>True)):=by
 obtain⟨O0,_⟩:=h;dsimp only [Zox,LT.den];apply tE<;>intro h1
 .exact tJ (Zrq ⟨O0,trivial⟩)
 refine tB (Zhv) fun x1 h2=>?_;apply tF<;>intro h3
 .exact tB (Zad3) fun x2 h4=>tJ (Zrq ⟨O0,trivial⟩)
 exact tJ (Zrq ⟨O0,trivial⟩)
theorem Zy2{E0:Zs}{v5:Bool}(h:Zgl (.L0 E0 v5)):Tot (Zw4 E0 v5).den (Nx Zgl Zkp (0,0,0,0,0,0) (fun r=>True)):=by
 obtain⟨O0,_⟩:=h;dsimp only [Zw4,LT.den];apply tE<;>intro h1
 .exact tl11
 refine tB (Zhv) fun x1 h2=>?_;apply tF<;>intro h3
 .apply tD<;>intro h4
  .exact tl11
  exact tl11
 exact tl11
theorem Za5w{a0:Zs}{a1:Int}(oa0:Zab a0):Tot (Za7x a0 a1) (fun r=>True):=by
 apply Tot.rn Zgl Zkp
 .dsimp only [Zaxf,LT.den];refine tB (Zazd) fun x1 h1=>?_;apply tF<;>intro h2
  .exact tR trivial
  refine tB (Zhv) fun x2 h3=>?_;apply tF<;>intro h4
  .exact tB (Za5u oa0.1) fun x3 h5=>tJ (Zy2 ⟨oa0,trivial⟩)
  exact tJ (Zy2 ⟨oa0,trivial⟩)
 intro s hs;cases s with
 | L0 _ _=>exact Zy2 hs
 | L1 _ _ _=>exact Zaar hs
 | L2 _ _ _ _=>exact Zrq hs
 | L3 _ _ _ _ _=>exact Zy1 hs
 | L4 _ _ _ _ _ _=>exact Zy0 hs
 | L5 _ _ _ _ _ _ _=>exact Zyz hs
 | L6 _ _ _ _ _ _ _ _=>exact Zrp hs
 | L7 _ _ _ _ _ _ _ _=>exact Zyy hs
def Zanv:Zm8->Prop
 | .L0 v0 v1 v5=>((SzL 560 Zab) v0)/\(0<=v5)
def Zvs:Zm8->M6
 | .L0 v0 v1 v5=>(1,((v0.length:Int) - v5).toNat,1000000,0,0,0)
theorem Zanw{a0:List Zs}{a1:Int}(oa0:(SzL 560 Zab) a0):Tot (Zags a0 a1) (fun r=>True):=by
 apply Tot.rn Zanv Zvs
 .dsimp only [Z9l,LT.den];exact tL ⟨oa0,cl⟩ (by unfold Zvs lt6;dsimp only;omega)
 rintro ⟨v0,v1,v5⟩ ⟨ov0,cv5⟩;have lb_v0:=ov0.1;dsimp only [Zx3,Z6m,LT.den];apply tD<;>intro h1
 .refine Tot.ix fun x1 h2=>?_;have oh2:Zab x1:=ov0.2 x1 h2.1;refine tB (Za5w oh2) fun x2 h3=>?_;apply tO<;>intro h4
  .exact tR trivial
  have q1:=wr (v5+1);exact tL ⟨ov0,cl⟩ (by unfold Zvs lt6;dsimp only;omega)
 apply tD<;>intro h2
 .exact tR trivial
 exact tR trivial
def Zgm:Zm0->Prop
 | .L0 E0 v3=>(Zv E0)/\True
 | .L1 E0 v3=>(Zv E0)/\True
 | .L2 E0 v3=>(Zv E0)/\True
 | .L3 E0 v3=>(Zv E0)/\True
 | .L4 E0 v3=>(Zv E0)/\True
def Zsv:Zm0->M6
 | .L0 E0 v3=>(0,0,0,0,0,0)
 | .L1 E0 v3=>(0,0,0,0,0,0)
 | .L2 E0 v3=>(0,0,0,0,0,0)
 | .L3 E0 v3=>(0,0,0,0,0,0)
 | .L4 E0 v3=>(0,0,0,0,0,0)
theorem Zy3{E0:Zd}{v3:Bool}(h:Zgm (.L4 E0 v3)):Tot (Zw5 E0 v3).den (Nx Zgm Zsv (0,0,0,0,0,0) (fun r=>True)):=by
 obtain⟨O0,_⟩:=h;dsimp only [Zw5,LT.den];apply tF<;>intro h1
 .refine tB (Zatl O0.2.2.2.1) fun x1 h2=>?_;apply tF<;>intro h3
  .exact tB (Zanw O0.2.2.2.2.1) fun x2 h4=>tR trivial
  exact tR trivial
 apply tE<;>intro h2
 .exact tR trivial
 exact tR trivial
theorem Zy4{E0:Zd}{v3:Bool}(h:Zgm (.L3 E0 v3)):Tot (Zw6 E0 v3).den (Nx Zgm Zsv (0,0,0,0,0,0) (fun r=>True)):=by
 obtain⟨O0,_⟩:=h;dsimp only [Zw6,LT.den];apply tE<;>intro h1
 .refine tB (Za5t O0.2.2.2.2.2) fun x1 h2=>?_;apply tO<;>intro h3
  .exact tR trivial
  exact tJ (Zy3 ⟨O0,trivial⟩)
 apply tO<;>intro h2
 .exact tR trivial
 exact tJ (Zy3 ⟨O0,trivial⟩)
theorem Zy5{E0:Zd}{v3:Bool}(h:Zgm (.L2 E0 v3)):Tot (Zw7 E0 v3).den (Nx Zgm Zsv (0,0,0,0,0,0) (fun r=>True)):=by
 obtain⟨O0,_⟩:=h;dsimp only [Zw7,LT.den];apply tE<;>intro h1
 .refine tB (Za5s O0.2.2.1) fun x1 h2=>?_;apply tO<;>intro h3
  .exact tR trivial
  exact tJ (Zy4 ⟨O0,trivial⟩)
 apply tO<;>intro h2
 .exact tR trivial
 apply tF<;>intro h3
 .exact tR trivial
 exact tJ (Zy4 ⟨O0,trivial⟩)
theorem Zy6{E0:Zd}{v3:Bool}(h:Zgm (.L1 E0 v3)):Tot (Zw8 E0 v3).den (Nx Zgm Zsv (0,0,0,0,0,0) (fun r=>True)):=by
 obtain⟨O0,_⟩:=h;dsimp only [Zw8,LT.den];apply tE<;>intro h1
 .refine tB (Zath) fun x1 h2=>?_;apply tO<;>intro h3
  .exact tR trivial
  exact tJ (Zy5 ⟨O0,trivial⟩)
 apply tO<;>intro h2
 .exact tR trivial
 apply tF<;>intro h3
 .exact tR trivial
 exact tJ (Zy5 ⟨O0,trivial⟩)
theorem Zaas{E0:Zd}{v3:Bool}(h:Zgm (.L0 E0 v3)):Tot (Zso E0 v3).den (Nx Zgm Zsv (0,0,0,0,0,0) (fun r=>True)):=by
 obtain⟨O0,_⟩:=h;dsimp only [Zso,LT.den];apply tE<;>intro h1
 .refine tB (Zi0 O0.1) fun x1 h2=>?_;have eh2_0:=h2.1;apply tO<;>intro h3
  .exact tR trivial
  apply tN<;>intro h4
  .exact tR trivial
  refine tB (Zsc O0.2.1) fun x2 h5=>?_;apply tF<;>intro h6
  .exact tR trivial
  exact tJ (Zy6 ⟨O0,trivial⟩)
 apply tO<;>intro h2
 .exact tR trivial
 apply tD<;>intro h3
 .exact tR trivial
 exact tJ (Zy6 ⟨O0,trivial⟩)
theorem Zz1{a0:Zd}(oa0:Zv a0):Tot (Za7z a0) (fun r=>True):=by
 apply Tot.rn Zgm Zsv
 .dsimp only [Zaxh,LT.den];apply tD<;>intro h1
  .exact tR trivial
  apply tD<;>intro h2
  .exact tR trivial
  apply tE<;>intro h3
  .exact tl8
  apply tE<;>intro h4
  .exact tl8
  exact tl8
 intro s hs;cases s with
 | L0 _ _=>exact Zaas hs
 | L1 _ _=>exact Zy6 hs
 | L2 _ _=>exact Zy5 hs
 | L3 _ _=>exact Zy4 hs
 | L4 _ _=>exact Zy3 hs
theorem Zazl{a0:Zl}(oa0:Zaa a0):Tot (Zaxj a0) (fun r=>True):=by
 apply tZ;dsimp only [Zamc,LT.den];exact tl22
def Z86(a0:Zl):Zva->Prop
 | .L0 E0=>(E0=a0)/\(Zaa E0)/\(E0.Abilities.length<=8)/\(Zlg E0)
 | .L1 E0 v3 v4=>(E0=a0)/\(Zaa E0)/\(0<=v4)/\(E0.Abilities.length<=8)/\(Zlg E0)
def Z4f:Zva->M6
 | .L0 E0=>(2,0,0,0,0,0)
 | .L1 E0 v3 v4=>(1,((E0.Abilities.length:Int) - v4).toNat,1000000,0,0,0)
theorem Zaat{a0:Zl}{E0:Zl}(h:(Z86 a0) (.L0 E0)):Tot (Zw9 E0).den (Nx (Z86 a0) Z4f (2,0,0,0,0,0) (fun r=>(r=true->a0.Abilities.length<=8)/\(r=true->Zlg a0))):=by
 obtain⟨al0,O0,i0,i1⟩:=h;subst al0;dsimp only [Zw9,LT.den];exact tl72
theorem Za5x{a0:Zl}(oa0:Zaa a0):Tot (Za70 a0) (fun r=>(r=true->a0.Abilities.length<=8)/\(r=true->Zlg a0)):=by
 apply Tot.rn (Z86 a0) Z4f
 .dsimp only [Zaxk,LT.den];refine tB (Zanq (SzS.t oa0.1)) fun x1 h1=>?_;apply tO<;>intro h2
  .exact Zk0
  refine tB (Zz0 a0.Cost) fun x2 h3=>?_;have eh3_0:=h3.1;have eh3_1:=h3.2.1;apply tO<;>intro h4
  .exact Zk0
  refine tB (Za5q oa0.2.1) fun x3 h5=>?_;have eh5_0:=h5;apply tO<;>intro h6
  .exact Zk0
  refine tB (Zans) fun x4 h7=>?_;apply tO<;>intro h8
  .exact Zk0
  apply tD<;>intro h9
  .exact Zk0
  apply tD<;>intro h10
  .exact Zk0
  apply tD<;>intro h11
  .exact Zk0
  apply tD<;>intro h12
  .exact Zk0
  apply tD<;>intro h13
  .exact Zk0
  apply tD<;>intro h14
  .exact Zk0
  refine tB (Zajp oa0) fun x5 h15=>?_;apply tO<;>intro h16
  .apply tN<;>intro h17
   .exact Zk0
   apply tN<;>intro h18
   .exact Zk0
   have q1:=oa0.2.2.1;apply tD<;>intro h19
   .exact Zk0
   exact tl47
  have q1:=oa0.2.2.1;apply tD<;>intro h17
  .exact Zk0
  exact tl47
 intro s hs;cases s with
 | L0 _=>exact Zaat hs
 | L1 E0 v3 v4=>
  obtain⟨al0,O0,cv4,i0,i1⟩:=hs;subst al0;dsimp only [Zaiy,Zarr,LT.den,Z4f];apply tD<;>intro h1
  .refine Tot.ix fun x1 h2=>?_;have oh2:Zv x1:=O0.2.2.2 x1 h2.1;refine tB (Zz1 oh2) fun x2 h3=>?_;apply tO<;>intro h4
   .exact Zk0
   apply tE<;>intro h5
   .have q1:=wr (v3+1);have q2:=wr (v4+1);exact tl72
   have q1:=wr (v4+1);exact tl72
  refine tB (Zazl O0) fun x1 h2=>?_;apply tF<;>intro h3
  .apply tO<;>intro h4
   .apply tE<;>intro h5
    .exact Zbdl
    exact Zk0
   exact Zk0
  apply tE<;>intro h4
  .apply tO<;>intro h5
   .exact Zbdl
   exact Zk0
  exact Zk0
def Zazm:Ztm->Prop
 | .L0 v0 v1 v5=>((SzL 176 Zaa) v0)/\(SzT v1)/\(0<=v5)
def Z5t:Ztm->M6
 | .L0 v0 v1 v5=>(1,((v0.length:Int) - v5).toNat,1000000,0,0,0)
theorem Zazn{a0:List Zl}{a1:List UInt8}(oa0:(SzL 176 Zaa) a0)(oa1:SzT a1):Tot (Zaxl a0 a1) (fun r=>True):=by
 apply Tot.rn Zazm Z5t
 .dsimp only [Zame,LT.den];exact tL ⟨oa0,oa1,cl⟩ (by unfold Z5t lt6;dsimp only;omega)
 rintro ⟨v0,v1,v5⟩ ⟨ov0,ov1,cv5⟩;have lb_v0:=ov0.1;dsimp only [Z8e,Zagt,LT.den];apply tD<;>intro h1
 .refine Tot.ix fun x1 h2=>?_;apply tF<;>intro h3
  .exact tR trivial
  have q1:=wr (v5+1);exact tL ⟨ov0,ov1,cl⟩ (by unfold Z5t lt6;dsimp only;omega)
 exact tR trivial
def Zatm:Zqz->Prop
 | .L0 v0 v1 v5=>((SzL 176 Zaa) v0)/\(SzT v1)/\(0<=v5)
def Z1z:Zqz->M6
 | .L0 v0 v1 v5=>(1,((v0.length:Int) - v5).toNat,1000000,0,0,0)
theorem Zatn{a0:List Zl}{a1:List UInt8}(oa0:(SzL 176 Zaa) a0)(oa1:SzT a1):Tot (Zars a0 a1) (fun r=>True):=by
 apply Tot.rn Zatm Z1z
 .dsimp only [Zagu,LT.den];exact tL ⟨oa0,oa1,cl⟩ (by unfold Z1z lt6;dsimp only;omega)
 rintro ⟨v0,v1,v5⟩ ⟨ov0,ov1,cv5⟩;have lb_v0:=ov0.1;dsimp only [Z44,Zacg,LT.den];apply tD<;>intro h1
 .refine Tot.ix fun x1 h2=>?_;apply tF<;>intro h3
  .apply tF<;>intro h4
   .exact tR trivial
   exact tl55
  exact tl55
 exact tR trivial
def Zanx:Zj3->Prop
 | .L0 v0 E0 v5=>((SzL 176 Zaa) v0)/\(Zaa E0)/\(0<=v5)
 | .L1 v0 E0 v5 v6=>((SzL 176 Zaa) v0)/\(Zaa E0)/\(0<=v5)/\(0<=v6)/\(v5 < (E0.Abilities.length:Int))/\(v5 < (E0.Abilities.length:Int))
def Z7f:Zj3->M6
 | .L0 v0 E0 v5=>(1,((E0.Abilities.length:Int) - v5).toNat,1000000,0,0,0)
 | .L1 v0 E0 v5 v6=>(1,((E0.Abilities.length:Int) - v5).toNat,1,((((E0.Abilities[v5.toNat]?).map fun x=>x.Effects.length).getD 0:Nat) - v6).toNat,1000000,0)
theorem Zany{a0:List Zl}{a1:Zl}(oa0:(SzL 176 Zaa) a0)(oa1:Zaa a1):Tot (Zagv a0 a1) (fun r=>True):=by
 apply Tot.rn Zanx Z7f
 .dsimp only [Z9m,LT.den];exact tL ⟨oa0,oa1,cl⟩ Za5l
 intro s hs;cases s with
 | L0 v0 E0 v5=>
  obtain⟨ov0,O0,cv5⟩:=hs;dsimp only [Zrn,Z6n,LT.den];apply tD<;>intro h1
  .exact tl39
  exact tR trivial
 | L1 v0 E0 v5 v6=>
  obtain⟨ov0,O0,cv5,cv6,bd4,i0⟩:=hs;dsimp only [Zrn,Z6o,LT.den];have lx_0:E0.Abilities.length*640<=140737488351232:=O0.2.2.1;refine Tot.ix fun x1 h1=>?_;have oh1:Zv x1:=O0.2.2.2 x1 h1.1;have mh1:((E0.Abilities[v5.toNat]?).map fun x=>x.Effects.length).getD 0=x1.Effects.length:=by rw [h1.2];rfl
  have q1:=oh1.2.2.2.2.1.1;apply tD<;>intro h2
  .refine Tot.ix fun x2 h3=>?_;have oh3:Zab x2:=oh1.2.2.2.2.1.2 x2 h3.1;apply tE<;>intro h4
   .refine tB (Zatn ov0 (SzS.t oh3.2.2.1)) fun x3 h5=>?_;apply tO<;>intro h6
    .exact tR trivial
    exact tl60
   exact tl60
  have q2:=wr (v5+1);exact tL ⟨ov0,O0,cl⟩ Za5l
abbrev Zap9(a0:List Zl)(r:Int×Int):Prop:=(r.2=0->∀ c,c∈a0->c.Abilities.length<=8)/\(r.2=0->∀ c,c∈a0->Zlg c)
def Zato(a0:List Zl):Zq0->Prop
 | .L0 v0 v4=>(v0=a0)/\((SzL 176 Zaa) v0)/\(0<=v4)/\(∀ (k:Nat) c,(k:Int) < v4->v0[k]?=some c->c.Abilities.length<=8)/\(∀ (k:Nat) x,(k:Int) < v4->v0[k]?=some x->Zlg x)
def Z10:Zq0->M6
 | .L0 v0 v4=>(1,((v0.length:Int) - v4).toNat,1000000,0,0,0)
theorem Zatp{a0:List Zl}(oa0:(SzL 176 Zaa) a0):Tot (Zart a0) (Zap9 a0):=by
 apply Tot.rn (Zato a0) Z10
 .dsimp only [Zagw,LT.den];apply tD<;>intro h1
  .exact Zanl
  exact tL ⟨rfl,oa0,cl,tk34,tk55⟩ (by unfold Z10 lt6;dsimp only;omega)
 rintro ⟨v0,v4⟩ ⟨al0,ov0,cv4,i0,i1⟩;have lb_v0:=ov0.1;subst al0;dsimp only [Z45,Zach,LT.den];apply tD<;>intro h1
 .refine Tot.ix fun x1 h2=>?_;have oh2:Zaa x1:=ov0.2 x1 h2.1;have mh2:=h2.2;refine tB (Za5x oh2) fun x2 h3=>?_;have eh3_0:=h3.1;have eh3_1:=h3.2;apply tO<;>intro h4
  .exact Zanl
  have h4_0:=eh3_0 h4;refine tB (Zazn ov0 (SzS.t oh2.1)) fun x3 h5=>?_;apply tD<;>intro h6
  .exact Zanl
  refine tB (Zany ov0 oh2) fun x4 h7=>?_;apply tO<;>intro h8
  .exact Zanl
  have q1:=wr (v4+1);exact tL ⟨rfl,ov0,cl,tk34,tk55⟩ (by unfold Z10 lt6;dsimp only;omega)
 exact Zanl
theorem Zef{a0:Int}{a1:Int}{a2:Int}:Tot (Za72 a0 a1 a2) (fun r=>(r=true↔(a1<=a0/\a0<=a2))):=by
 apply tZ;dsimp only [Zaxo,LT.den];apply tD<;>intro h1
 .exact tR (by grind)
 exact tR (by grind)
def Zatq:Zq1->Prop
 | .L0 E0 v3=>(0<=v3)/\True
def Zad4:Zq1->M6
 | .L0 E0 v3=>(1,(6 - v3).toNat,1000000,0,0,0)
theorem Zatr{a0:A6 Int}:Tot (Zaru a0) (fun r=>True):=by
 apply Tot.rn Zatq Zad4
 .dsimp only [Zagx,LT.den];exact tl30
 rintro ⟨E0,v3⟩ ⟨cv3,_⟩;dsimp only [Z46,Zaci,LT.den];apply tD<;>intro h1
 .refine tB (tI (by omega) Za5i) fun x1 h2=>?_;apply tD<;>intro h3
  .exact tR trivial
  refine tB (tI (by omega) Za5i) fun x2 h4=>?_;apply tD<;>intro h5
  .exact tR trivial
  have q1:=wr (v3+1);exact tl30
 exact tR trivial
def Zats(a0:Zm)(a1:Int):Zq2->Prop
 | .L0 v1 E0 v5=>(E0=a0)/\(v1=a1)/\(Zad E0)/\(0<=v5)/\(NoId E0.Objects v1 v5)
def Z11:Zq2->M6
 | .L0 v1 E0 v5=>(1,((E0.Objects.length:Int) - v5).toNat,1000000,0,0,0)
theorem Zatt{a0:Zm}{a1:Int}(oa0:Zad a0):Tot (Zarv a0 a1) (fun r=>(r < (a0.Objects.length:Int))/\(r=ixO a0.Objects a1)):=by
 apply Tot.rn (Zats a0 a1) Z11
 .dsimp only [Zagy,LT.den];exact tL ⟨rfl,rfl,oa0,cl,tk46⟩ (by unfold Z11 lt6;dsimp only;omega)
 rintro ⟨v1,E0,v5⟩ ⟨al0,al1,O0,cv5,i0⟩;subst al0;subst al1;dsimp only [Z47,Zacj,LT.den];have q1:=O0.2.1.1;apply tD<;>intro h1
 .refine Tot.ix fun x1 h2=>?_;have mh2:=h2.2;apply tE<;>intro h3
  .exact tl91
  have q2:=wr (v5+1);exact tL ⟨rfl,rfl,O0,cl,tk46⟩ (by unfold Z11 lt6;dsimp only;omega)
 exact tl91
theorem Zazo{a0:Zm}{a1:Int}(oa0:Zad a0):Tot (Zaxs a0 a1) (fun r=>(r=fdV a0.Objects a1)):=by
 apply tZ;dsimp only [Zamf,LT.den];refine tB (Zatt oa0) fun x1 h1=>?_;have eh1_0:=h1.1;have eh1_1:=h1.2;apply tD<;>intro h2
 .exact tl71
 refine Tot.ix fun x2 h3=>?_;have mh3:=h3.2;exact tl71
theorem Z7g{a0:Zm}{a1:Int}(oa0:Zad a0):Tot (Zamh a0 a1) (fun r=>True):=by
 apply tZ;dsimp only [Zack,LT.den];exact tB (Zazo oa0) fun x1 h1=>tR trivial
def Zatu:Zq3->Prop
 | .L0 v0 v1 v5 v6=>((SzL 8 (fun _=>True)) v0)/\(0<=v6)
def Z12:Zq3->M6
 | .L0 v0 v1 v5 v6=>(1,((v0.length:Int) - v6).toNat,1000000,0,0,0)
theorem Zy7{a0:List Int}{a1:Int}(oa0:(SzL 8 (fun _=>True)) a0):Tot (Zarw a0 a1) (fun r=>True):=by
 apply Tot.rn Zatu Z12
 .dsimp only [Zagz,LT.den];exact tL ⟨oa0,cl⟩ (by unfold Z12 lt6;dsimp only;omega)
 rintro ⟨v0,v1,v5,v6⟩ ⟨ov0,cv6⟩;have lb_v0:=ov0.1;dsimp only [Z48,Zacm,LT.den];apply tD<;>intro h1
 .refine Tot.ix fun x1 h2=>?_;apply tE<;>intro h3
  .have q1:=wr (v5+1);have q2:=wr (v6+1);exact tl27
  have q1:=wr (v6+1);exact tl27
 exact tR trivial
def Zazp:Ztn->Prop
 | .L0 v1 v2 v3 E0 v9=>((SzL 8 (fun _=>True)) v1)/\(Zad E0)/\(0<=v9)
def Z5u:Ztn->M6
 | .L0 v1 v2 v3 E0 v9=>(1,((v1.length:Int) - v9).toNat,1000000,0,0,0)
theorem Zpk{a0:Zm}{a1:List Int}{a2:Int}{a3:Int}(oa0:Zad a0)(oa1:(SzL 8 (fun _=>True)) a1):Tot (Zaxt a0 a1 a2 a3) (fun r=>True):=by
 apply Tot.rn Zazp Z5u
 .dsimp only [Zami,LT.den];exact tL ⟨oa1,oa0,cl⟩ (by unfold Z5u lt6;dsimp only;omega)
 rintro ⟨v1,v2,v3,E0,v9⟩ ⟨ov1,O0,cv9⟩;have lb_v1:=ov1.1;dsimp only [Z8f,Zag0,LT.den];apply tD<;>intro h1
 .refine Tot.ix fun x1 h2=>tB (Z7g O0) fun x2 h3=>?_;apply tO<;>intro h4
  .exact tR trivial
  apply tN<;>intro h5
  .exact tR trivial
  apply tD<;>intro h6
  .apply tN<;>intro h7
   .exact tR trivial
   refine tB (Zy7 ov1) fun x3 h8=>?_;apply tN<;>intro h9
   .exact tR trivial
   exact tl58
  refine tB (Zy7 ov1) fun x3 h7=>?_;apply tN<;>intro h8
  .exact tR trivial
  exact tl58
 exact tR trivial
def Zanz:Zm9->Prop
 | .L0 E0 v3=>(Zad E0)/\(0<=v3)
def Zvt:Zm9->M6
 | .L0 E0 v3=>(1,((E0.Players.length:Int) - v3).toNat,1000000,0,0,0)
theorem Zan0{a0:Zm}(oa0:Zad a0):Tot (Zag1 a0) (fun r=>True):=by
 apply Tot.rn Zanz Zvt
 .dsimp only [Z9o,LT.den];have q1:=oa0.1.1;refine tB (Zef) fun x1 h1=>?_;apply tO<;>intro h2
  .exact tR trivial
  exact tL ⟨oa0,cl⟩ (by unfold Zvt lt6;dsimp only;omega)
 rintro ⟨E0,v3⟩ ⟨O0,cv3⟩;dsimp only [Zx4,Z6p,LT.den];have q1:=O0.1.1;apply tD<;>intro h1
 .refine Tot.ix fun x1 h2=>?_;have oh2:Zj5 x1:=O0.1.2 x1 h2.1;refine tB (Zef) fun x2 h3=>?_;apply tO<;>intro h4
  .exact tR trivial
  refine tB (Zef) fun x3 h5=>?_;apply tO<;>intro h6
  .exact tR trivial
  refine tB (Zef) fun x4 h7=>?_;apply tO<;>intro h8
  .exact tR trivial
  refine tB (Zatr) fun x5 h9=>?_;apply tO<;>intro h10
  .exact tR trivial
  refine tB (Zpk O0 oh2.1) fun x6 h11=>?_;apply tO<;>intro h12
  .exact tR trivial
  refine tB (Zpk O0 oh2.2.1) fun x7 h13=>?_;apply tO<;>intro h14
  .exact tR trivial
  refine tB (Zpk O0 oh2.2.2) fun x8 h15=>?_;apply tO<;>intro h16
  .exact tR trivial
  have q2:=wr (v3+1);exact tL ⟨O0,cl⟩ (by unfold Zvt lt6;dsimp only;omega)
 refine tB (Zpk O0 O0.2.2.1) fun x1 h2=>?_;apply tF<;>intro h3
 .exact tB (Zpk O0 O0.2.2.2.1) fun x2 h4=>tR trivial
 exact tR trivial
theorem Zg7{a0:Zm}{a1:Int}(oa0:Zad a0):Tot (Zamj a0 a1) (fun r=>(r=true↔(0<=a1/\a1 < (a0.Players.length:Int)))):=by
 apply tZ;dsimp only [Zacn,LT.den];have q1:=oa0.1.1;have q2:=wr ((a0.Players.length:Int) - 1);exact tB (Zef) fun x1 h1=>tR (by grind)
def Za5y:Z0y->Prop
 | .L0 E0 v3=>(0<=v3)/\True
def Zast:Z0y->M6
 | .L0 E0 v3=>(1,(3 - v3).toNat,1000000,0,0,0)
theorem Za5z{a0:A3 Int}:Tot (Za73 a0) (fun r=>True):=by
 apply Tot.rn Za5y Zast
 .dsimp only [Zaxu,LT.den];exact tl28
 rintro ⟨E0,v3⟩ ⟨cv3,_⟩;dsimp only [Zaiz,Zarx,LT.den];apply tD<;>intro h1
 .refine tB (tI (by omega) (by have e:(A3.list E0).length=3:=rfl;omega)) fun x1 h2=>?_;apply tD<;>intro h3
  .exact tR trivial
  refine tB (tI (by omega) (by have e:(A3.list E0).length=3:=rfl;omega)) fun x2 h4=>?_;apply tD<;>intro h5
  .exact tR trivial
  have q1:=wr (v3+1);exact tl28
 exact tR trivial
theorem Zazq{a0:Zf}:Tot (Zaxv a0) (fun r=>True):=by
 apply tZ;dsimp only [Zamk,LT.den];exact tR trivial
theorem Zatv{a0:Zf}:Tot (Zary a0) (fun r=>True):=by
 apply tZ;dsimp only [Zag2,LT.den];exact tR trivial
theorem Za50{a0:Zf}{a1:Int}{a2:Int}:Tot (Za75 a0 a1 a2) (fun r=>(r=true->1<=a0.Id)):=by
 apply tZ;dsimp only [Zaxx,LT.den];apply tD<;>intro h1
 .exact tl3
 apply tD<;>intro h2
 .exact tl3
 apply tD<;>intro h3
 .exact tl3
 apply tD<;>intro h4
 .exact tl3
 apply tD<;>intro h5
 .exact tl3
 apply tD<;>intro h6
 .exact tl3
 apply tD<;>intro h7
 .exact tl3
 apply tD<;>intro h8
 .exact tl3
 apply tD<;>intro h9
 .exact tl3
 apply tD<;>intro h10
 .exact tl3
 apply tD<;>intro h11
 .exact tl3
 apply tD<;>intro h12
 .exact tl3
 apply tD<;>intro h13
 .exact tl3
 apply tD<;>intro h14
 .exact tl3
 apply tD<;>intro h15
 .exact tl3
 apply tD<;>intro h16
 .exact tl3
 apply tD<;>intro h17
 .exact tl3
 refine tB (Za5z) fun x1 h18=>?_;apply tO<;>intro h19
 .exact tl3
 apply tD<;>intro h20
 .exact tl3
 apply tD<;>intro h21
 .exact tl3
 apply tD<;>intro h22
 .exact tl3
 apply tD<;>intro h23
 .exact tl3
 apply tE<;>intro h24
 .exact tl15
 refine tB (Zazq) fun x2 h25=>?_;apply tF<;>intro h26
 .refine tB (Zatv) fun x3 h27=>?_;apply tF<;>intro h28
  .apply tO<;>intro h29
   .apply tO<;>intro h30
    .exact tl15
    exact tl3
   exact tl3
  exact tl3
 exact tl3
def Zaqa:Zoy->Prop
 | .L0 v1 E0 v5 v6=>(Zad E0)/\(0<=v6)
def Zy8:Zoy->M6
 | .L0 v1 E0 v5 v6=>(1,((E0.Stack.length:Int) - v6).toNat,1000000,0,0,0)
theorem Zaqb{a0:Zm}{a1:Int}(oa0:Zad a0):Tot (Zamm a0 a1) (fun r=>True):=by
 apply Tot.rn Zaqa Zy8
 .dsimp only [Zacp,LT.den];exact tL ⟨oa0,cl⟩ (by unfold Zy8 lt6;dsimp only;omega)
 rintro ⟨v1,E0,v5,v6⟩ ⟨O0,cv6⟩;dsimp only [Z0z,Z9p,LT.den];have q1:=O0.2.2.2.2.1.1;apply tD<;>intro h1
 .refine Tot.ix fun x1 h2=>?_;apply tE<;>intro h3
  .apply tE<;>intro h4
   .have q2:=wr (v5+1);have q3:=wr (v6+1);exact tl34
   exact tl57
  exact tl57
 exact tR trivial
theorem Zpl{a0:List Int}(oa0:(SzL 8 (fun _=>True)) a0):Tot (Zaxz a0) (fun r=>((SzL 8 (fun _=>True)) r)):=by
 apply tZ;have lb_a0:=oa0.1;dsimp only [Zamn,LT.den];refine Tot.ap fun x1 h1=>?_;have lh1:x1.length=([]:List Int).length+a0.length:=by rw [h1,List.length_append]
 try simp only [List.length_cons,List.length_nil,Nat.zero_add] at lh1
 exact tR SzL.tr
theorem Zazr{a0:Zm}{a1:Int}{a2:Int}(oa0:Zad a0):Tot (Zai0 a0 a1 a2) (fun r=>((SzL 8 (fun _=>True)) r)):=by
 apply tZ;dsimp only [Zamp,LT.den];apply tE<;>intro h1
 .exact tB (Zpl oa0.2.2.1) fun x1 h2=>tR h2
 apply tE<;>intro h2
 .exact tB (Zpl oa0.2.2.2.1) fun x1 h3=>tR h3
 apply tD<;>intro h3
 .exact tR SzL.nil
 apply tD<;>intro h4
 .exact tR SzL.nil
 apply tE<;>intro h5
 .refine Tot.ix fun x1 h6=>?_;have oh6:Zj5 x1:=oa0.1.2 x1 h6.1;exact tB (Zpl oh6.2.1) fun x2 h7=>tR h7
 apply tE<;>intro h6
 .refine Tot.ix fun x1 h7=>?_;have oh7:Zj5 x1:=oa0.1.2 x1 h7.1;exact tB (Zpl oh7.1) fun x2 h8=>tR h8
 apply tE<;>intro h7
 .refine Tot.ix fun x1 h8=>?_;have oh8:Zj5 x1:=oa0.1.2 x1 h8.1;exact tB (Zpl oh8.2.2) fun x2 h9=>tR h9
 exact tR SzL.nil
theorem Z7h{a0:Zm}{a1:Zf}(oa0:Zad a0):Tot (Zamr a0 a1) (fun r=>True):=by
 apply tZ;dsimp only [Zacq,LT.den];apply tE<;>intro h1
 .exact tB (Zaqb oa0) fun x1 h2=>tR trivial
 exact tB (Zazr oa0) fun x1 h2=>tB (Zy7 h2) fun x2 h3=>tR trivial
def Zan1(a0:List Zl)(a1:Zm):Zna->Prop
 | .L0 v0 E0 v5=>(v0=a0)/\(E0=a1)/\((SzL 176 Zaa) v0)/\(Zad E0)/\(0<=v5)/\(Z8t E0.Objects v5)
def Zvu:Zna->M6
 | .L0 v0 E0 v5=>(1,((E0.Objects.length:Int) - v5).toNat,1000000,0,0,0)
theorem Zoe{a0:List Zl}{a1:Zm}(oa0:(SzL 176 Zaa) a0)(oa1:Zad a1):Tot (Zag4 a0 a1) (fun r=>(r=true->Ids a1.Objects)/\(r=true->Zd4 a1.Objects)):=by
 apply Tot.rn (Zan1 a0 a1) Zvu
 .dsimp only [Z9r,LT.den];have q1:=oa1.2.1.1;apply tD<;>intro h1
  .exact Z36
  exact tL ⟨rfl,rfl,oa0,oa1,cl,tk11⟩ (by unfold Zvu lt6;dsimp only;omega)
 rintro ⟨v0,E0,v5⟩ ⟨al0,al1,ov0,O0,cv5,i0⟩;subst al0;subst al1;dsimp only [Zx5,Z6q,LT.den];have q1:=O0.2.1.1;apply tD<;>intro h1
 .refine Tot.ix fun x1 h2=>?_;have mh2:=h2.2;refine tB (Za50) fun x2 h3=>?_;have eh3_0:=h3;apply tO<;>intro h4
  .exact Z36
  have h4_0:=eh3_0 h4;apply tD<;>intro h5
  .exact Z36
  apply tD<;>intro h6
  .exact Z36
  apply tD<;>intro h7
  .have q2:=wr (v5 - 1);refine Tot.ix fun x3 h8=>?_;have mh8:=h8.2;apply tD<;>intro h9
   .exact Z36
   refine tB (Z7h O0) fun x4 h10=>?_;apply tO<;>intro h11
   .exact Z36
   have q3:=wr (v5+1);exact Zbdp
  refine tB (Z7h O0) fun x3 h8=>?_;apply tO<;>intro h9
  .exact Z36
  have q2:=wr (v5+1);exact Zbdp
 exact Z36
def Zajw:Zlo->Prop
 | .L0 v0 v1 v5=>((SzL 176 Z5) v0)/\((SzL 176 Z5) v1)/\(0<=v5)/\(v0.length=v1.length)
def Zue:Zlo->M6
 | .L0 v0 v1 v5=>(1,((v0.length:Int) - v5).toNat,1000000,0,0,0)
theorem Z13{a0:List Zc}{a1:List Zc}(oa0:(SzL 176 Z5) a0)(oa1:(SzL 176 Z5) a1):Tot (Zacs a0 a1) (fun r=>True):=by
 apply Tot.rn Zajw Zue
 .dsimp only [Z6r,LT.den];apply tN<;>intro h1
  .exact tR trivial
  exact tL ⟨oa0,oa1,cs⟩ (by unfold Zue lt6;dsimp only;omega)
 rintro ⟨v0,v1,v5⟩ ⟨ov0,ov1,cv5,i0⟩;have lb_v0:=ov0.1;dsimp only [Zvb,Z3c,LT.den];apply tD<;>intro h1
 .refine Tot.ix fun x1 h2=>Tot.ix fun x2 h3=>?_;apply tO<;>intro h4
  .exact tR trivial
  have q1:=wr (v5+1);exact tL ⟨ov0,ov1,cs⟩ (by unfold Zue lt6;dsimp only;omega)
 exact tR trivial
theorem Zazs{a0:Zs}{a1:Zs}(oa0:Zab a0)(oa1:Zab a1):Tot (Zax1 a0 a1) (fun r=>True):=by
 apply tZ;dsimp only [Zams,LT.den];apply tE<;>intro h1
 .apply tF<;>intro h2
  .apply tF<;>intro h3
   .apply tE<;>intro h4
    .apply tE<;>intro h5
     .apply tF<;>intro h6
      .apply tF<;>intro h7
       .apply tF<;>intro h8
        .exact tB (Z13 oa0.2.2.2.2 oa1.2.2.2.2) fun x1 h9=>tR trivial
        exact tR trivial
       exact tR trivial
      exact tR trivial
     exact tR trivial
    exact tR trivial
   exact tR trivial
  exact tR trivial
 exact tR trivial
def Zajx:Zlp->Prop
 | .L0 v0 v1 v5=>((SzL 560 Zab) v0)/\((SzL 560 Zab) v1)/\(0<=v5)/\(v0.length=v1.length)
def Zuf:Zlp->M6
 | .L0 v0 v1 v5=>(1,((v0.length:Int) - v5).toNat,1000000,0,0,0)
theorem Zajy{a0:List Zs}{a1:List Zs}(oa0:(SzL 560 Zab) a0)(oa1:(SzL 560 Zab) a1):Tot (Zact a0 a1) (fun r=>True):=by
 apply Tot.rn Zajx Zuf
 .dsimp only [Z6s,LT.den];apply tN<;>intro h1
  .exact tR trivial
  exact tL ⟨oa0,oa1,cs⟩ (by unfold Zuf lt6;dsimp only;omega)
 rintro ⟨v0,v1,v5⟩ ⟨ov0,ov1,cv5,i0⟩;have lb_v0:=ov0.1;dsimp only [Zvc,Z3e,LT.den];apply tD<;>intro h1
 .refine Tot.ix fun x1 h2=>?_;have oh2:Zab x1:=ov0.2 x1 h2.1;refine Tot.ix fun x2 h3=>?_;have oh3:Zab x2:=ov1.2 x2 h3.1;refine tB (Zazs oh2 oh3) fun x3 h4=>?_;apply tO<;>intro h5
  .exact tR trivial
  have q1:=wr (v5+1);exact tL ⟨ov0,ov1,cs⟩ (by unfold Zuf lt6;dsimp only;omega)
 exact tR trivial
def Zazt:Zto->Prop
 | .L0 E0 E1 v5=>(Zv E0)/\(Zv E1)/\(0<=v5)/\(E0.Specs.length=E1.Specs.length)
def Z5v:Zto->M6
 | .L0 E0 E1 v5=>(1,((E0.Specs.length:Int) - v5).toNat,1000000,0,0,0)
theorem Zazu{a0:Zd}{a1:Zd}(oa0:Zv a0)(oa1:Zv a1):Tot (Zax2 a0 a1) (fun r=>True):=by
 apply Tot.rn Zazt Z5v
 .dsimp only [Zamv,LT.den];have q1:=oa0.2.2.2.1.1;apply tN<;>intro h1
  .exact tR trivial
  exact tL ⟨oa0,oa1,cs⟩ (by unfold Z5v lt6;dsimp only;omega)
 rintro ⟨E0,E1,v5⟩ ⟨O0,O1,cv5,i0⟩;dsimp only [Z8g,Zag5,LT.den];have q1:=O0.2.2.2.1.1;apply tD<;>intro h1
 .refine Tot.ix fun x1 h2=>Tot.ix fun x2 h3=>?_;apply tO<;>intro h4
  .exact tR trivial
  have q2:=wr (v5+1);exact tL ⟨O0,O1,cs⟩ (by unfold Z5v lt6;dsimp only;omega)
 apply tE<;>intro h2
 .apply tF<;>intro h3
  .refine tB (Z13 O0.2.1 O1.2.1) fun x1 h4=>?_;apply tF<;>intro h5
   .apply tF<;>intro h6
    .apply tF<;>intro h7
     .apply tF<;>intro h8
      .apply tF<;>intro h9
       .refine tB (Zajy O0.2.2.2.2.1 O1.2.2.2.2.1) fun x2 h10=>?_;apply tF<;>intro h11
        .exact tR trivial
        exact tR trivial
       exact tR trivial
      exact tR trivial
     exact tR trivial
    exact tR trivial
   exact tR trivial
  exact tR trivial
 exact tR trivial
theorem Zazv{a0:Zm}{a1:Zmv}(oa0:Zad a0)(oa1:Zwb a1):Tot (Zax3 a0 a1) (fun r=>True):=by
 apply tZ;dsimp only [Zamw,LT.den];have q1:=wr (a0.NextId - 1);refine tB (Zef) fun x1 h1=>?_;apply tO<;>intro h2
 .exact tR trivial
 refine tB (Zef) fun x2 h3=>?_;apply tO<;>intro h4
 .exact tR trivial
 apply tD<;>intro h5
 .exact tR trivial
 refine tB (Zg7 oa0) fun x3 h6=>?_;apply tO<;>intro h7
 .exact tR trivial
 refine tB (Z7g oa0) fun x4 h8=>?_;apply tE<;>intro h9
 .refine tB (Zazu oa1.1 ⟨SzS.nil,SzL.nil,SzS.nil,SzL.nil,SzL.nil,SzS.nil⟩) fun x5 h10=>?_;apply tE<;>intro h11
  .apply tF<;>intro h12
   .apply tE<;>intro h13
    .apply tF<;>intro h14
     .exact tR trivial
     exact tB (Zz1 oa1.1) fun x6 h15=>tR trivial
    exact tR trivial
   exact tR trivial
  exact tR trivial
 apply tE<;>intro h10
 .apply tO<;>intro h11
  .exact tB (Zz1 oa1.1) fun x5 h12=>tR trivial
  exact tR trivial
 exact tR trivial
def Za51:Z00->Prop
 | .L0 v0 v3=>((SzL 8 (fun _=>True)) v0)/\(0<=v3)/\(1<=v3)
def Zad5:Z00->M6
 | .L0 v0 v3=>(1,((v0.length:Int) - v3).toNat,1000000,0,0,0)
theorem Za52{a0:List Int}(oa0:(SzL 8 (fun _=>True)) a0):Tot (Za77 a0) (fun r=>True):=by
 apply Tot.rn Za51 Zad5
 .dsimp only [Zax4,LT.den];exact tL ⟨oa0,cs⟩ (by unfold Zad5 lt6;dsimp only;omega)
 rintro ⟨v0,v3⟩ ⟨ov0,cv3,i0⟩;have lb_v0:=ov0.1;dsimp only [Zai1,Zarz,LT.den];apply tD<;>intro h1
 .have q1:=wr (v3 - 1);refine Tot.ix fun x1 h2=>Tot.ix fun x2 h3=>?_;apply tD<;>intro h4
  .exact tR trivial
  have q2:=wr (v3+1);exact tL ⟨ov0,cs⟩ (by unfold Zad5 lt6;dsimp only;omega)
 exact tR trivial
def Zatw(a0:Zm):Zi6->Prop
 | .L0 E0 v3=>(E0=a0)/\(Zad E0)/\(0<=v3)/\(E0.Conts.length<=64)
 | .L1 E0 v3 v4=>(E0=a0)/\(Zad E0)/\(0<=v4)/\(0<=v3)/\(v3 < (E0.Stack.length:Int))/\(E0.Conts.length<=64)
 | .L2 E0 v5=>(E0=a0)/\(Zad E0)/\(0<=v5)/\(E0.Conts.length<=64)
 | .L3 E0 v7=>(E0=a0)/\(Zad E0)/\(0<=v7)/\(E0.Conts.length<=64)
def Z14:Zi6->M6
 | .L0 E0 v3=>(5,((E0.Stack.length:Int) - v3).toNat,1000000,0,0,0)
 | .L1 E0 v3 v4=>(5,((E0.Stack.length:Int) - v3).toNat,1,(v3 - v4).toNat,1000000,0)
 | .L2 E0 v5=>(3,((E0.Waiting.length:Int) - v5).toNat,1000000,0,0,0)
 | .L3 E0 v7=>(1,((E0.Conts.length:Int) - v7).toNat,1000000,0,0,0)
theorem Zrr{a0:Zm}(oa0:Zad a0):Tot (Zar0 a0) (fun r=>(r=true->a0.Conts.length<=64)):=by
 apply Tot.rn (Zatw a0) Z14
 .dsimp only [Zag6,LT.den];have q1:=oa0.2.2.2.2.1.1;apply tD<;>intro h1
  .exact Ziy
  apply tD<;>intro h2
  .exact Ziy
  have q2:=oa0.2.2.2.2.2.2.1.1;apply tD<;>intro h3
  .exact Ziy
  exact tL ⟨rfl,oa0,cs⟩ (by unfold Z14 lt6;dsimp only;omega)
 intro s hs;cases s with
 | L0 E0 v3=>
  obtain⟨al0,O0,cv3,i0⟩:=hs;subst al0;dsimp only [Znz,Zacu,LT.den];have q1:=O0.2.2.2.2.1.1;apply tD<;>intro h1
  .refine Tot.ix fun x1 h2=>?_;have oh2:Zwb x1:=O0.2.2.2.2.1.2 x1 h2.1;refine tB (Zazv O0 oh2) fun x2 h3=>?_;apply tO<;>intro h4
   .exact Ziy
   exact tl37
  exact tl37
 | L1 E0 v3 v4=>
  obtain⟨al0,O0,cv4,cv3,bd4,i0⟩:=hs;subst al0;dsimp only [Znz,Zacv,LT.den];have lx_0:E0.Stack.length*824<=140737488351232:=O0.2.2.2.2.1.1;apply tD<;>intro h1
  .refine Tot.ix fun x1 h2=>Tot.ix fun x2 h3=>?_;apply tE<;>intro h4
   .exact Ziy
   have q1:=wr (v4+1);exact tl37
  have q1:=wr (v3+1);exact tl37
 | L2 E0 v5=>
  obtain⟨al0,O0,cv5,i0⟩:=hs;subst al0;dsimp only [Znz,Zacw,LT.den];have q1:=O0.2.2.2.2.2.1.1;apply tD<;>intro h1
  .refine Tot.ix fun x1 h2=>?_;have oh2:Zvr x1:=O0.2.2.2.2.2.1.2 x1 h2.1;refine tB (Zg7 O0) fun x2 h3=>?_;apply tO<;>intro h4
   .exact Ziy
   apply tN<;>intro h5
   .exact Ziy
   refine tB (Zz1 oh2) fun x3 h6=>?_;apply tO<;>intro h7
   .exact Ziy
   have q2:=wr (v5+1);exact tl37
  exact tl37
 | L3 E0 v7=>
  obtain⟨al0,O0,cv7,i0⟩:=hs;subst al0;dsimp only [Znz,Zacx,LT.den];have q1:=O0.2.2.2.2.2.2.1.1;apply tD<;>intro h1
  .refine Tot.ix fun x1 h2=>?_;have oh2:Zre x1:=O0.2.2.2.2.2.2.1.2 x1 h2.1;refine tB (Zg7 O0) fun x2 h3=>?_;apply tO<;>intro h4
   .exact Ziy
   apply tD<;>intro h5
   .exact Ziy
   refine tB (Zef) fun x3 h6=>?_;apply tO<;>intro h7
   .exact Ziy
   refine tB (Za52 oh2.1) fun x4 h8=>?_;apply tO<;>intro h9
   .exact Ziy
   refine tB (Zsc oh2.2) fun x5 h10=>?_;apply tF<;>intro h11
   .exact Ziy
   have q2:=wr (v7+1);exact tl37
  exact Ziy
abbrev Za1e(a0:List Zl)(a1:Zm)(r:Bool):Prop:=(r=true->a1.Objects.length<=2048/\a1.Conts.length<=64)/\(r=true->Zd4 a1.Objects)
def Za53(a0:List Zl)(a1:Zm):Z01->Prop
 | .L0 v0 E0 v5=>(v0=a0)/\(E0=a1)/\((SzL 176 Zaa) v0)/\(Zad E0)/\(0<=v5)/\(E0.Objects.length<=2048)
def Zad6:Z01->M6
 | .L0 v0 E0 v5=>(1,((E0.Extra.length:Int) - v5).toNat,1000000,0,0,0)
theorem Za54{a0:List Zl}{a1:Zm}(oa0:(SzL 176 Zaa) a0)(oa1:Zad a1):Tot (Za79 a0 a1) (Za1e a0 a1):=by
 apply Tot.rn (Za53 a0 a1) Zad6
 .dsimp only [Zax5,LT.den];refine tB (Zef) fun x1 h1=>?_;apply tO<;>intro h2
  .exact Ziz
  refine tB (Zef) fun x2 h3=>?_;apply tO<;>intro h4
  .exact Ziz
  refine tB (Zef) fun x3 h5=>?_;apply tO<;>intro h6
  .exact Ziz
  refine tB (Zef) fun x4 h7=>?_;apply tO<;>intro h8
  .exact Ziz
  have q1:=oa1.2.1.1;apply tD<;>intro h9
  .exact Ziz
  refine tB (Zan0 oa1) fun x5 h10=>?_;apply tO<;>intro h11
  .exact Ziz
  refine tB (Zg7 oa1) fun x6 h12=>?_;apply tO<;>intro h13
  .exact Ziz
  refine tB (Zg7 oa1) fun x7 h14=>?_;have eh14_0:=h14;apply tO<;>intro h15
  .exact Ziz
  refine tB (Zef) fun x8 h16=>?_;apply tO<;>intro h17
  .exact Ziz
  apply tD<;>intro h18
  .exact Ziz
  refine tB (Zef) fun x9 h19=>?_;apply tO<;>intro h20
  .exact Ziz
  exact tL ⟨rfl,rfl,oa0,oa1,cs⟩ (by unfold Zad6 lt6;dsimp only;omega)
 rintro ⟨v0,E0,v5⟩ ⟨al0,al1,ov0,O0,cv5,i0⟩;subst al0;subst al1;dsimp only [Zai2,Zar1,LT.den];have q1:=O0.2.2.2.2.2.2.2.1;apply tD<;>intro h1
 .refine Tot.ix fun x1 h2=>tB (Zg7 O0) fun x2 h3=>?_;apply tO<;>intro h4
  .exact Ziz
  have q2:=wr (v5+1);exact tL ⟨rfl,rfl,ov0,O0,cs⟩ (by unfold Zad6 lt6;dsimp only;omega)
 apply tE<;>intro h2
 .refine tB (Zg7 O0) fun x1 h3=>?_;apply tO<;>intro h4
  .exact Ziz
  apply tN<;>intro h5
  .apply tN<;>intro h6
   .exact Ziz
   refine tB (Zoe ov0 O0) fun x2 h7=>?_;have eh7_0:=h7.1;have eh7_1:=h7.2;apply tF<;>intro h8
   .have h8_1:=eh7_1 h8;exact tB (Zrr O0) fun x3 h9=>tR ⟨tk74,tk80⟩
   exact Ziz
  refine tB (Zoe ov0 O0) fun x2 h6=>?_;have eh6_0:=h6.1;have eh6_1:=h6.2;apply tF<;>intro h7
  .have h7_1:=eh6_1 h7;exact tB (Zrr O0) fun x3 h8=>tR ⟨tk74,tk80⟩
  exact Ziz
 apply tN<;>intro h3
 .apply tN<;>intro h4
  .exact Ziz
  refine tB (Zoe ov0 O0) fun x1 h5=>?_;have eh5_0:=h5.1;have eh5_1:=h5.2;apply tF<;>intro h6
  .have h6_1:=eh5_1 h6;exact tB (Zrr O0) fun x2 h7=>tR ⟨tk74,tk80⟩
  exact Ziz
 refine tB (Zoe ov0 O0) fun x1 h4=>?_;have eh4_0:=h4.1;have eh4_1:=h4.2;apply tF<;>intro h5
 .have h5_1:=eh4_1 h5;exact tB (Zrr O0) fun x2 h6=>tR ⟨tk74,tk80⟩
 exact Ziz
theorem Zatx{a0:List Zl}{a1:Zm}(oa0:(SzL 176 Zaa) a0)(oa1:Zad a1):Tot (Zar2 a0 a1) (fun r=>(r=true->a1.Objects.length<=2048/\a1.Conts.length<=64/\∀ c,c∈a0->c.Abilities.length<=8)/\(r=true->Zd4 a1.Objects)/\(r=true->∀ c,c∈a0->Zlg c)):=by
 apply tZ;dsimp only [Zag7,LT.den];refine tB (Zatp oa0) fun x1 h1=>?_;apply tE<;>intro h2
 .refine tB (Za54 oa0 oa1) fun x2 h3=>?_;have eh3_1:=h3.2;exact Zbde
 exact Zbde
def Za1f(a0:Zt):Zo0->Prop
 | .L0 E0 v6 v7=>(E0=a0)/\(0<=v7)/\(v6=E0.Color)/\(∀ (k:Nat) x,(k:Int) < v7->(A5.list E0.Color)[k]?=some x->0<=x/\x<=9)
def Zan2:Zo0->M6
 | .L0 E0 v6 v7=>(1,(5 - v7).toNat,1000000,0,0,0)
theorem Za1g{a0:Zt}:Tot (Zaes a0) (fun r=>(r=Zyj a0)):=by
 apply Tot.rn (Za1f a0) Zan2
 .dsimp only [Zacy,LT.den];exact Zbdd
 rintro ⟨E0,v6,v7⟩ ⟨al0,cv7,i0,i1⟩;subst al0;dsimp only [Zsp,Zpz,LT.den];apply tD<;>intro h1
 .refine tB (tI (by omega) (by have e:(A5.list v6).length=5:=rfl;omega)) fun x1 h2=>?_;have mh2:=h2.2;rw [i0] at mh2;apply tD<;>intro h3
  .exact tl70
  apply tD<;>intro h4
  .exact tl70
  have q1:=wr (v7+1);exact Zbdd
 apply tD<;>intro h2
 .apply tD<;>intro h3
  .apply tD<;>intro h4
   .exact tl70
   exact tl70
  exact tl70
 exact tl70
def Zan3(a0:Zt):Znb->Prop
 | .L0 v3 v16 v17=>(0<=v17)/\(v17<=5)/\(v16=a0.Color)/\(Zyj a0=true)/\(v3=coP v16 v17)
def Z7i:Znb->M6
 | .L0 v3 v16 v17=>(1,(5 - v17).toNat,1000000,0,0,0)
theorem Zan4{a0:Zt}:Tot (Zaha a0) (fun r=>(r=coV a0)):=by
 apply Tot.rn (Zan3 a0) Z7i
 .dsimp only [Z9s,LT.den];refine tB (Za1g) fun x1 h1=>?_;apply tO<;>intro h2
  .exact Za4t
  apply tF<;>intro h3
  .exact Za4t
  exact Zbdo
 rintro ⟨v3,v16,v17⟩ ⟨cv17,i0,i1,i2,i3⟩;dsimp only [Zx6,Z6t,LT.den];apply tD<;>intro h1
 .refine tB (tI (by omega) (by have e:(A5.list v16).length=5:=rfl;omega)) fun x1 h2=>?_;have mh2:=h2.2;apply tD<;>intro h3
  .refine tB (tK tk98) fun x2 h4=>?_;exact Zbdq
  exact Zbdq
 exact Za4t
theorem Zfp{a0:List (List UInt8)}(oa0:(SzL 16 SzT) a0):Tot (Zej a0) (fun r=>((SzL 16 SzT) r)/\(r=a0)):=by
 unfold Zej;split
 .apply tZ;have lb_a0:=oa0.1;dsimp only [Zf5,LT.den];refine Tot.ap fun x1 h1=>?_;have lh1:x1.length=([]:List (List UInt8)).length+a0.length:=by rw [h1,List.length_append]
  try simp only [List.length_cons,List.length_nil,Nat.zero_add] at lh1
  exact tR ⟨SzL.app (k:=16) h1 lo (fun _ h=>by cases h) oa0.2,tk83⟩
 apply tZ;dsimp only [Zdv,LT.den];exact tl61
theorem Zbh{a0:List Zc}(oa0:(SzL 176 Z5) a0):Tot (Zcq a0) (fun r=>((SzL 176 Z5) r)/\(r=a0)):=by
 unfold Zcq;split
 .apply tZ;have lb_a0:=oa0.1;dsimp only [Zfn,LT.den];refine Tot.ap fun x1 h1=>?_;have lh1:x1.length=([]:List Zc).length+a0.length:=by rw [h1,List.length_append]
  try simp only [List.length_cons,List.length_nil,Nat.zero_add] at lh1
  exact tR ⟨SzL.app (k:=176) h1 lo (fun _ h=>by cases h) oa0.2,tk83⟩
 apply tZ;dsimp only [Zdi,LT.den];exact tl61
theorem Zhd{a0:List Zaz}(oa0:(SzL 144 Zgc) a0):Tot (Zch a0) (fun r=>((SzL 144 Zgc) r)/\(r=a0)):=by
 unfold Zch;split
 .apply tZ;have lb_a0:=oa0.1;dsimp only [Zes,LT.den];refine Tot.ap fun x1 h1=>?_;have lh1:x1.length=([]:List Zaz).length+a0.length:=by rw [h1,List.length_append]
  try simp only [List.length_cons,List.length_nil,Nat.zero_add] at lh1
  exact tR ⟨SzL.app (k:=144) h1 lo (fun _ h=>by cases h) oa0.2,tk83⟩
 apply tZ;dsimp only [Zc1,LT.den];exact tl61
theorem Zga{a0:List Zs}(oa0:(SzL 560 Zab) a0):Tot (Zcs a0) (fun r=>((SzL 560 Zab) r)/\(r=a0)):=by
 unfold Zcs;split
 .apply tZ;have lb_a0:=oa0.1;dsimp only [Zd0,LT.den];refine Tot.ap fun x1 h1=>?_;have lh1:x1.length=([]:List Zs).length+a0.length:=by rw [h1,List.length_append]
  try simp only [List.length_cons,List.length_nil,Nat.zero_add] at lh1
  exact tR ⟨SzL.app (k:=560) h1 lo (fun _ h=>by cases h) oa0.2,tk83⟩
 apply tZ;dsimp only [Zce,LT.den];exact tl61
def Z87(a0:Zd):Zhr->Prop
 | .L0 E0 E1 v18 v19=>(Zv E0)/\(Zv E1)/\(0<=v19)/\(v18=(a0.Effects.length:Int))/\(v18=(E0.Effects.length:Int))/\(E0=a0)
def Zn3:Zhr->M6
 | .L0 E0 E1 v18 v19=>(1,(v18 - v19).toNat,1000000,0,0,0)
theorem Z88{a0:Zd}(oa0:Zv a0):Tot (Zr2 a0) (fun r=>(Zv r)/\(r=a0)):=by
 apply Tot.rn (Z87 a0) Zn3
 .dsimp only [Zxa,LT.den];refine tB (Zbh oa0.2.1) fun x1 h1=>?_;have eh1_1:=h1.2;refine tB (Zhd oa0.2.2.2.1) fun x2 h2=>?_;have eh2_1:=h2.2;refine tB (Zga oa0.2.2.2.2.1) fun x3 h3=>?_;have eh3_1:=h3.2;exact tL ⟨⟨oa0.1,h1.1,oa0.2.2.1,h2.1,h3.1,oa0.2.2.2.2.2⟩,⟨SzS.nil,SzL.nil,SzS.nil,SzL.nil,SzL.nil,SzS.nil⟩,cl,Zex,Zex,tk50⟩ (by unfold Zn3 lt6;dsimp only;omega)
 rintro ⟨E0,E1,v18,v19⟩ ⟨O0,O1,cv19,i0,i1,i2⟩;dsimp only [Zo3,Zuu,LT.den];have lq:=O0.2.2.2.2.1.1;apply tD<;>intro h1
 .refine Tot.ix fun x1 h2=>?_;have oh2:Zab x1:=O0.2.2.2.2.1.2 x1 h2.1;have mh2:=h2.2;refine tB (Zbh oh2.2.2.2.2) fun x2 h3=>?_;have eh3_1:=h3.2;refine tB (Tot.set (by omega) (by omega)) fun x3 h4=>?_;have vh4:=h4.2.2;have q1:=wr (v19+1);exact tL ⟨⟨O0.1,O0.2.1,O0.2.2.1,O0.2.2.2.1,⟨lo,fun e he=>(h4.2.1 e he).elim (fun w=>by rw [w];exact⟨oh2.1,oh2.2.1,oh2.2.2.1,oh2.2.2.2.1,h3.1⟩) (O0.2.2.2.2.1.2 e)⟩,O0.2.2.2.2.2⟩,O1,cl,Zex,Zex,tk50⟩ (by unfold Zn3 lt6;dsimp only;omega)
 exact tR ⟨O0,‹_›⟩
def Zajz(a0:Zl):Zlq->Prop
 | .L0 E0 E1 v32 v33 v34=>(Zu E0)/\(Zu E1)/\((SzL 640 Zv) v32)/\(0<=v34)/\(v33=(v32.length:Int))/\(E1.Abilities.length<=v34.toNat)/\(v34<=v33)/\(v32=a0.Abilities)/\(E1={ prV a0 with Abilities:=a0.Abilities.take v34.toNat })
def Zug:Zlq->M6
 | .L0 E0 E1 v32 v33 v34=>(1,(v33 - v34).toNat,1000000,0,0,0)
theorem Zaj0{a0:Zl}(oa0:Zaa a0):Tot (Zacz a0) (fun r=>(Zu r)/\(r=prV a0)):=by
 apply Tot.rn (Zajz a0) Zug
 .dsimp only [Z6u,LT.den];refine tB (Zan4) fun x1 h1=>tB (Zfp oa0.2.1) fun x2 h2=>?_;have eh2_1:=h2.2;have q1:=oa0.2.2.1;exact tL ⟨⟨SzS.nil,SzL.nil,SzL.nil⟩,⟨oa0.1,h2.1,SzL.nil⟩,oa0.2.2,cl,cl,cl,cl,Zai,tk20⟩ (by unfold Zug lt6;dsimp only;omega)
 rintro ⟨E0,E1,v32,v33,v34⟩ ⟨O0,O1,ov32,cv34,i0,i1,i2,i3,i4⟩;have lb_v32:=ov32.1;dsimp only [Zvd,Z3f,LT.den];apply tD<;>intro h1
 .refine Tot.ix fun x1 h2=>?_;have oh2:Zv x1:=ov32.2 x1 h2.1;have mh2:=h2.2;refine tB (Z88 oh2) fun x2 h3=>?_;have eh3_1:=h3.2;have q1:=O1.2.2.1;refine Tot.ap fun x3 h4=>?_;have lh4:=Zc6 h4;have q2:=wr (v34+1);exact tL ⟨O0,⟨O1.1,O1.2.1,SzL.app (k:=640) h4 lo O1.2.2.2 (me1 h3.1)⟩,ov32,cl,cl,cl,cl,Zai,tk20⟩ (by unfold Zug lt6;dsimp only;omega)
 exact tR ⟨O1,Zbd8⟩
def Zrg(a0:List Zl)(a1:Zf):Zsq->Prop
 | .L0 v0 E0 E1 v5=>(v0=a0)/\(E0=a1)/\((SzL 176 Zaa) v0)/\(Zu E1)/\(v5=if E0.Copy < 0 then E0.Card else E0.Copy)
 | .L1 E0 E1 E2=>(E0=a1)/\(Zu E1)/\(Zu E2)/\(E2=Zqm a0 (if E0.Copy < 0 then E0.Card else E0.Copy))
def Z89:Zsq->M6
 | .L0 v0 E0 E1 v5=>(0,0,0,0,0,0)
 | .L1 E0 E1 E2=>(0,0,0,0,0,0)
theorem Zvv{a0:List Zl}{a1:Zf}{E0:Zf}{E1:Za}{E2:Za}(h:(Zrg a0 a1) (.L1 E0 E1 E2)):Tot (Zp0 E0 E1 E2).den (Nx (Zrg a0 a1) Z89 (0,0,0,0,0,0) (fun r=>(Zu r)/\(r=baV a0 a1))):=by
 obtain⟨al0,O1,O2,i0⟩:=h;subst al0;dsimp only [Zp0,LT.den];apply tE<;>intro h1
 .exact tl90
 apply tE<;>intro h2
 .exact tl90
 exact tl90
theorem Z7j{a0:List Zl}{a1:Zf}{v0:List Zl}{E0:Zf}{E1:Za}{v5:Int}(h:(Zrg a0 a1) (.L0 v0 E0 E1 v5)):Tot (Ztq v0 E0 E1 v5).den (Nx (Zrg a0 a1) Z89 (0,0,0,0,0,0) (fun r=>(Zu r)/\(r=baV a0 a1))):=by
 obtain⟨al0,al1,ov0,O1,i0⟩:=h;subst al0;subst al1;dsimp only [Ztq,LT.den];apply tD<;>intro h1
 .apply tD<;>intro h2
  .refine Tot.ix fun x1 h3=>?_;have oh3:Zaa x1:=ov0.2 x1 h3.1;have mh3:=h3.2;refine tB (Zaj0 oh3) fun x2 h4=>?_;have eh4_1:=h4.2;exact tJ (Zvv ⟨rfl,O1,h4.1,tk29⟩)
  exact Zbdh
 exact Zbdh
theorem Zah9{a0:List Zl}{a1:Zf}(oa0:(SzL 176 Zaa) a0):Tot (Zao9 a0 a1) (fun r=>(Zu r)/\(r=baV a0 a1)):=by
 apply Tot.rn (Zrg a0 a1) Z89
 .dsimp only [Zar4,LT.den];apply tD<;>intro h1
  .exact tl46
  exact tl46
 intro s hs;cases s with
 | L0 _ _ _ _=>exact Z7j hs
 | L1 _ _ _=>exact Zvv hs
theorem Zxq{a0:List Int}(oa0:(SzL 8 (fun _=>True)) a0):Tot (Ze0 a0) (fun r=>((SzL 8 (fun _=>True)) r)/\(r=a0)):=by
 unfold Ze0;split
 .apply tZ;have lb_a0:=oa0.1;dsimp only [Zir,LT.den];refine Tot.ap fun x1 h1=>?_;have lh1:x1.length=([]:List Int).length+a0.length:=by rw [h1,List.length_append]
  exact tl96
 apply tZ;dsimp only [Zfr,LT.den];exact tl61
end Go.PW
