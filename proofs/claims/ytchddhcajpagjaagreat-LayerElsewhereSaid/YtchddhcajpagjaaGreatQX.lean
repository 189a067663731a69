import Derived.Test.YtchddhcajpagjaaGreatQE
import Derived.Test.YtchddhcajpagjaaGreatPwYc
import Derived.Test.YtchddhcajpagjaaGreatQDc
import Derived.Test.YtchddhcajpagjaaGreatQSe
set_option linter.all false
set_option maxRecDepth 100000
namespace Go.PW
theorem tl0{p:Prop}(h:p:=by exact tR (by intro hr;cases hr)):p:=h
theorem tl1{p:Prop}(h:p:=by exact tJ (Z4b trivial)):p:=h
theorem tl2{p:Prop}(h:p:=by exact tJ (Z15 trivial)):p:=h
theorem tl3{p:Prop}(h:p:=by exact tJ (Z14 trivial)):p:=h
theorem tl4{p:Prop}(h:p:=by exact tR Znu):p:=h
theorem tl5{p:Prop}(h:p:=by exact tR ⟨h1.1,h1.2.1,h1.2.2⟩):p:=h
theorem tl6{p:Prop}(h:p:=by exact tJ (Zaac ⟨ov0,cs⟩)):p:=h
theorem tl7{p:Prop}(h:p:=by exact tR ⟨O2.1,O2.2⟩):p:=h
theorem tl8{p:Prop}(h:p:=by exact tR ⟨O0.1,O0.2⟩):p:=h
theorem tl9{p:Prop}(h:p:=by exact tJ (Zaah ⟨oa0,trivial⟩)):p:=h
theorem tl10{p:Prop}(h:p:=by exact tJ (Zaaj ⟨oa0,trivial⟩)):p:=h
theorem tl11{p:Prop}(h:p:=by exact tJ (Zuu ⟨oa1,oa4⟩)):p:=h
theorem tl12{p:Prop}(h:p:=by exact tJ (Zaaf ⟨O0,trivial⟩)):p:=h
theorem tl13{p:Prop}(h:p:=by exact tJ (Zaag ⟨O0,trivial⟩)):p:=h
theorem tl14{p:Prop}(h:p:=by exact tJ (Zaai ⟨O0,trivial⟩)):p:=h
theorem tl15{p:Prop}(h:p:=by exact tJ (Z35 ⟨O0,O1⟩)):p:=h
theorem tl16{p:Prop}(h:p:=by exact tB (Zev) fun x3 h3=>tR trivial):p:=h
theorem tl17{p:Prop}(h:p:=by exact tR (by intro hr;first | omega | (cases hr;done))):p:=h
theorem tl18{p:Prop}(h:p:=by exact tJ (Zus ⟨O1,O2⟩)):p:=h
theorem tl19{p:Prop}(h:p:=by exact tJ (Zut ⟨O1,O2⟩)):p:=h
theorem tl20{p:Prop}(h:p:=by exact tJ (Z4h ⟨O0,O1,O2⟩)):p:=h
theorem tl21{p:Prop}(h:p:=by exact tL ⟨ov0,cl⟩ (by unfold Zxl lt6;dsimp only;omega)):p:=h
theorem tl22{p:Prop}(h:p:=by exact tL ⟨cl,cl⟩ (by unfold Zam7 lt6;dsimp only;omega)):p:=h
theorem tl23{p:Prop}(h:p:=by exact tL ⟨cl,cl⟩ (by unfold Zam4 lt6;dsimp only;omega)):p:=h
theorem tl24{p:Prop} (h:p:=by
 apply tO<;>intro h4
 .exact tR trivial
 exact tR trivial):p:=h
theorem tl25{p:Prop}(h:p:=by exact tL ⟨cl,cs⟩ (by unfold Zahr lt6;dsimp only;omega)):p:=h
theorem tl26{p:Prop} (h:p:=by
 apply tF<;>intro h2
 .exact tR trivial
 exact tR trivial):p:=h
theorem tl27{p:Prop} (h:p:=by
 apply tD<;>intro h2
 .exact tR trivial
 exact tR trivial):p:=h
theorem tl28{p:Prop} (h:p:=by
 apply tE<;>intro h1
 .exact tR trivial
 exact tR trivial):p:=h
theorem tl29{p:Prop}(h:p:=by exact tL ⟨cl,cs⟩ (by unfold Zahs lt6;dsimp only;omega)):p:=h
theorem tl30{p:Prop}(h:p:=by exact tL ⟨cl,cs⟩ (by unfold Z5s lt6;dsimp only;omega)):p:=h
theorem tl31{p:Prop} (h:p:=by
 apply tD<;>intro h1
 .exact tR trivial
 exact tR trivial):p:=h
theorem tl32{p:Prop} (h:p:=by
 apply tD<;>intro h4
 .exact tR trivial
 exact tR trivial):p:=h
theorem tl33{p:Prop}(h:p:=by exact tL ⟨ov0,cl⟩ (by unfold Z11 lt6;dsimp only;omega)):p:=h
theorem tl34{p:Prop}(h:p:=by exact tL ⟨cl,trivial⟩ (by unfold Zars lt6;dsimp only;omega)):p:=h
theorem tl35{p:Prop}(h:p:=by exact tL ⟨cl,cl⟩ (by unfold Z38 lt6;dsimp only;omega)):p:=h
theorem tl36{p:Prop}(h:p:=by exact tL ⟨cl,trivial⟩ (by unfold Zads lt6;dsimp only;omega)):p:=h
theorem tl37{p:Prop}(h:p:=by exact tL ⟨cl,trivial⟩ (by unfold Zadl lt6;dsimp only;omega)):p:=h
theorem tl38{p:Prop}(h:p:=by exact tL ⟨O0,cl⟩ (by unfold Zadk lt6;dsimp only;omega)):p:=h
theorem tl39{p:Prop}(h:p:=by exact tL ⟨cl,trivial⟩ (by unfold Zaam lt6;dsimp only;omega)):p:=h
theorem tl40{p:Prop}(h:p:=by exact tL ⟨ov0,ov2,cs⟩ (by unfold Zyt lt6;dsimp only;omega)):p:=h
theorem tl41{p:Prop}(h:p:=by exact tJ (Z36 ⟨⟨oa0.1,oa0.2⟩,⟨SzS.nil,SzS.nil⟩⟩)):p:=h
theorem tl42{p:Prop}(h:p:=by exact tL ⟨O0,cl⟩ (by unfold Zy9 lt6;dsimp only;omega)):p:=h
theorem Zr4{p:Prop}(h:p:=by exact tR (by obtain⟨k1,k2,k3,k4⟩:=a0;unfold amV;grind [Zbgs,usV])):p:=h
theorem tl44{p:Prop}(h:p:=by exact tL ⟨rfl,O0,cs⟩ (by unfold Z4c lt6;dsimp only;omega)):p:=h
theorem Zer{p:Prop}(h:p:=by exact tR (by first | (intro hr;exact absurd hr (by decide)) | (intro _;omega))):p:=h
theorem tl46{p:Prop}(h:p:=by exact tL ⟨rfl,O0,cs⟩ (by unfold Z13 lt6;dsimp only;omega)):p:=h
theorem tl47{p:Prop}(h:p:=by exact tL ⟨ov0,O0,cs⟩ tk76):p:=h
theorem tl48{p:Prop}(h:p:=by simp only [List.length_append,List.length_cons,List.length_take,List.length_drop];omega):p:=h
theorem Z8u{p:Prop}(h:p:=by exact tL ⟨O0,ov6,ov7,cs⟩ tk78):p:=h
theorem tl50{p:Prop}(h:p:=by have q1:=wr (5+v0);have q2:=wr ((IntKind.wrap .i64 (5+v0)) - 11);exact tR trivial):p:=h
theorem tl51{p:Prop}(h:p:=by have q1:=wr (v3+1);exact tl21):p:=h
theorem tl52{p:Prop}(h:p:=by exact tJ (Z4i ⟨oa0,⟨SzS.nil,SzS.nil⟩,⟨SzS.nil,SzS.nil⟩⟩)):p:=h
theorem tl53{p:Prop}(h:p:=by have q2:=wr (v4+1);exact tl25):p:=h
theorem tl54{p:Prop}(h:p:=by exact tJ (Z7i ⟨rfl,rfl,oa0,⟨SzS.nil,SzL.nil,SzL.nil⟩,(by grind)⟩)):p:=h
theorem tl55{p:Prop}(h:p:=by have q2:=wr (v4+1);exact tl29):p:=h
theorem tl56{p:Prop}(h:p:=by have q1:=wr (v38+1);exact tL ⟨ov36,cs⟩ (by unfold Z85 lt6;dsimp only;omega)):p:=h
theorem tl57{p:Prop}(h:p:=by have q1:=wr (v4+1);exact tL ⟨ov0,cs⟩ (by unfold Zt4 lt6;dsimp only;omega)):p:=h
theorem tl58{p:Prop}(h:p:=by have q1:=wr (v7+1);exact tl37):p:=h
theorem tl59{p:Prop}(h:p:=by have q2:=wr (v6+1);exact tL ⟨ov0,ov1,cs⟩ (by unfold Z5o lt6;dsimp only;omega)):p:=h
theorem tl60{p:Prop}(h:p:=by have q1:=wr (v5+1);exact tL ⟨ov0,ov1,cl⟩ (by unfold Z1y lt6;dsimp only;omega)):p:=h
theorem tl61{p:Prop}(h:p:=by exact tL ⟨rfl,rfl,O0,O1,cs⟩ (by unfold Z5z lt6;dsimp only;omega)):p:=h
theorem tl62{p:Prop}(h:p:=by have q2:=wr (v8+1);exact tl40):p:=h
theorem tl63{p:Prop}(h:p:=by have q2:=wr (v6+1);exact tl42):p:=h
theorem tl64{p:Prop}(h:p:=by have q1:=wr (v9+1);exact tL ⟨ov1,O0,cl⟩ (by unfold Z5u lt6;dsimp only;omega)):p:=h
theorem tl65{p:Prop}(h:p:=by exact tL ⟨rfl,rfl,O0,O1,cs⟩ (by unfold Zpd lt6;dsimp only;omega)):p:=h
theorem tl66{p:Prop}(h:p:=by have q2:=wr (v6+1);exact tl47):p:=h
theorem tl67{p:Prop}(h:p:=by exact tR ⟨SzL.nil,tk49⟩):p:=h
theorem tl68{p:Prop}(h:p:=by exact tB (tK tk57) fun x2 h4=>tR trivial):p:=h
theorem Zgq{p:Prop}(h:p:=by exact tR Za4):p:=h
theorem tl70{p:Prop}(h:p:=by exact tR tk31):p:=h
theorem tl71{p:Prop} (h:p:=by
 apply tE<;>intro h4
 .exact tR trivial
 apply tE<;>intro h5
 .exact tR trivial
 exact tR trivial):p:=h
theorem tl72{p:Prop} (h:p:=by
 apply tE<;>intro h3
 .exact tR trivial
 apply tE<;>intro h4
 .exact tR trivial
 exact tR trivial):p:=h
theorem tl73{p:Prop} (h:p:=by
 apply tD<;>intro h5
 .apply tD<;>intro h6
  .exact tR trivial
  exact tR trivial
 exact tR trivial):p:=h
theorem tl74{p:Prop} (h:p:=by
 apply tD<;>intro h6
 .apply tD<;>intro h7
  .exact tR trivial
  exact tR trivial
 exact tR trivial):p:=h
theorem tl75{p:Prop}(h:p:=by exact tJ (Zaaq ⟨rfl,rfl,oa0,⟨SzS.nil,SzL.nil,SzL.nil⟩,Zg1,(by grind)⟩)):p:=h
theorem tl76{p:Prop}(h:p:=by exact tR (by first | with_reducible exact Zbdo ‹_› (by omega) | (rw [Zbb4 ‹_› (by omega)];grind))):p:=h
theorem tl77{p:Prop}(h:p:=by exact tR (by first | exact Zbdk ‹_› ‹_› | exact Zbb1 ‹_› ‹_› ‹_›)):p:=h
theorem tl78{p:Prop}(h:p:=by exact tR (by first | exact Zbdc ‹_› ‹_› ‹_› (by grind) | exact Zbbr ‹_› (by omega))):p:=h
theorem tl79{p:Prop} (h:p:=by
 refine tB (Zit oa1) fun x1 h2=>?_;have eh2_0:=h2.1;apply tF<;>intro h3
 .exact tR trivial
 exact tR trivial):p:=h
theorem tl80{p:Prop} (h:p:=by
 refine tB (Zit O0) fun x2 h4=>?_;have eh4_0:=h4.1;apply tF<;>intro h5
 .exact tR trivial
 exact tR trivial):p:=h
theorem tl81{p:Prop} (h:p:=by
 apply tN<;>intro h6
 .exact tR trivial
 exact tl56):p:=h
theorem tl82{p:Prop}(h:p:=by exact tR (by first | with_reducible exact Zbaa ‹_› rfl ‹_› (by omega) (by omega) | with_reducible exact Za6b (by grind))):p:=h
theorem tl83{p:Prop}(h:p:=by exact tR ⟨(by first | exact li_n ‹_› ‹_› | exact li_y ‹_› ‹_›),cl,Znu⟩):p:=h
theorem tl84{p:Prop}(h:p:=by exact tR (by first | (intro hr;exact absurd hr (by decide)) | (intro _ c hc;obtain⟨k,hk⟩:=List.mem_iff_getElem?.1 hc;exact i0 k c (by grind) hk))):p:=h
theorem tl85{p:Prop}(h:p:=by exact tR ⟨⟨O2.1,O2.2.1,O2.2.2⟩,tk37⟩):p:=h
theorem tl86{p:Prop}(h:p:=by exact tR ⟨cl,(by first | exact Za01 ‹_› ‹_› ‹_› Zg1 | exact Zaiy ‹_› (by omega))⟩):p:=h
theorem tl87{p:Prop}(h:p:=by exact tR ⟨⟨O2.1,O2.2.1,O2.2.2⟩,cl,tk37⟩):p:=h
theorem tl88{p:Prop}(h:p:=by exact tR ⟨(by first | (intro hr;exact absurd hr (by decide)) | (intro hr;grind)),(by first | assumption | (intro hr;exact absurd hr (by decide)) | (intro hr;grind))⟩):p:=h
theorem tl89{p:Prop} (h:p:=by
 try simp only [List.length_cons,List.length_nil,Nat.zero_add] at lh1
 exact tR ⟨SzL.tr,tk49⟩):p:=h
theorem tl90{p:Prop}(h:p:=by have q1:=wr (v6+1);exact tL ⟨rfl,rfl,ov0,O0,ov5,cl,Zg1,cl,‹_›⟩ (by unfold Zl9 lt6;dsimp only;omega)):p:=h
theorem tl91{p:Prop} (h:p:=by
 apply tE<;>intro h6
 .exact Zer
 exact Zer):p:=h
theorem Zmy{p:Prop}(h:p:=by exact tR ⟨tk40,tk44⟩):p:=h
theorem tl93{p:Prop}(h:p:=by exact tR (by first | with_reducible exact Zbaa ‹_› ‹_› ‹_› (by omega) (by omega) | with_reducible exact Zbgv ‹_› | with_reducible exact Za6b (by grind))):p:=h
theorem tl94{p:Prop}(h:p:=by exact tR tk7):p:=h
theorem tl95{p:Prop}(h:p:=by have q1:=wr (v8+1);exact tL ⟨rfl,ov3,ov6,cl,cl,cl,cl,tk33⟩ tk72):p:=h
theorem tl96{p:Prop}(h:p:=by exact tL ⟨O0,ov6,SzL.app (k:=16) h6 lo ov7.2 (me1 tk31),cs⟩ tk78):p:=h
theorem tl97{p:Prop}(h:p:=by exact tL ⟨rfl,cl,Zks,(by first | (intro k x hk;omega) | exact Zau0 ‹_› ‹_› (by omega) ⟨by omega,by omega⟩ (by omega))⟩ (by unfold Zanf lt6;dsimp only;omega)):p:=h
theorem tl98{p:Prop}(h:p:=by have q1:=wr (v16+1);exact tL ⟨rfl,ov1,ov14,cl,‹_›,cl,cl,‹_›,tk47⟩ (by unfold Zvs lt6;dsimp only;omega)):p:=h
theorem tl99{p:Prop}(h:p:=by exact tL ⟨rfl,O0,O1,cl,cl,cl,cl,tk22,cl⟩ tk74):p:=h
theorem Z34{p:Prop}(h:p:=by exact tR ⟨(by first | (intro hr;exact absurd hr (by decide)) | exact fun _=>Za8r (v:=v5) ‹_› (by omega)),(by first | (intro hr;exact absurd hr (by decide)) | exact fun _=>Zbcj (v:=v5) ‹_› (by omega))⟩):p:=h
theorem Zbaf{p:Prop}(h:p:=by exact tL ⟨rfl,O0,O1,cl,cl,cl,cl,cl,cl,tk22,cs⟩ tk74):p:=h
theorem Zbag{p:Prop}(h:p:=by exact tL ⟨rfl,O0,O1,cl,cl,cl,cl,cl,cl,cl,cl,tk22,cs⟩ tk74):p:=h
theorem Zbah{p:Prop} (h:p:=by
 apply tF<;>intro h2
 .exact tl70
 exact tl70):p:=h
theorem Zbai{p:Prop}(h:p:=by exact tJ (Zvo ⟨rfl,O1,⟨SzS.nil,SzL.nil,SzL.nil⟩,tk11⟩)):p:=h
theorem Zbaj{p:Prop}(h:p:=by exact tJ (Zzf ⟨rfl,O1,⟨SzS.nil,SzL.nil,SzL.nil⟩,cl,tk11⟩)):p:=h
theorem Zbak{p:Prop}(h:p:=by have q1:=wr (v57+1);exact Zbag):p:=h
theorem Za22{p:Prop}(h:p:=by exact tR ⟨tk31,tk16⟩):p:=h
theorem Za23{p:Prop}(h:p:=by have q1:=wr (v20+1);exact tL ⟨rfl,rfl,O1,ov18,cl,cl,cl,cl,cl,cl,cl,Zbu,‹_›,cs⟩ tk59):p:=h
theorem Zbal{p:Prop} (h:p:=by
 apply tD<;>intro h4
 .apply tD<;>intro h5
  .exact Zr4
  exact Zr4
 exact Zr4):p:=h
theorem Zbam{p:Prop}(h:p:=by have q1:=wr (v25+1);exact tL ⟨rfl,rfl,O1,ov8,ov23,cl,cl,cl,cl,cl,cl,cl,Zbu,‹_›,cl,cl,cl,cl,cl,‹_›⟩ tk60):p:=h
theorem Zban{p:Prop}(h:p:=by exact tL ⟨rfl,rfl,ov0,cl,cl,cl,cl,tk10⟩ tk32):p:=h
theorem Zbao{p:Prop}(h:p:=by exact tL ⟨cl,cl,Zks,Zg1,(by first | with_reducible exact Za98 _ | with_reducible exact Zbgu ‹_› ‹_› (by omega) (by omega) ‹_› (by omega) | with_reducible exact Za99 ‹_› ‹_› (by omega) (by omega) (by omega) (by omega))⟩ (by unfold Z7h lt6;dsimp only;omega)):p:=h
theorem Zbap{p:Prop}(h:p:=by exact tL ⟨rfl,rfl,ov0,O0,cl,tk1⟩ (by unfold Zvn lt6;dsimp only;omega)):p:=h
theorem Zbaq{p:Prop}(h:p:=by have q1:=wr (v17+1);exact Zbao):p:=h
theorem Zbar{p:Prop}(h:p:=by have q1:=wr (v15+1);exact tL ⟨rfl,rfl,ov0,O0,ov5,ov13,cl,cl,cl,Zg1,tk9,Zks,cs⟩ tk73):p:=h
theorem Zbas{p:Prop}(h:p:=by exact tR ⟨ov6,oc0,cl,cl,cl,cl,cl,cl,Zbu,Zek,Zek,Zdh,‹_›⟩):p:=h
theorem Za24{p:Prop}(h:p:=by exact tL ⟨rfl,cl,cl,(by first | with_reducible exact Za98 _ | with_reducible exact Zbdn ‹_› ‹_› (by omega) (by omega) ‹_› ‹_› (by omega) (by omega) | with_reducible exact Za99 ‹_› ‹_› (by omega) (by omega) (by omega) (by omega)),(by first | with_reducible exact Zbb2 (by omega) ‹_› (by omega) (by omega) | rfl),Zg1⟩ (by unfold Zaap lt6;dsimp only;omega)):p:=h
theorem Zati{p:Prop}(h:p:=by exact tL ⟨rfl,ov7,cl,cl,cl,cl,cl,cl,cl,Zbu,‹_›,cl,tk34,tk22,cl,‹_›,Zdh⟩ tk54):p:=h
theorem Zbat{p:Prop}(h:p:=by have q1:=wr (v44+1);exact Zati):p:=h
theorem Zbau{p:Prop}(h:p:=by exact tL ⟨oc0,ov10,cl,cl,cl,cl,cl,cl,cl,Zbu,Zek,Zek,cl,cl,Zdh,Zks,tk8⟩ tk62):p:=h
theorem Zam2{p:Prop}(h:p:=by have q1:=wr (v44+1);exact tL ⟨O1,ov7,ov42,cl,cl,cl,cl,cl,cl,cl,Zbu,‹_›,cl,cl,cl,cl,tk29,Zdh,Zks,tk17⟩ tk56):p:=h
theorem Za25{p:Prop}(h:p:=by have q1:=wr (v44+1);exact tL ⟨O1,SzL.tr,ov42,cl,cl,cl,cl,cl,cl,cl,Zbu,‹_›,cl,cl,cl,cl,tk29,Zdh,Zks,tk17⟩ tk56):p:=h
theorem Zbav{p:Prop}(h:p:=by have q1:=wr (v82+1);exact tL ⟨rfl,ov7,O1,cl,cl,cl,cl,cl,cl,cl,cl,cl,Zbu,‹_›,cl,tk34,tk22,cl,cl,‹_›,cl,cl,Znu,cl,cl,cl,cl,cl,cl,Zbu,Zdh,Zdh⟩ tk54):p:=h
theorem tk0{p:Prop}(h:p:=by first | exact Zbgx ‹_› | exact Za05 ‹_› ‹_› ‹_› (by omega) (by omega) (by omega) rfl | exact Za05 ‹_› ‹_› ‹_› (by omega) (by omega) (by omega) (by subst_vars;rfl) | exact Za8u ‹_› ‹_› (by omega) (by omega) (by omega)):p:=h
theorem tk1{p:Prop}(h:p:=by first | exact Zbdl | exact Zarp (v:=v5) ‹_› ‹_› (by omega) (by omega) (Zbdm (v:=v5) ‹_› (by omega) ‹_›) (by omega) | exact Zarp (v:=v5) ‹_› ‹_› (by omega) (by omega) (fun y hv _=>absurd hv (by omega)) (by omega)):p:=h
theorem tk2{p:Prop}(h:p:=by first | assumption | exact Zbac | exact Za8w ‹_› ‹_› (by omega) (by omega) ‹_› | exact Za6d ‹_› ‹_› (by omega) (by omega) (by omega) | (rw [show IntKind.wrap .i64 (v18+1)=v18+1 by omega];assumption)):p:=h
theorem tk3{p:Prop}(h:p:=by first | exact Za8a ‹_› ‹_› (by omega) | exact Zbbp (v:=v0) (i:=v5) (j:=v6) ‹_› (by grind) ‹_› (by grind) (by omega) (by omega) | exact Zbbq (j:=v6) ‹_› ‹_› (by grind) (by omega)):p:=h
theorem tk4{p:Prop}(h:p:=by first | with_reducible exact pr_0 ‹_› ‹_› | with_reducible exact pr_0' ‹_› ‹_› | with_reducible exact Za04 ‹_› ‹_› (by omega) (by omega) ‹_› ‹_›):p:=h
theorem tk5{p:Prop}(h:p:=by first | exact Zbgz (by grind) | exact Zaxn ‹_› ‹_› ‹_› (by omega) (by omega) rfl | exact Zaxn ‹_› ‹_› ‹_› (by omega) (by omega) (by subst_vars;rfl)):p:=h
theorem tk6{p:Prop}(h:p:=by first | with_reducible exact pr_0 ‹_› ‹_› | with_reducible exact Za04 ‹_› (by rw [<- (by assumption:v32=a0.Abilities)];assumption) (by omega) (by omega) ‹_› ‹_›):p:=h
theorem tk7{p:Prop}(h:p:=by first | rfl | assumption | (exfalso;omega) | exact el_f ‹_› ((el_1 ‹_› ‹_› ‹_› ‹_›).trans (Eq.symm ‹_›)) ‹_› | (exfalso;grind)):p:=h
theorem tk8{p:Prop}(h:p:=by first | assumption | exact Z8t | exact Zbea ‹_› ‹_› ‹_› | exact Za8z ‹_› ‹_› ‹_› ‹_› ‹_› ‹_›):p:=h
theorem tk9{p:Prop}(h:p:=by first | exact Zbgy | exact Za8v ‹_› ‹_› (by omega) (by omega) (by omega) | exact Zbb6 ‹_› ‹_› ‹_› (by omega) (by omega) (by omega) (by omega)):p:=h
theorem tk10{p:Prop}(h:p:=by first | exact Zbg0 (by omega) | exact Zbd3 ‹_› ‹_› (by omega) (by omega) (by omega) | exact Zbd4 ‹_› ‹_› (by omega) (by omega) (by omega) | assumption):p:=h
theorem tk11{p:Prop}(h:p:=by rw [<- (by assumption:v5=if E0.Copy < 0 then E0.Card else E0.Copy)];first | exact (Zao1 (by omega)).symm | (rw [Za02 ‹_› (by omega)];assumption)):p:=h
theorem tk12{p:Prop}(h:p:=by first | with_reducible exact Zbgw ‹_› ‹_› | with_reducible exact Za8t ‹_› ‹_› (by omega) (by omega) ‹_› ‹_›):p:=h
theorem Zdh{p:Prop}(h:p:=by first | assumption | exact Za6h | exact Zbad (by assumption:(_:Int)=_/\∀ y:List Int,y∈_->y=[]).2 | exact Zbae ‹_› (by rw [(by assumption:_=_)])):p:=h
theorem tk14{p:Prop}(h:p:=by first | (intro k c hk;omega) | (intro k c hk hc;rcases Zatf (v:=v4) ‹_› (by omega) hk hc ‹_› with h | h;(exact i0 k c h hc);(rw [h];assumption))):p:=h
theorem tk15{p:Prop}(h:p:=by first | exact Zbdd ‹_› ‹_› | exact Zbdb (v:=v0) (i:=v5) (j:=v6) ‹_› ‹_› ‹_› (by omega) (by omega)):p:=h
theorem tk16{p:Prop}(h:p:=by first | (refine⟨fun _=>by omega,fun _=>rfl⟩) | (have w := ‹_∈A3.list _›;simp only [A3.list,List.mem_cons,List.not_mem_nil,or_false] at w;grind) | grind):p:=h
theorem tk17{p:Prop}(h:p:=by first | assumption | exact Zao3 | exact Zbck ‹_› ‹_› (by omega) ‹_› ‹_› (by first | assumption | omega)):p:=h
theorem tk18{p:Prop}(h:p:=by first | assumption | exact Zao2 | exact Za07 ‹_› ‹_› (by omega) (by omega) | exact Zbb8 ‹_› ‹_›):p:=h
theorem tk19{p:Prop}(h:p:=by first | exact Zbd5 ‹_› (by omega) ‹_› (by omega) ‹_› | exact Zbg1 ‹_› (by omega)):p:=h
theorem tk20{p:Prop}(h:p:=by first | exact Zbdi | exact Za59 ‹_› ‹_› ‹_› (by first | assumption | grind) (by omega)):p:=h
theorem tk21{p:Prop}(h:p:=by first | exact Za08 | assumption | exact sub_app' (d:=v16) ‹_› ‹_› ‹_› ‹_›):p:=h
theorem tk22{p:Prop}(h:p:=by first | assumption | exact Zbcc ‹_› (by omega) | exact Zbca ‹_› ‹_› ‹_›):p:=h
theorem tk23{p:Prop}(h:p:=by first | (simp;done) | exact Za80 ‹_› ‹_› ‹_› ‹_› (by omega) (by omega)):p:=h
theorem tk24{p:Prop}(h:p:=by first | with_reducible exact Za8s ‹_› ‹_› ‹_› ‹_› | (subst_vars;rfl)):p:=h
theorem tk25{p:Prop}(h:p:=by first | (intro k x hk;omega) | exact Zau0 ‹_› ‹_› ‹_› (by grind) (by omega)):p:=h
theorem Zbu{p:Prop}(h:p:=by first | assumption | exact Za6c | exact Zbab (by assumption:(_:Int)=_/\∀ y:List Int,y∈_->y=[]).2):p:=h
theorem tk27{p:Prop}(h:p:=by first | assumption | exact Zbac | exact Za6d ‹_› ‹_› (by omega) (by omega) (by omega)):p:=h
theorem tk28{p:Prop}(h:p:=by first | assumption | exact Zbec ‹_› | exact Za6i ‹_› ‹_› ‹_›):p:=h
theorem tk29{p:Prop}(h:p:=by first | assumption | exact Zao2 | exact Za07 ‹_› ‹_› (by omega) (by omega)):p:=h
theorem Za4{p:Prop}(h:p:=by unfold SzN;first | omega | (simp only [List.length_append,List.length_cons,List.length_nil];omega)):p:=h
theorem tk31{p:Prop}(h:p:=by unfold SzT;first | omega | (simp only [List.length_append,List.length_cons,List.length_nil];omega)):p:=h
theorem tk32{p:Prop}(h:p:=by unfold Zb3 lt6;dsimp only;omega):p:=h
theorem tk33{p:Prop}(h:p:=by first | exact Za08 | assumption | exact Zbb9 ‹_› ‹_› ‹_›):p:=h
theorem tk34{p:Prop}(h:p:=by first | assumption | exact Zbcf | exact Zbcg ‹_› ‹_› ‹_›):p:=h
theorem tk35{p:Prop}(h:p:=by first | assumption | exact Z8t | exact Za6i ‹_› ‹_› ‹_›):p:=h
theorem tk36{p:Prop}(h:p:=by intro m hm;simp only [List.mem_cons,List.not_mem_nil,or_false] at hm;subst hm;exact Zbc9 _):p:=h
theorem tk37{p:Prop}(h:p:=by first | exact ba_c ‹_› rfl (by omega) | exact ba_o ‹_› rfl (by omega)):p:=h
theorem tk38{p:Prop}(h:p:=by unfold Zcu lt6;dsimp only;omega):p:=h
theorem Zdi{p:Prop}(h:p:=by first | (simp only [List.length_append,List.length_cons,List.length_nil];omega) | omega):p:=h
theorem tk40{p:Prop}(h:p:=by first | (intro hr;exact absurd hr (by decide)) | (intro hr;exact⟨by omega,by grind⟩)):p:=h
theorem tk41{p:Prop}(h:p:=by unfold Zdo lt6;dsimp only;omega):p:=h
theorem tk42{p:Prop}(h:p:=by first | assumption | exact Zao2 | exact (Za6e ‹_› ‹_›).2):p:=h
theorem tk43{p:Prop}(h:p:=by unfold Zdp lt6;dsimp only;omega):p:=h
theorem tk44{p:Prop}(h:p:=by first | (intro hr;exact absurd hr (by decide)) | (intro _;assumption) | assumption):p:=h
theorem tk45{p:Prop}(h:p:=by unfold Zd7 lt6;dsimp only;omega):p:=h
theorem tk46{p:Prop}(h:p:=by first | assumption | exact Zbeb ‹_› ‹_› | exact Z8t):p:=h
theorem tk47{p:Prop}(h:p:=by first | assumption | exact Zbdw ‹_› ‹_› | (left;omega)):p:=h
theorem tk48{p:Prop}(h:p:=by first | assumption | exact Zao3 | exact Zbd9 ‹_› ‹_›):p:=h
theorem tk49{p:Prop}(h:p:=by first | rfl | assumption | (simpa using (by assumption:_=[]++a0)) | grind):p:=h
theorem tk50{p:Prop}(h:p:=by first | omega | exact (Za6e ‹_› ‹_›).1 | (simp;done)):p:=h
theorem tk51{p:Prop}(h:p:=by first | omega | (have:=(by assumption:ML _ _ _) _ ‹_›;omega)):p:=h
theorem tk52{p:Prop}(h:p:=by unfold Ze9 lt6;dsimp only;omega):p:=h
theorem tk53{p:Prop}(h:p:=by first | (intro hr;exact absurd hr Bool.false_ne_true) | (intro _;omega)):p:=h
theorem tk54{p:Prop}(h:p:=by unfold Zik lt6;dsimp only;omega):p:=h
theorem tk55{p:Prop}(h:p:=by unfold Zja lt6;dsimp only;omega):p:=h
theorem tk56{p:Prop}(h:p:=by unfold Zjp lt6;dsimp only;omega):p:=h
theorem tk57{p:Prop}(h:p:=by first | omega | exact shl_ne' (by omega) (by omega) | decide):p:=h
theorem tk58{p:Prop}(h:p:=by first | assumption | exact Zbdz ‹_› (by omega)):p:=h
theorem tk59{p:Prop}(h:p:=by unfold Zkj lt6;dsimp only;omega):p:=h
theorem tk60{p:Prop}(h:p:=by unfold Zkl lt6;dsimp only;omega):p:=h
theorem tk61{p:Prop}(h:p:=by have e:(A5.list E0.Color).length=5:=rfl;omega):p:=h
theorem tk62{p:Prop}(h:p:=by unfold Zl5 lt6;dsimp only;omega):p:=h
theorem tk63{p:Prop}(h:p:=by unfold Zl7 lt6;dsimp only;omega):p:=h
theorem tk64{p:Prop}(h:p:=by unfold Zl8 lt6;dsimp only;omega):p:=h
theorem tk65{p:Prop}(h:p:=by unfold Zmh lt6;dsimp only;omega):p:=h
theorem tk66{p:Prop}(h:p:=by unfold Znm lt6;dsimp only;omega):p:=h
theorem tk67{p:Prop}(h:p:=by unfold Znn lt6;dsimp only;omega):p:=h
theorem tk68{p:Prop}(h:p:=by unfold Zno lt6;dsimp only;omega):p:=h
theorem tk69{p:Prop}(h:p:=by exact Zbdr ‹_› (by first | omega | grind)):p:=h
theorem tk70{p:Prop}(h:p:=by first | omega | (rw [(by assumption:v13=_)];omega)):p:=h
theorem tk71{p:Prop}(h:p:=by have e:(A6.list E0).length=6:=rfl;omega):p:=h
theorem tk72{p:Prop}(h:p:=by unfold Zxu lt6;dsimp only;omega):p:=h
theorem tk73{p:Prop}(h:p:=by unfold Z4d lt6;dsimp only;omega):p:=h
theorem tk74{p:Prop}(h:p:=by unfold Z4k lt6;dsimp only;omega):p:=h
theorem tk75{p:Prop}(h:p:=by unfold Z4l lt6;dsimp only;omega):p:=h
theorem tk76{p:Prop}(h:p:=by unfold Z7e lt6;dsimp only;omega):p:=h
theorem tk77{p:Prop}(h:p:=by unfold Zaan lt6;dsimp only;omega):p:=h
theorem tk78{p:Prop}(h:p:=by unfold Zi2 lt6;dsimp only;omega):p:=h
theorem Zek{p:Prop}(h:p:=by first | rfl | assumption | grind):p:=h
theorem tk80{p:Prop}(h:p:=by first | rfl | (subst_vars;rfl)):p:=h
theorem Zg1{p:Prop}(h:p:=by first | assumption | grind):p:=h
theorem Zks{p:Prop}(h:p:=by first | rfl | assumption):p:=h
theorem Znu{p:Prop}(h:p:=by first | omega | grind):p:=h
theorem Zi9{p:Prop}(h:p:=by first | assumption):p:=h
abbrev Zi1(x:Zab):Prop:=(SzL 16 SzT) x.Subs
theorem Zapi{x:Zab}(h:Z5f x):Zi1 x:=(Zfp h.2.2 (fun _ h=>Zbda h))
abbrev Z7(x:Zd):Prop:=SzS x.Sub
theorem Zes{x:Zd}(h:Zeu x):Z7 x:=(Zakm h.2.2.2.2.2.2.2.1)
abbrev Zv(x:Zi):Prop:=SzS x.Sub/\Z7 x.Filter
theorem Zyj{x:Zi}(h:Zt0 x):Zv x:=⟨Zakm h.2.2.2.1,Zes h.2.2.2.2⟩
abbrev Zp0(x:Zch):Prop:=Z7 x.Filter
theorem Zae0{x:Zch}(h:Zvh x):Zp0 x:=(Zes h.2.2)
abbrev Zgh(x:Zaw):Prop:=Z7 x.Filter
theorem Zapj{x:Zaw}(h:Z5g x):Zgh x:=(Zes h.2.2)
abbrev Zt1(x:Zgt):Prop:=Z7 x.Filter
theorem Zasa{x:Zgt}(h:Z8n x):Zt1 x:=(Zes h.2.2)
abbrev Zyk(x:Zbi):Prop:=Z7 x.Filter
theorem Zai3{x:Zbi}(h:Zyf x):Zyk x:=(Zes h.2.2.2)
abbrev Z9(x:Zt):Prop:=Zt1 x.Ref/\Zyk x.Amount/\SzS x.Card/\Z7 x.Filter/\(SzL 176 Zv) x.Mods
theorem Zai4{x:Zt}(h:Zyg x):Z9 x:=⟨Zasa h.2.1,Zai3 h.2.2.1,Zakm h.2.2.2.2.2.1,Zes h.2.2.2.2.2.2.1,Zfp h.2.2.2.2.2.2.2.2 (fun _ h=>(Zyj h))⟩
abbrev Ze4(x:Zay):Prop:=Z7 x.Filter
theorem Zae1{x:Zay}(h:Zvi x):Ze4 x:=(Zes h.2.2.1)
abbrev Zw(x:Ze):Prop:=Z7 x.Filter/\(SzL 176 Zv) x.Mods/\Zp0 x.Trigger/\(SzL 144 Zgh) x.Specs/\(SzL 560 Z9) x.Effects/\Ze4 x.Replace
theorem Zqh{x:Ze}(h:Zl3 x):Zw x:=⟨Zes h.2.1,Zfp h.2.2.1 (fun _ h=>(Zyj h)),Zae0 h.2.2.2.2.2.1,Zfp h.2.2.2.2.2.2.2.1 (fun _ h=>(Zapj h)),Zfp h.2.2.2.2.2.2.2.2.1 (fun _ h=>(Zai4 h)),Zae1 h.2.2.2.2.2.2.2.2.2⟩
abbrev Zaa(x:Zk):Prop:=SzS x.Name/\Zi1 x.Line/\(SzL 640 Zw) x.Abilities
theorem Zapk{x:Zk}(h:Zaho x):Zaa x:=⟨Zakm h.1,Zapi h.2.2.2.2.1,Zfp h.2.2.2.2.2.2.2.2 (fun _ h=>(Zqh h))⟩
abbrev Zjy(x:Zj9):Prop:=(SzL 8 (fun _=>True)) x.Library/\(SzL 8 (fun _=>True)) x.Hand/\(SzL 8 (fun _=>True)) x.Graveyard
theorem Zai5{x:Zj9}(h:Zyh x):Zjy x:=⟨Zfp h.2.2.2.2.2.2.1 (fun _ _=>trivial),Zfp h.2.2.2.2.2.2.2.1 (fun _ _=>trivial),Zfp h.2.2.2.2.2.2.2.2 (fun _ _=>trivial)⟩
abbrev Zv7(x:Zmp):Prop:=Zw x.Ability/\(SzL 16 (fun _=>True)) x.Targets
theorem Zapl{x:Zmp}(h:Z5h x):Zv7 x:=⟨Zqh h.2.2.2.2.2.2.1,Zfp h.2.2.2.2.2.2.2.1 (fun _ _=>trivial)⟩
abbrev Zvk(x:Zkp):Prop:=Zw x.Ability
theorem Zae2{x:Zkp}(h:Zvj x):Zvk x:=(Zqh h.2.2.1)
abbrev Zq9(x:Zc6):Prop:=(SzL 8 (fun _=>True)) x.Objects/\(SzL 176 Zv) x.Mods
theorem Zapm{x:Zc6}(h:Z5i x):Zq9 x:=⟨Zfp h.2.2.2.2.1 (fun _ _=>trivial),Zfp h.2.2.2.2.2 (fun _ h=>(Zyj h))⟩
abbrev Zac(x:Zn):Prop:=(SzL 152 Zjy) x.Players/\(SzL 128 (fun _=>True)) x.Objects/\(SzL 8 (fun _=>True)) x.Battlefield/\(SzL 8 (fun _=>True)) x.Exile/\(SzL 824 Zv7) x.Stack/\(SzL 768 Zvk) x.Waiting/\(SzL 80 Zq9) x.Conts/\(SzL 8 (fun _=>True)) x.Extra
theorem Zam3{x:Zn}(h:Zadc x):Zac x:=⟨Zfp h.1 (fun _ h=>(Zai5 h)),Zfp h.2.1 (fun _ _=>trivial),Zfp h.2.2.1 (fun _ _=>trivial),Zfp h.2.2.2.1 (fun _ _=>trivial),Zfp h.2.2.2.2.1 (fun _ h=>(Zapl h)),Zfp h.2.2.2.2.2.1 (fun _ h=>(Zae2 h)),Zfp h.2.2.2.2.2.2.1 (fun _ h=>(Zapm h)),Zfp h.2.2.2.2.2.2.2.2.2.2.2.2.2.2.2.2.1 (fun _ _=>trivial)⟩
abbrev Zbs(x:Zaj):Prop:=(SzL 8 (fun _=>True)) x.Objects/\Z7 x.Filter/\(SzL 176 Zv) x.Mods
abbrev Zu(x:Za):Prop:=SzS x.Name/\Zi1 x.Line/\(SzL 640 Zw) x.Abilities
abbrev Z3(x:Zj):Prop:=Zac x.s/\(SzL 224 Zbs) x.forces/\(SzL 176 Zu) x.traits/\(SzL 1 (fun _=>True)) x.dropped/\(SzL 1 (fun _=>True)) x.done/\(SzL 24 (SzL 8 (fun _=>True))) x.hits
abbrev Zyl(x:Za7):Prop:=(SzL 8 (fun _=>True)) x.hits/\(SzL 8 (fun _=>True)) x.numbers
theorem Zahp{a0:Int}:Tot (Zaep a0) (fun r=>True):=by
 apply tZ;dsimp only [Zabi,LT.den];exact tl31
def Z8v:Zmq->Prop
 | .L0 v0 v3=>(SzT v0)/\(0<=v3)
 | .L1 v0 v3=>(SzT v0)/\(0<=v3)/\(v3 < (v0.length:Int))/\(0<=v3)/\(v3 < v0.length)
def Zxl:Zmq->M6
 | .L0 v0 v3=>(1,((v0.length:Int) - v3).toNat,1000000,0,0,0)
 | .L1 v0 v3=>(1,((v0.length:Int) - v3).toNat,0,0,0,0)
theorem Zaac{v0:List UInt8}{v3:Int}(h:Z8v (.L1 v0 v3)):Tot (Zka v0 v3).den (Nx Z8v Zxl (1,((v0.length:Int) - v3).toNat,0,0,0,0) (fun r=>True)):=by
 obtain⟨ov0,cv3,bd2,i0,i1⟩:=h;have lb_v0:v0.length<=562949953421312:=ov0;dsimp only [Zka,LT.den];apply tD<;>intro h1
 .refine Tot.ix fun x1 h2=>?_;apply tE<;>intro h3
  .have q1:=wr (v3 - 1);refine Tot.ix fun x2 h4=>?_;apply tE<;>intro h5
   .exact tR trivial
   have q2:=wr (v3+1);exact tl21
  exact tl51
 exact tl51
theorem Z8w{a0:List UInt8}(oa0:SzT a0):Tot (Zakq a0) (fun r=>True):=by
 apply Tot.rn Z8v Zxl
 .have lb_a0:a0.length<=562949953421312:=oa0;dsimp only [Zah9,LT.den];apply tD<;>intro h1
  .exact tR trivial
  apply tD<;>intro h2
  .exact tR trivial
  refine Tot.ix fun x1 h3=>tB (Zahp) fun x2 h4=>?_;apply tO<;>intro h5
  .exact tR trivial
  have q1:=wr ((a0.length:Int) - 1);refine Tot.ix fun x3 h6=>?_;apply tE<;>intro h7
  .exact tR trivial
  exact tL ⟨oa0,cl⟩ (by unfold Zxl lt6;dsimp only;omega)
 intro s hs;cases s with
 | L0 v0 v3=>
  obtain⟨ov0,cv3⟩:=hs;dsimp only [Zu3,Zsc,LT.den,Zxl];apply tD<;>intro h1
  .refine Tot.ix fun x1 h2=>tB (Zahp) fun x2 h3=>?_;apply tO<;>intro h4
   .refine Tot.ix fun x3 h5=>?_;apply tD<;>intro h6
    .refine Tot.ix fun x4 h7=>?_;apply tN<;>intro h8
     .exact tR trivial
     exact tl6
    refine Tot.ix fun x4 h7=>?_;apply tD<;>intro h8
    .refine Tot.ix fun x5 h9=>?_;apply tN<;>intro h10
     .exact tR trivial
     exact tl6
    exact tl6
   exact tl6
  exact tR trivial
 | L1 _ _=>exact Zaac hs
def Zym(n m:Int):Bool:=decide (n>=0)&&decide (n<=m)
def Zadi(c:Zs):Bool:=Zym c.Generic 99&&(Zym c.X 2&&c.Color.list.all fun n=>Zym n 9)
theorem Za3b(c:Zs):Z59 c=some (Zadi c):=by
 unfold Z59 LF.run;dsimp only [Zaia,LT.den]
 have hl:Zcz Zkq.step (.L0 c 0)=some (c.Color.list.all fun n=>Zym n 9):=by
  have:=Z0k (st:=fun i=>Zmr.L0 c (i:Int)) (step:=Zkq.step) (bad:=false) c.Color.list (fun n=>Zym n 9) (fun i x hx=>by
   have hi:=(List.getElem?_eq_some_iff.1 hx).1
   have hi:i < 5:=hi
   show (Zoj _ _).den=_
   dsimp only [Zoj,LT.den]
   rw [decide_eq_true (by omega),Zj8 hx,Zgj (by omega) (by omega)]
   simp only [cond_true,Option.bind_some]
   unfold Zym
   by_cases h1:x < 0
   .rw [decide_eq_true h1,decide_eq_false (show ¬ x>=0 by omega)];rfl
   .rw [decide_eq_false h1,decide_eq_true (show x>=0 by omega)]
    by_cases h2:x > 9
    .rw [decide_eq_true h2,decide_eq_false (show ¬ x<=9 by omega)];rfl
    .rw [decide_eq_false h2,decide_eq_true (show x<=9 by omega)];rfl)
  rw [show (Zmr.L0 c 0) = .L0 c ((0:Nat):Int) from rfl,this]
  have he:Zcz Zkq.step (.L0 c ((c.Color.list.length:Nat):Int))=some true:=by
   refine Zdv ?_
   show (Zoj c 5).den=_
   rfl
  rw [he]
  cases c.Color.list.all fun n=>Zym n 9<;>rfl
 refine (Zbt fun _=>Zbt fun _=>Zbt fun _=>Zbt fun _=>(show Option.bind (some (Sum.inl (Zmr.L0 c 0))) (Zhq Zkq.step)=some (c.Color.list.all fun n=>Zym n 9) from hl)).trans ?_;congr 1
 unfold Zadi Zym;rw [Bool.eq_iff_iff];simp only [Bool.and_eq_true,Bool.not_eq_true',decide_eq_false_iff_not,decide_eq_true_eq,ge_iff_le,gt_iff_lt,Int.not_lt];constructor
 .rintro ⟨h1,h2,h3,h4,h5⟩;exact⟨⟨h1,h2⟩,⟨h3,h4⟩,h5⟩
 .rintro ⟨⟨h1,h2⟩,⟨h3,h4⟩,h5⟩;exact⟨h1,h2,h3,h4,h5⟩
theorem Zz1(a0:Zs):Tot (Z59 a0) (fun r=>(r=true->a0.X<=2)/\(r=true->∀ n,n∈A5.list a0.Color->n<=9)/\(r=Zyi a0)):=by
 refine⟨_,Za3b a0,fun h=>?_,fun h n hn=>?_,?_⟩
 .simp only [Zadi,Zym,Bool.and_eq_true,decide_eq_true_eq] at h;exact h.2.1.2
 .simp only [Zadi,Zym,Bool.and_eq_true,decide_eq_true_eq,List.all_eq_true] at h;exact (h.2.2 n hn).2
 .unfold Zadi Zym Zyi;rw [Bool.eq_iff_iff];simp only [Bool.and_eq_true,decide_eq_true_eq,List.all_eq_true,ge_iff_le];exact⟨fun⟨⟨h1,h2⟩,⟨h3,h4⟩,h5⟩=>⟨h1,h2,h3,h4,h5⟩,fun⟨h1,h2,h3,h4,h5⟩=>⟨⟨h1,h2⟩,⟨h3,h4⟩,h5⟩⟩
theorem Zadj:Tot (Zpl) (fun r=>((SzL 16 SzN) r)/\(r.length=2)):=by
 apply tZ;dsimp only [Z0m,LT.den];have q1:(SzL 16 SzN) ([([98,97,115,105,99]:List UInt8),([117,110,105,113,117,101]:List UInt8)]:List (List UInt8)):=⟨by simp only [List.length_cons,List.length_nil];omega,mem_cons' Za4 (mem_cons' Za4 (fun _ h=>by cases h))⟩;have lq1:([([98,97,115,105,99]:List UInt8),([117,110,105,113,117,101]:List UInt8)]:List (List UInt8)).length=2:=rfl;exact tR ⟨q1,cl⟩
def Zasb:Zqo->Prop
 | .L0 v0 v1 v5=>((SzL 16 SzT) v0)/\(SzT v1)/\(0<=v5)
def Z1s:Zqo->M6
 | .L0 v0 v1 v5=>(1,((v0.length:Int) - v5).toNat,1000000,0,0,0)
theorem Zaad{a0:List (List UInt8)}{a1:List UInt8}(oa0:(SzL 16 SzT) a0)(oa1:SzT a1):Tot (Z2q a0 a1) (fun r=>True):=by
 apply Tot.rn Zasb Z1s
 .dsimp only [Z4w,LT.den];exact tL ⟨oa0,oa1,cl⟩ (by unfold Z1s lt6;dsimp only;omega)
 rintro ⟨v0,v1,v5⟩ ⟨ov0,ov1,cv5⟩;have lb_v0:=ov0.1;dsimp only [Zv2,Zlb,LT.den];apply tD<;>intro h1
 .refine Tot.ix fun x1 h2=>?_;apply tF<;>intro h3
  .exact tR trivial
  have q1:=wr (v5+1);exact tL ⟨ov0,ov1,cl⟩ (by unfold Z1s lt6;dsimp only;omega)
 exact tR trivial
theorem Zzn:Tot (Zrj) (fun r=>((SzL 16 SzN) r)/\(r.length=6)):=by
 apply tZ;dsimp only [Z2r,LT.den];have q1:(SzL 16 SzN) ([([99,114,101,97,116,117,114,101]:List UInt8),([105,110,115,116,97,110,116]:List UInt8),([114,105,116,117,97,108]:List UInt8),([114,101,108,105,99]:List UInt8),([99,104,97,114,109]:List UInt8),([108,97,110,100]:List UInt8)]:List (List UInt8)):=⟨by simp only [List.length_cons,List.length_nil];omega,mem_cons' Za4 (mem_cons' Za4 (mem_cons' Za4 (mem_cons' Za4 (mem_cons' Za4 (mem_cons' Za4 (fun _ h=>by cases h))))))⟩;have lq1:([([99,114,101,97,116,117,114,101]:List UInt8),([105,110,115,116,97,110,116]:List UInt8),([114,105,116,117,97,108]:List UInt8),([114,101,108,105,99]:List UInt8),([99,104,97,114,109]:List UInt8),([108,97,110,100]:List UInt8)]:List (List UInt8)).length=6:=rfl;exact tR ⟨q1,cl⟩
theorem Zyn{a0:List UInt8}(oa0:SzT a0):Tot (Z2t a0) (fun r=>True):=by
 apply tZ;dsimp only [Z4x,LT.den];refine tB (Z8w oa0) fun x1 h1=>?_;apply tF<;>intro h2
 .refine tB (Zadj) fun x2 h3=>tB (Zaad (SzL.nt h3.1) oa0) fun x3 h4=>?_;apply tD<;>intro h5
  .exact tB (Zzn) fun x4 h6=>tB (Zaad (SzL.nt h6.1) oa0) fun x5 h7=>tR trivial
  exact tR trivial
 exact tR trivial
def Zazy:Zwo->Prop
 | .L0 v0 v1 v5=>(0<=v5)/\(v1<=100)
def Zam4:Zwo->M6
 | .L0 v0 v1 v5=>(1,(v1 - v5).toNat,1000000,0,0,0)
theorem Z5m{a0:Int}{a1:Int}(h0:a1<=100):Tot (Za0v a0 a1) (fun r=>True):=by
 apply Tot.rn Zazy Zam4
 .dsimp only [Zaqo,LT.den];exact tl23
 rintro ⟨v0,v1,v5⟩ ⟨cv5,i0⟩;dsimp only [Zabl,Zakr,LT.den];apply tD<;>intro h1
 .have q1:=wr (v5+1);exact tl23
 exact tR trivial
def Za3c:Z0r->Prop
 | .L0 E0 v3=>(Zi1 E0)/\(0<=v3)
def Zadk:Z0r->M6
 | .L0 E0 v3=>(1,((E0.Subs.length:Int) - v3).toNat,1000000,0,0,0)
theorem Za3d{a0:Zab}(oa0:Zi1 a0):Tot (Za44 a0) (fun r=>True):=by
 apply Tot.rn Za3c Zadk
 .dsimp only [Zau6,LT.den];apply tD<;>intro h1
  .exact tR trivial
  apply tD<;>intro h2
  .exact tR trivial
  apply tD<;>intro h3
  .exact tR trivial
  apply tD<;>intro h4
  .exact tR trivial
  apply tD<;>intro h5
  .exact tR trivial
  exact tL ⟨oa0,cl⟩ (by unfold Zadk lt6;dsimp only;omega)
 rintro ⟨E0,v3⟩ ⟨O0,cv3⟩;dsimp only [Zaib,Zaqp,LT.den];have q1:=O0.1;apply tD<;>intro h1
 .refine Tot.ix fun x1 h2=>?_;have oh2:SzT x1:=O0.2 x1 h2.1;refine tB (Zyn oh2) fun x2 h3=>?_;apply tO<;>intro h4
  .exact tR trivial
  apply tD<;>intro h5
  .have q2:=wr (v3 - 1);refine Tot.ix fun x3 h6=>?_;apply tO<;>intro h7
   .exact tR trivial
   have q3:=wr (v3+1);exact tl38
  have q2:=wr (v3+1);exact tl38
 apply tE<;>intro h2
 .exact tR trivial
 apply tE<;>intro h3
 .exact tR trivial
 refine tB (Z5m cl) fun x1 h4=>?_;apply tO<;>intro h5
 .exact tB (Z5m cl) fun x2 h6=>tR trivial
 exact tR trivial
theorem Zam5{a0:Int}:Tot (Za46 a0) (fun r=>True):=by
 apply tZ;dsimp only [Zau7,LT.den];exact tl31
theorem Zai6{a0:Zk}(oa0:Zaa a0):Tot (Zabm a0) (fun r=>True):=by
 apply tZ;dsimp only [Z6a,LT.den];exact tR trivial
def Zasc:Zqp->Prop
 | .L0 v0 v1 v7=>(0<=v7)/\True
def Zadl:Zqp->M6
 | .L0 v0 v1 v7=>(1,(6 - v7).toNat,1000000,0,0,0)
theorem Zaae{a0:Int}{a1:Int}{a2:Int}:Tot (Z2u a0 a1 a2) (fun r=>True):=by
 apply Tot.rn Zasc Zadl
 .dsimp only [Z4y,LT.den];apply tD<;>intro h1
  .exact tR trivial
  apply tD<;>intro h2
  .exact tR trivial
  apply tD<;>intro h3
  .exact tR trivial
  apply tD<;>intro h4
  .exact tR trivial
  exact tl37
 rintro ⟨v0,v1,v7⟩ ⟨cv7,_⟩;dsimp only [Znq,Zlc,LT.den];apply tD<;>intro h1
 .apply tE<;>intro h2
  .apply tE<;>intro h3
   .exact tR trivial
   exact tl58
  exact tl58
 exact tR trivial
theorem Zyo{a0:Zb}:Tot (Z2v a0) (fun r=>(r=true->0<=a0.Kind/\a0.Kind<=3)):=by
 apply tZ;dsimp only [Z4z,LT.den];apply tD<;>intro h1
 .exact tl0
 apply tD<;>intro h2
 .exact tl0
 apply tD<;>intro h3
 .exact tl0
 apply tD<;>intro h4
 .exact tl0
 apply tN<;>intro h5
 .exact tl17
 exact tl17
abbrev Zahq(a0:Zd)(r:Bool):Prop:=(r=true->0<=a0.Zone/\a0.Zone<=5/\0<=a0.Who/\a0.Who<=2/\0<=a0.Self/\a0.Self<=2/\0<=a0.Tap/\a0.Tap<=2/\0<=a0.Power.Kind/\a0.Power.Kind<=3/\0<=a0.Tough.Kind/\a0.Tough.Kind<=3/\0<=a0.Value.Kind/\a0.Value.Kind<=3)
def Z8x(a0:Zd):Z0t->Prop
 | .L0 E0=>(E0=a0)/\(Z7 E0)/\(0<=E0.Zone/\E0.Zone<=5/\0<=E0.Who/\E0.Who<=2/\0<=E0.Self/\E0.Self<=2/\0<=E0.Tap/\E0.Tap<=2)
def Zarq:Z0t->M6
 | .L0 E0=>(0,0,0,0,0,0)
theorem Zyp{a0:Zd}{E0:Zd}(h:(Z8x a0) (.L0 E0)):Tot (Zok E0).den (Nx (Z8x a0) Zarq (0,0,0,0,0,0) (Zahq a0)):=by
 obtain⟨al0,O0,i0⟩:=h;subst al0;dsimp only [Zok,LT.den];refine tB (Zyo) fun x1 h1=>?_;have eh1_0:=h1;apply tF<;>intro h2
 .have h2_0:=eh1_0 h2;refine tB (Zyo) fun x2 h3=>?_;have eh3_0:=h3;apply tF<;>intro h4
  .have h4_0:=eh3_0 h4;refine tB (Zyo) fun x3 h5=>?_;have eh5_0:=h5;exact tR (by intro hr;have:=eh5_0 hr;first | omega | (cases hr;done))
  exact tl0
 exact tl0
theorem Zazz{a0:Zd}(oa0:Z7 a0):Tot (Zabo a0) (Zahq a0):=by
 apply Tot.rn (Z8x a0) Zarq
 .dsimp only [Zaic,LT.den];apply tD<;>intro h1
  .exact tl0
  apply tD<;>intro h2
  .exact tl0
  apply tD<;>intro h3
  .exact tl0
  apply tD<;>intro h4
  .exact tl0
  apply tD<;>intro h5
  .exact tl0
  apply tD<;>intro h6
  .exact tl0
  apply tD<;>intro h7
  .exact tl0
  apply tD<;>intro h8
  .exact tl0
  refine tB (Zaae) fun x1 h9=>?_;apply tO<;>intro h10
  .exact tl0
  refine tB (Zaae) fun x2 h11=>?_;apply tO<;>intro h12
  .exact tl0
  apply tO<;>intro h13
  .refine tB (Zyn (SzS.t oa0)) fun x3 h14=>?_;apply tO<;>intro h15
   .exact tl0
   apply tD<;>intro h16
   .exact tl0
   apply tD<;>intro h17
   .exact tl0
   exact tJ (Zyp ⟨rfl,oa0,cl⟩)
  apply tD<;>intro h14
  .exact tl0
  apply tD<;>intro h15
  .exact tl0
  exact tJ (Zyp ⟨rfl,oa0,cl⟩)
 intro s hs;cases s with
 | L0 _=>exact Zyp hs
theorem Zit{a0:Zd}(oa0:Z7 a0):Tot (Zabo a0) (fun r=>(r=true->0<=a0.Zone/\a0.Zone<=5/\0<=a0.Who/\a0.Who<=2/\0<=a0.Self/\a0.Self<=2/\0<=a0.Tap/\a0.Tap<=2/\0<=a0.Power.Kind/\a0.Power.Kind<=3/\0<=a0.Tough.Kind/\a0.Tough.Kind<=3/\0<=a0.Value.Kind/\a0.Value.Kind<=3)/\(r=filV a0)):=(Tot.we (Zazz oa0)).mono fun r h=>⟨h.1,Option.some.inj (h.2.symm.trans (Za57 a0))⟩
def Zo8:Zpm->Prop
 | .L0 E0 E1 v7 v8=>(Zv E0)/\(Zv E1)
 | .L1 E0 E1 v7 v16=>(Zv E0)/\(Zv E1)
def Z5n:Zpm->M6
 | .L0 E0 E1 v7 v8=>(0,0,0,0,0,0)
 | .L1 E0 E1 v7 v16=>(0,0,0,0,0,0)
theorem Z35{E0:Zi}{E1:Zi}{v7:Int}{v16:Bool}(h:Zo8 (.L1 E0 E1 v7 v16)):Tot (Zqq E0 E1 v7 v16).den (Nx Zo8 Z5n (0,0,0,0,0,0) (fun r=>(Zv r))):=by
 obtain⟨O0,O1⟩:=h;dsimp only [Zqq,LT.den];apply tF<;>intro h1
 .exact tR ⟨SzS.nil,O0.2⟩
 apply tE<;>intro h2
 .exact tR ⟨O0.1,SzS.nil⟩
 apply tE<;>intro h3
 .exact tl8
 apply tE<;>intro h4
 .exact tl8
 exact tR O0
theorem Z36{E0:Zi}{E1:Zi}{v7:Int}{v8:Bool}(h:Zo8 (.L0 E0 E1 v7 v8)):Tot (Zhl E0 E1 v7 v8).den (Nx Zo8 Z5n (0,0,0,0,0,0) (fun r=>(Zv r))):=by
 obtain⟨O0,O1⟩:=h;dsimp only [Zhl,LT.den];apply tF<;>intro h1
 .exact tl8
 apply tE<;>intro h2
 .exact tl15
 exact tl15
theorem Zaxv{a0:Zi}(oa0:Zv a0):Tot (Zau9 a0) (fun r=>(Zv r)):=by
 apply Tot.rn Zo8 Z5n
 .dsimp only [Zakt,LT.den];apply tE<;>intro h1
  .exact tl41
  apply tE<;>intro h2
  .exact tl41
  apply tE<;>intro h3
  .exact tl41
  apply tE<;>intro h4
  .exact tl41
  apply tE<;>intro h5
  .exact tl41
  exact tl41
 intro s hs;cases s with
 | L0 _ _ _ _=>exact Z36 hs
 | L1 _ _ _ _=>exact Z35 hs
theorem Zasd{a0:Int}:Tot (Zaqr a0) (fun r=>True):=by
 apply tZ;dsimp only [Zafj,LT.den];apply tD<;>intro h1
 .exact tl27
 exact tR trivial
def Zz2:Zru->Prop
 | .L0 E0 v18 v19=>(Zv E0)/\True
 | .L1 E0 v18 v25=>(Zv E0)/\True
 | .L2 E0 v18 v51=>(Zv E0)/\True
def Z37:Zru->M6
 | .L0 E0 v18 v19=>(0,0,0,0,0,0)
 | .L1 E0 v18 v25=>(0,0,0,0,0,0)
 | .L2 E0 v18 v51=>(0,0,0,0,0,0)
theorem Zyq{E0:Zi}{v18:Int}{v51:Bool}(h:(Zv E0)/\True):Tot (Zwp E0 v18 v51).den (Nx Zz2 Z37 (0,0,0,0,0,0) (fun r=>True)):=by
 obtain⟨O0,_⟩:=h;dsimp only [Zwp,LT.den];apply tF<;>intro h1
 .exact tl27
 apply tE<;>intro h2
 .exact tB (Zit O0.2) fun x1 h3=>tR trivial
 apply tE<;>intro h3
 .apply tD<;>intro h4
  .exact tl73
  exact tR trivial
 apply tE<;>intro h4
 .apply tD<;>intro h5
  .exact tl74
  exact tR trivial
 exact tR trivial
theorem Zyr{E0:Zi}{v18:Int}{v25:Bool}(h:(Zv E0)/\True):Tot (Zwq E0 v18 v25).den (Nx Zz2 Z37 (0,0,0,0,0,0) (fun r=>True)):=by
 obtain⟨O0,_⟩:=h;dsimp only [Zwq,LT.den];apply tF<;>intro h1
 .exact tB (Zyn (SzS.t O0.1)) fun x1 h2=>tR trivial
 apply tE<;>intro h2
 .apply tD<;>intro h3
  .exact tR trivial
  exact tR trivial
 apply tE<;>intro h3
 .exact tl32
 apply tE<;>intro h4
 .exact tJ (Zyq ⟨O0,trivial⟩)
 exact tJ (Zyq ⟨O0,trivial⟩)
theorem Zys{E0:Zi}{v18:Int}{v19:Bool}(h:(Zv E0)/\True):Tot (Zwr E0 v18 v19).den (Nx Zz2 Z37 (0,0,0,0,0,0) (fun r=>True)):=by
 obtain⟨O0,_⟩:=h;dsimp only [Zwr,LT.den];apply tF<;>intro h1
 .exact tB (Zasd) fun x1 h2=>tR trivial
 apply tE<;>intro h2
 .exact tJ (Zyr ⟨O0,trivial⟩)
 exact tJ (Zyr ⟨O0,trivial⟩)
theorem Zam6{a0:Zi}(oa0:Zv a0):Tot (Za47 a0) (fun r=>True):=by
 apply Tot.rn Zz2 Z37
 .dsimp only [Zavb,LT.den];apply tD<;>intro h1
  .exact tR trivial
  apply tD<;>intro h2
  .exact tR trivial
  refine tB (Zaxv oa0) fun x1 h3=>?_;apply tO<;>intro h4
  .exact tR trivial
  apply tE<;>intro h5
  .exact tJ (Zys ⟨oa0,trivial⟩)
  exact tJ (Zys ⟨oa0,trivial⟩)
 intro s hs;cases s with
 | L0 _ _ _=>exact Zys hs
 | L1 _ _ _=>exact Zyr hs
 | L2 _ _ _=>exact Zyq hs
def Zapn:Zol->Prop
 | .L0 v0 v1 v2 v7 v8=>((SzL 16 SzN) v0)/\(SzN v2)/\(0<=v8)/\(v7.length<=200*v8.toNat)/\(v0.length<=100)/\(v8<=v0.length)
def Zyt:Zol->M6
 | .L0 v0 v1 v2 v7 v8=>(1,((v0.length:Int) - v8).toNat,1000000,0,0,0)
theorem Zapo{a0:List (List UInt8)}{a1:Int}{a2:List UInt8}(oa0:(SzL 16 SzN) a0)(oa2:SzN a2)(h0:a0.length<=100):Tot (Zakv a0 a1 a2) (fun r=>(SzT r)/\(r.length<=20000)):=by
 apply Tot.rn Zapn Zyt
 .dsimp only [Zabp,LT.den];exact tL ⟨oa0,oa2,cs⟩ (by unfold Zyt lt6;dsimp only;omega)
 rintro ⟨v0,v1,v2,v7,v8⟩ ⟨ov0,ov2,cv8,i0,i1,i2⟩;have lb_v2:v2.length<=100:=ov2;dsimp only [Z0u,Z9a,LT.den];apply tD<;>intro h1
 .refine tB (Z5m cl) fun x1 h2=>?_;apply tF<;>intro h3
  .apply tO<;>intro h4
   .refine tB (tK Zdi) fun x2 h5=>Tot.ix fun x3 h6=>?_;have oh6:SzN x3:=ov0.2 x3 h6.1;have q1:x3.length<=100:=oh6;refine tB (tK Zdi) fun x4 h7=>?_;exact tl62
   refine Tot.ix fun x2 h5=>?_;have oh5:SzN x2:=ov0.2 x2 h5.1;have q1:x2.length<=100:=oh5;refine tB (tK Zdi) fun x3 h6=>?_;exact tl62
  have q1:=wr (v8+1);exact tl40
 exact tR ⟨tk31,cl⟩
theorem Zqi{a0:Int}:Tot (Z9b a0) (fun r=>(SzT r)/\(r.length<=20000)):=by
 apply tZ;dsimp only [Z2w,LT.den];apply tD<;>intro h1
 .exact tR ⟨SzT.nil,cl⟩
 apply tD<;>intro h2
 .exact tR ⟨SzT.nil,cl⟩
 refine tB (Zzn) fun x1 h3=>tB (Zapo h3.1 Za4 cl) fun x2 h4=>?_;have eh4_1:=h4.2;exact tR ⟨h4.1,cl⟩
theorem Za3e{a0:Int}:Tot (Za48 a0) (fun r=>True):=by
 apply tZ;dsimp only [Zavd,LT.den];exact tl31
theorem Zt2{a0:Int}:Tot (Zavf a0) (fun r=>(SzN r)):=by
 apply tZ;dsimp only [Zakw,LT.den];apply tE<;>intro h1
 .exact Zgq
 apply tE<;>intro h2
 .exact Zgq
 apply tE<;>intro h3
 .exact Zgq
 apply tE<;>intro h4
 .exact Zgq
 apply tE<;>intro h5
 .exact Zgq
 exact tR (SzN.nil)
def Zaxw:Zs8->Prop
 | .L0 v0 v3 v4=>(0<=v4)/\(v3.length<=200*v4.toNat)/\(v4<=5)
def Zahr:Zs8->M6
 | .L0 v0 v3 v4=>(1,(5 - v4).toNat,1000000,0,0,0)
theorem Zadm{a0:Int}:Tot (Zavg a0) (fun r=>(SzT r)):=by
 apply Tot.rn Zaxw Zahr
 .dsimp only [Zaky,LT.den];refine tB (Za3e) fun x1 h1=>?_;apply tO<;>intro h2
  .exact tR (SzT.nil)
  apply tE<;>intro h3
  .exact tl70
  exact tl25
 rintro ⟨v0,v3,v4⟩ ⟨cv4,i0,i1⟩;dsimp only [Z78,Zafl,LT.den];apply tD<;>intro h1
 .refine tB (tK tk57) fun x1 h2=>tB (tK tk57) fun x2 h3=>?_;apply tE<;>intro h4
  .apply tO<;>intro h5
   .refine tB (tK Zdi) fun x3 h6=>tB (Zt2) fun x4 h7=>?_;have q1:x4.length<=100:=h7;refine tB (tK Zdi) fun x5 h8=>?_;exact tl53
   refine tB (Zt2) fun x3 h6=>?_;have q1:x3.length<=100:=h6;refine tB (tK Zdi) fun x4 h7=>?_;exact tl53
  have q1:=wr (v4+1);exact tl25
 exact tl70
theorem Zase:Tot (Zabq) (fun r=>((SzL 16 SzN) r)/\(r.length=17)):=by
 apply tZ;dsimp only [Zafn,LT.den];have q1:(SzL 16 SzN) ([([102,108,121,105,110,103]:List UInt8),([114,101,97,99,104]:List UInt8),([104,97,115,116,101]:List UInt8),([118,105,103,105,108,97,110,116]:List UInt8),([116,114,97,109,112,108,101]:List UInt8),([102,105,114,115,116,45,115,116,114,105,107,101]:List UInt8),([100,111,117,98,108,101,45,115,116,114,105,107,101]:List UInt8),([100,101,97,100,108,121]:List UInt8),([108,105,102,101,108,105,110,107]:List UInt8),([109,101,110,97,99,101]:List UInt8),([100,101,102,101,110,100,101,114]:List UInt8),([119,97,114,100,101,100]:List UInt8),([115,116,117,114,100,121]:List UInt8),([101,108,117,115,105,118,101]:List UInt8),([110,111,45,97,116,116,97,99,107]:List UInt8),([110,111,45,98,108,111,99,107]:List UInt8),([109,117,115,116,45,97,116,116,97,99,107]:List UInt8)]:List (List UInt8)):=⟨by simp only [List.length_cons,List.length_nil];omega,mem_cons' Za4 (mem_cons' Za4 (mem_cons' Za4 (mem_cons' Za4 (mem_cons' Za4 (mem_cons' Za4 (mem_cons' Za4 (mem_cons' Za4 (mem_cons' Za4 (mem_cons' Za4 (mem_cons' Za4 (mem_cons' Za4 (mem_cons' Za4 (mem_cons' Za4 (mem_cons' Za4 (mem_cons' Za4 (mem_cons' Za4 (fun _ h=>by cases h)))))))))))))))))⟩;have lq1:([([102,108,121,105,110,103]:List UInt8),([114,101,97,99,104]:List UInt8),([104,97,115,116,101]:List UInt8),([118,105,103,105,108,97,110,116]:List UInt8),([116,114,97,109,112,108,101]:List UInt8),([102,105,114,115,116,45,115,116,114,105,107,101]:List UInt8),([100,111,117,98,108,101,45,115,116,114,105,107,101]:List UInt8),([100,101,97,100,108,121]:List UInt8),([108,105,102,101,108,105,110,107]:List UInt8),([109,101,110,97,99,101]:List UInt8),([100,101,102,101,110,100,101,114]:List UInt8),([119,97,114,100,101,100]:List UInt8),([115,116,117,114,100,121]:List UInt8),([101,108,117,115,105,118,101]:List UInt8),([110,111,45,97,116,116,97,99,107]:List UInt8),([110,111,45,98,108,111,99,107]:List UInt8),([109,117,115,116,45,97,116,116,97,99,107]:List UInt8)]:List (List UInt8)).length=17:=rfl;exact tR ⟨q1,cl⟩
theorem Z1t{a0:Int}:Tot (Zavi a0) (fun r=>(SzN r)):=by
 apply tZ;dsimp only [Zakz,LT.den];apply tD<;>intro h1
 .exact tR (SzN.nil)
 apply tD<;>intro h2
 .exact tR (SzN.nil)
 refine tB (Zase) fun x1 h3=>Tot.ix fun x2 h4=>?_;have oh4:SzN x2:=h3.1.2 x2 h4.1;exact tR oh4
def Zaxx:Zs9->Prop
 | .L0 v0 v3 v4=>(0<=v4)/\(v3.length<=200*v4.toNat)/\(v4<=17)
def Zahs:Zs9->M6
 | .L0 v0 v3 v4=>(1,(17 - v4).toNat,1000000,0,0,0)
theorem Zadn{a0:Int}:Tot (Zavj a0) (fun r=>(SzT r)):=by
 apply Tot.rn Zaxx Zahs
 .dsimp only [Zak1,LT.den];refine tB (Zam5) fun x1 h1=>?_;apply tO<;>intro h2
  .exact tR (SzT.nil)
  exact tl29
 rintro ⟨v0,v3,v4⟩ ⟨cv4,i0,i1⟩;dsimp only [Z79,Zafp,LT.den];apply tD<;>intro h1
 .apply tE<;>intro h2
  .apply tO<;>intro h3
   .refine tB (tK Zdi) fun x1 h4=>tB (Z1t) fun x2 h5=>?_;have q1:x2.length<=100:=h5;refine tB (tK Zdi) fun x3 h6=>?_;exact tl55
   refine tB (Z1t) fun x1 h4=>?_;have q1:x1.length<=100:=h4;refine tB (tK Zdi) fun x2 h5=>?_;exact tl55
  have q1:=wr (v4+1);exact tl29
 exact Zbah
theorem Zae3:Tot (Zx0) (fun r=>((SzL 16 SzN) r)/\(r.length=6)):=by
 apply tZ;dsimp only [Z2y,LT.den];have q1:(SzL 16 SzN) ([([]:List UInt8),([105,110,45,104,97,110,100]:List UInt8),([105,110,45,108,105,98,114,97,114,121]:List UInt8),([105,110,45,103,114,97,118,101,121,97,114,100]:List UInt8),([105,110,45,101,120,105,108,101]:List UInt8),([111,110,45,115,116,97,99,107]:List UInt8)]:List (List UInt8)):=⟨by simp only [List.length_cons,List.length_nil];omega,mem_cons' (SzN.nil) (mem_cons' Za4 (mem_cons' Za4 (mem_cons' Za4 (mem_cons' Za4 (mem_cons' Za4 (fun _ h=>by cases h))))))⟩;have lq1:([([]:List UInt8),([105,110,45,104,97,110,100]:List UInt8),([105,110,45,108,105,98,114,97,114,121]:List UInt8),([105,110,45,103,114,97,118,101,121,97,114,100]:List UInt8),([105,110,45,101,120,105,108,101]:List UInt8),([111,110,45,115,116,97,99,107]:List UInt8)]:List (List UInt8)).length=6:=rfl;exact tR ⟨q1,cl⟩
theorem Zai7:Tot (Z0v) (fun r=>((SzL 16 SzN) r)/\(r.length=3)):=by
 apply tZ;dsimp only [Z6c,LT.den];have q1:(SzL 16 SzN) ([([]:List UInt8),([121,111,117,114,115]:List UInt8),([116,104,101,105,114,115]:List UInt8)]:List (List UInt8)):=⟨by simp only [List.length_cons,List.length_nil];omega,mem_cons' (SzN.nil) (mem_cons' Za4 (mem_cons' Za4 (fun _ h=>by cases h)))⟩;have lq1:([([]:List UInt8),([121,111,117,114,115]:List UInt8),([116,104,101,105,114,115]:List UInt8)]:List (List UInt8)).length=3:=rfl;exact tR ⟨q1,cl⟩
theorem Zae4:Tot (Zx1) (fun r=>((SzL 16 SzN) r)/\(r.length=3)):=by
 apply tZ;dsimp only [Z20,LT.den];have q1:(SzL 16 SzN) ([([]:List UInt8),([115,101,108,102]:List UInt8),([111,116,104,101,114]:List UInt8)]:List (List UInt8)):=⟨by simp only [List.length_cons,List.length_nil];omega,mem_cons' (SzN.nil) (mem_cons' Za4 (mem_cons' Za4 (fun _ h=>by cases h)))⟩;have lq1:([([]:List UInt8),([115,101,108,102]:List UInt8),([111,116,104,101,114]:List UInt8)]:List (List UInt8)).length=3:=rfl;exact tR ⟨q1,cl⟩
theorem Zai8:Tot (Z0w) (fun r=>((SzL 16 SzN) r)/\(r.length=3)):=by
 apply tZ;dsimp only [Z6e,LT.den];have q1:(SzL 16 SzN) ([([]:List UInt8),([116,97,112,112,101,100]:List UInt8),([117,110,116,97,112,112,101,100]:List UInt8)]:List (List UInt8)):=⟨by simp only [List.length_cons,List.length_nil];omega,mem_cons' (SzN.nil) (mem_cons' Za4 (mem_cons' Za4 (fun _ h=>by cases h)))⟩;have lq1:([([]:List UInt8),([116,97,112,112,101,100]:List UInt8),([117,110,116,97,112,112,101,100]:List UInt8)]:List (List UInt8)).length=3:=rfl;exact tR ⟨q1,cl⟩
def Zaz0:Zws->Prop
 | .L0 v0 v1 v5=>(0<=v5)/\(v1<=100)
def Zam7:Zws->M6
 | .L0 v0 v1 v5=>(1,(v1 - v5).toNat,1000000,0,0,0)
theorem Zra{a0:Int}{a1:Int}(h0:a1<=100):Tot (Za0w a0 a1) (fun r=>True):=by
 apply Tot.rn Zaz0 Zam7
 .dsimp only [Zaqt,LT.den];exact tl22
 rintro ⟨v0,v1,v5⟩ ⟨cv5,i0⟩;dsimp only [Zabr,Zak4,LT.den];apply tD<;>intro h1
 .have q1:=wr (v5+1);exact tl22
 exact tR trivial
def Zai9:Zld->Prop
 | .L0 v0 v3 v4=>(0<=v4)/\(v0<=100)
def Z38:Zld->M6
 | .L0 v0 v3 v4=>(1,(v0 - v4).toNat,1000000,0,0,0)
theorem Z1u{a0:Int}(h0:a0<=100):Tot (Zabs a0) (fun r=>(SzT r)/\(r.length<=20000)):=by
 apply Tot.rn Zai9 Z38
 .dsimp only [Z6g,LT.den];exact tl35
 rintro ⟨v0,v3,v4⟩ ⟨cv4,i0⟩;dsimp only [Zu4,Z22,LT.den];apply tD<;>intro h1
 .have q1:=wr (v3*2);have q2:=wr (v4+1);exact tl35
 refine tB (Zqi) fun x1 h2=>?_;have eh2_1:=h2.2;exact tR ⟨h2.1,cl⟩
theorem Zasf:Tot (Zabt) (fun r=>((SzL 16 SzN) r)/\(r.length=4)):=by
 apply tZ;dsimp only [Zafr,LT.den];have q1:(SzL 16 SzN) ([([]:List UInt8),([62,61]:List UInt8),([60,61]:List UInt8),([61]:List UInt8)]:List (List UInt8)):=⟨by simp only [List.length_cons,List.length_nil];omega,mem_cons' (SzN.nil) (mem_cons' Za4 (mem_cons' Za4 (mem_cons' Za4 (fun _ h=>by cases h))))⟩;have lq1:([([]:List UInt8),([62,61]:List UInt8),([60,61]:List UInt8),([61]:List UInt8)]:List (List UInt8)).length=4:=rfl;exact tR ⟨q1,cl⟩
theorem Zbaw{n:Int}(h0:0<=n)(h1:n < 18446744073709551616):Zqc .u64 n 10=n / 10:=by
 unfold Zqc;rw [Int.tdiv_eq_ediv_of_nonneg h0];have h2:0<=n / 10:=by omega
 have h3:n / 10 < 18446744073709551616:=by omega
 simp only [IntKind.wrap,IntKind.bits,IntKind.signed,Bool.false_and,Bool.false_eq_true,if_false];exact Int.emod_eq_of_lt h2 h3
theorem Z39:∀ (k:Nat) (n:Int) (s:List UInt8),k<=20->0<=n->n < 10 ^ k->n < 18446744073709551616->s.length+k<=40->Tot (Zcz Ztb.step (.L0 n s)) fun r=>SzN r/\r.length<=40
 | 0,n,s,_,h0,h1,_,hs=>by
  have:n=0:=by omega
  subst this
  refine Tot.stop (r:=s) ?_ ⟨show s.length<=100 by omega,by omega⟩
  show (Zh7 _ _).den=_
  dsimp only [Zh7,LT.den]
  rfl
 | k+1,n,s,hk,h0,h1,h2,hs=>by
  by_cases hn:n > 0
  .obtain⟨d,hd,hl⟩:=Tot.str (xs:=[IntKind.wrap .u8 (IntKind.wrap .u64 (48+(Int.tmod n 10)))]) (by simp) tk36
   simp only [List.length_cons,List.length_nil] at hl
   have e:Ztb.step (.L0 n s)=some (.inl (.L0 (n / 10) (d++s))):=by
    show (Zh7 _ _).den=_
    dsimp only [Zh7,LT.den]
    rw [decide_eq_true hn,cond_true,hd,Option.bind_some,decide_eq_true (show d.length+s.length<=9223372036854775807 by omega),Zbaw h0 h2]
    rfl
   obtain⟨r,hr,hp⟩:=Z39 k (n / 10) (d++s) (by omega) (by omega) (by
    rw [Int.pow_succ] at h1
    have:n / 10 < 10 ^ k:=Int.ediv_lt_of_lt_mul (by decide) h1
    exact this) (by omega) (by rw [List.length_append];omega)
   exact⟨r,by rw [Zkn e];exact hr,hp⟩
  .refine Tot.stop (r:=s) ?_ ⟨show s.length<=100 by omega,by omega⟩
   show (Zh7 _ _).den=_
   dsimp only [Zh7,LT.den]
   rw [decide_eq_false hn];rfl
theorem Z7c(a0:Int)(h0:0<=a0)(h1:a0 < 18446744073709551616):Tot (Z8a a0) (fun r=>(SzN r)/\(r.length<=40)):=by
 unfold Z8a LF.run;dsimp only [Zabu,LT.den];obtain⟨d,hd,hl⟩:=Tot.str (xs:=[IntKind.wrap .u8 (IntKind.wrap .u64 (48+(Int.tmod a0 10)))]) (by simp) tk36;simp only [List.length_cons,List.length_nil] at hl;rw [hd,Option.bind_some,Option.bind_some,Zmo,Zbaw h0 h1];exact Z39 20 (a0 / 10) d (by omega) (by omega) (by omega) (by omega) (by omega)
theorem Zl4{a0:Int}:Tot (Zavl a0) (fun r=>(SzN r)):=by
 apply tZ;dsimp only [Zak5,LT.den];apply tD<;>intro h1
 .have q1:0<=IntKind.wrap .u64 (0 - (IntKind.wrap .u64 a0))/\IntKind.wrap .u64 (0 - (IntKind.wrap .u64 a0)) < 18446744073709551616:=Za0s _;exact tB (Z7c (IntKind.wrap .u64 (0 - (IntKind.wrap .u64 a0))) cl cl) fun x1 h2=>tB (tK Zdi) fun x2 h3=>tR Za4
 have q1:0<=IntKind.wrap .u64 a0/\IntKind.wrap .u64 a0 < 18446744073709551616:=Za0s _;exact tB (Z7c (IntKind.wrap .u64 a0) cl cl) fun x1 h2=>tR h2.1
theorem Zqj{a0:List UInt8}{a1:Zb}(oa0:SzN a0)(h0:0<=a1.Kind)(h1:a1.Kind<=3):Tot (Z9d a0 a1) (fun r=>(SzT r)):=by
 apply tZ;have lb_a0:a0.length<=100:=oa0;dsimp only [Z24,LT.den];apply tE<;>intro h1
 .exact tR (SzT.nil)
 refine tB (Zasf) fun x1 h2=>Tot.ix fun x2 h3=>?_;have oh3:SzN x2:=h2.1.2 x2 h3.1;have q1:x2.length<=100:=oh3;refine tB (tK Zdi) fun x3 h4=>tB (Zl4) fun x4 h5=>?_;have q2:x4.length<=100:=h5;exact tB (tK Zdi) fun x5 h6=>tR tk31
def Zaxy:Ztc->Prop
 | .L0 v0 v1 v5 v6=>((SzL 16 SzT) v0)/\(SzN v1)/\(0<=v6)/\(v5.length<=1125899906842624*v6.toNat)/\(v0.length<=100)/\(v6<=v0.length)
def Z5o:Ztc->M6
 | .L0 v0 v1 v5 v6=>(1,((v0.length:Int) - v6).toNat,1000000,0,0,0)
theorem Zaxz{a0:List (List UInt8)}{a1:List UInt8}(oa0:(SzL 16 SzT) a0)(oa1:SzN a1)(h0:a0.length<=100):Tot (Zavm a0 a1) (fun r=>(r.length<=144115188075855872)):=by
 apply Tot.rn Zaxy Z5o
 .dsimp only [Zak7,LT.den];exact tL ⟨oa0,oa1,cs⟩ (by unfold Z5o lt6;dsimp only;omega)
 rintro ⟨v0,v1,v5,v6⟩ ⟨ov0,ov1,cv6,i0,i1,i2⟩;have lb_v1:v1.length<=100:=ov1;dsimp only [Z8b,Zaft,LT.den];apply tD<;>intro h1
 .apply tD<;>intro h2
  .refine tB (tK Zdi) fun x1 h3=>Tot.ix fun x2 h4=>?_;have oh4:SzT x2:=ov0.2 x2 h4.1;have q1:x2.length<=562949953421312:=oh4;refine tB (tK Zdi) fun x3 h5=>?_;exact tl59
  refine Tot.ix fun x1 h3=>?_;have oh3:SzT x1:=ov0.2 x1 h3.1;have q1:x1.length<=562949953421312:=oh3;refine tB (tK Zdi) fun x2 h4=>?_;exact tl59
 exact tR cl
theorem Zf2{b0:List (List UInt8)}{a1:List UInt8}(ob0:(SzL 16 SzT) b0)(oa1:SzT a1)(h0:b0.length<=1000):Tot (Zabv b0 a1) (fun r=>((SzL 16 SzT) r)/\(r.length<=b0.length+1)):=by
 apply tZ;dsimp only [Z6h,LT.den];apply tF<;>intro h1
 .exact tR ⟨ob0,cl⟩
 refine Tot.ap fun x1 h2=>?_;have lh2:=Zc5 h2;exact tR ⟨SzL.app (k:=16) h2 lo ob0.2 (me1 oa1),cl⟩
def Z1v:Zhm->Prop
 | .L0 E0 v6 v7 v8=>(Z7 E0)/\((SzL 16 SzN) v6)/\((SzL 16 SzT) v7)/\(0<=v8)/\(v7.length<=3+v8.toNat)/\(v8<=6)/\(v6.length=3)/\(0<=E0.Tap/\E0.Tap<=2/\0<=E0.Power.Kind/\E0.Power.Kind<=3/\0<=E0.Tough.Kind/\E0.Tough.Kind<=3/\0<=E0.Value.Kind/\E0.Value.Kind<=3)
 | .L1 E0 v6 v7 v9=>(Z7 E0)/\((SzL 16 SzN) v6)/\((SzL 16 SzT) v7)/\(0<=v9)/\(v7.length<=9+v9.toNat)/\(v9<=6)/\(v6.length=3)/\(0<=E0.Tap/\E0.Tap<=2/\0<=E0.Power.Kind/\E0.Power.Kind<=3/\0<=E0.Tough.Kind/\E0.Tough.Kind<=3/\0<=E0.Value.Kind/\E0.Value.Kind<=3)
 | .L2 E0 v6 v7 v10=>(Z7 E0)/\((SzL 16 SzN) v6)/\((SzL 16 SzT) v7)/\(0<=v10)/\(v7.length<=15+v10.toNat)/\(v10<=5)/\(v6.length=3)/\(0<=E0.Tap/\E0.Tap<=2/\0<=E0.Power.Kind/\E0.Power.Kind<=3/\0<=E0.Tough.Kind/\E0.Tough.Kind<=3/\0<=E0.Value.Kind/\E0.Value.Kind<=3)
 | .L3 E0 v6 v7 v11=>(Z7 E0)/\((SzL 16 SzN) v6)/\((SzL 16 SzT) v7)/\(0<=v11)/\(v7.length<=20+v11.toNat)/\(v11<=5)/\(v6.length=3)/\(0<=E0.Tap/\E0.Tap<=2/\0<=E0.Power.Kind/\E0.Power.Kind<=3/\0<=E0.Tough.Kind/\E0.Tough.Kind<=3/\0<=E0.Value.Kind/\E0.Value.Kind<=3)
 | .L4 E0 v6 v7=>(Z7 E0)/\((SzL 16 SzN) v6)/\((SzL 16 SzT) v7)/\(v7.length<=26)/\(v6.length=3)/\(0<=E0.Tap/\E0.Tap<=2/\0<=E0.Power.Kind/\E0.Power.Kind<=3/\0<=E0.Tough.Kind/\E0.Tough.Kind<=3/\0<=E0.Value.Kind/\E0.Value.Kind<=3)
 | .L5 E0 v6 v7 v12=>(Z7 E0)/\((SzL 16 SzN) v6)/\((SzL 16 SzT) v7)/\(0<=v12)/\(v7.length<=26+v12.toNat)/\(v12<=17)/\(v6.length=3)/\(0<=E0.Tap/\E0.Tap<=2/\0<=E0.Power.Kind/\E0.Power.Kind<=3/\0<=E0.Tough.Kind/\E0.Tough.Kind<=3/\0<=E0.Value.Kind/\E0.Value.Kind<=3)
def Zi2:Zhm->M6
 | .L0 E0 v6 v7 v8=>(9,(6 - v8).toNat,1000000,0,0,0)
 | .L1 E0 v6 v7 v9=>(7,(6 - v9).toNat,1000000,0,0,0)
 | .L2 E0 v6 v7 v10=>(5,(5 - v10).toNat,1000000,0,0,0)
 | .L3 E0 v6 v7 v11=>(3,(5 - v11).toNat,1000000,0,0,0)
 | .L4 E0 v6 v7=>(2,0,0,0,0,0)
 | .L5 E0 v6 v7 v12=>(1,(17 - v12).toNat,1000000,0,0,0)
theorem Zt3{E0:Zd}{v6:List (List UInt8)}{v7:List (List UInt8)}(h:Z1v (.L4 E0 v6 v7)):Tot (Zqr E0 v6 v7).den (Nx Z1v Zi2 (2,0,0,0,0,0) (fun r=>(r.length<=144115188075855872))):=by
 obtain⟨O0,ov6,ov7,i0,i1,i2⟩:=h;dsimp only [Zqr,LT.den];exact Z8u
theorem Zax0{a0:Zd}(oa0:Z7 a0):Tot (Zavn a0) (fun r=>(r.length<=144115188075855872)):=by
 apply Tot.rn Z1v Zi2
 .dsimp only [Zak8,LT.den];refine tB (Zit oa0) fun x1 h1=>?_;have eh1_0:=h1.1;apply tO<;>intro h2
  .exact tR cl
  have h2_0:=eh1_0 h2;refine tB (Zae3) fun x2 h3=>tB (Zai7) fun x3 h4=>tB (Zae4) fun x4 h5=>tB (Zai8) fun x5 h6=>?_;have eh6_1:=h6.2;refine Tot.ix fun x6 h7=>?_;have oh7:SzN x6:=h3.1.2 x6 h7.1;refine tB (Zf2 SzL.nil (SzN.t oh7) cl) fun x7 h8=>?_;have eh8_1:=h8.2;try simp only [List.length_nil,List.length_cons,Nat.zero_add] at eh8_1
  refine Tot.ix fun x8 h9=>?_;have oh9:SzN x8:=h4.1.2 x8 h9.1;refine tB (Zf2 h8.1 (SzN.t oh9) cl) fun x9 h10=>Tot.ix fun x10 h11=>?_;have oh11:SzN x10:=h5.1.2 x10 h11.1;exact tB (Zf2 h10.1 (SzN.t oh11) cl) fun x11 h12=>tL ⟨oa0,h6.1,h12.1,cs⟩ tk78
 intro s hs;cases s with
 | L0 E0 v6 v7 v8=>
  obtain⟨O0,ov6,ov7,cv8,i0,i1,i2,i3⟩:=hs;have lb_v7:=ov7.1;dsimp only [Zms,Zafu,LT.den,Zi2];apply tD<;>intro h1
  .refine tB (Zra cl) fun x1 h2=>?_;apply tF<;>intro h3
   .refine tB (Z1u cl) fun x2 h4=>Tot.ap fun x3 h5=>?_;have lh5:=Zc5 h5;have q1:=wr (v8+1);exact tL ⟨O0,ov6,SzL.app (k:=16) h5 lo ov7.2 (me1 h4.1),cs⟩ tk78
   have q1:=wr (v8+1);exact Z8u
  exact Z8u
 | L1 E0 v6 v7 v9=>
  obtain⟨O0,ov6,ov7,cv9,i0,i1,i2,i3⟩:=hs;have lb_v7:=ov7.1;dsimp only [Zms,Zafv,LT.den,Zi2];apply tD<;>intro h1
  .refine tB (Zra cl) fun x1 h2=>?_;apply tF<;>intro h3
   .refine tB (Z1u cl) fun x2 h4=>?_;have q1:x2.length<=562949953421312:=h4.1;refine tB (tK Zdi) fun x3 h5=>?_;have q2:=ov7.1;refine Tot.ap fun x4 h6=>?_;have lh6:=Zc5 h6;have q3:=wr (v9+1);exact tl96
   have q1:=wr (v9+1);exact Z8u
  exact Z8u
 | L2 E0 v6 v7 v10=>
  obtain⟨O0,ov6,ov7,cv10,i0,i1,i2,i3⟩:=hs;have lb_v7:=ov7.1;dsimp only [Zms,Zafw,LT.den,Zi2];apply tD<;>intro h1
  .refine tB (Zra cl) fun x1 h2=>?_;apply tF<;>intro h3
   .refine tB (Zt2) fun x2 h4=>Tot.ap fun x3 h5=>?_;have lh5:=Zc5 h5;have q1:=wr (v10+1);exact tL ⟨O0,ov6,SzL.app (k:=16) h5 lo ov7.2 (me1 (SzN.t h4)),cs⟩ tk78
   have q1:=wr (v10+1);exact Z8u
  exact Z8u
 | L3 E0 v6 v7 v11=>
  obtain⟨O0,ov6,ov7,cv11,i0,i1,i2,i3⟩:=hs;have lb_v7:=ov7.1;dsimp only [Zms,Zafx,LT.den,Zi2];apply tD<;>intro h1
  .refine tB (Zra cl) fun x1 h2=>?_;apply tF<;>intro h3
   .refine tB (Zt2) fun x2 h4=>?_;have q1:x2.length<=100:=h4;refine tB (tK Zdi) fun x3 h5=>?_;have q2:=ov7.1;refine Tot.ap fun x4 h6=>?_;have lh6:=Zc5 h6;have q3:=wr (v11+1);exact tl96
   have q1:=wr (v11+1);exact Z8u
  apply tO<;>intro h2
  .have q1:E0.Sub.length<=281474976710656:=O0;refine tB (tK Zdi) fun x1 h3=>Tot.ap fun x2 h4=>?_;have lh4:=Zc5 h4;exact tJ (Zt3 ⟨O0,ov6,SzL.app (k:=16) h4 lo ov7.2 (me1 tk31),cs⟩)
  exact tJ (Zt3 ⟨O0,ov6,ov7,cs⟩)
 | L4 _ _ _=>exact Zt3 hs
 | L5 E0 v6 v7 v12=>
  obtain⟨O0,ov6,ov7,cv12,i0,i1,i2,i3⟩:=hs;have lb_v7:=ov7.1;dsimp only [Zms,Zafy,LT.den,Zi2];apply tD<;>intro h1
  .refine tB (Zra cl) fun x1 h2=>?_;apply tF<;>intro h3
   .refine tB (Z1t) fun x2 h4=>?_;have q1:x2.length<=100:=h4;refine tB (tK Zdi) fun x3 h5=>?_;have q2:=ov7.1;refine Tot.ap fun x4 h6=>?_;have lh6:=Zc5 h6;have q3:=wr (v12+1);exact tl96
   have q1:=wr (v12+1);exact Z8u
  refine Tot.ix fun x1 h2=>?_;have oh2:SzN x1:=ov6.2 x1 h2.1;refine tB (Zf2 ov7 (SzN.t oh2) cl) fun x2 h3=>tB (Zqj Za4 cl cl) fun x3 h4=>tB (Zf2 h3.1 h4 cl) fun x4 h5=>tB (Zqj Za4 cl cl) fun x5 h6=>tB (Zf2 h5.1 h6 cl) fun x6 h7=>tB (Zqj Za4 cl cl) fun x7 h8=>tB (Zf2 h7.1 h8 cl) fun x8 h9=>?_;apply tE<;>intro h10
  .exact tR cl
  exact tB (Zaxz h9.1 Za4 cl) fun x9 h11=>tR cl
theorem Zado{a0:Zi}(oa0:Zv a0):Tot (Zavo a0) (fun r=>(r.length<=288230376151711744)):=by
 apply tZ;dsimp only [Zak9,LT.den];refine tB (Zam6 oa0) fun x1 h1=>?_;apply tO<;>intro h2
 .exact tR cl
 apply tE<;>intro h3
 .exact tR cl
 apply tE<;>intro h4
 .exact tB (Zqi) fun x2 h5=>tB (tK Zdi) fun x3 h6=>tR cl
 apply tE<;>intro h5
 .exact tB (Zqi) fun x2 h6=>tB (tK Zdi) fun x3 h7=>tR cl
 apply tE<;>intro h6
 .have q1:a0.Sub.length<=281474976710656:=oa0.1;exact tB (tK Zdi) fun x2 h7=>tR cl
 apply tE<;>intro h7
 .have q1:a0.Sub.length<=281474976710656:=oa0.1;exact tB (tK Zdi) fun x2 h8=>tR cl
 apply tE<;>intro h8
 .refine tB (Zadm) fun x2 h9=>?_;have q1:x2.length<=562949953421312:=h9;exact tB (tK Zdi) fun x3 h10=>tR cl
 apply tE<;>intro h9
 .refine tB (Zadm) fun x2 h10=>?_;have q1:x2.length<=562949953421312:=h10;exact tB (tK Zdi) fun x3 h11=>tR cl
 apply tE<;>intro h10
 .refine tB (Zadn) fun x2 h11=>?_;have q1:x2.length<=562949953421312:=h11;exact tB (tK Zdi) fun x3 h12=>tR cl
 apply tE<;>intro h11
 .refine tB (Zadn) fun x2 h12=>?_;have q1:x2.length<=562949953421312:=h12;exact tB (tK Zdi) fun x3 h13=>tR cl
 apply tE<;>intro h12
 .exact tR cl
 apply tE<;>intro h13
 .exact tB (Zax0 oa0.2) fun x2 h14=>tB (tK Zdi) fun x3 h15=>tB (tK Zdi) fun x4 h16=>tR cl
 apply tE<;>intro h14
 .refine tB (Zl4) fun x2 h15=>?_;have q1:x2.length<=100:=h15;refine tB (tK Zdi) fun x3 h16=>tB (tK Zdi) fun x4 h17=>tB (Zl4) fun x5 h18=>?_;have q2:x5.length<=100:=h18;exact tB (tK Zdi) fun x6 h19=>tR cl
 apply tE<;>intro h15
 .refine tB (Zl4) fun x2 h16=>?_;have q1:x2.length<=100:=h16;refine tB (tK Zdi) fun x3 h17=>tB (tK Zdi) fun x4 h18=>tB (Zl4) fun x5 h19=>?_;have q2:x5.length<=100:=h19;exact tB (tK Zdi) fun x6 h20=>tR cl
 exact tR cl
def Zaja:Zle->Prop
 | .L0 v0 v3 v4=>((SzL 176 Zv) v0)/\(0<=v4)/\(v3.length<=576460752303423488*v4.toNat)/\(v0.length<=6)/\(v4<=v0.length)
def Zt4:Zle->M6
 | .L0 v0 v3 v4=>(1,((v0.length:Int) - v4).toNat,1000000,0,0,0)
theorem Zr5{a0:List Zi}(oa0:(SzL 176 Zv) a0):Tot (Zabw a0) (fun r=>(r.length<=4611686018427387904)):=by
 apply Tot.rn Zaja Zt4
 .have lb_a0:=oa0.1;dsimp only [Z6j,LT.den];apply tE<;>intro h1
  .exact tR cl
  apply tD<;>intro h2
  .exact tR cl
  exact tL ⟨oa0,cs⟩ (by unfold Zt4 lt6;dsimp only;omega)
 rintro ⟨v0,v3,v4⟩ ⟨ov0,cv4,i0,i1,i2⟩;dsimp only [Zu5,Z26,LT.den];apply tD<;>intro h1
 .refine Tot.ix fun x1 h2=>?_;have oh2:Zv x1:=ov0.2 x1 h2.1;refine tB (Zam6 oh2) fun x2 h3=>?_;apply tO<;>intro h4
  .exact tR cl
  apply tD<;>intro h5
  .refine tB (tK Zdi) fun x3 h6=>tB (Zado oh2) fun x4 h7=>tB (tK Zdi) fun x5 h8=>?_;exact tl57
  refine tB (Zado oh2) fun x3 h6=>tB (tK Zdi) fun x4 h7=>?_;exact tl57
 exact tR cl
theorem Zasg{a0:Zgx}:Tot (Zaqu a0) (fun r=>True):=by
 apply tZ;dsimp only [Zaf0,LT.den];refine tB (Zz1 a0.Mana) fun x1 h1=>?_;have eh1_0:=h1.1;have eh1_1:=h1.2.1;apply tF<;>intro h2
 .apply tE<;>intro h3
  .exact tl32
  exact tR trivial
 exact tR trivial
theorem Zadp{a0:Int}:Tot (Zavq a0) (fun r=>(SzN r)):=by
 apply tZ;dsimp only [Zalb,LT.den];apply tE<;>intro h1
 .exact Zgq
 apply tE<;>intro h2
 .exact Zgq
 apply tE<;>intro h3
 .exact Zgq
 apply tE<;>intro h4
 .exact Zgq
 apply tE<;>intro h5
 .exact Zgq
 apply tE<;>intro h6
 .exact Zgq
 apply tE<;>intro h7
 .exact Zgq
 apply tE<;>intro h8
 .exact Zgq
 apply tE<;>intro h9
 .exact Zgq
 apply tE<;>intro h10
 .exact Zgq
 apply tE<;>intro h11
 .exact Zgq
 apply tE<;>intro h12
 .exact Zgq
 apply tE<;>intro h13
 .exact Zgq
 apply tE<;>intro h14
 .exact Zgq
 exact tR (SzN.nil)
theorem Z7d{a0:Int}:Tot (Zald a0) (fun r=>True):=by
 apply tZ;dsimp only [Zabx,LT.den];apply tE<;>intro h1
 .exact tR trivial
 apply tE<;>intro h2
 .exact tR trivial
 apply tE<;>intro h3
 .exact tR trivial
 exact tl71
theorem Zae5{a0:Int}:Tot (Z9f a0) (fun r=>True):=by
 apply tZ;dsimp only [Z27,LT.den];refine tB (Zadp) fun x1 h1=>?_;apply tO<;>intro h2
 .refine tB (Z7d) fun x2 h3=>?_;exact tl24
 exact tR trivial
def Z8y:Z0y->Prop
 | .L0 E0=>(Zp0 E0)/\True
def Zarr:Z0y->M6
 | .L0 E0=>(0,0,0,0,0,0)
theorem Zyu{E0:Zch}(h:Z8y (.L0 E0)):Tot (Zwt E0).den (Nx Z8y Zarr (0,0,0,0,0,0) (fun r=>True)):=by
 obtain⟨O0,_⟩:=h;dsimp only [Zwt,LT.den];refine tB (Zae5) fun x1 h1=>?_;apply tO<;>intro h2
 .exact tR trivial
 apply tE<;>intro h3
 .exact tl80
 exact tl80
theorem Za3f{a0:Zch}(oa0:Zp0 a0):Tot (Za5a a0) (fun r=>True):=by
 apply Tot.rn Z8y Zarr
 .dsimp only [Zavr,LT.den];refine tB (Zadp) fun x1 h1=>?_;apply tF<;>intro h2
  .exact tR trivial
  apply tD<;>intro h3
  .exact tR trivial
  apply tD<;>intro h4
  .exact tR trivial
  refine tB (Z7d) fun x2 h5=>?_;apply tO<;>intro h6
  .apply tN<;>intro h7
   .exact tR trivial
   exact tJ (Zyu ⟨oa0,trivial⟩)
  exact tJ (Zyu ⟨oa0,trivial⟩)
 intro s hs;cases s with
 | L0 _=>exact Zyu hs
theorem Zyv{a0:Zd}(oa0:Z7 a0):Tot (Zaqv a0) (fun r=>True):=by
 apply tZ;dsimp only [Zaf3,LT.den];refine tB (Zit oa0) fun x1 h1=>?_;have eh1_0:=h1.1;exact tl26
theorem Zash{a0:Zay}(oa0:Ze4 a0):Tot (Zaqw a0) (fun r=>True):=by
 apply tZ;dsimp only [Zaf5,LT.den];apply tN<;>intro h1
 .exact tR trivial
 refine tB (Zyv oa0) fun x1 h2=>?_;apply tO<;>intro h3
 .exact tR trivial
 apply tE<;>intro h4
 .apply tE<;>intro h5
  .apply tE<;>intro h6
   .apply tE<;>intro h7
    .exact tR trivial
    apply tE<;>intro h8
    .exact tR trivial
    exact tR trivial
   exact tR trivial
  exact tR trivial
 apply tE<;>intro h5
 .apply tE<;>intro h6
  .apply tE<;>intro h7
   .exact tR trivial
   exact tR trivial
  exact tR trivial
 apply tE<;>intro h6
 .apply tE<;>intro h7
  .apply tD<;>intro h8
   .apply tD<;>intro h9
    .apply tD<;>intro h10
     .exact tR trivial
     exact tR trivial
    exact tR trivial
   exact tR trivial
  exact tR trivial
 exact tR trivial
theorem Zasi{a0:Zay}(oa0:Ze4 a0):Tot (Zaqx a0) (fun r=>True):=by
 apply tZ;dsimp only [Zaf7,LT.den];apply tN<;>intro h1
 .exact tR trivial
 apply tN<;>intro h2
 .exact tR trivial
 apply tE<;>intro h3
 .exact tl32
 apply tE<;>intro h4
 .apply tD<;>intro h5
  .exact tR trivial
  exact tR trivial
 exact tR trivial
def Zp1:Zrx->Prop
 | .L0 E0 v3 v4=>(Ze4 E0)/\True
 | .L1 E0 v3=>(Ze4 E0)/\True
 | .L2 E0 v3 v4 v109=>(Ze4 E0)/\True
def Z4a:Zrx->M6
 | .L0 E0 v3 v4=>(0,0,0,0,0,0)
 | .L1 E0 v3=>(0,0,0,0,0,0)
 | .L2 E0 v3 v4 v109=>(0,0,0,0,0,0)
theorem Zaaf{E0:Zay}{v3:Bool}{v4:Bool}{v109:Bool}(h:(Ze4 E0)/\True):Tot (Zsd E0 v3 v4 v109).den (Nx Zp1 Z4a (0,0,0,0,0,0) (fun r=>True)):=by
 obtain⟨O0,_⟩:=h;dsimp only [Zsd,LT.den];apply tF<;>intro h1
 .apply tF<;>intro h2
  .apply tD<;>intro h3
   .exact tl32
   exact tR trivial
  exact tR trivial
 exact tR trivial
theorem Zaag{E0:Zay}{v3:Bool}(h:Zp1 (.L1 E0 v3)):Tot (Zom E0 v3).den (Nx Zp1 Z4a (0,0,0,0,0,0) (fun r=>True)):=by
 obtain⟨O0,_⟩:=h;dsimp only [Zom,LT.den];apply tE<;>intro h1
 .refine tB (Zyv O0) fun x1 h2=>?_;apply tF<;>intro h3
  .exact tR trivial
  exact tl71
 apply tE<;>intro h2
 .exact tR trivial
 apply tE<;>intro h3
 .exact tR trivial
 exact tR trivial
theorem Zaah{E0:Zay}{v3:Bool}{v4:Bool}(h:Zp1 (.L0 E0 v3 v4)):Tot (Zse E0 v3 v4).den (Nx Zp1 Z4a (0,0,0,0,0,0) (fun r=>True)):=by
 obtain⟨O0,_⟩:=h;dsimp only [Zse,LT.den];apply tE<;>intro h1
 .apply tN<;>intro h2
  .apply tN<;>intro h3
   .apply tN<;>intro h4
    .apply tN<;>intro h5
     .exact tR trivial
     exact tl13
    exact tl13
   exact tl13
  exact tl13
 apply tE<;>intro h2
 .apply tF<;>intro h3
  .apply tE<;>intro h4
   .exact tB (Zyv O0) fun x1 h5=>tR trivial
   exact tR trivial
  exact tR trivial
 apply tE<;>intro h3
 .apply tE<;>intro h4
  .exact tl73
  apply tE<;>intro h5
  .exact tl74
  exact tR trivial
 apply tE<;>intro h4
 .exact tl12
 apply tE<;>intro h5
 .exact tl12
 exact tl12
theorem Za3g{a0:Zay}(oa0:Ze4 a0):Tot (Za5c a0) (fun r=>True):=by
 apply Tot.rn Zp1 Z4a
 .dsimp only [Zavv,LT.den];apply tE<;>intro h1
  .exact tB (Zash oa0) fun x1 h2=>tR trivial
  refine tB (Zasi oa0) fun x1 h2=>?_;apply tO<;>intro h3
  .exact tR trivial
  apply tE<;>intro h4
  .exact tl9
  apply tE<;>intro h5
  .exact tl9
  exact tl9
 intro s hs;cases s with
 | L0 _ _ _=>exact Zaah hs
 | L1 _ _=>exact Zaag hs
 | L2 _ _ _ _=>exact Zaaf hs
theorem Zax1{a0:Zaw}(oa0:Zgh a0):Tot (Zavx a0) (fun r=>True):=by
 apply tZ;dsimp only [Zale,LT.den];apply tO<;>intro h1
 .exact tl26
 refine tB (Zit oa0) fun x1 h2=>?_;have eh2_0:=h2.1;apply tF<;>intro h3
 .exact tl71
 exact tR trivial
def Zasj:Zqs->Prop
 | .L0 v0 v3=>((SzL 144 Zgh) v0)/\(0<=v3)
def Z1w:Zqs->M6
 | .L0 v0 v3=>(1,((v0.length:Int) - v3).toNat,1000000,0,0,0)
theorem Zask{a0:List Zaw}(oa0:(SzL 144 Zgh) a0):Tot (Zaqy a0) (fun r=>True):=by
 apply Tot.rn Zasj Z1w
 .dsimp only [Zaf9,LT.den];exact tL ⟨oa0,cl⟩ (by unfold Z1w lt6;dsimp only;omega)
 rintro ⟨v0,v3⟩ ⟨ov0,cv3⟩;have lb_v0:=ov0.1;dsimp only [Z41,Zabz,LT.den];apply tD<;>intro h1
 .refine Tot.ix fun x1 h2=>?_;have oh2:Zgh x1:=ov0.2 x1 h2.1;refine tB (Zax1 oh2) fun x2 h3=>?_;apply tO<;>intro h4
  .exact tR trivial
  have q1:=wr (v3+1);exact tL ⟨ov0,cl⟩ (by unfold Z1w lt6;dsimp only;omega)
 exact tR trivial
theorem Zax2{a0:Int}:Tot (Zavz a0) (fun r=>(SzN r)):=by
 apply tZ;dsimp only [Zalg,LT.den];apply tD<;>intro h1
 .exact tR (SzN.nil)
 apply tD<;>intro h2
 .exact tR (SzN.nil)
 have q1:(SzL 16 SzN) ([([100,97,109,97,103,101]:List UInt8),([100,101,115,116,114,111,121]:List UInt8),([109,111,118,101]:List UInt8),([100,114,97,119]:List UInt8),([100,105,115,99,97,114,100]:List UInt8),([103,97,105,110]:List UInt8),([108,111,115,101]:List UInt8),([116,97,112]:List UInt8),([117,110,116,97,112]:List UInt8),([112,117,116]:List UInt8),([116,97,107,101]:List UInt8),([99,114,101,97,116,101]:List UInt8),([109,111,100]:List UInt8),([109,97,110,97]:List UInt8),([99,111,117,110,116,101,114]:List UInt8),([99,111,112,121]:List UInt8),([98,101,99,111,109,101]:List UInt8),([115,97,99,114,105,102,105,99,101]:List UInt8),([109,105,108,108]:List UInt8),([115,99,114,121]:List UInt8),([115,101,97,114,99,104]:List UInt8),([115,104,105,101,108,100]:List UInt8),([116,117,114,110]:List UInt8),([119,105,110]:List UInt8),([100,101,102,101,97,116]:List UInt8),([118,101,110,111,109]:List UInt8)]:List (List UInt8)):=⟨by simp only [List.length_cons,List.length_nil];omega,mem_cons' Za4 (mem_cons' Za4 (mem_cons' Za4 (mem_cons' Za4 (mem_cons' Za4 (mem_cons' Za4 (mem_cons' Za4 (mem_cons' Za4 (mem_cons' Za4 (mem_cons' Za4 (mem_cons' Za4 (mem_cons' Za4 (mem_cons' Za4 (mem_cons' Za4 (mem_cons' Za4 (mem_cons' Za4 (mem_cons' Za4 (mem_cons' Za4 (mem_cons' Za4 (mem_cons' Za4 (mem_cons' Za4 (mem_cons' Za4 (mem_cons' Za4 (mem_cons' Za4 (mem_cons' Za4 (mem_cons' Za4 (fun _ h=>by cases h))))))))))))))))))))))))))⟩;have lq1:([([100,97,109,97,103,101]:List UInt8),([100,101,115,116,114,111,121]:List UInt8),([109,111,118,101]:List UInt8),([100,114,97,119]:List UInt8),([100,105,115,99,97,114,100]:List UInt8),([103,97,105,110]:List UInt8),([108,111,115,101]:List UInt8),([116,97,112]:List UInt8),([117,110,116,97,112]:List UInt8),([112,117,116]:List UInt8),([116,97,107,101]:List UInt8),([99,114,101,97,116,101]:List UInt8),([109,111,100]:List UInt8),([109,97,110,97]:List UInt8),([99,111,117,110,116,101,114]:List UInt8),([99,111,112,121]:List UInt8),([98,101,99,111,109,101]:List UInt8),([115,97,99,114,105,102,105,99,101]:List UInt8),([109,105,108,108]:List UInt8),([115,99,114,121]:List UInt8),([115,101,97,114,99,104]:List UInt8),([115,104,105,101,108,100]:List UInt8),([116,117,114,110]:List UInt8),([119,105,110]:List UInt8),([100,101,102,101,97,116]:List UInt8),([118,101,110,111,109]:List UInt8)]:List (List UInt8)).length=26:=rfl;have q2:=wr (a0 - 1);refine Tot.ix fun x1 h3=>?_;have oh3:SzN x1:=q1.2 x1 h3.1;exact tR oh3
def Z1x:Zpn->Prop
 | .L0 v3 v4=>True
 | .L1 v3 v14=>True
def Z5p:Zpn->M6
 | .L0 v3 v4=>(0,0,0,0,0,0)
 | .L1 v3 v14=>(0,0,0,0,0,0)
theorem Zt5{v3:Int}{v14:Bool}(h:True):Tot (Zqt v3 v14).den (Nx Z1x Z5p (0,0,0,0,0,0) (fun r=>(SzN r))):=by
 dsimp only [Zqt,LT.den];apply tF<;>intro h1
 .exact Zgq
 apply tE<;>intro h2
 .exact Zgq
 apply tE<;>intro h3
 .exact Zgq
 apply tE<;>intro h4
 .exact Zgq
 apply tE<;>intro h5
 .exact Zgq
 apply tE<;>intro h6
 .exact Zgq
 apply tE<;>intro h7
 .exact Zgq
 apply tE<;>intro h8
 .exact tR (SzN.nil)
 apply tE<;>intro h9
 .exact tR (SzN.nil)
 exact Zgq
theorem Z4b{v3:Int}{v4:Bool}(h:True):Tot (Zgg v3 v4).den (Nx Z1x Z5p (0,0,0,0,0,0) (fun r=>(SzN r))):=by
 dsimp only [Zgg,LT.den];apply tF<;>intro h1
 .exact Zgq
 apply tE<;>intro h2
 .exact Zgq
 apply tE<;>intro h3
 .exact tJ (Zt5 trivial)
 exact tJ (Zt5 trivial)
theorem Zax3{a0:Int}:Tot (Zav0 a0) (fun r=>(SzN r)):=by
 apply Tot.rn Z1x Z5p
 .dsimp only [Zali,LT.den];apply tE<;>intro h1
  .exact tl1
  apply tE<;>intro h2
  .exact tl1
  apply tE<;>intro h3
  .exact tl1
  apply tE<;>intro h4
  .exact tl1
  apply tE<;>intro h5
  .exact tl1
  apply tE<;>intro h6
  .exact tl1
  exact tl1
 intro s hs;cases s with
 | L0 _ _=>exact Z4b hs
 | L1 _ _=>exact Zt5 hs
def Zax4:Zte->Prop
 | .L0 v1 v5 v6=>(SzT v5)/\(0<=v6)
def Z5q:Zte->M6
 | .L0 v1 v5 v6=>(1,((v5.length:Int) - v6).toNat,1000000,0,0,0)
theorem Zhw{a0:Int}{a1:Int}:Tot (Zav1 a0 a1) (fun r=>True):=by
 apply Tot.rn Zax4 Z5q
 .dsimp only [Zalk,LT.den];exact tB (Zax3) fun x1 h1=>tL ⟨SzN.t h1,cl⟩ (by unfold Z5q lt6;dsimp only;omega)
 rintro ⟨v1,v5,v6⟩ ⟨ov5,cv6⟩;have lb_v5:v5.length<=562949953421312:=ov5;dsimp only [Z8c,Zaga,LT.den];apply tD<;>intro h1
 .refine Tot.ix fun x1 h2=>?_;apply tE<;>intro h3
  .exact tR trivial
  have q1:=wr (v6+1);exact tL ⟨ov5,cl⟩ (by unfold Z5q lt6;dsimp only;omega)
 exact tR trivial
theorem Zajb{a0:Int}:Tot (Zab0 a0) (fun r=>True):=by
 apply tZ;dsimp only [Z6k,LT.den];exact tl28
def Zt6:Zu6->Prop
 | .L0 v1 E0=>(Zt1 E0)/\True
 | .L1 E0=>(Zt1 E0)/\True
def Zadq:Zu6->M6
 | .L0 v1 E0=>(0,0,0,0,0,0)
 | .L1 E0=>(0,0,0,0,0,0)
theorem Zyw{E0:Zgt}(h:Zt6 (.L1 E0)):Tot (Zwu E0).den (Nx Zt6 Zadq (0,0,0,0,0,0) (fun r=>True)):=by
 obtain⟨O0,_⟩:=h;dsimp only [Zwu,LT.den];apply tE<;>intro h1
 .exact tB (Zit O0) fun x1 h2=>tR trivial
 exact tR trivial
theorem Zyx{v1:Int}{E0:Zgt}(h:Zt6 (.L0 v1 E0)):Tot (Zwv v1 E0).den (Nx Zt6 Zadq (0,0,0,0,0,0) (fun r=>True)):=by
 obtain⟨O0,_⟩:=h;dsimp only [Zwv,LT.den];apply tD<;>intro h1
 .exact tR trivial
 apply tD<;>intro h2
 .exact tR trivial
 refine tB (Zajb) fun x1 h3=>?_;apply tF<;>intro h4
 .apply tD<;>intro h5
  .exact tR trivial
  apply tD<;>intro h6
  .exact tR trivial
  exact tJ (Zyw ⟨O0,trivial⟩)
 apply tN<;>intro h5
 .exact tR trivial
 exact tJ (Zyw ⟨O0,trivial⟩)
theorem Za3h{a0:Zgt}{a1:Int}(oa0:Zt1 a0):Tot (Za5e a0 a1) (fun r=>True):=by
 apply Tot.rn Zt6 Zadq
 .dsimp only [Zav2,LT.den];apply tD<;>intro h1
  .exact tJ (Zyx ⟨oa0,trivial⟩)
  exact tJ (Zyx ⟨oa0,trivial⟩)
 intro s hs;cases s with
 | L0 _ _=>exact Zyx hs
 | L1 _=>exact Zyw hs
theorem Zadr{a0:Int}:Tot (Zav4 a0) (fun r=>(SzT r)/\(r=[]↔¬ (0<=a0/\a0<=2))):=by
 apply tZ;dsimp only [Zalm,LT.den];apply tE<;>intro h1
 .exact Za22
 apply tE<;>intro h2
 .exact Za22
 apply tE<;>intro h3
 .exact Za22
 exact tR ⟨SzT.nil,tk16⟩
theorem Za3i{a0:Zbi}(oa0:Zyk a0):Tot (Za5g a0) (fun r=>(r=amV a0)):=by
 apply tZ;dsimp only [Zav5,LT.den];apply tE<;>intro h1
 .apply tD<;>intro h2
  .exact Zr4
  apply tD<;>intro h3
  .exact Zr4
  exact Zbal
 apply tE<;>intro h2
 .apply tD<;>intro h3
  .exact Zr4
  apply tD<;>intro h4
  .exact Zr4
  refine tB (Zit oa0) fun x1 h5=>?_;have eh5_0:=h5.1;have eh5_1:=h5.2;apply tO<;>intro h6
  .exact Zr4
  have h6_0:=eh5_0 h6;apply tD<;>intro h7
  .apply tD<;>intro h8
   .exact Zr4
   exact Zr4
  exact Zr4
 apply tE<;>intro h3
 .refine tB (Zadr) fun x1 h4=>?_;have eh4_1:=h4.2;apply tF<;>intro h5
  .exact Zr4
  apply tD<;>intro h6
  .apply tD<;>intro h7
   .exact Zr4
   exact Zr4
  exact Zr4
 exact Zbal
theorem Zax5{a0:List Zi}(oa0:(SzL 176 Zv) a0):Tot (Zav7 a0) (fun r=>True):=by
 apply tZ;dsimp only [Zalo,LT.den];exact tB (Zr5 oa0) fun x1 h1=>tR trivial
def Zax6:Ztf->Prop
 | .L0 E0 E1 E2 v4=>(0<=v4)/\True
def Z5r:Ztf->M6
 | .L0 E0 E1 E2 v4=>(1,(5 - v4).toNat,1000000,0,0,0)
theorem Zax7{a0:A6 Int}:Tot (Zav8 a0) (fun r=>True):=by
 apply Tot.rn Zax6 Z5r
 .dsimp only [Zalq,LT.den];exact tB (tI (by omega) (by have e:(A6.list a0).length=6:=rfl;omega)) fun x1 h1=>tL ⟨cl,trivial⟩ (by unfold Z5r lt6;dsimp only;omega)
 rintro ⟨E0,E1,E2,v4⟩ ⟨cv4,_⟩;dsimp only [Z8d,Zagc,LT.den];apply tD<;>intro h1
 .have q1:=wr (v4+1);exact tB (tI (by omega) tk71) fun x1 h2=>tB (tI (by omega) (by have e:(A5.list E2.Color).length=5:=rfl;omega)) fun x2 h3=>tB (Tot.setA5 (by omega) (by omega)) fun x3 h4=>tL ⟨cl,trivial⟩ (by unfold Z5r lt6;dsimp only;omega)
 exact tR trivial
def Zax8:Zmt->Prop
 | .L0 E0 v3 v4=>(0<=v4)/\(E0.X<=2)/\(∀ n,n∈A5.list E0.Color->n<=9)/\(v3.length<=v4.toNat)/\(v4<=2)
 | .L1 E0 v3 v5=>(0<=v5)/\(v3.length<=200+200*v5.toNat)/\(∀ n,n∈A5.list E0.Color->n<=9)/\(v5<=5)
 | .L2 E0 v3 v5 v6=>(0<=v5)/\(0<=v6)/\(v5 < 5)/\(v3.length<=200+200*v5.toNat+v6.toNat)/\(∀ n,n∈A5.list E0.Color->n<=9)/\(v5 < 5)/\(v6<=9)
def Z5s:Zmt->M6
 | .L0 E0 v3 v4=>(3,(E0.X - v4).toNat,1000000,0,0,0)
 | .L1 E0 v3 v5=>(1,(5 - v5).toNat,1000000,0,0,0)
 | .L2 E0 v3 v5 v6=>(1,(5 - v5).toNat,1,(9 - v6).toNat,1000000,0)
theorem Zax9{a0:Zs}:Tot (Zav9 a0) (fun r=>(SzT r)):=by
 apply Tot.rn Zax8 Z5s
 .dsimp only [Zalr,LT.den];refine tB (Zz1 a0) fun x1 h1=>?_;have eh1_0:=h1.1;have eh1_1:=h1.2.1;apply tO<;>intro h2
  .exact tR (SzT.nil)
  have h2_0:=eh1_0 h2;have h2_1:=eh1_1 h2;exact tl30
 intro s hs;cases s with
 | L0 E0 v3 v4=>
  obtain⟨cv4,i0,i1,i2,i3⟩:=hs;dsimp only [Ztg,Zagd,LT.den];apply tD<;>intro h1
  .refine tB (tK Zdi) fun x1 h2=>?_;have q1:=wr (v4+1);exact tl30
  apply tN<;>intro h2
  .refine tB (Zl4) fun x1 h3=>?_;have q1:x1.length<=100:=h3;exact tB (tK Zdi) fun x2 h4=>tL ⟨cl,cs⟩ (by unfold Z5s lt6;dsimp only;omega)
  exact tl30
 | L1 E0 v3 v5=>
  obtain⟨cv5,i0,i1,i2⟩:=hs;dsimp only [Ztg,Zage,LT.den];apply tD<;>intro h1
  .exact tl30
  exact Zbah
 | L2 E0 v3 v5 v6=>
  obtain⟨cv5,cv6,bd2,i0,i1,i2,i3⟩:=hs;dsimp only [Ztg,Zagf,LT.den];refine tB (tI (by omega) tk61) fun x1 h1=>?_;have ph1:=i1 x1 h1.1;apply tD<;>intro h2
  .have q1:=wr (v5+1);refine tB (Tot.slice (by omega) (by omega) (by first | omega | (simp only [List.length_cons,List.length_nil];omega))) fun x2 h3=>tB (tK Zdi) fun x3 h4=>?_;have q2:=wr (v6+1);exact tl30
  have q1:=wr (v5+1);exact tl30
theorem Zajc{a0:A6 Int}:Tot (Zab1 a0) (fun r=>(SzT r)):=by
 apply tZ;dsimp only [Z6m,LT.den];exact tB (Zax7) fun x1 h1=>tB (Zax9) fun x2 h2=>tR h2
theorem Zapp{a0:Int}{a1:Zd}(oa1:Z7 a1):Tot (Zalt a0 a1) (fun r=>True):=by
 apply tZ;dsimp only [Zab2,LT.den];apply tE<;>intro h1
 .exact tl79
 exact tl79
def Zgr:Zh8->Prop
 | .L0 E0 v5=>(Z9 E0)/\True
 | .L1 E0 v5 v6=>(Z9 E0)/\True
 | .L2 E0 v5 v6 v7=>(Z9 E0)/\True
 | .L3 E0 v5 v6 v7 v8=>(Z9 E0)/\True
 | .L4 E0 v5 v6 v7 v8 v9=>(Z9 E0)/\True
 | .L5 E0 v5 v6 v7 v8 v9 v10=>(Z9 E0)/\True
 | .L6 E0 v5 v6 v7 v8 v9 v10 v11=>(Z9 E0)/\True
 | .L7 v5 v6 v7 v8 v9 v10 v11 v12=>True
def Zkh:Zh8->M6
 | .L0 E0 v5=>(0,0,0,0,0,0)
 | .L1 E0 v5 v6=>(0,0,0,0,0,0)
 | .L2 E0 v5 v6 v7=>(0,0,0,0,0,0)
 | .L3 E0 v5 v6 v7 v8=>(0,0,0,0,0,0)
 | .L4 E0 v5 v6 v7 v8 v9=>(0,0,0,0,0,0)
 | .L5 E0 v5 v6 v7 v8 v9 v10=>(0,0,0,0,0,0)
 | .L6 E0 v5 v6 v7 v8 v9 v10 v11=>(0,0,0,0,0,0)
 | .L7 v5 v6 v7 v8 v9 v10 v11 v12=>(0,0,0,0,0,0)
theorem Zyy{v5:Bool}{v6:Bool}{v7:Bool}{v8:Bool}{v9:Bool}{v10:Bool}{v11:Bool}{v12:Bool}(h:True):Tot (Zww v5 v6 v7 v8 v9 v10 v11 v12).den (Nx Zgr Zkh (0,0,0,0,0,0) (fun r=>True)):=by
 dsimp only [Zww,LT.den];apply tF<;>intro h1
 .apply tF<;>intro h2
  .apply tF<;>intro h3
   .apply tF<;>intro h4
    .apply tF<;>intro h5
     .apply tF<;>intro h6
      .apply tF<;>intro h7
       .exact tR trivial
       exact tR trivial
      exact tR trivial
     exact tR trivial
    exact tR trivial
   exact tR trivial
  exact tR trivial
 exact tR trivial
theorem Zrm{E0:Zt}{v5:Bool}{v6:Bool}{v7:Bool}{v8:Bool}{v9:Bool}{v10:Bool}{v11:Bool}(h:(Z9 E0)/\True):Tot (Zsf E0 v5 v6 v7 v8 v9 v10 v11).den (Nx Zgr Zkh (0,0,0,0,0,0) (fun r=>True)):=by
 obtain⟨O0,_⟩:=h;dsimp only [Zsf,LT.den];refine tB (Zhw) fun x1 h1=>?_;apply tF<;>intro h2
 .exact tB (Zapp O0.2.2.2.1) fun x2 h3=>tJ (Zyy trivial)
 exact tJ (Zyy trivial)
theorem Zyz{E0:Zt}{v5:Bool}{v6:Bool}{v7:Bool}{v8:Bool}{v9:Bool}{v10:Bool}(h:(Z9 E0)/\True):Tot (Zwx E0 v5 v6 v7 v8 v9 v10).den (Nx Zgr Zkh (0,0,0,0,0,0) (fun r=>True)):=by
 obtain⟨O0,_⟩:=h;dsimp only [Zwx,LT.den];refine tB (Zhw) fun x1 h1=>?_;apply tF<;>intro h2
 .apply tO<;>intro h3
  .exact tB (Zajc) fun x2 h4=>tJ (Zrm ⟨O0,trivial⟩)
  exact tJ (Zrm ⟨O0,trivial⟩)
 exact tJ (Zrm ⟨O0,trivial⟩)
theorem Zy0{E0:Zt}{v5:Bool}{v6:Bool}{v7:Bool}{v8:Bool}{v9:Bool}(h:(Z9 E0)/\True):Tot (Zwy E0 v5 v6 v7 v8 v9).den (Nx Zgr Zkh (0,0,0,0,0,0) (fun r=>True)):=by
 obtain⟨O0,_⟩:=h;dsimp only [Zwy,LT.den];refine tB (Zhw) fun x1 h1=>?_;apply tF<;>intro h2
 .exact tB (Zax5 O0.2.2.2.2) fun x2 h3=>tJ (Zyz ⟨O0,trivial⟩)
 exact tJ (Zyz ⟨O0,trivial⟩)
theorem Zy1{E0:Zt}{v5:Bool}{v6:Bool}{v7:Bool}{v8:Bool}(h:(Z9 E0)/\True):Tot (Zwz E0 v5 v6 v7 v8).den (Nx Zgr Zkh (0,0,0,0,0,0) (fun r=>True)):=by
 obtain⟨O0,_⟩:=h;dsimp only [Zwz,LT.den];refine tB (Zhw) fun x1 h1=>?_;apply tF<;>intro h2
 .exact tB (Za3i O0.2.1) fun x2 h3=>tJ (Zy0 ⟨O0,trivial⟩)
 exact tJ (Zy0 ⟨O0,trivial⟩)
theorem Zrn{E0:Zt}{v5:Bool}{v6:Bool}{v7:Bool}(h:(Z9 E0)/\True):Tot (Zsg E0 v5 v6 v7).den (Nx Zgr Zkh (0,0,0,0,0,0) (fun r=>True)):=by
 obtain⟨O0,_⟩:=h;dsimp only [Zsg,LT.den];refine tB (Zhw) fun x1 h1=>?_;apply tF<;>intro h2
 .exact tB (Z8w (SzS.t O0.2.2.1)) fun x2 h3=>tJ (Zy1 ⟨O0,trivial⟩)
 exact tJ (Zy1 ⟨O0,trivial⟩)
theorem Zaai{E0:Zt}{v5:Bool}{v6:Bool}(h:Zgr (.L1 E0 v5 v6)):Tot (Zon E0 v5 v6).den (Nx Zgr Zkh (0,0,0,0,0,0) (fun r=>True)):=by
 obtain⟨O0,_⟩:=h;dsimp only [Zon,LT.den];apply tE<;>intro h1
 .exact tJ (Zrn ⟨O0,trivial⟩)
 refine tB (Zhw) fun x1 h2=>?_;apply tF<;>intro h3
 .exact tB (Zadr) fun x2 h4=>tJ (Zrn ⟨O0,trivial⟩)
 exact tJ (Zrn ⟨O0,trivial⟩)
theorem Zy2{E0:Zt}{v5:Bool}(h:Zgr (.L0 E0 v5)):Tot (Zw0 E0 v5).den (Nx Zgr Zkh (0,0,0,0,0,0) (fun r=>True)):=by
 obtain⟨O0,_⟩:=h;dsimp only [Zw0,LT.den];apply tE<;>intro h1
 .exact tl14
 refine tB (Zhw) fun x1 h2=>?_;apply tF<;>intro h3
 .apply tD<;>intro h4
  .exact tl14
  exact tl14
 exact tl14
theorem Za3j{a0:Zt}{a1:Int}(oa0:Z9 a0):Tot (Za5i a0 a1) (fun r=>True):=by
 apply Tot.rn Zgr Zkh
 .dsimp only [Zawa,LT.den];refine tB (Zax2) fun x1 h1=>?_;apply tF<;>intro h2
  .exact tR trivial
  refine tB (Zhw) fun x2 h3=>?_;apply tF<;>intro h4
  .exact tB (Za3h oa0.1) fun x3 h5=>tJ (Zy2 ⟨oa0,trivial⟩)
  exact tJ (Zy2 ⟨oa0,trivial⟩)
 intro s hs;cases s with
 | L0 _ _=>exact Zy2 hs
 | L1 _ _ _=>exact Zaai hs
 | L2 _ _ _ _=>exact Zrn hs
 | L3 _ _ _ _ _=>exact Zy1 hs
 | L4 _ _ _ _ _ _=>exact Zy0 hs
 | L5 _ _ _ _ _ _ _=>exact Zyz hs
 | L6 _ _ _ _ _ _ _ _=>exact Zrm hs
 | L7 _ _ _ _ _ _ _ _=>exact Zyy hs
def Zam8:Zm2->Prop
 | .L0 v0 v1 v5=>((SzL 560 Z9) v0)/\(0<=v5)
def Zvl:Zm2->M6
 | .L0 v0 v1 v5=>(1,((v0.length:Int) - v5).toNat,1000000,0,0,0)
theorem Zam9{a0:List Zt}{a1:Int}(oa0:(SzL 560 Z9) a0):Tot (Zagg a0 a1) (fun r=>True):=by
 apply Tot.rn Zam8 Zvl
 .dsimp only [Z9g,LT.den];exact tL ⟨oa0,cl⟩ (by unfold Zvl lt6;dsimp only;omega)
 rintro ⟨v0,v1,v5⟩ ⟨ov0,cv5⟩;have lb_v0:=ov0.1;dsimp only [Zx2,Z6o,LT.den];apply tD<;>intro h1
 .refine Tot.ix fun x1 h2=>?_;have oh2:Z9 x1:=ov0.2 x1 h2.1;refine tB (Za3j oh2) fun x2 h3=>?_;apply tO<;>intro h4
  .exact tR trivial
  have q1:=wr (v5+1);exact tL ⟨ov0,cl⟩ (by unfold Zvl lt6;dsimp only;omega)
 exact tl27
def Zgs:Zmu->Prop
 | .L0 E0 v3=>(Zw E0)/\True
 | .L1 E0 v3=>(Zw E0)/\True
 | .L2 E0 v3=>(Zw E0)/\True
 | .L3 E0 v3=>(Zw E0)/\True
 | .L4 E0 v3=>(Zw E0)/\True
def Zsq:Zmu->M6
 | .L0 E0 v3=>(0,0,0,0,0,0)
 | .L1 E0 v3=>(0,0,0,0,0,0)
 | .L2 E0 v3=>(0,0,0,0,0,0)
 | .L3 E0 v3=>(0,0,0,0,0,0)
 | .L4 E0 v3=>(0,0,0,0,0,0)
theorem Zy3{E0:Ze}{v3:Bool}(h:Zgs (.L4 E0 v3)):Tot (Zw1 E0 v3).den (Nx Zgs Zsq (0,0,0,0,0,0) (fun r=>True)):=by
 obtain⟨O0,_⟩:=h;dsimp only [Zw1,LT.den];apply tF<;>intro h1
 .refine tB (Zask O0.2.2.2.1) fun x1 h2=>?_;apply tF<;>intro h3
  .exact tB (Zam9 O0.2.2.2.2.1) fun x2 h4=>tR trivial
  exact tR trivial
 apply tE<;>intro h2
 .exact tR trivial
 exact tR trivial
theorem Zy4{E0:Ze}{v3:Bool}(h:Zgs (.L3 E0 v3)):Tot (Zw2 E0 v3).den (Nx Zgs Zsq (0,0,0,0,0,0) (fun r=>True)):=by
 obtain⟨O0,_⟩:=h;dsimp only [Zw2,LT.den];apply tE<;>intro h1
 .refine tB (Za3g O0.2.2.2.2.2) fun x1 h2=>?_;apply tO<;>intro h3
  .exact tR trivial
  exact tJ (Zy3 ⟨O0,trivial⟩)
 apply tO<;>intro h2
 .exact tR trivial
 exact tJ (Zy3 ⟨O0,trivial⟩)
theorem Zy5{E0:Ze}{v3:Bool}(h:Zgs (.L2 E0 v3)):Tot (Zw3 E0 v3).den (Nx Zgs Zsq (0,0,0,0,0,0) (fun r=>True)):=by
 obtain⟨O0,_⟩:=h;dsimp only [Zw3,LT.den];apply tE<;>intro h1
 .refine tB (Za3f O0.2.2.1) fun x1 h2=>?_;apply tO<;>intro h3
  .exact tR trivial
  exact tJ (Zy4 ⟨O0,trivial⟩)
 apply tO<;>intro h2
 .exact tR trivial
 apply tF<;>intro h3
 .exact tR trivial
 exact tJ (Zy4 ⟨O0,trivial⟩)
theorem Zy6{E0:Ze}{v3:Bool}(h:Zgs (.L1 E0 v3)):Tot (Zw4 E0 v3).den (Nx Zgs Zsq (0,0,0,0,0,0) (fun r=>True)):=by
 obtain⟨O0,_⟩:=h;dsimp only [Zw4,LT.den];apply tE<;>intro h1
 .refine tB (Zasg) fun x1 h2=>?_;apply tO<;>intro h3
  .exact tR trivial
  exact tJ (Zy5 ⟨O0,trivial⟩)
 apply tO<;>intro h2
 .exact tR trivial
 apply tF<;>intro h3
 .exact tR trivial
 exact tJ (Zy5 ⟨O0,trivial⟩)
theorem Zaaj{E0:Ze}{v3:Bool}(h:Zgs (.L0 E0 v3)):Tot (Zsh E0 v3).den (Nx Zgs Zsq (0,0,0,0,0,0) (fun r=>True)):=by
 obtain⟨O0,_⟩:=h;dsimp only [Zsh,LT.den];apply tE<;>intro h1
 .refine tB (Zit O0.1) fun x1 h2=>?_;have eh2_0:=h2.1;apply tO<;>intro h3
  .exact tR trivial
  apply tN<;>intro h4
  .exact tR trivial
  refine tB (Zr5 O0.2.1) fun x2 h5=>?_;apply tF<;>intro h6
  .exact tR trivial
  exact tJ (Zy6 ⟨O0,trivial⟩)
 apply tO<;>intro h2
 .exact tR trivial
 apply tD<;>intro h3
 .exact tR trivial
 exact tJ (Zy6 ⟨O0,trivial⟩)
theorem Zz3{a0:Ze}(oa0:Zw a0):Tot (Za5k a0) (fun r=>True):=by
 apply Tot.rn Zgs Zsq
 .dsimp only [Zawc,LT.den];apply tD<;>intro h1
  .exact tR trivial
  apply tD<;>intro h2
  .exact tR trivial
  apply tE<;>intro h3
  .exact tl10
  apply tE<;>intro h4
  .exact tl10
  exact tl10
 intro s hs;cases s with
 | L0 _ _=>exact Zaaj hs
 | L1 _ _=>exact Zy6 hs
 | L2 _ _=>exact Zy5 hs
 | L3 _ _=>exact Zy4 hs
 | L4 _ _=>exact Zy3 hs
theorem Zaya{a0:Zk}(oa0:Zaa a0):Tot (Zawe a0) (fun r=>True):=by
 apply tZ;dsimp only [Zalu,LT.den];exact tl28
def Z8z(a0:Zk):Zu7->Prop
 | .L0 E0=>(E0=a0)/\(Zaa E0)/\(E0.Abilities.length<=8)
 | .L1 E0 v3 v4=>(E0=a0)/\(Zaa E0)/\(0<=v4)/\(E0.Abilities.length<=8)
def Z4c:Zu7->M6
 | .L0 E0=>(2,0,0,0,0,0)
 | .L1 E0 v3 v4=>(1,((E0.Abilities.length:Int) - v4).toNat,1000000,0,0,0)
theorem Zy7{a0:Zk}{E0:Zk}(h:(Z8z a0) (.L0 E0)):Tot (Zw5 E0).den (Nx (Z8z a0) Z4c (2,0,0,0,0,0) (fun r=>(r=true->a0.Abilities.length<=8))):=by
 obtain⟨al0,O0,i0⟩:=h;subst al0;dsimp only [Zw5,LT.den];exact tl44
theorem Za3k{a0:Zk}(oa0:Zaa a0):Tot (Za5l a0) (fun r=>(r=true->a0.Abilities.length<=8)):=by
 apply Tot.rn (Z8z a0) Z4c
 .dsimp only [Zawf,LT.den];refine tB (Z8w (SzS.t oa0.1)) fun x1 h1=>?_;apply tO<;>intro h2
  .exact Zer
  refine tB (Zz1 a0.Cost) fun x2 h3=>?_;have eh3_0:=h3.1;have eh3_1:=h3.2.1;apply tO<;>intro h4
  .exact Zer
  refine tB (Za3d oa0.2.1) fun x3 h5=>?_;apply tO<;>intro h6
  .exact Zer
  refine tB (Zam5) fun x4 h7=>?_;apply tO<;>intro h8
  .exact Zer
  apply tD<;>intro h9
  .exact Zer
  apply tD<;>intro h10
  .exact Zer
  apply tD<;>intro h11
  .exact Zer
  apply tD<;>intro h12
  .exact Zer
  apply tD<;>intro h13
  .exact Zer
  apply tD<;>intro h14
  .exact Zer
  refine tB (Zai6 oa0) fun x5 h15=>?_;apply tO<;>intro h16
  .apply tN<;>intro h17
   .exact Zer
   apply tN<;>intro h18
   .exact Zer
   have q1:=oa0.2.2.1;apply tD<;>intro h19
   .exact Zer
   exact tJ (Zy7 ⟨rfl,oa0,cl⟩)
  have q1:=oa0.2.2.1;apply tD<;>intro h17
  .exact Zer
  exact tJ (Zy7 ⟨rfl,oa0,cl⟩)
 intro s hs;cases s with
 | L0 _=>exact Zy7 hs
 | L1 E0 v3 v4=>
  obtain⟨al0,O0,cv4,i0⟩:=hs;subst al0;dsimp only [Zaij,Zaqz,LT.den,Z4c];apply tD<;>intro h1
  .refine Tot.ix fun x1 h2=>?_;have oh2:Zw x1:=O0.2.2.2 x1 h2.1;refine tB (Zz3 oh2) fun x2 h3=>?_;apply tO<;>intro h4
   .exact Zer
   apply tE<;>intro h5
   .have q1:=wr (v3+1);have q2:=wr (v4+1);exact tl44
   have q1:=wr (v4+1);exact tl44
  refine tB (Zaya O0) fun x1 h2=>?_;apply tF<;>intro h3
  .apply tO<;>intro h4
   .apply tE<;>intro h5
    .exact tl91
    exact Zer
   exact Zer
  apply tE<;>intro h4
  .apply tO<;>intro h5
   .exact tl91
   exact Zer
  exact Zer
def Zayb:Zth->Prop
 | .L0 v0 v1 v5=>((SzL 176 Zaa) v0)/\(SzT v1)/\(0<=v5)
def Z5t:Zth->M6
 | .L0 v0 v1 v5=>(1,((v0.length:Int) - v5).toNat,1000000,0,0,0)
theorem Zayc{a0:List Zk}{a1:List UInt8}(oa0:(SzL 176 Zaa) a0)(oa1:SzT a1):Tot (Zawg a0 a1) (fun r=>True):=by
 apply Tot.rn Zayb Z5t
 .dsimp only [Zalw,LT.den];exact tL ⟨oa0,oa1,cl⟩ (by unfold Z5t lt6;dsimp only;omega)
 rintro ⟨v0,v1,v5⟩ ⟨ov0,ov1,cv5⟩;have lb_v0:=ov0.1;dsimp only [Z8e,Zagh,LT.den];apply tD<;>intro h1
 .refine Tot.ix fun x1 h2=>?_;apply tF<;>intro h3
  .exact tR trivial
  have q1:=wr (v5+1);exact tL ⟨ov0,ov1,cl⟩ (by unfold Z5t lt6;dsimp only;omega)
 exact tR trivial
def Zasl:Zqu->Prop
 | .L0 v0 v1 v5=>((SzL 176 Zaa) v0)/\(SzT v1)/\(0<=v5)
def Z1y:Zqu->M6
 | .L0 v0 v1 v5=>(1,((v0.length:Int) - v5).toNat,1000000,0,0,0)
theorem Zasm{a0:List Zk}{a1:List UInt8}(oa0:(SzL 176 Zaa) a0)(oa1:SzT a1):Tot (Zaq0 a0 a1) (fun r=>True):=by
 apply Tot.rn Zasl Z1y
 .dsimp only [Zagi,LT.den];exact tL ⟨oa0,oa1,cl⟩ (by unfold Z1y lt6;dsimp only;omega)
 rintro ⟨v0,v1,v5⟩ ⟨ov0,ov1,cv5⟩;have lb_v0:=ov0.1;dsimp only [Z42,Zab4,LT.den];apply tD<;>intro h1
 .refine Tot.ix fun x1 h2=>?_;apply tF<;>intro h3
  .apply tF<;>intro h4
   .exact tR trivial
   exact tl60
  exact tl60
 exact tR trivial
def Zana:Zjv->Prop
 | .L0 v0 E0 v5=>((SzL 176 Zaa) v0)/\(Zaa E0)/\(0<=v5)
 | .L1 v0 E0 v5 v6=>((SzL 176 Zaa) v0)/\(Zaa E0)/\(0<=v5)/\(0<=v6)/\(v5 < (E0.Abilities.length:Int))/\(v5 < (E0.Abilities.length:Int))
def Z7e:Zjv->M6
 | .L0 v0 E0 v5=>(1,((E0.Abilities.length:Int) - v5).toNat,1000000,0,0,0)
 | .L1 v0 E0 v5 v6=>(1,((E0.Abilities.length:Int) - v5).toNat,1,((((E0.Abilities[v5.toNat]?).map fun x=>x.Effects.length).getD 0:Nat) - v6).toNat,1000000,0)
theorem Zanb{a0:List Zk}{a1:Zk}(oa0:(SzL 176 Zaa) a0)(oa1:Zaa a1):Tot (Zagj a0 a1) (fun r=>True):=by
 apply Tot.rn Zana Z7e
 .dsimp only [Z9h,LT.den];exact tL ⟨oa0,oa1,cl⟩ tk76
 intro s hs;cases s with
 | L0 v0 E0 v5=>
  obtain⟨ov0,O0,cv5⟩:=hs;dsimp only [Zrk,Z6p,LT.den];apply tD<;>intro h1
  .exact tl47
  exact tR trivial
 | L1 v0 E0 v5 v6=>
  obtain⟨ov0,O0,cv5,cv6,bd4,i0⟩:=hs;dsimp only [Zrk,Z6q,LT.den];have lx_0:E0.Abilities.length*640<=140737488351232:=O0.2.2.1;refine Tot.ix fun x1 h1=>?_;have oh1:Zw x1:=O0.2.2.2 x1 h1.1;have mh1:((E0.Abilities[v5.toNat]?).map fun x=>x.Effects.length).getD 0=x1.Effects.length:=by rw [h1.2];rfl
  have q1:=oh1.2.2.2.2.1.1;apply tD<;>intro h2
  .refine Tot.ix fun x2 h3=>?_;have oh3:Z9 x2:=oh1.2.2.2.2.1.2 x2 h3.1;apply tE<;>intro h4
   .refine tB (Zasm ov0 (SzS.t oh3.2.2.1)) fun x3 h5=>?_;apply tO<;>intro h6
    .exact tR trivial
    exact tl66
   exact tl66
  have q2:=wr (v5+1);exact tL ⟨ov0,O0,cl⟩ tk76
def Zasn(a0:List Zk):Zqv->Prop
 | .L0 v0 v4=>(v0=a0)/\((SzL 176 Zaa) v0)/\(0<=v4)/\(∀ (k:Nat) c,(k:Int) < v4->v0[k]?=some c->c.Abilities.length<=8)
def Z1z:Zqv->M6
 | .L0 v0 v4=>(1,((v0.length:Int) - v4).toNat,1000000,0,0,0)
theorem Zaso{a0:List Zk}(oa0:(SzL 176 Zaa) a0):Tot (Zaq1 a0) (fun r=>(r.2=0->∀ c,c∈a0->c.Abilities.length<=8)):=by
 apply Tot.rn (Zasn a0) Z1z
 .dsimp only [Zagk,LT.den];apply tD<;>intro h1
  .exact tl84
  exact tL ⟨rfl,oa0,cl,tk14⟩ (by unfold Z1z lt6;dsimp only;omega)
 rintro ⟨v0,v4⟩ ⟨al0,ov0,cv4,i0⟩;have lb_v0:=ov0.1;subst al0;dsimp only [Z43,Zab5,LT.den];apply tD<;>intro h1
 .refine Tot.ix fun x1 h2=>?_;have oh2:Zaa x1:=ov0.2 x1 h2.1;have mh2:=h2.2;refine tB (Za3k oh2) fun x2 h3=>?_;have eh3_0:=h3;apply tO<;>intro h4
  .exact tl84
  have h4_0:=eh3_0 h4;refine tB (Zayc ov0 (SzS.t oh2.1)) fun x3 h5=>?_;apply tD<;>intro h6
  .exact tl84
  refine tB (Zanb ov0 oh2) fun x4 h7=>?_;apply tO<;>intro h8
  .exact tl84
  have q1:=wr (v4+1);exact tL ⟨rfl,ov0,cl,tk14⟩ (by unfold Z1z lt6;dsimp only;omega)
 exact tl84
theorem Zei{a0:Int}{a1:Int}{a2:Int}:Tot (Za5n a0 a1 a2) (fun r=>(r=true↔(a1<=a0/\a0<=a2))):=by
 apply tZ;dsimp only [Zawj,LT.den];apply tD<;>intro h1
 .exact tR (by grind)
 exact tR (by grind)
def Zasp:Zqw->Prop
 | .L0 E0 v3=>(0<=v3)/\True
def Zads:Zqw->M6
 | .L0 E0 v3=>(1,(6 - v3).toNat,1000000,0,0,0)
theorem Zasq{a0:A6 Int}:Tot (Zaq2 a0) (fun r=>True):=by
 apply Tot.rn Zasp Zads
 .dsimp only [Zagl,LT.den];exact tl36
 rintro ⟨E0,v3⟩ ⟨cv3,_⟩;dsimp only [Z44,Zab6,LT.den];apply tD<;>intro h1
 .refine tB (tI (by omega) tk71) fun x1 h2=>?_;apply tD<;>intro h3
  .exact tR trivial
  refine tB (tI (by omega) tk71) fun x2 h4=>?_;apply tD<;>intro h5
  .exact tR trivial
  have q1:=wr (v3+1);exact tl36
 exact tR trivial
def Zasr(a0:Zn)(a1:Int):Zqx->Prop
 | .L0 v1 E0 v5=>(E0=a0)/\(v1=a1)/\(Zac E0)/\(0<=v5)/\(NoId E0.Objects v1 v5)
def Z10:Zqx->M6
 | .L0 v1 E0 v5=>(1,((E0.Objects.length:Int) - v5).toNat,1000000,0,0,0)
theorem Zass{a0:Zn}{a1:Int}(oa0:Zac a0):Tot (Zaq3 a0 a1) (fun r=>(r < (a0.Objects.length:Int))/\(r=ixO a0.Objects a1)):=by
 apply Tot.rn (Zasr a0 a1) Z10
 .dsimp only [Zagm,LT.den];exact tL ⟨rfl,rfl,oa0,cl,tk20⟩ (by unfold Z10 lt6;dsimp only;omega)
 rintro ⟨v1,E0,v5⟩ ⟨al0,al1,O0,cv5,i0⟩;subst al0;subst al1;dsimp only [Z45,Zab7,LT.den];have q1:=O0.2.1.1;apply tD<;>intro h1
 .refine Tot.ix fun x1 h2=>?_;have mh2:=h2.2;apply tE<;>intro h3
  .exact tl86
  have q2:=wr (v5+1);exact tL ⟨rfl,rfl,O0,cl,tk20⟩ (by unfold Z10 lt6;dsimp only;omega)
 exact tl86
theorem Zayd{a0:Zn}{a1:Int}(oa0:Zac a0):Tot (Zawn a0 a1) (fun r=>(r=fdV a0.Objects a1)):=by
 apply tZ;dsimp only [Zalx,LT.den];refine tB (Zass oa0) fun x1 h1=>?_;have eh1_0:=h1.1;have eh1_1:=h1.2;apply tD<;>intro h2
 .exact tl77
 refine Tot.ix fun x2 h3=>?_;have mh3:=h3.2;exact tl77
theorem Z7f{a0:Zn}{a1:Int}(oa0:Zac a0):Tot (Zalz a0 a1) (fun r=>True):=by
 apply tZ;dsimp only [Zab8,LT.den];exact tB (Zayd oa0) fun x1 h1=>tR trivial
def Zast:Zqy->Prop
 | .L0 v0 v1 v5 v6=>((SzL 8 (fun _=>True)) v0)/\(0<=v6)
def Z11:Zqy->M6
 | .L0 v0 v1 v5 v6=>(1,((v0.length:Int) - v6).toNat,1000000,0,0,0)
theorem Zy8{a0:List Int}{a1:Int}(oa0:(SzL 8 (fun _=>True)) a0):Tot (Zaq4 a0 a1) (fun r=>True):=by
 apply Tot.rn Zast Z11
 .dsimp only [Zagn,LT.den];exact tL ⟨oa0,cl⟩ (by unfold Z11 lt6;dsimp only;omega)
 rintro ⟨v0,v1,v5,v6⟩ ⟨ov0,cv6⟩;have lb_v0:=ov0.1;dsimp only [Z46,Zaca,LT.den];apply tD<;>intro h1
 .refine Tot.ix fun x1 h2=>?_;apply tE<;>intro h3
  .have q1:=wr (v5+1);have q2:=wr (v6+1);exact tl33
  have q1:=wr (v6+1);exact tl33
 exact tR trivial
def Zaye:Zti->Prop
 | .L0 v1 v2 v3 E0 v9=>((SzL 8 (fun _=>True)) v1)/\(Zac E0)/\(0<=v9)
def Z5u:Zti->M6
 | .L0 v1 v2 v3 E0 v9=>(1,((v1.length:Int) - v9).toNat,1000000,0,0,0)
theorem Zo9{a0:Zn}{a1:List Int}{a2:Int}{a3:Int}(oa0:Zac a0)(oa1:(SzL 8 (fun _=>True)) a1):Tot (Zawo a0 a1 a2 a3) (fun r=>True):=by
 apply Tot.rn Zaye Z5u
 .dsimp only [Zal0,LT.den];exact tL ⟨oa1,oa0,cl⟩ (by unfold Z5u lt6;dsimp only;omega)
 rintro ⟨v1,v2,v3,E0,v9⟩ ⟨ov1,O0,cv9⟩;have lb_v1:=ov1.1;dsimp only [Z8f,Zago,LT.den];apply tD<;>intro h1
 .refine Tot.ix fun x1 h2=>tB (Z7f O0) fun x2 h3=>?_;apply tO<;>intro h4
  .exact tR trivial
  apply tN<;>intro h5
  .exact tR trivial
  apply tD<;>intro h6
  .apply tN<;>intro h7
   .exact tR trivial
   refine tB (Zy8 ov1) fun x3 h8=>?_;apply tN<;>intro h9
   .exact tR trivial
   exact tl64
  refine tB (Zy8 ov1) fun x3 h7=>?_;apply tN<;>intro h8
  .exact tR trivial
  exact tl64
 exact tR trivial
def Zanc:Zm3->Prop
 | .L0 E0 v3=>(Zac E0)/\(0<=v3)
def Zvm:Zm3->M6
 | .L0 E0 v3=>(1,((E0.Players.length:Int) - v3).toNat,1000000,0,0,0)
theorem Zand{a0:Zn}(oa0:Zac a0):Tot (Zagp a0) (fun r=>True):=by
 apply Tot.rn Zanc Zvm
 .dsimp only [Z9j,LT.den];have q1:=oa0.1.1;refine tB (Zei) fun x1 h1=>?_;apply tO<;>intro h2
  .exact tR trivial
  exact tL ⟨oa0,cl⟩ (by unfold Zvm lt6;dsimp only;omega)
 rintro ⟨E0,v3⟩ ⟨O0,cv3⟩;dsimp only [Zx3,Z6r,LT.den];have q1:=O0.1.1;apply tD<;>intro h1
 .refine Tot.ix fun x1 h2=>?_;have oh2:Zjy x1:=O0.1.2 x1 h2.1;refine tB (Zei) fun x2 h3=>?_;apply tO<;>intro h4
  .exact tR trivial
  refine tB (Zei) fun x3 h5=>?_;apply tO<;>intro h6
  .exact tR trivial
  refine tB (Zei) fun x4 h7=>?_;apply tO<;>intro h8
  .exact tR trivial
  refine tB (Zasq) fun x5 h9=>?_;apply tO<;>intro h10
  .exact tR trivial
  refine tB (Zo9 O0 oh2.1) fun x6 h11=>?_;apply tO<;>intro h12
  .exact tR trivial
  refine tB (Zo9 O0 oh2.2.1) fun x7 h13=>?_;apply tO<;>intro h14
  .exact tR trivial
  refine tB (Zo9 O0 oh2.2.2) fun x8 h15=>?_;apply tO<;>intro h16
  .exact tR trivial
  have q2:=wr (v3+1);exact tL ⟨O0,cl⟩ (by unfold Zvm lt6;dsimp only;omega)
 refine tB (Zo9 O0 O0.2.2.1) fun x1 h2=>?_;apply tF<;>intro h3
 .exact tB (Zo9 O0 O0.2.2.2.1) fun x2 h4=>tR trivial
 exact tR trivial
theorem Zhb{a0:Zn}{a1:Int}(oa0:Zac a0):Tot (Zal1 a0 a1) (fun r=>(r=true↔(0<=a1/\a1 < (a0.Players.length:Int)))):=by
 apply tZ;dsimp only [Zacb,LT.den];have q1:=oa0.1.1;have q2:=wr ((a0.Players.length:Int) - 1);exact tB (Zei) fun x1 h1=>tR (by grind)
def Za3l:Z01->Prop
 | .L0 E0 v3=>(0<=v3)/\True
def Zars:Z01->M6
 | .L0 E0 v3=>(1,(3 - v3).toNat,1000000,0,0,0)
theorem Za3m{a0:A3 Int}:Tot (Za5o a0) (fun r=>True):=by
 apply Tot.rn Za3l Zars
 .dsimp only [Zawp,LT.den];exact tl34
 rintro ⟨E0,v3⟩ ⟨cv3,_⟩;dsimp only [Zaik,Zaq5,LT.den];apply tD<;>intro h1
 .refine tB (tI (by omega) (by have e:(A3.list E0).length=3:=rfl;omega)) fun x1 h2=>?_;apply tD<;>intro h3
  .exact tR trivial
  refine tB (tI (by omega) (by have e:(A3.list E0).length=3:=rfl;omega)) fun x2 h4=>?_;apply tD<;>intro h5
  .exact tR trivial
  have q1:=wr (v3+1);exact tl34
 exact tR trivial
theorem Zayf{a0:Zc}:Tot (Zawq a0) (fun r=>True):=by
 apply tZ;dsimp only [Zal2,LT.den];exact tR trivial
theorem Zasu{a0:Zc}:Tot (Zaq6 a0) (fun r=>True):=by
 apply tZ;dsimp only [Zagq,LT.den];exact tR trivial
theorem Za3n{a0:Zc}{a1:Int}{a2:Int}:Tot (Za5q a0 a1 a2) (fun r=>(r=true->1<=a0.Id)):=by
 apply tZ;dsimp only [Zaws,LT.den];apply tD<;>intro h1
 .exact tl0
 apply tD<;>intro h2
 .exact tl0
 apply tD<;>intro h3
 .exact tl0
 apply tD<;>intro h4
 .exact tl0
 apply tD<;>intro h5
 .exact tl0
 apply tD<;>intro h6
 .exact tl0
 apply tD<;>intro h7
 .exact tl0
 apply tD<;>intro h8
 .exact tl0
 apply tD<;>intro h9
 .exact tl0
 apply tD<;>intro h10
 .exact tl0
 apply tD<;>intro h11
 .exact tl0
 apply tD<;>intro h12
 .exact tl0
 apply tD<;>intro h13
 .exact tl0
 apply tD<;>intro h14
 .exact tl0
 apply tD<;>intro h15
 .exact tl0
 apply tD<;>intro h16
 .exact tl0
 apply tD<;>intro h17
 .exact tl0
 refine tB (Za3m) fun x1 h18=>?_;apply tO<;>intro h19
 .exact tl0
 apply tD<;>intro h20
 .exact tl0
 apply tD<;>intro h21
 .exact tl0
 apply tD<;>intro h22
 .exact tl0
 apply tD<;>intro h23
 .exact tl0
 apply tE<;>intro h24
 .exact tl17
 refine tB (Zayf) fun x2 h25=>?_;apply tF<;>intro h26
 .refine tB (Zasu) fun x3 h27=>?_;apply tF<;>intro h28
  .apply tO<;>intro h29
   .apply tO<;>intro h30
    .exact tl17
    exact tl0
   exact tl0
  exact tl0
 exact tl0
def Zapq:Zoo->Prop
 | .L0 v1 E0 v5 v6=>(Zac E0)/\(0<=v6)
def Zy9:Zoo->M6
 | .L0 v1 E0 v5 v6=>(1,((E0.Stack.length:Int) - v6).toNat,1000000,0,0,0)
theorem Zapr{a0:Zn}{a1:Int}(oa0:Zac a0):Tot (Zal4 a0 a1) (fun r=>True):=by
 apply Tot.rn Zapq Zy9
 .dsimp only [Zacd,LT.den];exact tL ⟨oa0,cl⟩ (by unfold Zy9 lt6;dsimp only;omega)
 rintro ⟨v1,E0,v5,v6⟩ ⟨O0,cv6⟩;dsimp only [Z02,Z9k,LT.den];have q1:=O0.2.2.2.2.1.1;apply tD<;>intro h1
 .refine Tot.ix fun x1 h2=>?_;apply tE<;>intro h3
  .apply tE<;>intro h4
   .have q2:=wr (v5+1);have q3:=wr (v6+1);exact tl42
   exact tl63
  exact tl63
 exact tR trivial
theorem Zpa{a0:List Int}(oa0:(SzL 8 (fun _=>True)) a0):Tot (Zawu a0) (fun r=>((SzL 8 (fun _=>True)) r)):=by
 apply tZ;have lb_a0:=oa0.1;dsimp only [Zal5,LT.den];refine Tot.ap fun x1 h1=>?_;have lh1:x1.length=([]:List Int).length+a0.length:=by rw [h1,List.length_append]
 try simp only [List.length_cons,List.length_nil,Nat.zero_add] at lh1
 exact tR SzL.tr
theorem Zayg{a0:Zn}{a1:Int}{a2:Int}(oa0:Zac a0):Tot (Zail a0 a1 a2) (fun r=>((SzL 8 (fun _=>True)) r)):=by
 apply tZ;dsimp only [Zal7,LT.den];apply tE<;>intro h1
 .exact tB (Zpa oa0.2.2.1) fun x1 h2=>tR h2
 apply tE<;>intro h2
 .exact tB (Zpa oa0.2.2.2.1) fun x1 h3=>tR h3
 apply tD<;>intro h3
 .exact tR SzL.nil
 apply tD<;>intro h4
 .exact tR SzL.nil
 apply tE<;>intro h5
 .refine Tot.ix fun x1 h6=>?_;have oh6:Zjy x1:=oa0.1.2 x1 h6.1;exact tB (Zpa oh6.2.1) fun x2 h7=>tR h7
 apply tE<;>intro h6
 .refine Tot.ix fun x1 h7=>?_;have oh7:Zjy x1:=oa0.1.2 x1 h7.1;exact tB (Zpa oh7.1) fun x2 h8=>tR h8
 apply tE<;>intro h7
 .refine Tot.ix fun x1 h8=>?_;have oh8:Zjy x1:=oa0.1.2 x1 h8.1;exact tB (Zpa oh8.2.2) fun x2 h9=>tR h9
 exact tR SzL.nil
theorem Z7g{a0:Zn}{a1:Zc}(oa0:Zac a0):Tot (Zal9 a0 a1) (fun r=>True):=by
 apply tZ;dsimp only [Zace,LT.den];apply tE<;>intro h1
 .exact tB (Zapr oa0) fun x1 h2=>tR trivial
 exact tB (Zayg oa0) fun x1 h2=>tB (Zy8 h2) fun x2 h3=>tR trivial
def Zane(a0:List Zk)(a1:Zn):Zm4->Prop
 | .L0 v0 E0 v5=>(v0=a0)/\(E0=a1)/\((SzL 176 Zaa) v0)/\(Zac E0)/\(0<=v5)/\(Z8r E0.Objects v5)
def Zvn:Zm4->M6
 | .L0 v0 E0 v5=>(1,((E0.Objects.length:Int) - v5).toNat,1000000,0,0,0)
theorem Zn5{a0:List Zk}{a1:Zn}(oa0:(SzL 176 Zaa) a0)(oa1:Zac a1):Tot (Zags a0 a1) (fun r=>(r=true->Ids a1.Objects)/\(r=true->Z8s a1.Objects)):=by
 apply Tot.rn (Zane a0 a1) Zvn
 .dsimp only [Z9m,LT.den];have q1:=oa1.2.1.1;apply tD<;>intro h1
  .exact Z34
  exact tL ⟨rfl,rfl,oa0,oa1,cl,tk1⟩ (by unfold Zvn lt6;dsimp only;omega)
 rintro ⟨v0,E0,v5⟩ ⟨al0,al1,ov0,O0,cv5,i0⟩;subst al0;subst al1;dsimp only [Zx4,Z6s,LT.den];have q1:=O0.2.1.1;apply tD<;>intro h1
 .refine Tot.ix fun x1 h2=>?_;have mh2:=h2.2;refine tB (Za3n) fun x2 h3=>?_;have eh3_0:=h3;apply tO<;>intro h4
  .exact Z34
  have h4_0:=eh3_0 h4;apply tD<;>intro h5
  .exact Z34
  apply tD<;>intro h6
  .exact Z34
  apply tD<;>intro h7
  .have q2:=wr (v5 - 1);refine Tot.ix fun x3 h8=>?_;have mh8:=h8.2;apply tD<;>intro h9
   .exact Z34
   refine tB (Z7g O0) fun x4 h10=>?_;apply tO<;>intro h11
   .exact Z34
   have q3:=wr (v5+1);exact Zbap
  refine tB (Z7g O0) fun x3 h8=>?_;apply tO<;>intro h9
  .exact Z34
  have q2:=wr (v5+1);exact Zbap
 exact Z34
def Zajd:Zlf->Prop
 | .L0 v0 v1 v5=>((SzL 176 Zv) v0)/\((SzL 176 Zv) v1)/\(0<=v5)/\(v0.length=v1.length)
def Zt7:Zlf->M6
 | .L0 v0 v1 v5=>(1,((v0.length:Int) - v5).toNat,1000000,0,0,0)
theorem Z12{a0:List Zi}{a1:List Zi}(oa0:(SzL 176 Zv) a0)(oa1:(SzL 176 Zv) a1):Tot (Zacg a0 a1) (fun r=>True):=by
 apply Tot.rn Zajd Zt7
 .dsimp only [Z6t,LT.den];apply tN<;>intro h1
  .exact tR trivial
  exact tL ⟨oa0,oa1,cs⟩ (by unfold Zt7 lt6;dsimp only;omega)
 rintro ⟨v0,v1,v5⟩ ⟨ov0,ov1,cv5,i0⟩;have lb_v0:=ov0.1;dsimp only [Zu8,Z3a,LT.den];apply tD<;>intro h1
 .refine Tot.ix fun x1 h2=>Tot.ix fun x2 h3=>?_;apply tO<;>intro h4
  .exact tR trivial
  have q1:=wr (v5+1);exact tL ⟨ov0,ov1,cs⟩ (by unfold Zt7 lt6;dsimp only;omega)
 exact tR trivial
theorem Zayh{a0:Zt}{a1:Zt}(oa0:Z9 a0)(oa1:Z9 a1):Tot (Zaww a0 a1) (fun r=>True):=by
 apply tZ;dsimp only [Zama,LT.den];apply tE<;>intro h1
 .apply tF<;>intro h2
  .apply tF<;>intro h3
   .apply tE<;>intro h4
    .apply tE<;>intro h5
     .apply tF<;>intro h6
      .apply tF<;>intro h7
       .apply tF<;>intro h8
        .exact tB (Z12 oa0.2.2.2.2 oa1.2.2.2.2) fun x1 h9=>tR trivial
        exact tR trivial
       exact tR trivial
      exact tR trivial
     exact tR trivial
    exact tR trivial
   exact tR trivial
  exact tR trivial
 exact tR trivial
def Zaje:Zlg->Prop
 | .L0 v0 v1 v5=>((SzL 560 Z9) v0)/\((SzL 560 Z9) v1)/\(0<=v5)/\(v0.length=v1.length)
def Zt8:Zlg->M6
 | .L0 v0 v1 v5=>(1,((v0.length:Int) - v5).toNat,1000000,0,0,0)
theorem Zajf{a0:List Zt}{a1:List Zt}(oa0:(SzL 560 Z9) a0)(oa1:(SzL 560 Z9) a1):Tot (Zach a0 a1) (fun r=>True):=by
 apply Tot.rn Zaje Zt8
 .dsimp only [Z6u,LT.den];apply tN<;>intro h1
  .exact tR trivial
  exact tL ⟨oa0,oa1,cs⟩ (by unfold Zt8 lt6;dsimp only;omega)
 rintro ⟨v0,v1,v5⟩ ⟨ov0,ov1,cv5,i0⟩;have lb_v0:=ov0.1;dsimp only [Zu9,Z3c,LT.den];apply tD<;>intro h1
 .refine Tot.ix fun x1 h2=>?_;have oh2:Z9 x1:=ov0.2 x1 h2.1;refine Tot.ix fun x2 h3=>?_;have oh3:Z9 x2:=ov1.2 x2 h3.1;refine tB (Zayh oh2 oh3) fun x3 h4=>?_;apply tO<;>intro h5
  .exact tR trivial
  have q1:=wr (v5+1);exact tL ⟨ov0,ov1,cs⟩ (by unfold Zt8 lt6;dsimp only;omega)
 exact tR trivial
def Zayi:Ztj->Prop
 | .L0 E0 E1 v5=>(Zw E0)/\(Zw E1)/\(0<=v5)/\(E0.Specs.length=E1.Specs.length)
def Z5v:Ztj->M6
 | .L0 E0 E1 v5=>(1,((E0.Specs.length:Int) - v5).toNat,1000000,0,0,0)
theorem Zayj{a0:Ze}{a1:Ze}(oa0:Zw a0)(oa1:Zw a1):Tot (Zawx a0 a1) (fun r=>True):=by
 apply Tot.rn Zayi Z5v
 .dsimp only [Zamd,LT.den];have q1:=oa0.2.2.2.1.1;apply tN<;>intro h1
  .exact tR trivial
  exact tL ⟨oa0,oa1,cs⟩ (by unfold Z5v lt6;dsimp only;omega)
 rintro ⟨E0,E1,v5⟩ ⟨O0,O1,cv5,i0⟩;dsimp only [Z8g,Zagt,LT.den];have q1:=O0.2.2.2.1.1;apply tD<;>intro h1
 .refine Tot.ix fun x1 h2=>Tot.ix fun x2 h3=>?_;apply tO<;>intro h4
  .exact tR trivial
  have q2:=wr (v5+1);exact tL ⟨O0,O1,cs⟩ (by unfold Z5v lt6;dsimp only;omega)
 apply tE<;>intro h2
 .apply tF<;>intro h3
  .refine tB (Z12 O0.2.1 O1.2.1) fun x1 h4=>?_;apply tF<;>intro h5
   .apply tF<;>intro h6
    .apply tF<;>intro h7
     .apply tF<;>intro h8
      .apply tF<;>intro h9
       .refine tB (Zajf O0.2.2.2.2.1 O1.2.2.2.2.1) fun x2 h10=>?_;apply tF<;>intro h11
        .exact tR trivial
        exact tR trivial
       exact tR trivial
      exact tR trivial
     exact tR trivial
    exact tR trivial
   exact tR trivial
  exact tR trivial
 exact tR trivial
theorem Zayk{a0:Zn}{a1:Zmp}(oa0:Zac a0)(oa1:Zv7 a1):Tot (Zawy a0 a1) (fun r=>True):=by
 apply tZ;dsimp only [Zame,LT.den];have q1:=wr (a0.NextId - 1);refine tB (Zei) fun x1 h1=>?_;apply tO<;>intro h2
 .exact tR trivial
 refine tB (Zei) fun x2 h3=>?_;apply tO<;>intro h4
 .exact tR trivial
 apply tD<;>intro h5
 .exact tR trivial
 refine tB (Zhb oa0) fun x3 h6=>?_;apply tO<;>intro h7
 .exact tR trivial
 refine tB (Z7f oa0) fun x4 h8=>?_;apply tE<;>intro h9
 .refine tB (Zayj oa1.1 ⟨SzS.nil,SzL.nil,SzS.nil,SzL.nil,SzL.nil,SzS.nil⟩) fun x5 h10=>?_;apply tE<;>intro h11
  .apply tF<;>intro h12
   .apply tE<;>intro h13
    .apply tF<;>intro h14
     .exact tR trivial
     exact tB (Zz3 oa1.1) fun x6 h15=>tR trivial
    exact tR trivial
   exact tR trivial
  exact tR trivial
 apply tE<;>intro h10
 .apply tO<;>intro h11
  .exact tB (Zz3 oa1.1) fun x5 h12=>tR trivial
  exact tR trivial
 exact tR trivial
def Za3o:Z03->Prop
 | .L0 v0 v3=>((SzL 8 (fun _=>True)) v0)/\(0<=v3)/\(1<=v3)
def Zadt:Z03->M6
 | .L0 v0 v3=>(1,((v0.length:Int) - v3).toNat,1000000,0,0,0)
theorem Za3p{a0:List Int}(oa0:(SzL 8 (fun _=>True)) a0):Tot (Za5s a0) (fun r=>True):=by
 apply Tot.rn Za3o Zadt
 .dsimp only [Zawz,LT.den];exact tL ⟨oa0,cs⟩ (by unfold Zadt lt6;dsimp only;omega)
 rintro ⟨v0,v3⟩ ⟨ov0,cv3,i0⟩;have lb_v0:=ov0.1;dsimp only [Zaim,Zaq7,LT.den];apply tD<;>intro h1
 .have q1:=wr (v3 - 1);refine Tot.ix fun x1 h2=>Tot.ix fun x2 h3=>?_;apply tD<;>intro h4
  .exact tR trivial
  have q2:=wr (v3+1);exact tL ⟨ov0,cs⟩ (by unfold Zadt lt6;dsimp only;omega)
 exact tR trivial
def Zasv(a0:Zn):Ziz->Prop
 | .L0 E0 v3=>(E0=a0)/\(Zac E0)/\(0<=v3)/\(E0.Conts.length<=64)
 | .L1 E0 v3 v4=>(E0=a0)/\(Zac E0)/\(0<=v4)/\(0<=v3)/\(v3 < (E0.Stack.length:Int))/\(E0.Conts.length<=64)
 | .L2 E0 v5=>(E0=a0)/\(Zac E0)/\(0<=v5)/\(E0.Conts.length<=64)
 | .L3 E0 v7=>(E0=a0)/\(Zac E0)/\(0<=v7)/\(E0.Conts.length<=64)
def Z13:Ziz->M6
 | .L0 E0 v3=>(5,((E0.Stack.length:Int) - v3).toNat,1000000,0,0,0)
 | .L1 E0 v3 v4=>(5,((E0.Stack.length:Int) - v3).toNat,1,(v3 - v4).toNat,1000000,0)
 | .L2 E0 v5=>(3,((E0.Waiting.length:Int) - v5).toNat,1000000,0,0,0)
 | .L3 E0 v7=>(1,((E0.Conts.length:Int) - v7).toNat,1000000,0,0,0)
theorem Zro{a0:Zn}(oa0:Zac a0):Tot (Zaq8 a0) (fun r=>(r=true->a0.Conts.length<=64)):=by
 apply Tot.rn (Zasv a0) Z13
 .dsimp only [Zagu,LT.den];have q1:=oa0.2.2.2.2.1.1;apply tD<;>intro h1
  .exact Zer
  apply tD<;>intro h2
  .exact Zer
  have q2:=oa0.2.2.2.2.2.2.1.1;apply tD<;>intro h3
  .exact Zer
  exact tL ⟨rfl,oa0,cs⟩ (by unfold Z13 lt6;dsimp only;omega)
 intro s hs;cases s with
 | L0 E0 v3=>
  obtain⟨al0,O0,cv3,i0⟩:=hs;subst al0;dsimp only [Zns,Zaci,LT.den];have q1:=O0.2.2.2.2.1.1;apply tD<;>intro h1
  .refine Tot.ix fun x1 h2=>?_;have oh2:Zv7 x1:=O0.2.2.2.2.1.2 x1 h2.1;refine tB (Zayk O0 oh2) fun x2 h3=>?_;apply tO<;>intro h4
   .exact Zer
   exact tl46
  exact tl46
 | L1 E0 v3 v4=>
  obtain⟨al0,O0,cv4,cv3,bd4,i0⟩:=hs;subst al0;dsimp only [Zns,Zacj,LT.den];have lx_0:E0.Stack.length*824<=140737488351232:=O0.2.2.2.2.1.1;apply tD<;>intro h1
  .refine Tot.ix fun x1 h2=>Tot.ix fun x2 h3=>?_;apply tE<;>intro h4
   .exact Zer
   have q1:=wr (v4+1);exact tl46
  have q1:=wr (v3+1);exact tl46
 | L2 E0 v5=>
  obtain⟨al0,O0,cv5,i0⟩:=hs;subst al0;dsimp only [Zns,Zack,LT.den];have q1:=O0.2.2.2.2.2.1.1;apply tD<;>intro h1
  .refine Tot.ix fun x1 h2=>?_;have oh2:Zvk x1:=O0.2.2.2.2.2.1.2 x1 h2.1;refine tB (Zhb O0) fun x2 h3=>?_;apply tO<;>intro h4
   .exact Zer
   apply tN<;>intro h5
   .exact Zer
   refine tB (Zz3 oh2) fun x3 h6=>?_;apply tO<;>intro h7
   .exact Zer
   have q2:=wr (v5+1);exact tl46
  exact tl46
 | L3 E0 v7=>
  obtain⟨al0,O0,cv7,i0⟩:=hs;subst al0;dsimp only [Zns,Zacl,LT.den];have q1:=O0.2.2.2.2.2.2.1.1;apply tD<;>intro h1
  .refine Tot.ix fun x1 h2=>?_;have oh2:Zq9 x1:=O0.2.2.2.2.2.2.1.2 x1 h2.1;refine tB (Zhb O0) fun x2 h3=>?_;apply tO<;>intro h4
   .exact Zer
   apply tD<;>intro h5
   .exact Zer
   refine tB (Zei) fun x3 h6=>?_;apply tO<;>intro h7
   .exact Zer
   refine tB (Za3p oh2.1) fun x4 h8=>?_;apply tO<;>intro h9
   .exact Zer
   refine tB (Zr5 oh2.2) fun x5 h10=>?_;apply tF<;>intro h11
   .exact Zer
   have q2:=wr (v7+1);exact tl46
  exact Zer
abbrev Zaz1(a0:List Zk)(a1:Zn)(r:Bool):Prop:=(r=true->a1.Objects.length<=2048/\a1.Conts.length<=64)/\(r=true->Z8s a1.Objects)
def Za3q(a0:List Zk)(a1:Zn):Z04->Prop
 | .L0 v0 E0 v5=>(v0=a0)/\(E0=a1)/\((SzL 176 Zaa) v0)/\(Zac E0)/\(0<=v5)/\(E0.Objects.length<=2048)
def Zadu:Z04->M6
 | .L0 v0 E0 v5=>(1,((E0.Extra.length:Int) - v5).toNat,1000000,0,0,0)
theorem Za3r{a0:List Zk}{a1:Zn}(oa0:(SzL 176 Zaa) a0)(oa1:Zac a1):Tot (Za5u a0 a1) (Zaz1 a0 a1):=by
 apply Tot.rn (Za3q a0 a1) Zadu
 .dsimp only [Zaw0,LT.den];refine tB (Zei) fun x1 h1=>?_;apply tO<;>intro h2
  .exact Zmy
  refine tB (Zei) fun x2 h3=>?_;apply tO<;>intro h4
  .exact Zmy
  refine tB (Zei) fun x3 h5=>?_;apply tO<;>intro h6
  .exact Zmy
  refine tB (Zei) fun x4 h7=>?_;apply tO<;>intro h8
  .exact Zmy
  have q1:=oa1.2.1.1;apply tD<;>intro h9
  .exact Zmy
  refine tB (Zand oa1) fun x5 h10=>?_;apply tO<;>intro h11
  .exact Zmy
  refine tB (Zhb oa1) fun x6 h12=>?_;apply tO<;>intro h13
  .exact Zmy
  refine tB (Zhb oa1) fun x7 h14=>?_;have eh14_0:=h14;apply tO<;>intro h15
  .exact Zmy
  refine tB (Zei) fun x8 h16=>?_;apply tO<;>intro h17
  .exact Zmy
  apply tD<;>intro h18
  .exact Zmy
  refine tB (Zei) fun x9 h19=>?_;apply tO<;>intro h20
  .exact Zmy
  exact tL ⟨rfl,rfl,oa0,oa1,cs⟩ (by unfold Zadu lt6;dsimp only;omega)
 rintro ⟨v0,E0,v5⟩ ⟨al0,al1,ov0,O0,cv5,i0⟩;subst al0;subst al1;dsimp only [Zain,Zaq9,LT.den];have q1:=O0.2.2.2.2.2.2.2.1;apply tD<;>intro h1
 .refine Tot.ix fun x1 h2=>tB (Zhb O0) fun x2 h3=>?_;apply tO<;>intro h4
  .exact Zmy
  have q2:=wr (v5+1);exact tL ⟨rfl,rfl,ov0,O0,cs⟩ (by unfold Zadu lt6;dsimp only;omega)
 apply tE<;>intro h2
 .refine tB (Zhb O0) fun x1 h3=>?_;apply tO<;>intro h4
  .exact Zmy
  apply tN<;>intro h5
  .apply tN<;>intro h6
   .exact Zmy
   refine tB (Zn5 ov0 O0) fun x2 h7=>?_;have eh7_0:=h7.1;have eh7_1:=h7.2;apply tF<;>intro h8
   .have h8_1:=eh7_1 h8;exact tB (Zro O0) fun x3 h9=>tR ⟨tk40,tk44⟩
   exact Zmy
  refine tB (Zn5 ov0 O0) fun x2 h6=>?_;have eh6_0:=h6.1;have eh6_1:=h6.2;apply tF<;>intro h7
  .have h7_1:=eh6_1 h7;exact tB (Zro O0) fun x3 h8=>tR ⟨tk40,tk44⟩
  exact Zmy
 apply tN<;>intro h3
 .apply tN<;>intro h4
  .exact Zmy
  refine tB (Zn5 ov0 O0) fun x1 h5=>?_;have eh5_0:=h5.1;have eh5_1:=h5.2;apply tF<;>intro h6
  .have h6_1:=eh5_1 h6;exact tB (Zro O0) fun x2 h7=>tR ⟨tk40,tk44⟩
  exact Zmy
 refine tB (Zn5 ov0 O0) fun x1 h4=>?_;have eh4_0:=h4.1;have eh4_1:=h4.2;apply tF<;>intro h5
 .have h5_1:=eh4_1 h5;exact tB (Zro O0) fun x2 h6=>tR ⟨tk40,tk44⟩
 exact Zmy
theorem Zasw{a0:List Zk}{a1:Zn}(oa0:(SzL 176 Zaa) a0)(oa1:Zac a1):Tot (Zara a0 a1) (fun r=>(r=true->a1.Objects.length<=2048/\a1.Conts.length<=64/\∀ c,c∈a0->c.Abilities.length<=8)/\(r=true->Z8s a1.Objects)):=by
 apply tZ;dsimp only [Zagv,LT.den];refine tB (Zaso oa0) fun x1 h1=>?_;apply tE<;>intro h2
 .refine tB (Za3r oa0 oa1) fun x2 h3=>?_;have eh3_1:=h3.2;exact tl88
 exact tl88
def Zaz2(a0:Zs):Zoq->Prop
 | .L0 E0 v6 v7=>(E0=a0)/\(0<=v7)/\(v6=E0.Color)/\(∀ (k:Nat) x,(k:Int) < v7->(A5.list E0.Color)[k]?=some x->0<=x/\x<=9)
def Zanf:Zoq->M6
 | .L0 E0 v6 v7=>(1,(5 - v7).toNat,1000000,0,0,0)
theorem Zaht{a0:Zs}:Tot (Zaeq a0) (fun r=>(r=Zyi a0)):=by
 apply Tot.rn (Zaz2 a0) Zanf
 .dsimp only [Zacm,LT.den];exact tl97
 rintro ⟨E0,v6,v7⟩ ⟨al0,cv7,i0,i1⟩;subst al0;dsimp only [Zsi,Zpp,LT.den];apply tD<;>intro h1
 .refine tB (tI (by omega) (by have e:(A5.list v6).length=5:=rfl;omega)) fun x1 h2=>?_;have mh2:=h2.2;rw [i0] at mh2;apply tD<;>intro h3
  .exact tl76
  apply tD<;>intro h4
  .exact tl76
  have q1:=wr (v7+1);exact tl97
 apply tD<;>intro h2
 .apply tD<;>intro h3
  .apply tD<;>intro h4
   .exact tl76
   exact tl76
  exact tl76
 exact tl76
def Zang(a0:Zs):Zm5->Prop
 | .L0 v3 v16 v17=>(0<=v17)/\(v17<=5)/\(v16=a0.Color)/\(Zyi a0=true)/\(v3=coP v16 v17)
def Z7h:Zm5->M6
 | .L0 v3 v16 v17=>(1,(5 - v17).toNat,1000000,0,0,0)
theorem Zanh{a0:Zs}:Tot (Zagy a0) (fun r=>(r=coV a0)):=by
 apply Tot.rn (Zang a0) Z7h
 .dsimp only [Z9n,LT.den];refine tB (Zaht) fun x1 h1=>?_;apply tO<;>intro h2
  .exact tl93
  apply tF<;>intro h3
  .exact tl93
  exact Zbao
 rintro ⟨v3,v16,v17⟩ ⟨cv17,i0,i1,i2,i3⟩;dsimp only [Zx5,Z6v,LT.den];apply tD<;>intro h1
 .refine tB (tI (by omega) (by have e:(A5.list v16).length=5:=rfl;omega)) fun x1 h2=>?_;have mh2:=h2.2;apply tD<;>intro h3
  .refine tB (tK tk57) fun x2 h4=>?_;exact Zbaq
  exact Zbaq
 exact tl93
theorem Zfu{a0:List (List UInt8)}(oa0:(SzL 16 SzT) a0):Tot (Zen a0) (fun r=>((SzL 16 SzT) r)/\(r=a0)):=by
 unfold Zen;split
 .apply tZ;have lb_a0:=oa0.1;dsimp only [Zf9,LT.den];refine Tot.ap fun x1 h1=>?_;have lh1:x1.length=([]:List (List UInt8)).length+a0.length:=by rw [h1,List.length_append]
  try simp only [List.length_cons,List.length_nil,Nat.zero_add] at lh1
  exact tR ⟨SzL.app (k:=16) h1 lo (fun _ h=>by cases h) oa0.2,tk49⟩
 apply tZ;dsimp only [Zdw,LT.den];exact tl67
theorem Zbh{a0:List Zi}(oa0:(SzL 176 Zv) a0):Tot (Zcp a0) (fun r=>((SzL 176 Zv) r)/\(r=a0)):=by
 unfold Zcp;split
 .apply tZ;have lb_a0:=oa0.1;dsimp only [Zfs,LT.den];refine Tot.ap fun x1 h1=>?_;have lh1:x1.length=([]:List Zi).length+a0.length:=by rw [h1,List.length_append]
  try simp only [List.length_cons,List.length_nil,Nat.zero_add] at lh1
  exact tR ⟨SzL.app (k:=176) h1 lo (fun _ h=>by cases h) oa0.2,tk49⟩
 apply tZ;dsimp only [Zdg,LT.den];exact tl67
theorem Zhh{a0:List Zaw}(oa0:(SzL 144 Zgh) a0):Tot (Zci a0) (fun r=>((SzL 144 Zgh) r)/\(r=a0)):=by
 unfold Zci;split
 .apply tZ;have lb_a0:=oa0.1;dsimp only [Zey,LT.den];refine Tot.ap fun x1 h1=>?_;have lh1:x1.length=([]:List Zaw).length+a0.length:=by rw [h1,List.length_append]
  try simp only [List.length_cons,List.length_nil,Nat.zero_add] at lh1
  exact tR ⟨SzL.app (k:=144) h1 lo (fun _ h=>by cases h) oa0.2,tk49⟩
 apply tZ;dsimp only [Zc0,LT.den];exact tl67
theorem Zgf{a0:List Zt}(oa0:(SzL 560 Z9) a0):Tot (Zcr a0) (fun r=>((SzL 560 Z9) r)/\(r=a0)):=by
 unfold Zcr;split
 .apply tZ;have lb_a0:=oa0.1;dsimp only [Zd1,LT.den];refine Tot.ap fun x1 h1=>?_;have lh1:x1.length=([]:List Zt).length+a0.length:=by rw [h1,List.length_append]
  try simp only [List.length_cons,List.length_nil,Nat.zero_add] at lh1
  exact tR ⟨SzL.app (k:=560) h1 lo (fun _ h=>by cases h) oa0.2,tk49⟩
 apply tZ;dsimp only [Zcf,LT.den];exact tl67
def Z80(a0:Ze):Zhs->Prop
 | .L0 E0 E1 v18 v19=>(Zw E0)/\(Zw E1)/\(0<=v19)/\(v18=(a0.Effects.length:Int))/\(v18=(E0.Effects.length:Int))/\(E0=a0)
def Znv:Zhs->M6
 | .L0 E0 E1 v18 v19=>(1,(v18 - v19).toNat,1000000,0,0,0)
theorem Z81{a0:Ze}(oa0:Zw a0):Tot (Zrz a0) (fun r=>(Zw r)/\(r=a0)):=by
 apply Tot.rn (Z80 a0) Znv
 .dsimp only [Zw6,LT.den];refine tB (Zbh oa0.2.1) fun x1 h1=>?_;have eh1_1:=h1.2;refine tB (Zhh oa0.2.2.2.1) fun x2 h2=>?_;have eh2_1:=h2.2;refine tB (Zgf oa0.2.2.2.2.1) fun x3 h3=>?_;have eh3_1:=h3.2;exact tL ⟨⟨oa0.1,h1.1,oa0.2.2.1,h2.1,h3.1,oa0.2.2.2.2.2⟩,⟨SzS.nil,SzL.nil,SzS.nil,SzL.nil,SzL.nil,SzS.nil⟩,cl,Zg1,Zg1,tk24⟩ (by unfold Znv lt6;dsimp only;omega)
 rintro ⟨E0,E1,v18,v19⟩ ⟨O0,O1,cv19,i0,i1,i2⟩;dsimp only [Zot,Zun,LT.den];have lq:=O0.2.2.2.2.1.1;apply tD<;>intro h1
 .refine Tot.ix fun x1 h2=>?_;have oh2:Z9 x1:=O0.2.2.2.2.1.2 x1 h2.1;have mh2:=h2.2;refine tB (Zbh oh2.2.2.2.2) fun x2 h3=>?_;have eh3_1:=h3.2;refine tB (Tot.set (by omega) (by omega)) fun x3 h4=>?_;have vh4:=h4.2.2;have q1:=wr (v19+1);exact tL ⟨⟨O0.1,O0.2.1,O0.2.2.1,O0.2.2.2.1,⟨lo,fun e he=>(h4.2.1 e he).elim (fun w=>by rw [w];exact⟨oh2.1,oh2.2.1,oh2.2.2.1,oh2.2.2.2.1,h3.1⟩) (O0.2.2.2.2.1.2 e)⟩,O0.2.2.2.2.2⟩,O1,cl,Zg1,Zg1,tk24⟩ (by unfold Znv lt6;dsimp only;omega)
 exact tR ⟨O0,‹_›⟩
def Zajg(a0:Zk):Zlh->Prop
 | .L0 E0 E1 v32 v33 v34=>(Zu E0)/\(Zu E1)/\((SzL 640 Zw) v32)/\(0<=v34)/\(v33=(v32.length:Int))/\(E1.Abilities.length<=v34.toNat)/\(v34<=v33)/\(v32=a0.Abilities)/\(E1={ prV a0 with Abilities:=a0.Abilities.take v34.toNat })
def Zt9:Zlh->M6
 | .L0 E0 E1 v32 v33 v34=>(1,(v33 - v34).toNat,1000000,0,0,0)
theorem Zajh{a0:Zk}(oa0:Zaa a0):Tot (Zacn a0) (fun r=>(Zu r)/\(r=prV a0)):=by
 apply Tot.rn (Zajg a0) Zt9
 .dsimp only [Z6w,LT.den];refine tB (Zanh) fun x1 h1=>tB (Zfu oa0.2.1) fun x2 h2=>?_;have eh2_1:=h2.2;have q1:=oa0.2.2.1;exact tL ⟨⟨SzS.nil,SzL.nil,SzL.nil⟩,⟨oa0.1,h2.1,SzL.nil⟩,oa0.2.2,cl,cl,cl,cl,Zks,tk6⟩ (by unfold Zt9 lt6;dsimp only;omega)
 rintro ⟨E0,E1,v32,v33,v34⟩ ⟨O0,O1,ov32,cv34,i0,i1,i2,i3,i4⟩;have lb_v32:=ov32.1;dsimp only [Zva,Z3d,LT.den];apply tD<;>intro h1
 .refine Tot.ix fun x1 h2=>?_;have oh2:Zw x1:=ov32.2 x1 h2.1;have mh2:=h2.2;refine tB (Z81 oh2) fun x2 h3=>?_;have eh3_1:=h3.2;have q1:=O1.2.2.1;refine Tot.ap fun x3 h4=>?_;have lh4:=Zc5 h4;have q2:=wr (v34+1);exact tL ⟨O0,⟨O1.1,O1.2.1,SzL.app (k:=640) h4 lo O1.2.2.2 (me1 h3.1)⟩,ov32,cl,cl,cl,cl,Zks,tk6⟩ (by unfold Zt9 lt6;dsimp only;omega)
 exact tR ⟨O1,tk69⟩
def Zrb(a0:List Zk)(a1:Zc):Zsj->Prop
 | .L0 v0 E0 E1 v5=>(v0=a0)/\(E0=a1)/\((SzL 176 Zaa) v0)/\(Zu E1)/\(v5=if E0.Copy < 0 then E0.Card else E0.Copy)
 | .L1 E0 E1 E2=>(E0=a1)/\(Zu E1)/\(Zu E2)/\(E2=Z5l a0 (if E0.Copy < 0 then E0.Card else E0.Copy))
def Z82:Zsj->M6
 | .L0 v0 E0 E1 v5=>(0,0,0,0,0,0)
 | .L1 E0 E1 E2=>(0,0,0,0,0,0)
theorem Zvo{a0:List Zk}{a1:Zc}{E0:Zc}{E1:Za}{E2:Za}(h:(Zrb a0 a1) (.L1 E0 E1 E2)):Tot (Zpq E0 E1 E2).den (Nx (Zrb a0 a1) Z82 (0,0,0,0,0,0) (fun r=>(Zu r)/\(r=baV a0 a1))):=by
 obtain⟨al0,O1,O2,i0⟩:=h;subst al0;dsimp only [Zpq,LT.den];apply tE<;>intro h1
 .exact tl85
 apply tE<;>intro h2
 .exact tl85
 exact tl85
theorem Z7i{a0:List Zk}{a1:Zc}{v0:List Zk}{E0:Zc}{E1:Za}{v5:Int}(h:(Zrb a0 a1) (.L0 v0 E0 E1 v5)):Tot (Ztl v0 E0 E1 v5).den (Nx (Zrb a0 a1) Z82 (0,0,0,0,0,0) (fun r=>(Zu r)/\(r=baV a0 a1))):=by
 obtain⟨al0,al1,ov0,O1,i0⟩:=h;subst al0;subst al1;dsimp only [Ztl,LT.den];apply tD<;>intro h1
 .apply tD<;>intro h2
  .refine Tot.ix fun x1 h3=>?_;have oh3:Zaa x1:=ov0.2 x1 h3.1;have mh3:=h3.2;refine tB (Zajh oh3) fun x2 h4=>?_;have eh4_1:=h4.2;exact tJ (Zvo ⟨rfl,O1,h4.1,tk11⟩)
  exact Zbai
 exact Zbai
theorem Zahu{a0:List Zk}{a1:Zc}(oa0:(SzL 176 Zaa) a0):Tot (Zaol a0 a1) (fun r=>(Zu r)/\(r=baV a0 a1)):=by
 apply Tot.rn (Zrb a0 a1) Z82
 .dsimp only [Zarc,LT.den];apply tD<;>intro h1
  .exact tl54
  exact tl54
 intro s hs;cases s with
 | L0 _ _ _ _=>exact Z7i hs
 | L1 _ _ _=>exact Zvo hs
theorem Zxm{a0:List Int}(oa0:(SzL 8 (fun _=>True)) a0):Tot (Ze6 a0) (fun r=>((SzL 8 (fun _=>True)) r)/\(r=a0)):=by
 unfold Ze6;split
 .apply tZ;have lb_a0:=oa0.1;dsimp only [Zim,LT.den];refine Tot.ap fun x1 h1=>?_;have lh1:x1.length=([]:List Int).length+a0.length:=by rw [h1,List.length_append]
  exact tl89
 apply tZ;dsimp only [Zfw,LT.den];exact tl67
def Zaji(a0:List Zk)(a1:Zn):Zg6->Prop
 | .L0 v0 E0 v5 v13 v14 v15=>(v0=a0)/\(E0=a1)/\((SzL 176 Zaa) v0)/\(Zac E0)/\((SzL 224 Zbs) v5)/\((SzL 128 (fun _=>True)) v13)/\(0<=v15)/\(E0.Objects.length<=2048)/\(E0.Conts.length<=64)/\(∀ c,c∈v0->c.Abilities.length<=8)/\(v5=obF fL v0 v13 v15)/\(v13=E0.Objects)/\(v14=(v13.length:Int))/\(v15<=v14)
 | .L1 v0 E0 v5 E1 v13 v14 v15 v25 v26 v27=>(v0=a0)/\(E0=a1)/\((SzL 176 Zaa) v0)/\(Zac E0)/\((SzL 224 Zbs) v5)/\((SzL 128 (fun _=>True)) v13)/\((SzL 640 Zw) v25)/\(0<=v27)/\(0<=v15)/\(v15 < v14)/\(E0.Objects.length<=2048)/\(E0.Conts.length<=64)/\(∀ c,c∈v0->c.Abilities.length<=8)/\(v5=obF fL v0 v13 v15++abF (fL E1) v25 v27)/\(E1.Zone=0)/\(v13[v15.toNat]?=some E1)/\(v25=(baV v0 E1).Abilities)/\(v13=E0.Objects)/\(v14=(v13.length:Int))/\(v15 < v14)/\(v26=(v25.length:Int))/\(v27<=v26)
 | .L2 v5 v54 v55 v56=>((SzL 224 Zbs) v5)/\((SzL 80 Zq9) v54)/\(0<=v56)/\(∀ c,c∈a0->c.Abilities.length<=8)/\(a1.Objects.length<=2048)/\(a1.Conts.length<=64)/\(v5=obF fL a0 a1.Objects a1.Objects.length++coF gL v54 v56)/\(v54=a1.Conts)/\(v55=(v54.length:Int))/\(v56<=v55)
def Z4d:Zg6->M6
 | .L0 v0 E0 v5 v13 v14 v15=>(3,(v14 - v15).toNat,1000000,0,0,0)
 | .L1 v0 E0 v5 E1 v13 v14 v15 v25 v26 v27=>(3,(v14 - v15).toNat,1,(v26 - v27).toNat,1000000,0)
 | .L2 v5 v54 v55 v56=>(1,(v55 - v56).toNat,1000000,0,0,0)
theorem Zajj{a0:List Zk}{a1:Zn}(oa0:(SzL 176 Zaa) a0)(oa1:Zac a1)(h0:a1.Objects.length<=2048)(h1:a1.Conts.length<=64)(h2:∀ c,c∈a0->c.Abilities.length<=8):Tot (Z05 a0 a1) (fun r=>((SzL 224 Zbs) r)/\(r=FS fL gL a0 a1)):=by
 apply Tot.rn (Zaji a0 a1) Z4d
 .dsimp only [Z6x,LT.den];exact tL ⟨rfl,rfl,oa0,oa1,SzL.nil,oa1.2.1,cl,cl,cl,Zg1,tk9,Zks,cs⟩ tk73
 intro s hs;cases s with
 | L0 v0 E0 v5 v13 v14 v15=>
  obtain⟨al0,al1,ov0,O0,ov5,ov13,cv15,i0,i1,i2,i3,i4,i5,i6⟩:=hs;have lb_v5:=ov5.1;have lb_v13:=ov13.1;subst al0;subst al1;dsimp only [Zli,Z3e,LT.den];have lq:v5.length<=8*2048:=by rw [(by assumption:v5=obF _ _ _ _)];have:=Zaeu (f:=fL) (l:=v13) (v:=v15) (by assumption:∀ c,c∈v0->_);have:v13.length<=2048:=tk70;omega
  apply tD<;>intro h1
  .refine Tot.ix fun x1 h2=>?_;have mh2:=h2.2;apply tN<;>intro h3
   .exact Zbar
   refine tB (Zahu ov0) fun x2 h4=>?_;have q1:=h4.1.2.2.1;exact tL ⟨rfl,rfl,ov0,O0,ov5,ov13,h4.1.2.2,cl,cl,cl,cl,cl,Zg1,tk0,cl,‹_›,Zg1,‹_›,cs⟩ tk73
  have q1:=O0.2.2.2.2.2.2.1.1;exact tL ⟨ov5,O0.2.2.2.2.2.2.1,cl,Zg1,cl,cl,tk5,tk80,cs⟩ tk73
 | L1 v0 E0 v5 E1 v13 v14 v15 v25 v26 v27=>
  obtain⟨al0,al1,ov0,O0,ov5,ov13,ov25,cv27,cv15,bd9,i0,i1,i2,i3,i4,i5,i6,i7,i8,i9,i10,i11⟩:=hs;have lb_v5:=ov5.1;have lb_v13:=ov13.1;have lb_v25:=ov25.1;subst al0;subst al1;dsimp only [Zli,Z3f,LT.den];have lq:v5.length<=8*2048+8:=by rw [(by assumption:v5=obF _ _ _ _++_),List.length_append];have:=Zaeu (f:=fL) (l:=v13) (v:=v15) (by assumption:∀ c,c∈v0->_);have:v13.length<=2048:=tk70;have:=Za06 (f:=fL E1) (l:=v25) (v:=v27);have:=Za03 (by assumption:∀ c,c∈v0->_) E1;rw [<- (by assumption:v25=(baV v0 E1).Abilities)] at this;omega
  apply tD<;>intro h1
  .refine Tot.ix fun x1 h2=>?_;have oh2:Zw x1:=ov25.2 x1 h2.1;have mh2:=h2.2;apply tE<;>intro h3
   .refine tB (Zbh oh2.2.1) fun x2 h4=>?_;have eh4_1:=h4.2;have q1:=ov5.1;refine Tot.ap fun x3 h5=>?_;have lh5:=Zc5 h5;have q2:=wr (v27+1);exact tL ⟨rfl,rfl,ov0,O0,SzL.app (k:=224) h5 lo ov5.2 (me1 ⟨SzL.nil,oh2.1,h4.1⟩),ov13,ov25,cl,cl,cl,cl,cl,Zg1,tk0,cl,‹_›,Zg1,‹_›,cs⟩ tk73
   have q1:=wr (v27+1);exact tL ⟨rfl,rfl,ov0,O0,ov5,ov13,ov25,cl,cl,cl,cl,cl,Zg1,tk0,cl,‹_›,Zg1,‹_›,cs⟩ tk73
  exact Zbar
 | L2 v5 v54 v55 v56=>
  obtain⟨ov5,ov54,cv56,i0,i1,i2,i3,i4,i5,i6⟩:=hs;have lb_v5:=ov5.1;have lb_v54:=ov54.1;dsimp only [Zli,Z3g,LT.den];have lq:v5.length<=8*2048+64:=by rw [(by assumption:v5=obF _ _ _ _++_),List.length_append];have:=Zaeu (f:=fL) (l:=a1.Objects) (v:=a1.Objects.length) (by assumption:∀ c,c∈a0->_);have:(coF gL v54 v56).length<=64:=(by unfold coF;rw [List.length_map,List.length_take];have:v54.length<=64:=(by first | omega | (rw [(by assumption:v54=_)];omega));omega);omega
  apply tD<;>intro h1
  .refine Tot.ix fun x1 h2=>?_;have oh2:Zq9 x1:=ov54.2 x1 h2.1;have mh2:=h2.2;refine tB (Zxm oh2.1) fun x2 h3=>?_;have eh3_1:=h3.2;refine tB (Zbh oh2.2) fun x3 h4=>?_;have eh4_1:=h4.2;have q1:=ov5.1;refine Tot.ap fun x4 h5=>?_;have lh5:=Zc5 h5;have q2:=wr (v56+1);exact tL ⟨SzL.app (k:=224) h5 lo ov5.2 (me1 ⟨h3.1,SzS.nil,h4.1⟩),ov54,cl,Zg1,cl,cl,tk5,tk80,cs⟩ tk73
  exact tR ⟨ov5,(by exact Zbds ‹_› Zks (by omega))⟩
abbrev Zajk(a0:List Zk)(a1:Zn)(r:Zj):Prop:=(Z3 r)/\(r.s=a1)/\(r.traits.length=r.s.Objects.length)/\(r.dropped.length=r.s.Objects.length)/\(r.done.length=r.forces.length)/\(r.hits.length=r.forces.length)/\(r.s.Objects.length<=2048)/\(r.forces.length<=16448)/\(HI r.s.Objects.length r.hits)/\(r.traits=a1.Objects.map (baV a0))/\(HZ r.s.Objects r.hits)
def Zani(a0:List Zk)(a1:Zn):Zm6->Prop
 | .L0 v0 E0 v19 v20 v21=>(v0=a0)/\((SzL 176 Zaa) v0)/\(Z3 E0)/\((SzL 128 (fun _=>True)) v19)/\(0<=v21)/\(∀ c,c∈v0->c.Abilities.length<=8)/\(E0.s=a1)/\(v20=(v19.length:Int))/\(v20=(E0.s.Objects.length:Int))/\(v20<=2048)/\(E0.forces.length<=16448)/\(E0.dropped.length=v20.toNat)/\(E0.traits.length=v21.toNat)/\(v21<=v20)/\(v19=a1.Objects)/\(E0.traits=(v19.take v21.toNat).map (baV v0))
def Zvp:Zm6->M6
 | .L0 v0 E0 v19 v20 v21=>(1,(v20 - v21).toNat,1000000,0,0,0)
theorem Zanj{a0:List Zk}{a1:Zn}(oa0:(SzL 176 Zaa) a0)(oa1:Zac a1)(h0:a1.Objects.length<=2048)(h1:a1.Conts.length<=64)(h2:∀ c,c∈a0->c.Abilities.length<=8):Tot (Zagz a0 a1) (Zajk a0 a1):=by
 apply Tot.rn (Zani a0 a1) Zvp
 .dsimp only [Z9o,LT.den];refine tB (Zajj oa0 oa1 cl cl Zg1) fun x1 h1=>?_;have eh1_1:=h1.2;have lh1:=Zbdt (f:=fL) (g:=gL) (s:=a1) (by assumption:∀ c,c∈a0->_);rw [<- (by assumption:x1=FS _ _ _ _)] at lh1;exact tB (Tot.mk) fun x2 h2=>tL ⟨rfl,oa0,⟨oa1,h1.1,SzL.nil,SzL.tr,SzL.nil,SzL.nil⟩,oa1.2.1,cl,Zg1,Zks,cl,cl,cl,cl,cl,cl,cl,Zks,tk23⟩ (by unfold Zvp lt6;dsimp only;omega)
 rintro ⟨v0,E0,v19,v20,v21⟩ ⟨al0,ov0,O0,ov19,cv21,i0,i1,i2,i3,i4,i5,i6,i7,i8,i9,i10⟩;subst al0;dsimp only [Zx8,Z6y,LT.den];apply tD<;>intro h1
 .refine Tot.ix fun x1 h2=>?_;have mh2:=h2.2;refine tB (Zahu ov0) fun x2 h3=>?_;have eh3_1:=h3.2;have q1:=O0.2.2.1.1;refine Tot.ap fun x3 h4=>?_;have lh4:=Zc5 h4;have q2:=wr (v21+1);exact tL ⟨rfl,ov0,⟨O0.1,O0.2.1,SzL.app (k:=176) h4 lo O0.2.2.1.2 (me1 h3.1),O0.2.2.2.1,O0.2.2.2.2.1,O0.2.2.2.2.2⟩,ov19,cl,Zg1,Zks,cl,cl,cl,cl,cl,cl,cl,Zks,tk23⟩ (by unfold Zvp lt6;dsimp only;omega)
 exact tB (Tot.mk) fun x1 h2=>tB (Tot.mk) fun x2 h3=>tR ⟨⟨O0.1,O0.2.1,O0.2.2.1,O0.2.2.2.1,SzL.tr,⟨lo,fun e he=>by rw [h3.2 e he];exact SzL.nil⟩⟩,Zks,cl,cl,cl,cl,cl,cl,Zbu,(by exact Zbcl ‹_› (by omega) ‹_›),Zdh⟩
theorem Zev{a0:Int}:Tot (Z3i a0) (fun r=>(r=clV a0)):=by
 apply tZ;dsimp only [Z48,LT.den];exact tR (by rfl)
theorem Zaz3{a0:Int}{a1:Int}:Tot (Za0x a0 a1) (fun r=>True):=by
 apply tZ;dsimp only [Zare,LT.den];refine tB (Zev) fun x1 h1=>tB (Zev) fun x2 h2=>?_;have q1:=wr (x1 - x2);exact tl16
theorem Zae6{a0:A3 Int}:Tot (Z9p a0) (fun r=>True):=by
 apply tZ;dsimp only [Z3j,LT.den];exact tB (tI (by omega) (by have e:(A3.list a0).length=3:=rfl;omega)) fun x1 h1=>tB (tI (by omega) (by have e:(A3.list a0).length=3:=rfl;omega)) fun x2 h2=>tB (Zaz3) fun x3 h3=>tR trivial
theorem Zrc{a0:Int}{a1:Int}:Tot (Zaer a0 a1) (fun r=>True):=by
 apply tZ;dsimp only [Zaco,LT.den];refine tB (Zev) fun x1 h1=>tB (Zev) fun x2 h2=>?_;have q1:=wr (x1+x2);exact tl16
def Zrp:Zkr->Prop
 | .L0 v0 v3 v6=>True
 | .L1 v0 v3 v11=>True
 | .L2 v0 v3 v14=>True
def Zua:Zkr->M6
 | .L0 v0 v3 v6=>(0,0,0,0,0,0)
 | .L1 v0 v3 v11=>(0,0,0,0,0,0)
 | .L2 v0 v3 v14=>(0,0,0,0,0,0)
theorem Z14{v0:Int}{v3:Int}{v14:Bool}(h:True):Tot (Zlj v0 v3 v14).den (Nx Zrp Zua (0,0,0,0,0,0) (fun r=>True)):=by
 dsimp only [Zlj,LT.den];apply tF<;>intro h1
 .exact tR trivial
 apply tE<;>intro h2
 .exact tl50
 apply tE<;>intro h3
 .exact tl50
 apply tE<;>intro h4
 .exact tl50
 apply tE<;>intro h5
 .exact tl50
 exact tR trivial
theorem Zr6{v0:Int}{v3:Int}{v11:Bool}(h:True):Tot (Zou v0 v3 v11).den (Nx Zrp Zua (0,0,0,0,0,0) (fun r=>True)):=by
 dsimp only [Zou,LT.den];apply tF<;>intro h1
 .exact tR trivial
 apply tE<;>intro h2
 .exact tl3
 apply tE<;>intro h3
 .exact tl3
 exact tl3
theorem Z15{v0:Int}{v3:Int}{v6:Bool}(h:True):Tot (Zi7 v0 v3 v6).den (Nx Zrp Zua (0,0,0,0,0,0) (fun r=>True)):=by
 dsimp only [Zi7,LT.den];apply tF<;>intro h1
 .exact tR trivial
 apply tE<;>intro h2
 .exact tJ (Zr6 trivial)
 exact tJ (Zr6 trivial)
theorem Zrq{a0:Int}:Tot (Zarh a0) (fun r=>True):=by
 apply Tot.rn Zrp Zua
 .dsimp only [Zag1,LT.den];apply tE<;>intro h1
  .exact tR trivial
  apply tE<;>intro h2
  .exact tl2
  apply tE<;>intro h3
  .exact tl2
  apply tE<;>intro h4
  .exact tl2
  exact tl2
 intro s hs;cases s with
 | L0 _ _ _=>exact Z15 hs
 | L1 _ _ _=>exact Zr6 hs
 | L2 _ _ _=>exact Z14 hs
end Go.PW
