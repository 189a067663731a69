import Derived.Test.YtncgejlelfefdaaGreatQE
import Derived.Test.YtncgejlelfefdaaGreatPwYc
import Derived.Test.YtncgejlelfefdaaGreatQDc
import Derived.Test.YtncgejlelfefdaaGreatQSc
set_option linter.all false
set_option maxRecDepth 100000
namespace Go.PW
theorem tl0{p:Prop}(h:p:=by exact tR Z0u):p:=h
theorem tl1{p:Prop}(h:p:=by exact tR Zabt):p:=h
theorem tl2{p:Prop}(h:p:=by exact tR (by intro hr;cases hr)):p:=h
theorem tl3{p:Prop}(h:p:=by exact tJ (Z5k trivial)):p:=h
theorem tl4{p:Prop}(h:p:=by exact tJ (Z29 trivial)):p:=h
theorem tl5{p:Prop}(h:p:=by exact tJ (Z28 trivial)):p:=h
theorem tl6{p:Prop}(h:p:=by exact tJ (Zad0 ⟨ov0,cs⟩)):p:=h
theorem tl7{p:Prop}(h:p:=by exact tJ (Zad7 ⟨rfl,oa0⟩)):p:=h
theorem tl8{p:Prop}(h:p:=by exact tR (by unfold clV Zia Zsy;grind)):p:=h
theorem tl9{p:Prop}(h:p:=by exact tR ⟨O0.1,O0.2⟩):p:=h
theorem tl11{p:Prop}(h:p:=by exact tR (by grind [List.mem_iff_getElem?])):p:=h
theorem tl12{p:Prop}(h:p:=by exact tJ (Zad5 ⟨O0,trivial⟩)):p:=h
theorem tl13{p:Prop}(h:p:=by exact tJ (Z5e ⟨O0,O1⟩)):p:=h
theorem tl14{p:Prop}(h:p:=by exact tR (by intro hr;first | omega | (cases hr;done))):p:=h
theorem tl15{p:Prop}(h:p:=by exact tR (SzL.app (k:=16) h1 lo (fun _ h=>by cases h) oa0.2)):p:=h
theorem tl16{p:Prop}(h:p:=by exact tL ⟨ov0,cl⟩ (by unfold Zyd lt6;dsimp only;omega)):p:=h
theorem tl17{p:Prop}(h:p:=by exact tL ⟨cl,cl⟩ (by unfold Zav7 lt6;dsimp only;omega)):p:=h
theorem tl18{p:Prop}(h:p:=by exact tL ⟨cl,cl⟩ (by unfold Zav9 lt6;dsimp only;omega)):p:=h
theorem tl19{p:Prop}(h:p:=by exact tR tk97):p:=h
theorem tl20{p:Prop} (h:p:=by
 apply tD<;>intro h1
 .exact tR trivial
 exact tR trivial):p:=h
theorem tl21{p:Prop} (h:p:=by
 apply tD<;>intro h2
 .exact tR trivial
 exact tR trivial):p:=h
theorem tl22{p:Prop}(h:p:=by exact tL ⟨cl,cs⟩ (by unfold Z66 lt6;dsimp only;omega)):p:=h
theorem tl23{p:Prop} (h:p:=by
 apply tE<;>intro h1
 .exact tR trivial
 exact tR trivial):p:=h
theorem tl24{p:Prop}(h:p:=by exact tR ⟨oa0,Zabr⟩):p:=h
theorem tl25{p:Prop} (h:p:=by
 apply tD<;>intro h4
 .exact tR trivial
 exact tR trivial):p:=h
theorem tl26{p:Prop}(h:p:=by exact tL ⟨cl,cs⟩ (by unfold Zaox lt6;dsimp only;omega)):p:=h
theorem tl27{p:Prop} (h:p:=by
 apply tF<;>intro h2
 .exact tR trivial
 exact tR trivial):p:=h
theorem tl28{p:Prop}(h:p:=by exact tL ⟨cl,cs⟩ (by unfold Zaow lt6;dsimp only;omega)):p:=h
theorem tl29{p:Prop}(h:p:=by exact tJ (Z0k ⟨ov1,O0,O1,ov5,cs⟩)):p:=h
theorem tl30{p:Prop}(h:p:=by exact tL ⟨cl,trivial⟩ (by unfold Za2h lt6;dsimp only;omega)):p:=h
theorem tl31{p:Prop}(h:p:=by exact tL ⟨cl,cl⟩ (by unfold Z5h lt6;dsimp only;omega)):p:=h
theorem tl32{p:Prop}(h:p:=by exact tR ⟨O2,(by exact Zbp5 ‹_› (by omega))⟩):p:=h
theorem tl33{p:Prop}(h:p:=by exact tL ⟨cl,trivial⟩ (by unfold Zaji lt6;dsimp only;omega)):p:=h
theorem tl34{p:Prop}(h:p:=by exact tL ⟨cl,trivial⟩ (by unfold Zajb lt6;dsimp only;omega)):p:=h
theorem tl35{p:Prop}(h:p:=by exact tL ⟨O0,cl⟩ (by unfold Zaja lt6;dsimp only;omega)):p:=h
theorem tl37{p:Prop}(h:p:=by exact tL ⟨ov0,ov2,cs⟩ (by unfold Zzn lt6;dsimp only;omega)):p:=h
theorem tl38{p:Prop}(h:p:=by exact tL ⟨O0,cl⟩ Zbgj):p:=h
theorem tl39{p:Prop}(h:p:=by exact tL ⟨O0,cs⟩ Zbgj):p:=h
theorem tl40{p:Prop}(h:p:=by exact tJ (Z5f ⟨⟨oa0.1,oa0.2⟩,⟨SzS.nil,SzS.nil⟩⟩)):p:=h
theorem Zrx{p:Prop}(h:p:=by exact tR (by obtain⟨k1,k2,k3,k4⟩:=a0;unfold amV;grind [Zbvk,usV])):p:=h
theorem tl42{p:Prop}(h:p:=by exact tB (Zajq oa1 oa2 oa4) fun x1 h5=>tR Zabt):p:=h
theorem Zp0{p:Prop}(h:p:=by exact tR tk88):p:=h
theorem tl44{p:Prop}(h:p:=by exact tL ⟨ov0,O0,cs⟩ Zbgf):p:=h
theorem Znj{p:Prop}(h:p:=by exact tR tk86):p:=h
theorem tl46{p:Prop}(h:p:=by exact tL ⟨O0,ov6,ov7,cs⟩ Zav5):p:=h
theorem tl48{p:Prop}(h:p:=by have q1:=wr (v3+1);exact tl16):p:=h
theorem tl49{p:Prop}(h:p:=by exact tJ (Zad3 ⟨rfl,O0,(by first | assumption | omega),(by omega)⟩)):p:=h
theorem tl50{p:Prop}(h:p:=by have q2:=wr (v4+1);exact tl26):p:=h
theorem tl51{p:Prop}(h:p:=by have q2:=wr (v4+1);exact tl28):p:=h
theorem tl52{p:Prop}(h:p:=by exact tJ (Z9o ⟨rfl,rfl,oa0,⟨SzS.nil,SzL.nil,SzL.nil⟩,(by grind)⟩)):p:=h
theorem tl53{p:Prop}(h:p:=by exact tR ⟨O2,cl,cl,cl,cl,cl,cl,Zec⟩):p:=h
theorem tl54{p:Prop}(h:p:=by have q1:=wr (v6+1);exact tL ⟨ov0,cl⟩ (by unfold Z22 lt6;dsimp only;omega)):p:=h
theorem tl55{p:Prop}(h:p:=by exact tR ⟨⟨oa0.1,oa0.2.1,oa0.2.2⟩,Zabr⟩):p:=h
theorem tl56{p:Prop}(h:p:=by exact tJ (Zad6 ⟨rfl,O0,(by intro hk;first | (exfalso;omega) | grind)⟩)):p:=h
theorem tl57{p:Prop}(h:p:=by have q1:=wr (v4+1);exact tL ⟨ov0,cs⟩ (by unfold Zuh lt6;dsimp only;omega)):p:=h
theorem tl58{p:Prop}(h:p:=by have q2:=wr (v6+1);exact tL ⟨ov0,ov1,cs⟩ (by unfold Z62 lt6;dsimp only;omega)):p:=h
theorem tl59{p:Prop}(h:p:=by have q1:=wr (v7+1);exact tl34):p:=h
theorem tl60{p:Prop} (h:p:=by
 apply tF<;>intro h2
 .exact tR (by unfold heB;grind)
 exact tR (by unfold heB;grind)):p:=h
theorem tl61{p:Prop}(h:p:=by have q1:=wr (v5+1);exact tL ⟨ov0,ov1,cl⟩ (by unfold Z2z lt6;dsimp only;omega)):p:=h
theorem tl62{p:Prop} (h:p:=by
 apply tD<;>intro h1
 .exact tR (by unfold amB;grind)
 exact tR (by unfold amB;grind)):p:=h
theorem tl63{p:Prop}(h:p:=by exact tL ⟨rfl,rfl,O0,O1,cs⟩ (by unfold Z3i lt6;dsimp only;omega)):p:=h
theorem tl64{p:Prop}(h:p:=by have q2:=wr (v8+1);exact tl37):p:=h
theorem tl65{p:Prop}(h:p:=by exact tJ (Zyg ⟨rfl,rfl,rfl,rfl,oa1,oa4,(by grind),(by grind),(by grind)⟩)):p:=h
theorem tl66{p:Prop}(h:p:=by have q2:=wr (v5+1);exact tL ⟨O0,cl⟩ (by unfold Z3d lt6;dsimp only;omega)):p:=h
theorem tl67{p:Prop}(h:p:=by have q2:=wr (v6+1);exact tL ⟨O0,cl⟩ (by unfold Zz2 lt6;dsimp only;omega)):p:=h
theorem tl68{p:Prop}(h:p:=by have q1:=wr (v9+1);exact tL ⟨ov1,O0,cl⟩ (by unfold Z68 lt6;dsimp only;omega)):p:=h
theorem tl69{p:Prop}(h:p:=by have q2:=wr (v6+1);exact tl44):p:=h
theorem Zh0{p:Prop}(h:p:=by exact tR Zzd):p:=h
theorem Z2s{p:Prop}(h:p:=by exact tR ⟨SzL.nil,Z6z⟩):p:=h
theorem Zh1{p:Prop}(h:p:=by exact tR ⟨(by intro hr;cases hr),tk88⟩):p:=h
theorem tl73{p:Prop}(h:p:=by exact tR (by first | exact Zbvy ‹_› (oeq ‹_›) | exact Zbvz ‹_› (by omega))):p:=h
theorem tl74{p:Prop}(h:p:=by exact tR tk69):p:=h
theorem Zf3{p:Prop}(h:p:=by exact tR tk68):p:=h
theorem Zgt{p:Prop}(h:p:=by exact tR Zbk):p:=h
theorem tl77{p:Prop}(h:p:=by exact tR tk65):p:=h
theorem tl78{p:Prop}(h:p:=by have q1:=wr (v7+1);exact tL ⟨O0,ov5,O1,cs⟩ Zbgg):p:=h
theorem tl80{p:Prop}(h:p:=by have q1:=wr (v7+1);exact tL ⟨O0,SzL.tr,O1,cs⟩ Zbgg):p:=h
theorem tl81{p:Prop}(h:p:=by exact tJ (Zaeb ⟨rfl,rfl,oa0,⟨SzS.nil,SzL.nil,SzL.nil⟩,Zaj,(by grind)⟩)):p:=h
theorem tl82{p:Prop}(h:p:=by exact tJ (Zaei ⟨rfl,rfl,rfl,oa0,oa1,(by grind),Za41,(by grind)⟩)):p:=h
theorem tl83{p:Prop}(h:p:=by exact tR (by first | exact Zbp0 ‹_› (by omega) (oeq ‹_›) | exact Zbrs ‹_› (by omega))):p:=h
theorem tl84{p:Prop}(h:p:=by exact tR (by first | with_reducible exact Zbrv ‹_› (by omega) | (rw [Zbp4 ‹_› (by omega)];grind))):p:=h
theorem tl85{p:Prop}(h:p:=by exact tR tk60):p:=h
theorem Zuc{p:Prop}(h:p:=by exact tR (by first | (unfold whB;rw [Zayz ‹_› (by omega)];grind) | (unfold whB;rw [Za88 (by omega)];rfl))):p:=h
theorem tl87{p:Prop}(h:p:=by exact tR tk59):p:=h
theorem Zje{p:Prop}(h:p:=by exact tR tk57):p:=h
theorem tl89{p:Prop}(h:p:=by exact tJ (Z5m ⟨rfl,rfl,rfl,ov0,O0,(by grind),cl,(by grind),Zak1⟩)):p:=h
theorem tl90{p:Prop}(h:p:=by exact tR ⟨(by intro hr;first | omega | (cases hr;done)),tk88⟩):p:=h
theorem tl91{p:Prop} (h:p:=by
 refine tB (Ziv oa1) fun x1 h2=>?_;have eh2_0:=h2.1;apply tF<;>intro h3
 .exact tR trivial
 exact tR trivial):p:=h
theorem tl92{p:Prop} (h:p:=by
 refine tB (Ziv O0) fun x2 h4=>?_;have eh4_0:=h4.1;apply tF<;>intro h5
 .exact tR trivial
 exact tR trivial):p:=h
theorem tl93{p:Prop}(h:p:=by exact tJ (Z5n ⟨rfl,rfl,rfl,ov0,O0,(by grind),(by grind),cl,(by grind),Zak1⟩)):p:=h
theorem tl94{p:Prop}(h:p:=by exact tB (Zen) fun x2 h3=>tR Zzd):p:=h
theorem tl95{p:Prop}(h:p:=by exact tB (Zen) fun x1 h2=>tR Zzd):p:=h
theorem tl96{p:Prop}(h:p:=by exact tR (by first | with_reducible exact Zbne ‹_› rfl ‹_› (by omega) (by omega) | with_reducible exact Zbjg (by grind))):p:=h
theorem tl97{p:Prop}(h:p:=by have q1:=wr (v6+1);exact tL ⟨rfl,ov0,O0,ov5,cl,Zaj,cs⟩ Zabq):p:=h
theorem tl98{p:Prop}(h:p:=by exact tJ (Z5o ⟨rfl,rfl,rfl,oa0,oa1,‹_›,(by grind),(by grind),cl,(by grind),Zak1⟩)):p:=h
theorem tl99{p:Prop}(h:p:=by exact tR ⟨⟨SzS.nil,SzL.nil,SzL.nil⟩,tk66⟩):p:=h
theorem Zbfo{p:Prop}(h:p:=by exact tJ (Zad4 ⟨rfl,oa0,(by first | assumption | omega),tk84⟩)):p:=h
theorem Za4q{p:Prop}(h:p:=by exact tR tk40):p:=h
theorem Zbnz{p:Prop}(h:p:=by exact tR (by first | exact Zbq8 ‹_› ‹_› ‹_› (nI_f ‹_› ‹_›) | exact Zbpq ‹_› (by omega))):p:=h
theorem Zbfp{p:Prop}(h:p:=by exact tR ⟨⟨O2.1,O2.2.1,O2.2.2⟩,tk74⟩):p:=h
theorem Zbfq{p:Prop}(h:p:=by exact tJ (Zad2 ⟨rfl,O0,(by first | assumption | omega),tk84⟩)):p:=h
theorem Zbn0{p:Prop}(h:p:=by exact tR ⟨SzS.nil,tk48⟩):p:=h
theorem Za4r{p:Prop}(h:p:=by exact tR ⟨cl,tk40⟩):p:=h
theorem Zbfr{p:Prop}(h:p:=by exact tR ⟨⟨O2.1,O2.2.1,O2.2.2⟩,cl,tk74⟩):p:=h
theorem Zbfs{p:Prop} (h:p:=by
 try simp only [List.length_cons,List.length_nil,Nat.zero_add] at lh1
 exact tR ⟨SzL.tr,Z6z⟩):p:=h
theorem Ziu{p:Prop}(h:p:=by exact tR ⟨tk86,tk82⟩):p:=h
theorem Zbn1{p:Prop}(h:p:=by exact tB (Zjg oa1 oa2) fun x1 h5=>tB (Ze3 h5.1 oa4) fun x2 h6=>tR tk97):p:=h
theorem Zbft{p:Prop}(h:p:=by exact tR (by first | (refine⟨fun _=>Za89 ‹_› ‹_› (by omega),fun _=>rfl⟩) | (refine⟨fun h=>absurd h (by decide),fun h=>?_⟩;exfalso;grind))):p:=h
theorem Zht{p:Prop}(h:p:=by exact tR ⟨tk88,tk67⟩):p:=h
theorem Zbn2{p:Prop}(h:p:=by exact tJ (Zps ⟨ov0,O0,ov7,ov8,cl,cl,‹_›,‹_›,‹_›,Zaj,cl,(by exact Zbv4 ‹_›)⟩)):p:=h
theorem Zbn3{p:Prop}(h:p:=by exact tJ (Zaef ⟨rfl,rfl,rfl,ov0,O0,(by grind),Za41,(by grind),(by grind),cl,(by grind),Zak1⟩)):p:=h
theorem Za4s{p:Prop}(h:p:=by exact tJ (Zaeh ⟨rfl,rfl,rfl,ov0,O0,(by grind),Za41,(by grind),(by grind),cl,(by grind),Zak1⟩)):p:=h
theorem Zbfu{p:Prop}(h:p:=by exact tJ (Zaeg ⟨rfl,rfl,rfl,ov0,O0,(by grind),Za41,(by grind),(by grind),cl,(by grind),Zak1⟩)):p:=h
theorem Zbn4{p:Prop}(h:p:=by exact tL ⟨rfl,O0,cl,cl,tk61⟩ (by unfold Z5l lt6;dsimp only;omega)):p:=h
theorem Zbfv{p:Prop}(h:p:=by exact tR (by first | with_reducible exact Zbne ‹_› ‹_› ‹_› (by omega) (by omega) | with_reducible exact Zbvn ‹_› | with_reducible exact Zbjg (by grind))):p:=h
theorem Za4t{p:Prop}(h:p:=by have q1:=wr (v9+1);exact tL ⟨ov0,O0,ov7,ov8,cl,‹_›,‹_›,‹_›,Zaj,cl⟩ (by unfold Zhb lt6;dsimp only;omega)):p:=h
theorem Zbn5{p:Prop}(h:p:=by have q1:=wr (v4+1);exact Zbn4):p:=h
theorem Zbn6{p:Prop} (h:p:=by
 apply tE<;>intro h2
 .exact tR trivial
 apply tE<;>intro h3
 .exact tR trivial
 apply tE<;>intro h4
 .exact tR trivial
 apply tE<;>intro h5
 .exact tR trivial
 exact tR trivial):p:=h
theorem Zbfw{p:Prop}(h:p:=by exact tL ⟨O0,ov6,SzL.app (k:=16) h6 lo ov7.2 (me1 tk65),cs⟩ Zav5):p:=h
theorem Zbfx{p:Prop}(h:p:=by exact tR (by first | exact⟨fun _=>Za89 (v:=v5) ‹_› ‹_› (by omega),fun _=>rfl⟩ | exact Zbp1 (v:=v5) ‹_› ‹_› (one ‹_›) | exact Zbls ‹_›)):p:=h
theorem Zbn7{p:Prop}(h:p:=by exact tL ⟨rfl,cl,Za42,(by first | (intro k x hk;omega) | exact Zrl ‹_› ‹_› (by omega) ⟨by omega,by omega⟩ (by omega))⟩ (by unfold Zawk lt6;dsimp only;omega)):p:=h
theorem Zav2{p:Prop}(h:p:=by have q1:=wr (v9+1);exact tL ⟨rfl,ov1,ov7,cl,Zaj,Zaj,tk94⟩ (by unfold Z7d lt6;dsimp only;omega)):p:=h
theorem Z5b{p:Prop}(h:p:=by exact tR ⟨(by first | (intro hr;exact absurd hr (by decide)) | exact fun _=>Zblr (v:=v5) ‹_› (by omega)),tk67⟩):p:=h
theorem Zbn8{p:Prop}(h:p:=by exact tR ⟨⟨SzS.nil,SzL.nil,SzL.nil⟩,tk25⟩):p:=h
theorem Zbn9{p:Prop}(h:p:=by exact tL ⟨rfl,rfl,ov0,ov1,ov7,cl,‹_›,‹_›,cl,(by first | exact RB_0 ‹_› (by omega) | exact Zbq4 ‹_› ‹_› (by omega) (by grind))⟩ Zakz):p:=h
theorem Zboa{p:Prop}(h:p:=by exact tJ (Z3h ⟨oa1,⟨SzL.nil,SzL.nil,SzL.nil,SzL.nil,SzL.nil,SzL.nil,SzL.nil,SzL.nil⟩,h5.1,(by rw [ap_r (by first | assumption | (apply_assumption;assumption)) (by omega)];subst_vars;rfl),(by rfl),(by simp only [beq_iff_eq];omega)⟩)):p:=h
theorem Zbob{p:Prop} (h:p:=by
 apply tF<;>intro h2
 .exact tl77
 exact tl77):p:=h
theorem Zav3{p:Prop}(h:p:=by exact tR ⟨(by first | (intro hr;exact absurd hr (by decide)) | (intro _ c hc;obtain⟨k,hk⟩:=List.mem_iff_getElem?.1 hc;exact i0 k c (by grind) hk)),tk67⟩):p:=h
theorem Zboc{p:Prop}(h:p:=by exact tJ (Zv8 ⟨rfl,O1,⟨SzS.nil,SzL.nil,SzL.nil⟩,tk27⟩)):p:=h
theorem Zbod{p:Prop}(h:p:=by exact tJ (Zz3 ⟨rfl,O1,⟨SzS.nil,SzL.nil,SzL.nil⟩,cl,tk27⟩)):p:=h
theorem Zboe{p:Prop} (h:p:=by
 apply tE<;>intro h7
 .exact Zuc
 exact Zuc):p:=h
theorem Zbfy{p:Prop}(h:p:=by exact tR ⟨ov9,cl,tk15⟩):p:=h
theorem Zbfz{p:Prop}(h:p:=by exact tR ⟨tk65,tk35⟩):p:=h
theorem Zbof{p:Prop} (h:p:=by
 apply tD<;>intro h4
 .apply tD<;>intro h5
  .exact Zrx
  exact Zrx
 exact Zrx):p:=h
theorem Zbf0{p:Prop}(h:p:=by exact tR ⟨h1.1,tk14⟩):p:=h
theorem Zbf1{p:Prop}(h:p:=by exact tR ⟨O3,tk14⟩):p:=h
theorem Zbog{p:Prop} (h:p:=by
 apply tD<;>intro h2
 .exact tR tk58
 refine Tot.ix fun x2 h3=>?_;have mh3:=h3.2;exact tR tk58):p:=h
theorem Za4u{p:Prop}(h:p:=by exact tR ⟨ov9,cl,tk12⟩):p:=h
theorem Zboh{p:Prop}(h:p:=by exact tL ⟨rfl,rfl,ov1,O0,ov7,ov8,cl,Zaj,cl,cl,cl,cl,cl,cl,cl,cl,tk46,Zec⟩ Zav6):p:=h
theorem Zq9{p:Prop}(h:p:=by exact tR ⟨(by first | (intro hr;exact absurd hr (by decide)) | (intro _;exact⟨by assumption,by assumption,by assumption,by grind⟩)),tk92,(by first | assumption | (intro hr;exact absurd hr (by decide)) | (intro _;grind)),tk92⟩):p:=h
theorem Zboi{p:Prop}(h:p:=by exact tL ⟨cl,cl,Za42,Zaj,(by first | with_reducible exact Zbnc _ | with_reducible exact Zbvm ‹_› ‹_› (by omega) (by omega) ‹_› (by omega) | with_reducible exact Zbnd ‹_› ‹_› (by omega) (by omega) (by omega) (by omega))⟩ (by unfold Z9n lt6;dsimp only;omega)):p:=h
theorem Zboj{p:Prop}(h:p:=by have q2:=wr (v9+1);exact tL ⟨rfl,rfl,rfl,O0,SzL.tr,O1,cl,cl,cl,cl,cl,cl,cl,cl,cl,cl,cl,‹_›,tk24⟩ Zbgh):p:=h
theorem Zbok{p:Prop}(h:p:=by have q1:=wr (v4+1);exact tL ⟨rfl,ov0,ov3,cl,cl,cl,(by first | exact⟨List.nodup_nil,fun x hx=>nomatch hx⟩ | assumption | (refine⟨?_,fun x hx=>?_⟩<;>grind [Zs5])),tk44⟩ Zbge):p:=h
theorem Zbol{p:Prop}(h:p:=by exact tL ⟨rfl,rfl,ov0,ov1,ov7,cl,cl,cl,‹_›,‹_›,cl,(by first | exact RC_0 ‹_› | (refine Zbh6 ‹_› ‹_› ‹_› ‹_› ‹_› ‹_› ?_ ?_ ?_<;>grind) | (refine Zbcs ‹_› ‹_› ‹_› ‹_› ?_ ?_<;>grind))⟩ Zakz):p:=h
theorem Zbom{p:Prop}(h:p:=by have q1:=wr (v17+1);exact Zboi):p:=h
theorem Zbon{p:Prop} (h:p:=by
 apply tE<;>intro h6
 .exact Zht
 exact Zht):p:=h
theorem Zboo{p:Prop}(h:p:=by have q1:=wr (v10+1);exact Zbol):p:=h
theorem Za4v{p:Prop}(h:p:=by exact tJ (Zkd ⟨rfl,rfl,rfl,rfl,oa0,oa2,oa1,SzL.nil,‹_›,‹_›,‹_›,Zaj,cl,Zl8,cl,tk37⟩)):p:=h
theorem Zbf2{p:Prop}(h:p:=by exact tL ⟨rfl,cl,cl,(by first | with_reducible exact Zbnc _ | with_reducible exact Zbru ‹_› ‹_› (by omega) (by omega) ‹_› ‹_› (by omega) (by omega) | with_reducible exact Zbnd ‹_› ‹_› (by omega) (by omega) (by omega) (by omega)),(by first | with_reducible exact Zbp2 (by omega) ‹_› (by omega) (by omega) | rfl),Zaj⟩ (by unfold Zaea lt6;dsimp only;omega)):p:=h
theorem Za4w{p:Prop}(h:p:=by exact tJ (Zr0 ⟨rfl,rfl,rfl,rfl,oa0,oa2,oa1,SzL.nil,‹_›,‹_›,‹_›,Zaj,cl,Zl8,cl,‹_›,tk19⟩)):p:=h
theorem Zbf3{p:Prop}(h:p:=by exact tJ (Zee ⟨⟨SzL.nil,SzL.nil,SzL.nil,SzL.nil,SzL.nil,SzL.nil,SzL.nil,SzL.nil⟩,h1.1,tk9⟩)):p:=h
theorem Zbop{p:Prop}(h:p:=by exact tL ⟨rfl,rfl,rfl,rfl,ov0,ov2,O0,ov9,cl,‹_›,‹_›,‹_›,Zaj,cl,Zl8,cl,cl,‹_›,(by first | exact ob_0 ‹_› | exact ob_n ‹_› ‹_› (by omega) (by omega) (by omega) | exact ob_e ‹_› (by omega) rfl ‹_› ‹_› rfl rfl (by omega) (by omega))⟩ Zabs):p:=h
theorem Zboq{p:Prop}(h:p:=by exact tL ⟨rfl,ov1,ov5,ov6,cl,cl,cl,Zaj,Zaj,Zaj,cl,cl,Zaj,Zaj,(by first | assumption | (intro x hx hd;rfl) | (intro x hx hd;exact absurd hd (Zbvi (v:=v7) (w:=v9) ‹_› ‹_› ‹_› ‹_› ‹_› ‹_› ‹_› ‹_› ‹_› ‹_› ‹_› hx)) | grind)⟩ Za40):p:=h
theorem Zbor{p:Prop}(h:p:=by have q2:=wr (v11+1);exact Zbop):p:=h
theorem Zbos{p:Prop}(h:p:=by exact tL ⟨rfl,rfl,ov0,O0,cl,tk13,tk36⟩ (by unfold Zv7 lt6;dsimp only;omega)):p:=h
theorem Za4x{p:Prop}(h:p:=by have q1:=wr (v9+1);exact Zboq):p:=h
theorem Zbot{p:Prop} (h:p:=by
 apply tD<;>intro h1
 .apply tD<;>intro h2
  .refine Tot.ix fun x1 h3=>?_;have mh3:=h3.2;exact tR tk45
  exact tR tk45
 exact tR tk45):p:=h
theorem Zbou{p:Prop}(h:p:=by exact tR ⟨h6.1,tk0⟩):p:=h
theorem Zav4{p:Prop}(h:p:=by exact tR ⟨O0,tk0⟩):p:=h
theorem Zakw{p:Prop}(h:p:=by have q2:=wr (v15+1);exact tL ⟨rfl,rfl,rfl,rfl,ov0,ov2,O0,ov9,O2,cl,‹_›,‹_›,‹_›,Zaj,cl,Zl8,cl,cl,cl,cl,cl,‹_›,tk7⟩ Zabs):p:=h
theorem Zbov{p:Prop}(h:p:=by have q3:=wr (v15+1);exact tL ⟨rfl,rfl,rfl,rfl,ov0,ov2,O0,SzL.tr,O2,cl,‹_›,‹_›,‹_›,Zaj,cl,Zl8,cl,cl,cl,cl,cl,‹_›,tk7⟩ Zabs):p:=h
theorem Zbow{p:Prop}(h:p:=by exact tL ⟨rfl,rfl,rfl,rfl,ov0,ov2,O0,SzL.tr,ov134,cl,‹_›,‹_›,‹_›,Zaj,cl,Zl8,cl,cl,cl,cl,cl,cl,‹_›,‹_›,‹_›,tk6⟩ tk98):p:=h
theorem Zakx{p:Prop}(h:p:=by have q1:=wr (v136+1);exact tL ⟨rfl,rfl,rfl,rfl,ov0,ov2,O0,ov9,ov134,cl,‹_›,‹_›,‹_›,Zaj,cl,Zl8,cl,cl,cl,cl,cl,cl,‹_›,‹_›,‹_›,tk6⟩ tk98):p:=h
theorem Zbf4{p:Prop}(h:p:=by have q1:=wr (v81+1);exact tL ⟨rfl,rfl,rfl,rfl,ov0,ov2,O0,ov9,O3,ov63,ov79,cl,cl,cl,‹_›,‹_›,‹_›,Zaj,cl,Zl8,cl,cl,cl,cl,cl,Zud,cl,cl,‹_›,Zud,Zud,‹_›,tk8⟩ tk98):p:=h
theorem Zbox{p:Prop}(h:p:=by have q2:=wr (v13+1);exact tL ⟨rfl,rfl,rfl,rfl,ov0,ov2,O0,ov9,O2,cl,cl,cl,‹_›,‹_›,‹_›,Zaj,cl,Zl8,cl,cl,cl,cl,‹_›,tk79,tk83,‹_›,tk5⟩ Zabs):p:=h
theorem tk0{p:Prop}(h:p:=by first | exact Zbnt ‹_› rfl (by omega) | exact Zbnu ‹_› (by intros;omega) | exact Zbnl ‹_› ‹_› ‹_› | exact ((by assumption:apV _ _ _ _ _=_).trans (Zbv1 (by first | omega | grind))).symm | exact ((by assumption:apV _ _ _ _ _=_).trans (Zbnq (by omega))).symm | exact ((by assumption:apV _ _ _ _ _=_).trans (Zbnr (by omega))).symm | exact ((by assumption:apV _ _ _ _ _=_).trans (Zbns (by omega) ‹_›)).symm | (rw [ap_s (by first | assumption | (apply_assumption;assumption)) (by omega)];subst_vars;unfold shA amE;first | exact (if_pos ⟨rfl,‹_›⟩).symm | exact (if_neg fun k=>absurd k.2 ‹_›).symm)):p:=h
theorem tk1{p:Prop}(h:p:=by first | with_reducible exact Zbe4 ‹_› ‹_› (by omega) (by omega) ‹_› ‹_› ‹_› ‹_› | with_reducible exact Zbe4 ‹_› ‹_› (by omega) (by omega) ‹_› ‹_› ‹_› | with_reducible exact Zbe4 ‹_› ‹_› (by omega) (by omega) ‹_› ‹_› | with_reducible exact Zbe8 ‹_› (by omega) ‹_› ‹_› ‹_› | with_reducible exact Zbe8 ‹_› (by omega) | with_reducible exact Zbe8):p:=h
theorem tk2{p:Prop}(h:p:=by first | with_reducible exact Zbe5 ‹_› ‹_› (by omega) (by omega) ‹_› ‹_› ‹_› ‹_› | with_reducible exact Zbe5 ‹_› ‹_› (by omega) (by omega) ‹_› ‹_› ‹_› | with_reducible exact Zbe5 ‹_› ‹_› (by omega) (by omega) ‹_› ‹_› | with_reducible exact Zbe9 ‹_› (by omega) ‹_› ‹_› ‹_› | with_reducible exact Zbe9 ‹_› (by omega) | with_reducible exact Zbe9):p:=h
theorem tk3{p:Prop}(h:p:=by first | with_reducible exact Zbe6 ‹_› ‹_› (by omega) (by omega) ‹_› ‹_› ‹_› ‹_› | with_reducible exact Zbe6 ‹_› ‹_› (by omega) (by omega) ‹_› ‹_› ‹_› | with_reducible exact Zbe6 ‹_› ‹_› (by omega) (by omega) ‹_› ‹_› | with_reducible exact Zbfa ‹_› (by omega) ‹_› ‹_› ‹_› | with_reducible exact Zbfa ‹_› (by omega) | with_reducible exact Zbfa):p:=h
theorem tk4{p:Prop}(h:p:=by first | with_reducible exact Zbe7 ‹_› ‹_› (by omega) (by omega) ‹_› ‹_› ‹_› ‹_› | with_reducible exact Zbe7 ‹_› ‹_› (by omega) (by omega) ‹_› ‹_› ‹_› | with_reducible exact Zbe7 ‹_› ‹_› (by omega) (by omega) ‹_› ‹_› | with_reducible exact Zbfb ‹_› (by omega) ‹_› ‹_› ‹_› | with_reducible exact Zbfb ‹_› (by omega) | with_reducible exact Zbfb):p:=h
theorem tk5{p:Prop}(h:p:=by first | (rw [<- (by assumption:v9=shO E0 E1++ixf (obG v0 E0 v2 E1) E0.Objects v11)];exact ab_0) | with_reducible exact Zbvw ‹_› ‹_› ‹_› ‹_› ‹_› ‹_› ‹_› (by omega) (by omega) (by omega) | with_reducible exact Zbvx ‹_› ‹_› ‹_› (by first | assumption | grind) ‹_› (by omega) (by omega) | with_reducible exact ab_n ‹_› ‹_› (by omega) (by omega) (by intro hz hk;omega)):p:=h
theorem tk6{p:Prop}(h:p:=by first | with_reducible exact op_0 ‹_› (by omega) ‹_› | with_reducible exact ar_y ‹_› ‹_› ‹_› ‹_› ‹_› (by omega) (by omega) (by omega) (by first | assumption | rfl | grind) (by omega) (by omega) | with_reducible exact ar_m ‹_› ‹_› ‹_› (by first | assumption | grind) (by first | assumption | rfl | grind) (by omega) (by omega) | with_reducible exact ar_n ‹_› ‹_› (by omega) (by omega) (by intro _ _;omega)):p:=h
theorem tk7{p:Prop}(h:p:=by first | with_reducible exact op_0 ‹_› (by omega) rfl | with_reducible exact ar_y ‹_› ‹_› ‹_› ‹_› ‹_› (by omega) (by omega) (by omega) rfl (by omega) (by omega) | with_reducible exact ar_m ‹_› ‹_› ‹_› (by first | assumption | grind) rfl (by omega) (by omega) | with_reducible exact ar_n ‹_› ‹_› (by omega) (by omega) (by intro _ _;omega)):p:=h
theorem tk8{p:Prop}(h:p:=by first | (rw [<- (by assumption:v9=shO E0 E1++ixf (obG v0 E0 v2 E1) v63 v65)];exact ab_0) | first | with_reducible exact ab_0 | with_reducible exact ab_y ‹_› ‹_› ‹_› ‹_› ‹_› (by omega) (by omega) (by omega) (by omega) | with_reducible exact ab_n ‹_› ‹_› (by omega) (by omega) (by first | (intro hz hk;omega) | (intro _ _;grind))):p:=h
theorem tk9{p:Prop}(h:p:=by first | (rw [ap_s ‹_› (by omega)];subst_vars;rfl) | exact ap_j ‹_› ‹_› ‹_› (by omega) (by first | exact Zbnn (by omega) ‹_› | exact Zbno (by omega) ‹_› | exact Zbnp (by omega) ‹_› | exact Zbfd (Zbnq (by omega)) | exact Zbfd (Zbnr (by omega)) | exact Zbfd (Zbns (by omega) ‹_›) | (exfalso;omega))):p:=h
theorem tk10{p:Prop}(h:p:=by first | exact (by assumption:apV _ _ _ _ _=_).trans (Zbnn (by omega) ‹_›) | exact (by assumption:apV _ _ _ _ _=_).trans (Zbno (by omega) ‹_›) | exact (by assumption:apV _ _ _ _ _=_).trans (Zbnp (by omega) ‹_›) | exact (by assumption:apV _ _ _ _ _=_).trans (Zbv2 (by first | omega | grind))):p:=h
theorem tk11{p:Prop}(h:p:=by first | exact Zblc ‹_› ‹_› (by omega) | exact Zbpo (v:=v0) (i:=v5) (j:=v6) ‹_› ‹_› ‹_› (nI_t ‹_› ‹_›) (by omega) (by omega) | exact Zbpp (j:=v6) ‹_› ‹_› (nI_f ‹_› ‹_›) (by omega)):p:=h
theorem tk12{p:Prop}(h:p:=by first | with_reducible exact op_n ‹_› (by grind) | with_reducible exact Zbnh ‹_› (by omega) rfl ‹_› (by omega) | with_reducible exact Zbni ‹_› (by omega) ‹_› ‹_› (by omega) (by omega) | exact op_x ‹_› (by omega) ‹_› (by omega)):p:=h
theorem tk13{p:Prop}(h:p:=by first | exact Zbrr | exact Za2d (v:=v5) ‹_› ‹_› (by omega) (by omega) (Zbrt (v:=v5) ‹_› (by omega) ‹_›) (by omega) | exact Za2d (v:=v5) ‹_› ‹_› (by omega) (by omega) (fun y hv _=>absurd hv (by omega)) (by omega)):p:=h
theorem tk14{p:Prop}(h:p:=by first | exact Zbnt ‹_› (by omega) (by omega) | exact Zbnu ‹_› (by intros;first | omega | grind) | (rw [(by assumption:x1=a1)];exact Zbnl ‹_› ‹_› ‹_›) | exact ap_d ‹_› ‹_› ‹_› (by omega) (by omega)):p:=h
theorem tk15{p:Prop}(h:p:=by first | with_reducible exact op_n ‹_› (by grind) | with_reducible exact Zbnh ‹_› (by omega) ‹_› ‹_› (by omega) | with_reducible exact Zbni ‹_› (by omega) ‹_› ‹_› (by omega) (by omega)):p:=h
theorem tk16{p:Prop}(h:p:=by first | rfl | exact Zbct ‹_› ‹_› ‹_› ‹_› (nI_t ‹_› ‹_›) (by omega) | exact Za57 ‹_› ‹_› ‹_› (nI_f ‹_› ‹_›) (by omega)):p:=h
theorem tk17{p:Prop}(h:p:=by first | with_reducible exact pr_0 ‹_› ‹_› | with_reducible exact pr_0' ‹_› ‹_› | with_reducible exact Zbdf ‹_› ‹_› (by omega) (by omega) ‹_› ‹_›):p:=h
theorem tk18{p:Prop}(h:p:=by first | assumption | exact Z5a | exact Zbji ‹_› ‹_› | exact Zbjj (‹_/\(∀ e:Zb,e∈_->e=_\/e∈_)/\_›).2.1 ‹_› ((by assumption:Zk3 _->Zk3 _) ‹_›)):p:=h
theorem tk19{p:Prop}(h:p:=by first | exact Zbvt ‹_› (by omega) ‹_› (by omega) (by omega) (by omega) ‹_› | exact Zbvv ‹_› (by omega) ‹_› (by omega) | exact Zbvu ‹_› (by intros;omega)):p:=h
theorem tk20{p:Prop}(h:p:=by first | with_reducible exact pr_0 ‹_› ‹_› | with_reducible exact Zbdf ‹_› (by rw [<- (by assumption:v32=a0.Abilities)];assumption) (by omega) (by omega) ‹_› ‹_›):p:=h
theorem tk21{p:Prop}(h:p:=by first | rfl | (exact Zbct ‹_› ‹_› ‹_› ‹_› (by grind) (by omega)) | (exact Za57 ‹_› ‹_› ‹_› (by grind) (by omega))):p:=h
theorem tk22{p:Prop}(h:p:=by first | exact sl_1 ‹_› ‹_› ‹_› ‹_› ‹_› | exact sl_2 ‹_› ‹_› ‹_› ‹_› ‹_› | grind):p:=h
theorem tk23{p:Prop}(h:p:=by first | (intro k x hk;omega) | (intro k x hk hx hd;by_cases hkk:(k:Int) < v7;(have:=i6 k x hkk hx hd;grind);(have hke:k=v7.toNat:=by omega);subst hke;have:=i7 x hx hd;grind)):p:=h
theorem tk24{p:Prop}(h:p:=by first | rfl | (rw [Za56 (v:=v9) ‹_› ‹_› (by grind) (by omega)];assumption) | (rw [Zax7 (v:=v9) ‹_› ‹_› (by grind) (by omega)];omega)):p:=h
theorem tk25{p:Prop}(h:p:=by first | exact Zbp8 ‹_› (by omega) | exact Zbp9 ‹_› ‹_› (by omega) (by omega) | exact Zbr2 ‹_› ‹_› ‹_› (by omega)):p:=h
theorem tk26{p:Prop}(h:p:=by first | assumption | exact List.nodup_nil | (refine ‹_=v6++_› ▸ Zs5 ‹_› (by grind)) | (rw [‹_=List.filter _ v6›];exact List.Nodup.filter _ ‹_›) | grind):p:=h
theorem tk27{p:Prop}(h:p:=by rw [<- (by assumption:v5=if E0.Copy < 0 then E0.Card else E0.Copy)];first | exact (Z9e (by omega)).symm | (rw [Zay0 ‹_› (by omega)];assumption)):p:=h
theorem tk28{p:Prop}(h:p:=by first | exact ef_y (fun _=>‹_›) (by omega) ‹_› | (rename_i hz;exact ef_y (fun _=>by first | assumption | (apply_assumption;omega)) (by omega) ‹_›)):p:=h
theorem tk29{p:Prop}(h:p:=by first | with_reducible exact Zbvo ‹_› ‹_› | with_reducible exact Zblu ‹_› ‹_› (by omega) (by omega) ‹_› ‹_›):p:=h
theorem tk30{p:Prop}(h:p:=by first | (intro k c hk;omega) | (intro k c hk hc;rcases Zwn (v:=v4) ‹_› (by omega) hk hc ‹_› with h | h;(exact i0 k c h hc);(rw [h];assumption))):p:=h
theorem tk31{p:Prop}(h:p:=by first | exact Zbq9 ‹_› ‹_› | exact Zbq7 (v:=v0) (i:=v5) (j:=v6) ‹_› ‹_› ‹_› (by omega) (by omega)):p:=h
theorem tk32{p:Prop}(h:p:=by first | with_reducible exact Zbvp ‹_› ‹_› ‹_› ‹_› ‹_› ‹_› ‹_› | (subst_vars;rfl)):p:=h
theorem tk33{p:Prop}(h:p:=by first | with_reducible exact st_3 ‹_› ‹_› ‹_› ‹_› ‹_› ‹_› ‹_› | (subst_vars;rfl)):p:=h
theorem tk34{p:Prop}(h:p:=by first | exact abA1 ‹_› (by omega) ‹_› ‹_› ‹_› ‹_› ‹_› | exact abA2 ‹_› (by omega)):p:=h
theorem tk35{p:Prop}(h:p:=by first | (refine⟨fun _=>by omega,fun _=>rfl⟩) | (have w := ‹_∈A3.list _›;simp only [A3.list,List.mem_cons,List.not_mem_nil,or_false] at w;grind) | grind):p:=h
theorem tk36{p:Prop}(h:p:=by first | (intro k x hk;omega) | with_reducible exact Zrl (v:=v5) ‹_› ‹_› (by omega) (shk ‹_› ‹_›) (by omega)):p:=h
theorem tk37{p:Prop}(h:p:=by first | exact sh_y ‹_› ‹_› (by omega) (by omega) (by omega) ‹_› | exact sh_n ‹_› (by intros;first | omega | grind)):p:=h
theorem tk38{p:Prop}(h:p:=by first | exact ob_0 ‹_› | exact ob_e ‹_› (by omega) ‹_› ‹_› ‹_› rfl rfl (by omega) (by omega)):p:=h
theorem tk39{p:Prop}(h:p:=by first | (intro k hk;omega) | exact Za2c (v:=v5) ‹_› ‹_› ‹_› (by omega) (oeq ‹_›) (by omega)):p:=h
theorem tk40{p:Prop}(h:p:=by first | exact Zbpy ‹_› ‹_› ‹_› (by first | assumption | grind) | exact Zblq ‹_› (by omega)):p:=h
theorem tk41{p:Prop}(h:p:=by first | (intro k x hk;omega) | exact Zrl ‹_› ‹_› ‹_› (nI_t ‹_› ‹_›) (by omega)):p:=h
theorem tk42{p:Prop}(h:p:=by first | assumption | exact Z5a | exact Zavy ‹_› ‹_› (Zbry ‹_› ‹_› ‹_›)):p:=h
theorem tk43{p:Prop}(h:p:=by first | (intro k x hk;omega) | (intro k x hk hx;rcases Zwn (v:=v5) ‹_› (by grind) hk hx ‹_› with h | h<;>grind)):p:=h
theorem tk44{p:Prop}(h:p:=by first | (intro k x hk;omega) | (intro k x hk hx;rcases Zwn (v:=v4) ‹_› (by grind) hk hx ‹_› with h | h<;>grind)):p:=h
theorem tk45{p:Prop}(h:p:=by first | exact (Za88 (by omega)).symm | (rw [Zayz ‹_› (by omega)];done) | (rw [Zayz ‹_› (by omega)];grind)):p:=h
theorem tk46{p:Prop}(h:p:=by first | assumption | (intro y hy;exact absurd hy List.not_mem_nil) | exact Zbld ‹_› ‹_› ‹_› | grind):p:=h
theorem tk47{p:Prop}(h:p:=by first | (intro k y hk;omega) | exact Zrl (v:=v8) ‹_› ‹_› (by omega) (one ‹_›).symm (by omega)):p:=h
theorem tk48{p:Prop}(h:p:=by first | exact ef_n (by omega) | exact ef_f ‹_› (by omega) (by omega) | exact ef_y ‹_› (by omega) ‹_›):p:=h
theorem tk49{p:Prop}(h:p:=by first | (intro k hk;omega) | exact Za2c ‹_› ‹_› ‹_› ‹_› ‹_› (by omega)):p:=h
theorem tk50{p:Prop}(h:p:=by first | (intro k x hk;omega) | exact Zrl (v:=v5) ‹_› ‹_› (by omega) (one ‹_›) (by omega)):p:=h
theorem tk51{p:Prop}(h:p:=by first | exact Zbro | exact Zbje ‹_› ‹_› ‹_› (by first | assumption | grind) (by omega)):p:=h
theorem tk52{p:Prop}(h:p:=by first | with_reducible exact Zblt ‹_› ‹_› ‹_› ‹_› | (subst_vars;rfl)):p:=h
theorem tk53{p:Prop}(h:p:=by first | (intro k x hk;omega) | exact Zrl ‹_› ‹_› ‹_› ‹_› (by omega)):p:=h
theorem tk54{p:Prop}(h:p:=by first | (unfold enB;rw [<- Zo1 ‹_› ‹_› (by omega)];grind [enO,enT]) | (unfold enB;grind)):p:=h
theorem tk55{p:Prop}(h:p:=by first | with_reducible exact st_0 ‹_› ‹_› ‹_› ‹_› | (subst_vars;rfl)):p:=h
theorem tk56{p:Prop}(h:p:=by first | with_reducible exact st_2 ‹_› ‹_› ‹_› ‹_› | (subst_vars;rfl)):p:=h
theorem tk57{p:Prop}(h:p:=by first | (intro hr;exact absurd hr (by decide)) | (intro _;unfold rOK;first | omega | grind) | (unfold rOK;grind)):p:=h
theorem tk58{p:Prop}(h:p:=by first | exact Zbrq ‹_› ‹_› | exact Zbpz ‹_› ‹_› ‹_›):p:=h
theorem tk59{p:Prop}(h:p:=by first | exact Zbnj (by omega) | exact Zbsc ‹_› ‹_› ‹_› (by omega) (by omega)):p:=h
theorem tk60{p:Prop}(h:p:=by first | exact Zbnj (by omega) | exact Zbnk ‹_› ‹_› ‹_› (by omega) (by omega)):p:=h
theorem tk61{p:Prop}(h:p:=by first | (intro k x hk;omega) | exact Zrl ‹_› ‹_› (by omega) (by grind) (by omega)):p:=h
theorem tk62{p:Prop}(h:p:=by first | (unfold mtB;rw [<- Zo1 ‹_› ‹_› (by omega)];grind) | (unfold mtB;grind)):p:=h
theorem tk63{p:Prop}(h:p:=by first | assumption | exact Z5a | exact Zavy ‹_› ‹_› ‹_›):p:=h
theorem Zbk{p:Prop}(h:p:=by unfold SzN;first | omega | (simp only [List.length_append,List.length_cons,List.length_nil];omega)):p:=h
theorem tk65{p:Prop}(h:p:=by unfold SzT;first | omega | (simp only [List.length_append,List.length_cons,List.length_nil];omega)):p:=h
theorem tk66{p:Prop}(h:p:=by first | exact Zbdc (by omega) | exact Zbdd (by omega) | exact Zbjf ‹_› (by omega)):p:=h
theorem tk67{p:Prop}(h:p:=by first | (intro hr;exact absurd hr (by decide)) | (intro _;exact Zbp7 ‹_› (by omega))):p:=h
theorem tk68{p:Prop}(h:p:=by first | (unfold evB;rw [Zbdg ‹_› (by omega)];grind) | (unfold evB;grind [Zbdh])):p:=h
theorem tk69{p:Prop}(h:p:=by first | (rw [Zbdg ‹_› (by omega)];grind) | (rw [Zbdh (by omega)];grind) | grind):p:=h
theorem tk70{p:Prop}(h:p:=by intro m hm;simp only [List.mem_cons,List.not_mem_nil,or_false] at hm;subst hm;exact Zbq1 _):p:=h
theorem tk71{p:Prop}(h:p:=by unfold Zcj lt6;dsimp only;omega):p:=h
theorem Zzd{p:Prop}(h:p:=by first | assumption | rfl | (exfalso;first | omega | grind [Za9g,Zbjo,KdT,Zqv])):p:=h
theorem Zl8{p:Prop}(h:p:=by first | assumption | exact (by assumption:_=evB _ _ _).symm.trans ‹_› | grind):p:=h
theorem tk74{p:Prop}(h:p:=by first | exact ba_c ‹_› rfl (by omega) | exact ba_o ‹_› rfl (by omega)):p:=h
theorem tk75{p:Prop}(h:p:=by unfold Zc8 lt6;dsimp only;omega):p:=h
theorem Zd0{p:Prop}(h:p:=by first | (simp only [List.length_append,List.length_cons,List.length_nil];omega) | omega):p:=h
theorem tk77{p:Prop}(h:p:=by unfold Zdn lt6;dsimp only;omega):p:=h
theorem tk78{p:Prop}(h:p:=by first | (intro x hx;exact absurd hx List.not_mem_nil) | (intro x hx;have:=i9 x;grind)):p:=h
theorem tk79{p:Prop}(h:p:=by first | assumption | (rw [<- (by assumption:_=obA E0.Objects v11)];assumption)):p:=h
theorem tk80{p:Prop}(h:p:=by unfold Zdt lt6;dsimp only;omega):p:=h
theorem tk81{p:Prop}(h:p:=by first | assumption | exact Zbe3 ‹_› ‹_› ‹_› | grind):p:=h
theorem tk82{p:Prop}(h:p:=by first | (intro hr;exact absurd hr (by decide)) | (intro _;assumption) | assumption):p:=h
theorem tk83{p:Prop}(h:p:=by first | assumption | (rw [<- (by assumption:_=obA E0.Objects v11)];omega)):p:=h
theorem tk84{p:Prop}(h:p:=by first | assumption | (intro _;omega) | (simp only [beq_iff_eq];intro h;omega)):p:=h
theorem Z6z{p:Prop}(h:p:=by first | rfl | assumption | (simpa using (by assumption:_=[]++a0)) | grind):p:=h
theorem tk86{p:Prop}(h:p:=by first | (intro hr;exact absurd hr (by decide)) | (intro _;assumption)):p:=h
theorem tk87{p:Prop}(h:p:=by unfold Zgw lt6;dsimp only;omega):p:=h
theorem tk88{p:Prop}(h:p:=by first | (intro hr;exact absurd hr (by decide)) | (intro _;omega)):p:=h
theorem tk89{p:Prop}(h:p:=by first | (intro x hx;exact absurd hx List.not_mem_nil) | grind):p:=h
theorem tk90{p:Prop}(h:p:=by first | omega | exact shl_ne' (by omega) (by omega) | decide):p:=h
theorem tk91{p:Prop}(h:p:=by rw [<- (by assumption:v63=E0.Objects)];assumption):p:=h
theorem tk92{p:Prop}(h:p:=by first | assumption | (intro hr;exact absurd hr (by decide))):p:=h
theorem tk93{p:Prop}(h:p:=by have e:(A5.list E0.Color).length=5:=rfl;omega):p:=h
theorem tk94{p:Prop}(h:p:=by first | assumption | (left;constructor<;>omega) | grind):p:=h
theorem tk95{p:Prop}(h:p:=by exact Zbrx ‹_› (by first | omega | grind)):p:=h
theorem tk96{p:Prop}(h:p:=by have e:(A6.list E0).length=6:=rfl;omega):p:=h
theorem tk97{p:Prop}(h:p:=by unfold maB mtB enB;grind [seV,Zbqa,rOK,Zbrp]):p:=h
theorem tk98{p:Prop}(h:p:=by unfold Zf9 lt6;dsimp only;omega):p:=h
theorem tk99{p:Prop}(h:p:=by first | assumption | (subst_vars;rfl) | grind):p:=h
theorem Zaky{p:Prop}(h:p:=by have e:(A3.list a0).length=3:=rfl;omega):p:=h
theorem Zbgd{p:Prop}(h:p:=by unfold Zuu lt6;dsimp only;omega):p:=h
theorem Zbge{p:Prop}(h:p:=by unfold Z5q lt6;dsimp only;omega):p:=h
theorem Zbgf{p:Prop}(h:p:=by unfold Z9i lt6;dsimp only;omega):p:=h
theorem Za4y{p:Prop}(h:p:=by unfold Z9p lt6;dsimp only;omega):p:=h
theorem Zbgg{p:Prop}(h:p:=by unfold Z9q lt6;dsimp only;omega):p:=h
theorem Zbgh{p:Prop}(h:p:=by unfold Z9r lt6;dsimp only;omega):p:=h
theorem Za4z{p:Prop}(h:p:=by unfold Z9s lt6;dsimp only;omega):p:=h
theorem Zakz{p:Prop}(h:p:=by unfold Z9t lt6;dsimp only;omega):p:=h
theorem Zbgi{p:Prop}(h:p:=by unfold Z9u lt6;dsimp only;omega):p:=h
theorem Zabq{p:Prop}(h:p:=by unfold Zaec lt6;dsimp only;omega):p:=h
theorem Zabr{p:Prop}(h:p:=by intro h;first | exact h | exact Zbjh rfl):p:=h
theorem Zak0{p:Prop}(h:p:=by unfold Zaee lt6;dsimp only;omega):p:=h
theorem Zbgj{p:Prop}(h:p:=by unfold Zajk lt6;dsimp only;omega):p:=h
theorem Z5c{p:Prop}(h:p:=by unfold Zajm lt6;dsimp only;omega):p:=h
theorem Za40{p:Prop}(h:p:=by unfold Zajp lt6;dsimp only;omega):p:=h
theorem Zabs{p:Prop}(h:p:=by unfold Zk7 lt6;dsimp only;omega):p:=h
theorem Zav5{p:Prop}(h:p:=by unfold Zi5 lt6;dsimp only;omega):p:=h
theorem Zav6{p:Prop}(h:p:=by unfold Zao2 lt6;dsimp only;omega):p:=h
theorem Zbgk{p:Prop}(h:p:=by unfold Zao4 lt6;dsimp only;omega):p:=h
theorem Z5d{p:Prop}(h:p:=by unfold Zao5 lt6;dsimp only;omega):p:=h
theorem Za41{p:Prop}(h:p:=by first | assumption | (unfold heB;grind)):p:=h
theorem Zec{p:Prop}(h:p:=by first | assumption | exact Z5a):p:=h
theorem Zak1{p:Prop}(h:p:=by first | assumption | omega | grind):p:=h
theorem Zaj{p:Prop}(h:p:=by first | assumption | grind):p:=h
theorem Za42{p:Prop}(h:p:=by first | rfl | assumption):p:=h
theorem Zud{p:Prop}(h:p:=by first | assumption | rfl):p:=h
theorem Z0t{p:Prop}(h:p:=by first | omega | grind):p:=h
theorem Z0u{p:Prop}(h:p:=by unfold evB;grind):p:=h
theorem Zabt{p:Prop}(h:p:=by unfold maB;grind):p:=h
abbrev Zer(x:Zaf):Prop:=(SzL 16 SzT) x.Subs
theorem Zazc{x:Zaf}(h:Z6t x):Zer x:=(Zeg h.2.2 (fun _ h=>Zbq2 h))
abbrev Za1(x:Zm):Prop:=SzS x.Sub
theorem Ze2{x:Zm}(h:Ze5 x):Za1 x:=(Zask h.2.2.2.2.2.2.2.1)
abbrev Zax(x:Zv):Prop:=SzS x.Sub/\Za1 x.Filter
theorem Zze{x:Zv}(h:Zt8 x):Zax x:=⟨Zask h.2.2.2.1,Ze2 h.2.2.2.2⟩
abbrev Zpl(x:Zb4):Prop:=Za1 x.Filter
theorem Zak8{x:Zb4}(h:Zv0 x):Zpl x:=(Ze2 h.2.2)
abbrev Zi4(x:Za9):Prop:=Za1 x.Filter
theorem Zazd{x:Za9}(h:Z6u x):Zi4 x:=(Ze2 h.2.2)
abbrev Zue(x:Zgy):Prop:=Za1 x.Filter
theorem Za23{x:Zgy}(h:Zabf x):Zue x:=(Ze2 h.2.2)
abbrev Zzf(x:Zb0):Prop:=Za1 x.Filter
theorem Zaqb{x:Zb0}(h:Zy9 x):Zzf x:=(Ze2 h.2.2.2)
abbrev Zas(x:Z6):Prop:=Zue x.Ref/\Zzf x.Amount/\SzS x.Card/\Za1 x.Filter/\(SzL 176 Zax) x.Mods
theorem Zaqc{x:Z6}(h:Zza x):Zas x:=⟨Za23 h.2.1,Zaqb h.2.2.1,Zask h.2.2.2.2.2.1,Ze2 h.2.2.2.2.2.2.1,Zeg h.2.2.2.2.2.2.2.2 (fun _ h=>(Zze h))⟩
abbrev Zbq(x:Z4):Prop:=Za1 x.Filter
theorem Zak9{x:Z4}(h:Zv1 x):Zbq x:=(Ze2 h.2.2.1)
abbrev Zac(x:Zh):Prop:=Za1 x.Filter/\(SzL 176 Zax) x.Mods/\Zpl x.Trigger/\(SzL 144 Zi4) x.Specs/\(SzL 560 Zas) x.Effects/\Zbq x.Replace
theorem Zp1{x:Zh}(h:Zk2 x):Zac x:=⟨Ze2 h.2.1,Zeg h.2.2.1 (fun _ h=>(Zze h)),Zak8 h.2.2.2.2.2.1,Zeg h.2.2.2.2.2.2.2.1 (fun _ h=>(Zazd h)),Zeg h.2.2.2.2.2.2.2.2.1 (fun _ h=>(Zaqc h)),Zak9 h.2.2.2.2.2.2.2.2.2⟩
abbrev Z1(x:Zg):Prop:=SzS x.Name/\Zer x.Line/\(SzL 640 Zac) x.Abilities
theorem Zk4{x:Zg}(h:Zaot x):Z1 x:=⟨Zask h.1,Zazc h.2.2.2.2.1,Zeg h.2.2.2.2.2.2.2.2 (fun _ h=>(Zp1 h))⟩
abbrev Zbt(x:Z9):Prop:=(SzL 8 (fun _=>True)) x.Library/\(SzL 8 (fun _=>True)) x.Hand/\(SzL 8 (fun _=>True)) x.Graveyard
theorem Zaqd{x:Z9}(h:Zzb x):Zbt x:=⟨Zeg h.2.2.2.2.2.2.1 (fun _ _=>trivial),Zeg h.2.2.2.2.2.2.2.1 (fun _ _=>trivial),Zeg h.2.2.2.2.2.2.2.2 (fun _ _=>trivial)⟩
abbrev Zcr(x:Zai):Prop:=Zac x.Ability/\(SzL 16 (fun _=>True)) x.Targets
theorem Zaze{x:Zai}(h:Z6v x):Zcr x:=⟨Zp1 h.2.2.2.2.2.2.1,Zeg h.2.2.2.2.2.2.2.1 (fun _ _=>trivial)⟩
abbrev Zd1(x:Zad):Prop:=Zac x.Ability
theorem Zala{x:Zad}(h:Zv2 x):Zd1 x:=(Zp1 h.2.2.1)
abbrev Zdp(x:Zap):Prop:=(SzL 8 (fun _=>True)) x.Objects/\(SzL 176 Zax) x.Mods
theorem Zazf{x:Zap}(h:Z6w x):Zdp x:=⟨Zeg h.2.2.2.2.1 (fun _ _=>trivial),Zeg h.2.2.2.2.2 (fun _ h=>(Zze h))⟩
abbrev Zl(x:Za):Prop:=(SzL 152 Zbt) x.Players/\(SzL 128 (fun _=>True)) x.Objects/\(SzL 8 (fun _=>True)) x.Battlefield/\(SzL 8 (fun _=>True)) x.Exile/\(SzL 824 Zcr) x.Stack/\(SzL 768 Zd1) x.Waiting/\(SzL 80 Zdp) x.Conts/\(SzL 8 (fun _=>True)) x.Extra
theorem Zj5{x:Za}(h:Zaiy x):Zl x:=⟨Zeg h.1 (fun _ h=>(Zaqd h)),Zeg h.2.1 (fun _ _=>trivial),Zeg h.2.2.1 (fun _ _=>trivial),Zeg h.2.2.2.1 (fun _ _=>trivial),Zeg h.2.2.2.2.1 (fun _ h=>(Zaze h)),Zeg h.2.2.2.2.2.1 (fun _ h=>(Zala h)),Zeg h.2.2.2.2.2.2.1 (fun _ h=>(Zazf h)),Zeg h.2.2.2.2.2.2.2.2.2.2.2.2.2.2.2.2.1 (fun _ _=>trivial)⟩
abbrev Zw(x:Zb):Prop:=SzS x.Name/\Zer x.Line/\(SzL 640 Zac) x.Abilities
abbrev Zau(x:Z8):Prop:=(SzL 8 (fun _=>True)) x.Objects/\Za1 x.Filter/\(SzL 176 Zax) x.Mods
abbrev Zab(x:Zk):Prop:=Zl x.S/\(SzL 176 Zw) x.All/\(SzL 224 Zau) x.L/\(SzL 1 (fun _=>True)) x.Begun/\(SzL 24 (SzL 8 (fun _=>True))) x.Sets/\(SzL 1 (fun _=>True)) x.Blank
theorem Zaou{a0:Int}:Tot (Zakp a0) (fun r=>True):=by
 apply tZ;dsimp only [Zafl,LT.den];exact tl20
def Zabu:Zlr->Prop
 | .L0 v0 v3=>(SzT v0)/\(0<=v3)
 | .L1 v0 v3=>(SzT v0)/\(0<=v3)/\(v3 < (v0.length:Int))/\(0<=v3)/\(v3 < v0.length)
def Zyd:Zlr->M6
 | .L0 v0 v3=>(1,((v0.length:Int) - v3).toNat,1000000,0,0,0)
 | .L1 v0 v3=>(1,((v0.length:Int) - v3).toNat,0,0,0,0)
theorem Zad0{v0:List UInt8}{v3:Int}(h:Zabu (.L1 v0 v3)):Tot (Zj1 v0 v3).den (Nx Zabu Zyd (1,((v0.length:Int) - v3).toNat,0,0,0,0) (fun r=>True)):=by
 obtain⟨ov0,cv3,bd2,i0,i1⟩:=h;have lb_v0:v0.length<=562949953421312:=ov0;dsimp only [Zj1,LT.den];apply tD<;>intro h1
 .refine Tot.ix fun x1 h2=>?_;apply tE<;>intro h3
  .have q1:=wr (v3 - 1);refine Tot.ix fun x2 h4=>?_;apply tE<;>intro h5
   .exact tR trivial
   have q2:=wr (v3+1);exact tl16
  exact tl48
 exact tl48
theorem Zabv{a0:List UInt8}(oa0:SzT a0):Tot (Zaso a0) (fun r=>True):=by
 apply Tot.rn Zabu Zyd
 .have lb_a0:a0.length<=562949953421312:=oa0;dsimp only [Zaph,LT.den];apply tD<;>intro h1
  .exact tR trivial
  apply tD<;>intro h2
  .exact tR trivial
  refine Tot.ix fun x1 h3=>tB (Zaou) fun x2 h4=>?_;apply tO<;>intro h5
  .exact tR trivial
  have q1:=wr ((a0.length:Int) - 1);refine Tot.ix fun x3 h6=>?_;apply tE<;>intro h7
  .exact tR trivial
  exact tL ⟨oa0,cl⟩ (by unfold Zyd lt6;dsimp only;omega)
 intro s hs;cases s with
 | L0 v0 v3=>
  obtain⟨ov0,cv3⟩:=hs;dsimp only [Zvg,Zr8,LT.den,Zyd];apply tD<;>intro h1
  .refine Tot.ix fun x1 h2=>tB (Zaou) fun x2 h3=>?_;apply tO<;>intro h4
   .refine Tot.ix fun x3 h5=>?_;apply tD<;>intro h6
    .refine Tot.ix fun x4 h7=>?_;apply tN<;>intro h8
     .exact tR trivial
     exact tl6
    refine Tot.ix fun x4 h7=>?_;apply tD<;>intro h8
    .refine Tot.ix fun x5 h9=>?_;apply tN<;>intro h10
     .exact tR trivial
     exact tl6
    exact tl6
   exact tl6
  exact tR trivial
 | L1 _ _=>exact Zad0 hs
def Zzg(n m:Int):Bool:=decide (n>=0)&&decide (n<=m)
def Zai8(c:Z2):Bool:=Zzg c.Generic 99&&(Zzg c.X 2&&c.Color.list.all fun n=>Zzg n 9)
theorem Zbgl(c:Z2):Z7k c=some (Zai8 c):=by
 unfold Z7k LF.run;dsimp only [Zapi,LT.den]
 have hl:Zdf Zj9.step (.L0 c 0)=some (c.Color.list.all fun n=>Zzg n 9):=by
  have:=Z1e (st:=fun i=>Zls.L0 c (i:Int)) (step:=Zj9.step) (bad:=false) c.Color.list (fun n=>Zzg n 9) (fun i x hx=>by
   have hi:=(List.getElem?_eq_some_iff.1 hx).1
   have hi:i < 5:=hi
   show (Zoa _ _).den=_
   dsimp only [Zoa,LT.den]
   rw [decide_eq_true (by omega),Zj0 hx,Zgn (by omega) (by omega)]
   simp only [cond_true,Option.bind_some]
   unfold Zzg
   by_cases h1:x < 0
   .rw [decide_eq_true h1,decide_eq_false (show ¬ x>=0 by omega)];rfl
   .rw [decide_eq_false h1,decide_eq_true (show x>=0 by omega)]
    by_cases h2:x > 9
    .rw [decide_eq_true h2,decide_eq_false (show ¬ x<=9 by omega)];rfl
    .rw [decide_eq_false h2,decide_eq_true (show x<=9 by omega)];rfl)
  rw [show (Zls.L0 c 0) = .L0 c ((0:Nat):Int) from rfl,this]
  have he:Zdf Zj9.step (.L0 c ((c.Color.list.length:Nat):Int))=some true:=by
   refine Zd9 ?_
   show (Zoa c 5).den=_
   rfl
  rw [he]
  cases c.Color.list.all fun n=>Zzg n 9<;>rfl
 refine (Zb6 fun _=>Zb6 fun _=>Zb6 fun _=>Zb6 fun _=>(show Option.bind (some (Sum.inl (Zls.L0 c 0))) (Zgm Zj9.step)=some (c.Color.list.all fun n=>Zzg n 9) from hl)).trans ?_;congr 1
 unfold Zai8 Zzg;rw [Bool.eq_iff_iff];simp only [Bool.and_eq_true,Bool.not_eq_true',decide_eq_false_iff_not,decide_eq_true_eq,ge_iff_le,gt_iff_lt,Int.not_lt];constructor
 .rintro ⟨h1,h2,h3,h4,h5⟩;exact⟨⟨h1,h2⟩,⟨h3,h4⟩,h5⟩
 .rintro ⟨⟨h1,h2⟩,⟨h3,h4⟩,h5⟩;exact⟨h1,h2,h3,h4,h5⟩
theorem Z0v(a0:Z2):Tot (Z7k a0) (fun r=>(r=true->a0.X<=2)/\(r=true->∀ n,n∈A5.list a0.Color->n<=9)/\(r=Zzc a0)):=by
 refine⟨_,Zbgl a0,fun h=>?_,fun h n hn=>?_,?_⟩
 .simp only [Zai8,Zzg,Bool.and_eq_true,decide_eq_true_eq] at h;exact h.2.1.2
 .simp only [Zai8,Zzg,Bool.and_eq_true,decide_eq_true_eq,List.all_eq_true] at h;exact (h.2.2 n hn).2
 .unfold Zai8 Zzg Zzc;rw [Bool.eq_iff_iff];simp only [Bool.and_eq_true,decide_eq_true_eq,List.all_eq_true,ge_iff_le];exact⟨fun⟨⟨h1,h2⟩,⟨h3,h4⟩,h5⟩=>⟨h1,h2,h3,h4,h5⟩,fun⟨h1,h2,h3,h4,h5⟩=>⟨⟨h1,h2⟩,⟨h3,h4⟩,h5⟩⟩
theorem Zai9:Tot (Zpd) (fun r=>((SzL 16 SzN) r)/\(r.length=2)):=by
 apply tZ;dsimp only [Z1g,LT.den];have q1:(SzL 16 SzN) ([([98,97,115,105,99]:List UInt8),([117,110,105,113,117,101]:List UInt8)]:List (List UInt8)):=⟨by simp only [List.length_cons,List.length_nil];omega,mem_cons' Zbk (mem_cons' Zbk (fun _ h=>by cases h))⟩;have lq1:([([98,97,115,105,99]:List UInt8),([117,110,105,113,117,101]:List UInt8)]:List (List UInt8)).length=2:=rfl;exact tR ⟨q1,cl⟩
def Za24:Zp7->Prop
 | .L0 v0 v1 v5=>((SzL 16 SzT) v0)/\(SzT v1)/\(0<=v5)
def Z2t:Zp7->M6
 | .L0 v0 v1 v5=>(1,((v0.length:Int) - v5).toNat,1000000,0,0,0)
theorem Zzh{a0:List (List UInt8)}{a1:List UInt8}(oa0:(SzL 16 SzT) a0)(oa1:SzT a1):Tot (Z31 a0 a1) (fun r=>True):=by
 apply Tot.rn Za24 Z2t
 .dsimp only [Z5z,LT.den];exact tL ⟨oa0,oa1,cl⟩ (by unfold Z2t lt6;dsimp only;omega)
 rintro ⟨v0,v1,v5⟩ ⟨ov0,ov1,cv5⟩;have lb_v0:=ov0.1;dsimp only [Zwo,Zkn,LT.den];apply tD<;>intro h1
 .refine Tot.ix fun x1 h2=>?_;apply tF<;>intro h3
  .exact tR trivial
  have q1:=wr (v5+1);exact tL ⟨ov0,ov1,cl⟩ (by unfold Z2t lt6;dsimp only;omega)
 exact tR trivial
theorem Z0j:Tot (Zq3) (fun r=>((SzL 16 SzN) r)/\(r.length=6)):=by
 apply tZ;dsimp only [Z32,LT.den];have q1:(SzL 16 SzN) ([([99,114,101,97,116,117,114,101]:List UInt8),([105,110,115,116,97,110,116]:List UInt8),([114,105,116,117,97,108]:List UInt8),([114,101,108,105,99]:List UInt8),([99,104,97,114,109]:List UInt8),([108,97,110,100]:List UInt8)]:List (List UInt8)):=⟨by simp only [List.length_cons,List.length_nil];omega,mem_cons' Zbk (mem_cons' Zbk (mem_cons' Zbk (mem_cons' Zbk (mem_cons' Zbk (mem_cons' Zbk (fun _ h=>by cases h))))))⟩;have lq1:([([99,114,101,97,116,117,114,101]:List UInt8),([105,110,115,116,97,110,116]:List UInt8),([114,105,116,117,97,108]:List UInt8),([114,101,108,105,99]:List UInt8),([99,104,97,114,109]:List UInt8),([108,97,110,100]:List UInt8)]:List (List UInt8)).length=6:=rfl;exact tR ⟨q1,cl⟩
theorem Zra{a0:List UInt8}(oa0:SzT a0):Tot (Z34 a0) (fun r=>True):=by
 apply tZ;dsimp only [Z50,LT.den];refine tB (Zabv oa0) fun x1 h1=>?_;apply tF<;>intro h2
 .refine tB (Zai9) fun x2 h3=>tB (Zzh (SzL.nt h3.1) oa0) fun x3 h4=>?_;apply tD<;>intro h5
  .exact tB (Z0j) fun x4 h6=>tB (Zzh (SzL.nt h6.1) oa0) fun x5 h7=>tR trivial
  exact tR trivial
 exact tR trivial
def Zbbx:Zxa->Prop
 | .L0 v0 v1 v5=>(0<=v5)/\(v1<=100)
def Zav7:Zxa->M6
 | .L0 v0 v1 v5=>(1,(v1 - v5).toNat,1000000,0,0,0)
theorem Z60{a0:Int}{a1:Int}(h0:a1<=100):Tot (Zbcx a0 a1) (fun r=>True):=by
 apply Tot.rn Zbbx Zav7
 .dsimp only [Za0h,LT.den];exact tl17
 rintro ⟨v0,v1,v5⟩ ⟨cv5,i0⟩;dsimp only [Zafo,Zasp,LT.den];apply tD<;>intro h1
 .have q1:=wr (v5+1);exact tl17
 exact tR trivial
def Zbgm:Z1k->Prop
 | .L0 E0 v3=>(Zer E0)/\(0<=v3)
def Zaja:Z1k->M6
 | .L0 E0 v3=>(1,((E0.Subs.length:Int) - v3).toNat,1000000,0,0,0)
theorem Zbgn{a0:Zaf}(oa0:Zer a0):Tot (Zbia a0) (fun r=>True):=by
 apply Tot.rn Zbgm Zaja
 .dsimp only [Za6e,LT.den];apply tD<;>intro h1
  .exact tR trivial
  apply tD<;>intro h2
  .exact tR trivial
  apply tD<;>intro h3
  .exact tR trivial
  apply tD<;>intro h4
  .exact tR trivial
  apply tD<;>intro h5
  .exact tR trivial
  exact tL ⟨oa0,cl⟩ (by unfold Zaja lt6;dsimp only;omega)
 rintro ⟨E0,v3⟩ ⟨O0,cv3⟩;dsimp only [Zapj,Za0i,LT.den];have q1:=O0.1;apply tD<;>intro h1
 .refine Tot.ix fun x1 h2=>?_;have oh2:SzT x1:=O0.2 x1 h2.1;refine tB (Zra oh2) fun x2 h3=>?_;apply tO<;>intro h4
  .exact tR trivial
  apply tD<;>intro h5
  .have q2:=wr (v3 - 1);refine Tot.ix fun x3 h6=>?_;apply tO<;>intro h7
   .exact tR trivial
   have q3:=wr (v3+1);exact tl35
  have q2:=wr (v3+1);exact tl35
 apply tE<;>intro h2
 .exact tR trivial
 apply tE<;>intro h3
 .exact tR trivial
 refine tB (Z60 cl) fun x1 h4=>?_;apply tO<;>intro h5
 .exact tB (Z60 cl) fun x2 h6=>tR trivial
 exact tR trivial
theorem Zav8{a0:Int}:Tot (Zbic a0) (fun r=>True):=by
 apply tZ;dsimp only [Za6f,LT.den];exact tl20
theorem Zaqe{a0:Zg}(oa0:Z1 a0):Tot (Zafp a0) (fun r=>True):=by
 apply tZ;dsimp only [Z7l,LT.den];exact tR trivial
def Za25:Zp8->Prop
 | .L0 v0 v1 v7=>(0<=v7)/\True
def Zajb:Zp8->M6
 | .L0 v0 v1 v7=>(1,(6 - v7).toNat,1000000,0,0,0)
theorem Zad1{a0:Int}{a1:Int}{a2:Int}:Tot (Z35 a0 a1 a2) (fun r=>True):=by
 apply Tot.rn Za25 Zajb
 .dsimp only [Z51,LT.den];apply tD<;>intro h1
  .exact tR trivial
  apply tD<;>intro h2
  .exact tR trivial
  apply tD<;>intro h3
  .exact tR trivial
  apply tD<;>intro h4
  .exact tR trivial
  exact tl34
 rintro ⟨v0,v1,v7⟩ ⟨cv7,_⟩;dsimp only [Zm5,Zko,LT.den];apply tD<;>intro h1
 .apply tE<;>intro h2
  .apply tE<;>intro h3
   .exact tR trivial
   exact tl59
  exact tl59
 exact tR trivial
theorem Zzi{a0:Zj}:Tot (Z36 a0) (fun r=>(r=true->0<=a0.Kind/\a0.Kind<=3)):=by
 apply tZ;dsimp only [Z52,LT.den];apply tD<;>intro h1
 .exact tl2
 apply tD<;>intro h2
 .exact tl2
 apply tD<;>intro h3
 .exact tl2
 apply tD<;>intro h4
 .exact tl2
 apply tN<;>intro h5
 .exact tl14
 exact tl14
abbrev Zaov(a0:Zm)(r:Bool):Prop:=(r=true->0<=a0.Zone/\a0.Zone<=5/\0<=a0.Who/\a0.Who<=2/\0<=a0.Self/\a0.Self<=2/\0<=a0.Tap/\a0.Tap<=2/\0<=a0.Power.Kind/\a0.Power.Kind<=3/\0<=a0.Tough.Kind/\a0.Tough.Kind<=3/\0<=a0.Value.Kind/\a0.Value.Kind<=3)
def Zabw(a0:Zm):Z1m->Prop
 | .L0 E0=>(E0=a0)/\(Za1 E0)/\(0<=E0.Zone/\E0.Zone<=5/\0<=E0.Who/\E0.Who<=2/\0<=E0.Self/\E0.Self<=2/\0<=E0.Tap/\E0.Tap<=2)
def Za2f:Z1m->M6
 | .L0 E0=>(0,0,0,0,0,0)
theorem Zzj{a0:Zm}{E0:Zm}(h:(Zabw a0) (.L0 E0)):Tot (Zob E0).den (Nx (Zabw a0) Za2f (0,0,0,0,0,0) (Zaov a0)):=by
 obtain⟨al0,O0,i0⟩:=h;subst al0;dsimp only [Zob,LT.den];refine tB (Zzi) fun x1 h1=>?_;have eh1_0:=h1;apply tF<;>intro h2
 .have h2_0:=eh1_0 h2;refine tB (Zzi) fun x2 h3=>?_;have eh3_0:=h3;apply tF<;>intro h4
  .have h4_0:=eh3_0 h4;refine tB (Zzi) fun x3 h5=>?_;have eh5_0:=h5;exact tR (by intro hr;have:=eh5_0 hr;first | omega | (cases hr;done))
  exact tl2
 exact tl2
theorem Zbby{a0:Zm}(oa0:Za1 a0):Tot (Zafr a0) (Zaov a0):=by
 apply Tot.rn (Zabw a0) Za2f
 .dsimp only [Zapk,LT.den];apply tD<;>intro h1
  .exact tl2
  apply tD<;>intro h2
  .exact tl2
  apply tD<;>intro h3
  .exact tl2
  apply tD<;>intro h4
  .exact tl2
  apply tD<;>intro h5
  .exact tl2
  apply tD<;>intro h6
  .exact tl2
  apply tD<;>intro h7
  .exact tl2
  apply tD<;>intro h8
  .exact tl2
  refine tB (Zad1) fun x1 h9=>?_;apply tO<;>intro h10
  .exact tl2
  refine tB (Zad1) fun x2 h11=>?_;apply tO<;>intro h12
  .exact tl2
  apply tO<;>intro h13
  .refine tB (Zra (SzS.t oa0)) fun x3 h14=>?_;apply tO<;>intro h15
   .exact tl2
   apply tD<;>intro h16
   .exact tl2
   apply tD<;>intro h17
   .exact tl2
   exact tJ (Zzj ⟨rfl,oa0,cl⟩)
  apply tD<;>intro h14
  .exact tl2
  apply tD<;>intro h15
  .exact tl2
  exact tJ (Zzj ⟨rfl,oa0,cl⟩)
 intro s hs;cases s with
 | L0 _=>exact Zzj hs
theorem Ziv{a0:Zm}(oa0:Za1 a0):Tot (Zafr a0) (fun r=>(r=true->0<=a0.Zone/\a0.Zone<=5/\0<=a0.Who/\a0.Who<=2/\0<=a0.Self/\a0.Self<=2/\0<=a0.Tap/\a0.Tap<=2/\0<=a0.Power.Kind/\a0.Power.Kind<=3/\0<=a0.Tough.Kind/\a0.Tough.Kind<=3/\0<=a0.Value.Kind/\a0.Value.Kind<=3)/\(r=filV a0)):=(Tot.we (Zbby oa0)).mono fun r h=>⟨h.1,Option.some.inj (h.2.symm.trans (Za2a a0))⟩
def Zo4:Zpe->Prop
 | .L0 E0 E1 v7 v8=>(Zax E0)/\(Zax E1)
 | .L1 E0 E1 v7 v16=>(Zax E0)/\(Zax E1)
def Z61:Zpe->M6
 | .L0 E0 E1 v7 v8=>(0,0,0,0,0,0)
 | .L1 E0 E1 v7 v16=>(0,0,0,0,0,0)
theorem Z5e{E0:Zv}{E1:Zv}{v7:Int}{v16:Bool}(h:Zo4 (.L1 E0 E1 v7 v16)):Tot (Zp9 E0 E1 v7 v16).den (Nx Zo4 Z61 (0,0,0,0,0,0) (fun r=>(Zax r))):=by
 obtain⟨O0,O1⟩:=h;dsimp only [Zp9,LT.den];apply tF<;>intro h1
 .exact tR ⟨SzS.nil,O0.2⟩
 apply tE<;>intro h2
 .exact tR ⟨O0.1,SzS.nil⟩
 apply tE<;>intro h3
 .exact tl9
 apply tE<;>intro h4
 .exact tl9
 exact tR O0
theorem Z5f{E0:Zv}{E1:Zv}{v7:Int}{v8:Bool}(h:Zo4 (.L0 E0 E1 v7 v8)):Tot (Zhp E0 E1 v7 v8).den (Nx Zo4 Z61 (0,0,0,0,0,0) (fun r=>(Zax r))):=by
 obtain⟨O0,O1⟩:=h;dsimp only [Zhp,LT.den];apply tF<;>intro h1
 .exact tl9
 apply tE<;>intro h2
 .exact tl13
 exact tl13
theorem Za9o{a0:Zv}(oa0:Zax a0):Tot (Za6h a0) (fun r=>(Zax r)):=by
 apply Tot.rn Zo4 Z61
 .dsimp only [Zasr,LT.den];apply tE<;>intro h1
  .exact tl40
  apply tE<;>intro h2
  .exact tl40
  apply tE<;>intro h3
  .exact tl40
  apply tE<;>intro h4
  .exact tl40
  apply tE<;>intro h5
  .exact tl40
  exact tl40
 intro s hs;cases s with
 | L0 _ _ _ _=>exact Z5f hs
 | L1 _ _ _ _=>exact Z5e hs
theorem Za26{a0:Int}:Tot (Za0k a0) (fun r=>True):=by
 apply tZ;dsimp only [Zalr,LT.den];apply tD<;>intro h1
 .exact tl21
 exact tR trivial
def Z0w:Zrm->Prop
 | .L0 E0 v18 v19=>(Zax E0)/\True
 | .L1 E0 v18 v25=>(Zax E0)/\True
 | .L2 E0 v18 v51=>(Zax E0)/\True
def Z5g:Zrm->M6
 | .L0 E0 v18 v19=>(0,0,0,0,0,0)
 | .L1 E0 v18 v25=>(0,0,0,0,0,0)
 | .L2 E0 v18 v51=>(0,0,0,0,0,0)
theorem Zzk{E0:Zv}{v18:Int}{v51:Bool}(h:(Zax E0)/\True):Tot (Zxb E0 v18 v51).den (Nx Z0w Z5g (0,0,0,0,0,0) (fun r=>True)):=by
 obtain⟨O0,_⟩:=h;dsimp only [Zxb,LT.den];apply tF<;>intro h1
 .exact tl21
 apply tE<;>intro h2
 .exact tB (Ziv O0.2) fun x1 h3=>tR trivial
 apply tE<;>intro h3
 .apply tD<;>intro h4
  .apply tD<;>intro h5
   .apply tD<;>intro h6
    .exact tR trivial
    exact tR trivial
   exact tR trivial
  exact tR trivial
 apply tE<;>intro h4
 .apply tD<;>intro h5
  .apply tD<;>intro h6
   .apply tD<;>intro h7
    .exact tR trivial
    exact tR trivial
   exact tR trivial
  exact tR trivial
 exact tR trivial
theorem Zzl{E0:Zv}{v18:Int}{v25:Bool}(h:(Zax E0)/\True):Tot (Zxc E0 v18 v25).den (Nx Z0w Z5g (0,0,0,0,0,0) (fun r=>True)):=by
 obtain⟨O0,_⟩:=h;dsimp only [Zxc,LT.den];apply tF<;>intro h1
 .exact tB (Zra (SzS.t O0.1)) fun x1 h2=>tR trivial
 apply tE<;>intro h2
 .apply tD<;>intro h3
  .exact tR trivial
  exact tR trivial
 apply tE<;>intro h3
 .exact tl25
 apply tE<;>intro h4
 .exact tJ (Zzk ⟨O0,trivial⟩)
 exact tJ (Zzk ⟨O0,trivial⟩)
theorem Zzm{E0:Zv}{v18:Int}{v19:Bool}(h:(Zax E0)/\True):Tot (Zxd E0 v18 v19).den (Nx Z0w Z5g (0,0,0,0,0,0) (fun r=>True)):=by
 obtain⟨O0,_⟩:=h;dsimp only [Zxd,LT.den];apply tF<;>intro h1
 .exact tB (Za26) fun x1 h2=>tR trivial
 apply tE<;>intro h2
 .exact tJ (Zzl ⟨O0,trivial⟩)
 exact tJ (Zzl ⟨O0,trivial⟩)
theorem Zabx{a0:Zv}(oa0:Zax a0):Tot (Zbid a0) (fun r=>True):=by
 apply Tot.rn Z0w Z5g
 .dsimp only [Za6j,LT.den];apply tD<;>intro h1
  .exact tR trivial
  apply tD<;>intro h2
  .exact tR trivial
  refine tB (Za9o oa0) fun x1 h3=>?_;apply tO<;>intro h4
  .exact tR trivial
  apply tE<;>intro h5
  .exact tJ (Zzm ⟨oa0,trivial⟩)
  exact tJ (Zzm ⟨oa0,trivial⟩)
 intro s hs;cases s with
 | L0 _ _ _=>exact Zzm hs
 | L1 _ _ _=>exact Zzl hs
 | L2 _ _ _=>exact Zzk hs
def Zazg:Zoc->Prop
 | .L0 v0 v1 v2 v7 v8=>((SzL 16 SzN) v0)/\(SzN v2)/\(0<=v8)/\(v7.length<=200*v8.toNat)/\(v0.length<=100)/\(v8<=v0.length)
def Zzn:Zoc->M6
 | .L0 v0 v1 v2 v7 v8=>(1,((v0.length:Int) - v8).toNat,1000000,0,0,0)
theorem Zazh{a0:List (List UInt8)}{a1:Int}{a2:List UInt8}(oa0:(SzL 16 SzN) a0)(oa2:SzN a2)(h0:a0.length<=100):Tot (Zast a0 a1 a2) (fun r=>(SzT r)/\(r.length<=20000)):=by
 apply Tot.rn Zazg Zzn
 .dsimp only [Zaft,LT.den];exact tL ⟨oa0,oa2,cs⟩ (by unfold Zzn lt6;dsimp only;omega)
 rintro ⟨v0,v1,v2,v7,v8⟩ ⟨ov0,ov2,cv8,i0,i1,i2⟩;have lb_v2:v2.length<=100:=ov2;dsimp only [Z1n,Zace,LT.den];apply tD<;>intro h1
 .refine tB (Z60 cl) fun x1 h2=>?_;apply tF<;>intro h3
  .apply tO<;>intro h4
   .refine tB (tK Zd0) fun x2 h5=>Tot.ix fun x3 h6=>?_;have oh6:SzN x3:=ov0.2 x3 h6.1;have q1:x3.length<=100:=oh6;refine tB (tK Zd0) fun x4 h7=>?_;exact tl64
   refine Tot.ix fun x2 h5=>?_;have oh5:SzN x2:=ov0.2 x2 h5.1;have q1:x2.length<=100:=oh5;refine tB (tK Zd0) fun x3 h6=>?_;exact tl64
  have q1:=wr (v8+1);exact tl37
 exact tR ⟨tk65,cl⟩
theorem Zp2{a0:Int}:Tot (Zacf a0) (fun r=>(SzT r)/\(r.length<=20000)):=by
 apply tZ;dsimp only [Z37,LT.den];apply tD<;>intro h1
 .exact tR ⟨SzT.nil,cl⟩
 apply tD<;>intro h2
 .exact tR ⟨SzT.nil,cl⟩
 refine tB (Z0j) fun x1 h3=>tB (Zazh h3.1 Zbk cl) fun x2 h4=>?_;have eh4_1:=h4.2;exact tR ⟨h4.1,cl⟩
theorem Zbgo{a0:Int}:Tot (Zbie a0) (fun r=>True):=by
 apply tZ;dsimp only [Za6l,LT.den];exact tl20
theorem Zuf{a0:Int}:Tot (Za6n a0) (fun r=>(SzN r)):=by
 apply tZ;dsimp only [Zasu,LT.den];apply tE<;>intro h1
 .exact Zgt
 apply tE<;>intro h2
 .exact Zgt
 apply tE<;>intro h3
 .exact Zgt
 apply tE<;>intro h4
 .exact Zgt
 apply tE<;>intro h5
 .exact Zgt
 exact tR (SzN.nil)
def Za9p:Zs7->Prop
 | .L0 v0 v3 v4=>(0<=v4)/\(v3.length<=200*v4.toNat)/\(v4<=5)
def Zaow:Zs7->M6
 | .L0 v0 v3 v4=>(1,(5 - v4).toNat,1000000,0,0,0)
theorem Zajc{a0:Int}:Tot (Za6o a0) (fun r=>(SzT r)):=by
 apply Tot.rn Za9p Zaow
 .dsimp only [Zasw,LT.den];refine tB (Zbgo) fun x1 h1=>?_;apply tO<;>intro h2
  .exact tR (SzT.nil)
  apply tE<;>intro h3
  .exact tl77
  exact tl28
 rintro ⟨v0,v3,v4⟩ ⟨cv4,i0,i1⟩;dsimp only [Zaar,Zalt,LT.den];apply tD<;>intro h1
 .refine tB (tK tk90) fun x1 h2=>tB (tK tk90) fun x2 h3=>?_;apply tE<;>intro h4
  .apply tO<;>intro h5
   .refine tB (tK Zd0) fun x3 h6=>tB (Zuf) fun x4 h7=>?_;have q1:x4.length<=100:=h7;refine tB (tK Zd0) fun x5 h8=>?_;exact tl51
   refine tB (Zuf) fun x3 h6=>?_;have q1:x3.length<=100:=h6;refine tB (tK Zd0) fun x4 h7=>?_;exact tl51
  have q1:=wr (v4+1);exact tl28
 exact tl77
theorem Za27:Tot (Zafu) (fun r=>((SzL 16 SzN) r)/\(r.length=17)):=by
 apply tZ;dsimp only [Zalv,LT.den];have q1:(SzL 16 SzN) ([([102,108,121,105,110,103]:List UInt8),([114,101,97,99,104]:List UInt8),([104,97,115,116,101]:List UInt8),([118,105,103,105,108,97,110,116]:List UInt8),([116,114,97,109,112,108,101]:List UInt8),([102,105,114,115,116,45,115,116,114,105,107,101]:List UInt8),([100,111,117,98,108,101,45,115,116,114,105,107,101]:List UInt8),([100,101,97,100,108,121]:List UInt8),([108,105,102,101,108,105,110,107]:List UInt8),([109,101,110,97,99,101]:List UInt8),([100,101,102,101,110,100,101,114]:List UInt8),([119,97,114,100,101,100]:List UInt8),([115,116,117,114,100,121]:List UInt8),([101,108,117,115,105,118,101]:List UInt8),([110,111,45,97,116,116,97,99,107]:List UInt8),([110,111,45,98,108,111,99,107]:List UInt8),([109,117,115,116,45,97,116,116,97,99,107]:List UInt8)]:List (List UInt8)):=⟨by simp only [List.length_cons,List.length_nil];omega,mem_cons' Zbk (mem_cons' Zbk (mem_cons' Zbk (mem_cons' Zbk (mem_cons' Zbk (mem_cons' Zbk (mem_cons' Zbk (mem_cons' Zbk (mem_cons' Zbk (mem_cons' Zbk (mem_cons' Zbk (mem_cons' Zbk (mem_cons' Zbk (mem_cons' Zbk (mem_cons' Zbk (mem_cons' Zbk (mem_cons' Zbk (fun _ h=>by cases h)))))))))))))))))⟩;have lq1:([([102,108,121,105,110,103]:List UInt8),([114,101,97,99,104]:List UInt8),([104,97,115,116,101]:List UInt8),([118,105,103,105,108,97,110,116]:List UInt8),([116,114,97,109,112,108,101]:List UInt8),([102,105,114,115,116,45,115,116,114,105,107,101]:List UInt8),([100,111,117,98,108,101,45,115,116,114,105,107,101]:List UInt8),([100,101,97,100,108,121]:List UInt8),([108,105,102,101,108,105,110,107]:List UInt8),([109,101,110,97,99,101]:List UInt8),([100,101,102,101,110,100,101,114]:List UInt8),([119,97,114,100,101,100]:List UInt8),([115,116,117,114,100,121]:List UInt8),([101,108,117,115,105,118,101]:List UInt8),([110,111,45,97,116,116,97,99,107]:List UInt8),([110,111,45,98,108,111,99,107]:List UInt8),([109,117,115,116,45,97,116,116,97,99,107]:List UInt8)]:List (List UInt8)).length=17:=rfl;exact tR ⟨q1,cl⟩
theorem Z2u{a0:Int}:Tot (Za6q a0) (fun r=>(SzN r)):=by
 apply tZ;dsimp only [Zasx,LT.den];apply tD<;>intro h1
 .exact tR (SzN.nil)
 apply tD<;>intro h2
 .exact tR (SzN.nil)
 refine tB (Za27) fun x1 h3=>Tot.ix fun x2 h4=>?_;have oh4:SzN x2:=h3.1.2 x2 h4.1;exact tR oh4
def Za9q:Zs8->Prop
 | .L0 v0 v3 v4=>(0<=v4)/\(v3.length<=200*v4.toNat)/\(v4<=17)
def Zaox:Zs8->M6
 | .L0 v0 v3 v4=>(1,(17 - v4).toNat,1000000,0,0,0)
theorem Zajd{a0:Int}:Tot (Za6r a0) (fun r=>(SzT r)):=by
 apply Tot.rn Za9q Zaox
 .dsimp only [Zasz,LT.den];refine tB (Zav8) fun x1 h1=>?_;apply tO<;>intro h2
  .exact tR (SzT.nil)
  exact tl26
 rintro ⟨v0,v3,v4⟩ ⟨cv4,i0,i1⟩;dsimp only [Zaas,Zalx,LT.den];apply tD<;>intro h1
 .apply tE<;>intro h2
  .apply tO<;>intro h3
   .refine tB (tK Zd0) fun x1 h4=>tB (Z2u) fun x2 h5=>?_;have q1:x2.length<=100:=h5;refine tB (tK Zd0) fun x3 h6=>?_;exact tl50
   refine tB (Z2u) fun x1 h4=>?_;have q1:x1.length<=100:=h4;refine tB (tK Zd0) fun x2 h5=>?_;exact tl50
  have q1:=wr (v4+1);exact tl26
 exact Zbob
theorem Zalb:Tot (Zyo) (fun r=>((SzL 16 SzN) r)/\(r.length=6)):=by
 apply tZ;dsimp only [Z39,LT.den];have q1:(SzL 16 SzN) ([([]:List UInt8),([105,110,45,104,97,110,100]:List UInt8),([105,110,45,108,105,98,114,97,114,121]:List UInt8),([105,110,45,103,114,97,118,101,121,97,114,100]:List UInt8),([105,110,45,101,120,105,108,101]:List UInt8),([111,110,45,115,116,97,99,107]:List UInt8)]:List (List UInt8)):=⟨by simp only [List.length_cons,List.length_nil];omega,mem_cons' (SzN.nil) (mem_cons' Zbk (mem_cons' Zbk (mem_cons' Zbk (mem_cons' Zbk (mem_cons' Zbk (fun _ h=>by cases h))))))⟩;have lq1:([([]:List UInt8),([105,110,45,104,97,110,100]:List UInt8),([105,110,45,108,105,98,114,97,114,121]:List UInt8),([105,110,45,103,114,97,118,101,121,97,114,100]:List UInt8),([105,110,45,101,120,105,108,101]:List UInt8),([111,110,45,115,116,97,99,107]:List UInt8)]:List (List UInt8)).length=6:=rfl;exact tR ⟨q1,cl⟩
theorem Zaqf:Tot (Z1o) (fun r=>((SzL 16 SzN) r)/\(r.length=3)):=by
 apply tZ;dsimp only [Z7n,LT.den];have q1:(SzL 16 SzN) ([([]:List UInt8),([121,111,117,114,115]:List UInt8),([116,104,101,105,114,115]:List UInt8)]:List (List UInt8)):=⟨by simp only [List.length_cons,List.length_nil];omega,mem_cons' (SzN.nil) (mem_cons' Zbk (mem_cons' Zbk (fun _ h=>by cases h)))⟩;have lq1:([([]:List UInt8),([121,111,117,114,115]:List UInt8),([116,104,101,105,114,115]:List UInt8)]:List (List UInt8)).length=3:=rfl;exact tR ⟨q1,cl⟩
theorem Zalc:Tot (Zyp) (fun r=>((SzL 16 SzN) r)/\(r.length=3)):=by
 apply tZ;dsimp only [Z4b,LT.den];have q1:(SzL 16 SzN) ([([]:List UInt8),([115,101,108,102]:List UInt8),([111,116,104,101,114]:List UInt8)]:List (List UInt8)):=⟨by simp only [List.length_cons,List.length_nil];omega,mem_cons' (SzN.nil) (mem_cons' Zbk (mem_cons' Zbk (fun _ h=>by cases h)))⟩;have lq1:([([]:List UInt8),([115,101,108,102]:List UInt8),([111,116,104,101,114]:List UInt8)]:List (List UInt8)).length=3:=rfl;exact tR ⟨q1,cl⟩
theorem Zaqg:Tot (Z1p) (fun r=>((SzL 16 SzN) r)/\(r.length=3)):=by
 apply tZ;dsimp only [Z7p,LT.den];have q1:(SzL 16 SzN) ([([]:List UInt8),([116,97,112,112,101,100]:List UInt8),([117,110,116,97,112,112,101,100]:List UInt8)]:List (List UInt8)):=⟨by simp only [List.length_cons,List.length_nil];omega,mem_cons' (SzN.nil) (mem_cons' Zbk (mem_cons' Zbk (fun _ h=>by cases h)))⟩;have lq1:([([]:List UInt8),([116,97,112,112,101,100]:List UInt8),([117,110,116,97,112,112,101,100]:List UInt8)]:List (List UInt8)).length=3:=rfl;exact tR ⟨q1,cl⟩
def Zbbz:Zxe->Prop
 | .L0 v0 v1 v5=>(0<=v5)/\(v1<=100)
def Zav9:Zxe->M6
 | .L0 v0 v1 v5=>(1,(v1 - v5).toNat,1000000,0,0,0)
theorem Zqw{a0:Int}{a1:Int}(h0:a1<=100):Tot (Zbcy a0 a1) (fun r=>True):=by
 apply Tot.rn Zbbz Zav9
 .dsimp only [Za0l,LT.den];exact tl18
 rintro ⟨v0,v1,v5⟩ ⟨cv5,i0⟩;dsimp only [Zafv,Zas2,LT.den];apply tD<;>intro h1
 .have q1:=wr (v5+1);exact tl18
 exact tR trivial
def Zaqh:Zkp->Prop
 | .L0 v0 v3 v4=>(0<=v4)/\(v0<=100)
def Z5h:Zkp->M6
 | .L0 v0 v3 v4=>(1,(v0 - v4).toNat,1000000,0,0,0)
theorem Z2v{a0:Int}(h0:a0<=100):Tot (Zafw a0) (fun r=>(SzT r)/\(r.length<=20000)):=by
 apply Tot.rn Zaqh Z5h
 .dsimp only [Z7r,LT.den];exact tl31
 rintro ⟨v0,v3,v4⟩ ⟨cv4,i0⟩;dsimp only [Zvh,Z4d,LT.den];apply tD<;>intro h1
 .have q1:=wr (v4+1);exact tl31
 refine tB (Zp2) fun x1 h2=>?_;have eh2_1:=h2.2;exact tR ⟨h2.1,cl⟩
theorem Za28:Tot (Zafx) (fun r=>((SzL 16 SzN) r)/\(r.length=4)):=by
 apply tZ;dsimp only [Zalz,LT.den];have q1:(SzL 16 SzN) ([([]:List UInt8),([62,61]:List UInt8),([60,61]:List UInt8),([61]:List UInt8)]:List (List UInt8)):=⟨by simp only [List.length_cons,List.length_nil];omega,mem_cons' (SzN.nil) (mem_cons' Zbk (mem_cons' Zbk (mem_cons' Zbk (fun _ h=>by cases h))))⟩;have lq1:([([]:List UInt8),([62,61]:List UInt8),([60,61]:List UInt8),([61]:List UInt8)]:List (List UInt8)).length=4:=rfl;exact tR ⟨q1,cl⟩
theorem Zboy{n:Int}(h0:0<=n)(h1:n < 18446744073709551616):Zn9 .u64 n 10=n / 10:=by
 unfold Zn9;rw [Int.tdiv_eq_ediv_of_nonneg h0];have h2:0<=n / 10:=by omega
 have h3:n / 10 < 18446744073709551616:=by omega
 simp only [IntKind.wrap,IntKind.bits,IntKind.signed,Bool.false_and,Bool.false_eq_true,if_false];exact Int.emod_eq_of_lt h2 h3
theorem Z5i:∀ (k:Nat) (n:Int) (s:List UInt8),k<=20->0<=n->n < 10 ^ k->n < 18446744073709551616->s.length+k<=40->Tot (Zdf Zta.step (.L0 n s)) fun r=>SzN r/\r.length<=40
 | 0,n,s,_,h0,h1,_,hs=>by
  have:n=0:=by omega
  subst this
  refine Tot.stop (r:=s) ?_ ⟨show s.length<=100 by omega,by omega⟩
  show (Zib _ _).den=_
  dsimp only [Zib,LT.den]
  rfl
 | k+1,n,s,hk,h0,h1,h2,hs=>by
  by_cases hn:n > 0
  .obtain⟨d,hd,hl⟩:=Tot.str (xs:=[IntKind.wrap .u8 (IntKind.wrap .u64 (48+(Int.tmod n 10)))]) (by simp) tk70
   simp only [List.length_cons,List.length_nil] at hl
   have e:Zta.step (.L0 n s)=some (.inl (.L0 (n / 10) (d++s))):=by
    show (Zib _ _).den=_
    dsimp only [Zib,LT.den]
    rw [decide_eq_true hn,cond_true,hd,Option.bind_some,decide_eq_true (show d.length+s.length<=9223372036854775807 by omega),Zboy h0 h2]
    rfl
   obtain⟨r,hr,hp⟩:=Z5i k (n / 10) (d++s) (by omega) (by omega) (by
    rw [Int.pow_succ] at h1
    have:n / 10 < 10 ^ k:=Int.ediv_lt_of_lt_mul (by decide) h1
    exact this) (by omega) (by rw [List.length_append];omega)
   exact⟨r,by rw [Zj8 e];exact hr,hp⟩
  .refine Tot.stop (r:=s) ?_ ⟨show s.length<=100 by omega,by omega⟩
   show (Zib _ _).den=_
   dsimp only [Zib,LT.den]
   rw [decide_eq_false hn];rfl
theorem Z9g(a0:Int)(h0:0<=a0)(h1:a0 < 18446744073709551616):Tot (Zaat a0) (fun r=>(SzN r)/\(r.length<=40)):=by
 unfold Zaat LF.run;dsimp only [Zafy,LT.den];obtain⟨d,hd,hl⟩:=Tot.str (xs:=[IntKind.wrap .u8 (IntKind.wrap .u64 (48+(Int.tmod a0 10)))]) (by simp) tk70;simp only [List.length_cons,List.length_nil] at hl;rw [hd,Option.bind_some,Option.bind_some,Zlq,Zboy h0 h1];exact Z5i 20 (a0 / 10) d (by omega) (by omega) (by omega) (by omega) (by omega)
theorem Zk5{a0:Int}:Tot (Za6t a0) (fun r=>(SzN r)):=by
 apply tZ;dsimp only [Zas3,LT.den];apply tD<;>intro h1
 .have q1:0<=IntKind.wrap .u64 (0 - (IntKind.wrap .u64 a0))/\IntKind.wrap .u64 (0 - (IntKind.wrap .u64 a0)) < 18446744073709551616:=Zbcr _;exact tB (Z9g (IntKind.wrap .u64 (0 - (IntKind.wrap .u64 a0))) cl cl) fun x1 h2=>tB (tK Zd0) fun x2 h3=>tR Zbk
 have q1:0<=IntKind.wrap .u64 a0/\IntKind.wrap .u64 a0 < 18446744073709551616:=Zbcr _;exact tB (Z9g (IntKind.wrap .u64 a0) cl cl) fun x1 h2=>tR h2.1
theorem Zp3{a0:List UInt8}{a1:Zj}(oa0:SzN a0)(h0:0<=a1.Kind)(h1:a1.Kind<=3):Tot (Zach a0 a1) (fun r=>(SzT r)):=by
 apply tZ;have lb_a0:a0.length<=100:=oa0;dsimp only [Z4f,LT.den];apply tE<;>intro h1
 .exact tR (SzT.nil)
 refine tB (Za28) fun x1 h2=>Tot.ix fun x2 h3=>?_;have oh3:SzN x2:=h2.1.2 x2 h3.1;have q1:x2.length<=100:=oh3;refine tB (tK Zd0) fun x3 h4=>tB (Zk5) fun x4 h5=>?_;have q2:x4.length<=100:=h5;exact tB (tK Zd0) fun x5 h6=>tR tk65
def Za9r:Ztb->Prop
 | .L0 v0 v1 v5 v6=>((SzL 16 SzT) v0)/\(SzN v1)/\(0<=v6)/\(v5.length<=1125899906842624*v6.toNat)/\(v0.length<=100)/\(v6<=v0.length)
def Z62:Ztb->M6
 | .L0 v0 v1 v5 v6=>(1,((v0.length:Int) - v6).toNat,1000000,0,0,0)
theorem Za9s{a0:List (List UInt8)}{a1:List UInt8}(oa0:(SzL 16 SzT) a0)(oa1:SzN a1)(h0:a0.length<=100):Tot (Za6u a0 a1) (fun r=>(r.length<=144115188075855872)):=by
 apply Tot.rn Za9r Z62
 .dsimp only [Zas5,LT.den];exact tL ⟨oa0,oa1,cs⟩ (by unfold Z62 lt6;dsimp only;omega)
 rintro ⟨v0,v1,v5,v6⟩ ⟨ov0,ov1,cv6,i0,i1,i2⟩;have lb_v1:v1.length<=100:=ov1;dsimp only [Zaau,Zal1,LT.den];apply tD<;>intro h1
 .apply tD<;>intro h2
  .refine tB (tK Zd0) fun x1 h3=>Tot.ix fun x2 h4=>?_;have oh4:SzT x2:=ov0.2 x2 h4.1;have q1:x2.length<=562949953421312:=oh4;refine tB (tK Zd0) fun x3 h5=>?_;exact tl58
  refine Tot.ix fun x1 h3=>?_;have oh3:SzT x1:=ov0.2 x1 h3.1;have q1:x1.length<=562949953421312:=oh3;refine tB (tK Zd0) fun x2 h4=>?_;exact tl58
 exact tR cl
theorem Zf4{b0:List (List UInt8)}{a1:List UInt8}(ob0:(SzL 16 SzT) b0)(oa1:SzT a1)(h0:b0.length<=1000):Tot (Zafz b0 a1) (fun r=>((SzL 16 SzT) r)/\(r.length<=b0.length+1)):=by
 apply tZ;dsimp only [Z7s,LT.den];apply tF<;>intro h1
 .exact tR ⟨ob0,cl⟩
 refine Tot.ap fun x1 h2=>?_;have lh2:=Zaz h2;exact tR ⟨SzL.app (k:=16) h2 lo ob0.2 (me1 oa1),cl⟩
def Z2w:Zhq->Prop
 | .L0 E0 v6 v7 v8=>(Za1 E0)/\((SzL 16 SzN) v6)/\((SzL 16 SzT) v7)/\(0<=v8)/\(v7.length<=3+v8.toNat)/\(v8<=6)/\(v6.length=3)/\(0<=E0.Tap/\E0.Tap<=2/\0<=E0.Power.Kind/\E0.Power.Kind<=3/\0<=E0.Tough.Kind/\E0.Tough.Kind<=3/\0<=E0.Value.Kind/\E0.Value.Kind<=3)
 | .L1 E0 v6 v7 v9=>(Za1 E0)/\((SzL 16 SzN) v6)/\((SzL 16 SzT) v7)/\(0<=v9)/\(v7.length<=9+v9.toNat)/\(v9<=6)/\(v6.length=3)/\(0<=E0.Tap/\E0.Tap<=2/\0<=E0.Power.Kind/\E0.Power.Kind<=3/\0<=E0.Tough.Kind/\E0.Tough.Kind<=3/\0<=E0.Value.Kind/\E0.Value.Kind<=3)
 | .L2 E0 v6 v7 v10=>(Za1 E0)/\((SzL 16 SzN) v6)/\((SzL 16 SzT) v7)/\(0<=v10)/\(v7.length<=15+v10.toNat)/\(v10<=5)/\(v6.length=3)/\(0<=E0.Tap/\E0.Tap<=2/\0<=E0.Power.Kind/\E0.Power.Kind<=3/\0<=E0.Tough.Kind/\E0.Tough.Kind<=3/\0<=E0.Value.Kind/\E0.Value.Kind<=3)
 | .L3 E0 v6 v7 v11=>(Za1 E0)/\((SzL 16 SzN) v6)/\((SzL 16 SzT) v7)/\(0<=v11)/\(v7.length<=20+v11.toNat)/\(v11<=5)/\(v6.length=3)/\(0<=E0.Tap/\E0.Tap<=2/\0<=E0.Power.Kind/\E0.Power.Kind<=3/\0<=E0.Tough.Kind/\E0.Tough.Kind<=3/\0<=E0.Value.Kind/\E0.Value.Kind<=3)
 | .L4 E0 v6 v7=>(Za1 E0)/\((SzL 16 SzN) v6)/\((SzL 16 SzT) v7)/\(v7.length<=26)/\(v6.length=3)/\(0<=E0.Tap/\E0.Tap<=2/\0<=E0.Power.Kind/\E0.Power.Kind<=3/\0<=E0.Tough.Kind/\E0.Tough.Kind<=3/\0<=E0.Value.Kind/\E0.Value.Kind<=3)
 | .L5 E0 v6 v7 v12=>(Za1 E0)/\((SzL 16 SzN) v6)/\((SzL 16 SzT) v7)/\(0<=v12)/\(v7.length<=26+v12.toNat)/\(v12<=17)/\(v6.length=3)/\(0<=E0.Tap/\E0.Tap<=2/\0<=E0.Power.Kind/\E0.Power.Kind<=3/\0<=E0.Tough.Kind/\E0.Tough.Kind<=3/\0<=E0.Value.Kind/\E0.Value.Kind<=3)
def Zi5:Zhq->M6
 | .L0 E0 v6 v7 v8=>(9,(6 - v8).toNat,1000000,0,0,0)
 | .L1 E0 v6 v7 v9=>(7,(6 - v9).toNat,1000000,0,0,0)
 | .L2 E0 v6 v7 v10=>(5,(5 - v10).toNat,1000000,0,0,0)
 | .L3 E0 v6 v7 v11=>(3,(5 - v11).toNat,1000000,0,0,0)
 | .L4 E0 v6 v7=>(2,0,0,0,0,0)
 | .L5 E0 v6 v7 v12=>(1,(17 - v12).toNat,1000000,0,0,0)
theorem Zug{E0:Zm}{v6:List (List UInt8)}{v7:List (List UInt8)}(h:Z2w (.L4 E0 v6 v7)):Tot (Zqa E0 v6 v7).den (Nx Z2w Zi5 (2,0,0,0,0,0) (fun r=>(r.length<=144115188075855872))):=by
 obtain⟨O0,ov6,ov7,i0,i1,i2⟩:=h;dsimp only [Zqa,LT.den];exact tl46
theorem Za9t{a0:Zm}(oa0:Za1 a0):Tot (Za6v a0) (fun r=>(r.length<=144115188075855872)):=by
 apply Tot.rn Z2w Zi5
 .dsimp only [Zas6,LT.den];refine tB (Ziv oa0) fun x1 h1=>?_;have eh1_0:=h1.1;apply tO<;>intro h2
  .exact tR cl
  have h2_0:=eh1_0 h2;refine tB (Zalb) fun x2 h3=>tB (Zaqf) fun x3 h4=>tB (Zalc) fun x4 h5=>tB (Zaqg) fun x5 h6=>?_;have eh6_1:=h6.2;refine Tot.ix fun x6 h7=>?_;have oh7:SzN x6:=h3.1.2 x6 h7.1;refine tB (Zf4 SzL.nil (SzN.t oh7) cl) fun x7 h8=>?_;have eh8_1:=h8.2;try simp only [List.length_nil,List.length_cons,Nat.zero_add] at eh8_1
  refine Tot.ix fun x8 h9=>?_;have oh9:SzN x8:=h4.1.2 x8 h9.1;refine tB (Zf4 h8.1 (SzN.t oh9) cl) fun x9 h10=>Tot.ix fun x10 h11=>?_;have oh11:SzN x10:=h5.1.2 x10 h11.1;exact tB (Zf4 h10.1 (SzN.t oh11) cl) fun x11 h12=>tL ⟨oa0,h6.1,h12.1,cs⟩ Zav5
 intro s hs;cases s with
 | L0 E0 v6 v7 v8=>
  obtain⟨O0,ov6,ov7,cv8,i0,i1,i2,i3⟩:=hs;have lb_v7:=ov7.1;dsimp only [Zlt,Zal2,LT.den,Zi5];apply tD<;>intro h1
  .refine tB (Zqw cl) fun x1 h2=>?_;apply tF<;>intro h3
   .refine tB (Z2v cl) fun x2 h4=>Tot.ap fun x3 h5=>?_;have lh5:=Zaz h5;have q1:=wr (v8+1);exact tL ⟨O0,ov6,SzL.app (k:=16) h5 lo ov7.2 (me1 h4.1),cs⟩ Zav5
   have q1:=wr (v8+1);exact tl46
  exact tl46
 | L1 E0 v6 v7 v9=>
  obtain⟨O0,ov6,ov7,cv9,i0,i1,i2,i3⟩:=hs;have lb_v7:=ov7.1;dsimp only [Zlt,Zal3,LT.den,Zi5];apply tD<;>intro h1
  .refine tB (Zqw cl) fun x1 h2=>?_;apply tF<;>intro h3
   .refine tB (Z2v cl) fun x2 h4=>?_;have q1:x2.length<=562949953421312:=h4.1;refine tB (tK Zd0) fun x3 h5=>?_;have q2:=ov7.1;refine Tot.ap fun x4 h6=>?_;have lh6:=Zaz h6;have q3:=wr (v9+1);exact Zbfw
   have q1:=wr (v9+1);exact tl46
  exact tl46
 | L2 E0 v6 v7 v10=>
  obtain⟨O0,ov6,ov7,cv10,i0,i1,i2,i3⟩:=hs;have lb_v7:=ov7.1;dsimp only [Zlt,Zal4,LT.den,Zi5];apply tD<;>intro h1
  .refine tB (Zqw cl) fun x1 h2=>?_;apply tF<;>intro h3
   .refine tB (Zuf) fun x2 h4=>Tot.ap fun x3 h5=>?_;have lh5:=Zaz h5;have q1:=wr (v10+1);exact tL ⟨O0,ov6,SzL.app (k:=16) h5 lo ov7.2 (me1 (SzN.t h4)),cs⟩ Zav5
   have q1:=wr (v10+1);exact tl46
  exact tl46
 | L3 E0 v6 v7 v11=>
  obtain⟨O0,ov6,ov7,cv11,i0,i1,i2,i3⟩:=hs;have lb_v7:=ov7.1;dsimp only [Zlt,Zal5,LT.den,Zi5];apply tD<;>intro h1
  .refine tB (Zqw cl) fun x1 h2=>?_;apply tF<;>intro h3
   .refine tB (Zuf) fun x2 h4=>?_;have q1:x2.length<=100:=h4;refine tB (tK Zd0) fun x3 h5=>?_;have q2:=ov7.1;refine Tot.ap fun x4 h6=>?_;have lh6:=Zaz h6;have q3:=wr (v11+1);exact Zbfw
   have q1:=wr (v11+1);exact tl46
  apply tO<;>intro h2
  .have q1:E0.Sub.length<=281474976710656:=O0;refine tB (tK Zd0) fun x1 h3=>Tot.ap fun x2 h4=>?_;have lh4:=Zaz h4;exact tJ (Zug ⟨O0,ov6,SzL.app (k:=16) h4 lo ov7.2 (me1 tk65),cs⟩)
  exact tJ (Zug ⟨O0,ov6,ov7,cs⟩)
 | L4 _ _ _=>exact Zug hs
 | L5 E0 v6 v7 v12=>
  obtain⟨O0,ov6,ov7,cv12,i0,i1,i2,i3⟩:=hs;have lb_v7:=ov7.1;dsimp only [Zlt,Zal6,LT.den,Zi5];apply tD<;>intro h1
  .refine tB (Zqw cl) fun x1 h2=>?_;apply tF<;>intro h3
   .refine tB (Z2u) fun x2 h4=>?_;have q1:x2.length<=100:=h4;refine tB (tK Zd0) fun x3 h5=>?_;have q2:=ov7.1;refine Tot.ap fun x4 h6=>?_;have lh6:=Zaz h6;have q3:=wr (v12+1);exact Zbfw
   have q1:=wr (v12+1);exact tl46
  refine Tot.ix fun x1 h2=>?_;have oh2:SzN x1:=ov6.2 x1 h2.1;refine tB (Zf4 ov7 (SzN.t oh2) cl) fun x2 h3=>tB (Zp3 Zbk cl cl) fun x3 h4=>tB (Zf4 h3.1 h4 cl) fun x4 h5=>tB (Zp3 Zbk cl cl) fun x5 h6=>tB (Zf4 h5.1 h6 cl) fun x6 h7=>tB (Zp3 Zbk cl cl) fun x7 h8=>tB (Zf4 h7.1 h8 cl) fun x8 h9=>?_;have q1:=h9.1.1;apply tE<;>intro h10
  .exact tR cl
  exact tB (Za9s h9.1 Zbk cl) fun x9 h11=>tR cl
theorem Zaje{a0:Zv}(oa0:Zax a0):Tot (Za6w a0) (fun r=>(r.length<=288230376151711744)):=by
 apply tZ;dsimp only [Zas7,LT.den];refine tB (Zabx oa0) fun x1 h1=>?_;apply tO<;>intro h2
 .exact tR cl
 apply tE<;>intro h3
 .exact tR cl
 apply tE<;>intro h4
 .exact tB (Zp2) fun x2 h5=>tB (tK Zd0) fun x3 h6=>tR cl
 apply tE<;>intro h5
 .exact tB (Zp2) fun x2 h6=>tB (tK Zd0) fun x3 h7=>tR cl
 apply tE<;>intro h6
 .have q1:a0.Sub.length<=281474976710656:=oa0.1;exact tB (tK Zd0) fun x2 h7=>tR cl
 apply tE<;>intro h7
 .have q1:a0.Sub.length<=281474976710656:=oa0.1;exact tB (tK Zd0) fun x2 h8=>tR cl
 apply tE<;>intro h8
 .refine tB (Zajc) fun x2 h9=>?_;have q1:x2.length<=562949953421312:=h9;exact tB (tK Zd0) fun x3 h10=>tR cl
 apply tE<;>intro h9
 .refine tB (Zajc) fun x2 h10=>?_;have q1:x2.length<=562949953421312:=h10;exact tB (tK Zd0) fun x3 h11=>tR cl
 apply tE<;>intro h10
 .refine tB (Zajd) fun x2 h11=>?_;have q1:x2.length<=562949953421312:=h11;exact tB (tK Zd0) fun x3 h12=>tR cl
 apply tE<;>intro h11
 .refine tB (Zajd) fun x2 h12=>?_;have q1:x2.length<=562949953421312:=h12;exact tB (tK Zd0) fun x3 h13=>tR cl
 apply tE<;>intro h12
 .exact tR cl
 apply tE<;>intro h13
 .exact tB (Za9t oa0.2) fun x2 h14=>tB (tK Zd0) fun x3 h15=>tB (tK Zd0) fun x4 h16=>tR cl
 apply tE<;>intro h14
 .refine tB (Zk5) fun x2 h15=>?_;have q1:x2.length<=100:=h15;refine tB (tK Zd0) fun x3 h16=>tB (tK Zd0) fun x4 h17=>tB (Zk5) fun x5 h18=>?_;have q2:x5.length<=100:=h18;exact tB (tK Zd0) fun x6 h19=>tR cl
 apply tE<;>intro h15
 .refine tB (Zk5) fun x2 h16=>?_;have q1:x2.length<=100:=h16;refine tB (tK Zd0) fun x3 h17=>tB (tK Zd0) fun x4 h18=>tB (Zk5) fun x5 h19=>?_;have q2:x5.length<=100:=h19;exact tB (tK Zd0) fun x6 h20=>tR cl
 exact tR cl
def Zaqi:Zkq->Prop
 | .L0 v0 v3 v4=>((SzL 176 Zax) v0)/\(0<=v4)/\(v3.length<=576460752303423488*v4.toNat)/\(v0.length<=6)/\(v4<=v0.length)
def Zuh:Zkq->M6
 | .L0 v0 v3 v4=>(1,((v0.length:Int) - v4).toNat,1000000,0,0,0)
theorem Zry{a0:List Zv}(oa0:(SzL 176 Zax) a0):Tot (Zaf0 a0) (fun r=>(r.length<=4611686018427387904)):=by
 apply Tot.rn Zaqi Zuh
 .have lb_a0:=oa0.1;dsimp only [Z7u,LT.den];apply tE<;>intro h1
  .exact tR cl
  apply tD<;>intro h2
  .exact tR cl
  exact tL ⟨oa0,cs⟩ (by unfold Zuh lt6;dsimp only;omega)
 rintro ⟨v0,v3,v4⟩ ⟨ov0,cv4,i0,i1,i2⟩;dsimp only [Zvi,Z4h,LT.den];apply tD<;>intro h1
 .refine Tot.ix fun x1 h2=>?_;have oh2:Zax x1:=ov0.2 x1 h2.1;refine tB (Zabx oh2) fun x2 h3=>?_;apply tO<;>intro h4
  .exact tR cl
  apply tD<;>intro h5
  .refine tB (tK Zd0) fun x3 h6=>tB (Zaje oh2) fun x4 h7=>tB (tK Zd0) fun x5 h8=>?_;exact tl57
  refine tB (Zaje oh2) fun x3 h6=>tB (tK Zd0) fun x4 h7=>?_;exact tl57
 exact tR cl
theorem Za29{a0:Ze0}:Tot (Za0m a0) (fun r=>True):=by
 apply tZ;dsimp only [Zal8,LT.den];refine tB (Z0v a0.Mana) fun x1 h1=>?_;have eh1_0:=h1.1;have eh1_1:=h1.2.1;apply tF<;>intro h2
 .apply tE<;>intro h3
  .exact tl25
  exact tR trivial
 exact tR trivial
theorem Zajf{a0:Int}:Tot (Za6y a0) (fun r=>(SzN r)):=by
 apply tZ;dsimp only [Zas9,LT.den];apply tE<;>intro h1
 .exact Zgt
 apply tE<;>intro h2
 .exact Zgt
 apply tE<;>intro h3
 .exact Zgt
 apply tE<;>intro h4
 .exact Zgt
 apply tE<;>intro h5
 .exact Zgt
 apply tE<;>intro h6
 .exact Zgt
 apply tE<;>intro h7
 .exact Zgt
 apply tE<;>intro h8
 .exact Zgt
 apply tE<;>intro h9
 .exact Zgt
 apply tE<;>intro h10
 .exact Zgt
 apply tE<;>intro h11
 .exact Zgt
 apply tE<;>intro h12
 .exact Zgt
 apply tE<;>intro h13
 .exact Zgt
 apply tE<;>intro h14
 .exact Zgt
 exact tR (SzN.nil)
theorem Z9h{a0:Int}:Tot (Zatb a0) (fun r=>True):=by
 apply tZ;dsimp only [Zaf1,LT.den];apply tE<;>intro h1
 .exact tR trivial
 exact Zbn6
theorem Zald{a0:Int}:Tot (Zacj a0) (fun r=>True):=by
 apply tZ;dsimp only [Z4i,LT.den];refine tB (Zajf) fun x1 h1=>?_;apply tO<;>intro h2
 .refine tB (Z9h) fun x2 h3=>?_;apply tO<;>intro h4
  .exact tR trivial
  exact tR trivial
 exact tR trivial
def Zaby:Z1r->Prop
 | .L0 E0=>(Zpl E0)/\True
def Za2g:Z1r->M6
 | .L0 E0=>(0,0,0,0,0,0)
theorem Zzo{E0:Zb4}(h:Zaby (.L0 E0)):Tot (Zxf E0).den (Nx Zaby Za2g (0,0,0,0,0,0) (fun r=>True)):=by
 obtain⟨O0,_⟩:=h;dsimp only [Zxf,LT.den];refine tB (Zald) fun x1 h1=>?_;apply tO<;>intro h2
 .exact tR trivial
 apply tE<;>intro h3
 .exact tl92
 exact tl92
theorem Zbgp{a0:Zb4}(oa0:Zpl a0):Tot (Zbig a0) (fun r=>True):=by
 apply Tot.rn Zaby Za2g
 .dsimp only [Za6z,LT.den];refine tB (Zajf) fun x1 h1=>?_;apply tF<;>intro h2
  .exact tR trivial
  apply tD<;>intro h3
  .exact tR trivial
  apply tD<;>intro h4
  .exact tR trivial
  refine tB (Z9h) fun x2 h5=>?_;apply tO<;>intro h6
  .apply tN<;>intro h7
   .exact tR trivial
   exact tJ (Zzo ⟨oa0,trivial⟩)
  exact tJ (Zzo ⟨oa0,trivial⟩)
 intro s hs;cases s with
 | L0 _=>exact Zzo hs
theorem Zzp{a0:Zm}(oa0:Za1 a0):Tot (Za0n a0) (fun r=>True):=by
 apply tZ;dsimp only [Zamb,LT.den];refine tB (Ziv oa0) fun x1 h1=>?_;have eh1_0:=h1.1;exact tl27
theorem Za3a{a0:Z4}(oa0:Zbq a0):Tot (Za0o a0) (fun r=>(r=true->a0.Do=5\/a0.Do=6\/a0.Do=7)):=by
 apply tZ;dsimp only [Zamd,LT.den];apply tN<;>intro h1
 .exact Zp0
 refine tB (Zzp oa0) fun x1 h2=>?_;apply tO<;>intro h3
 .exact Zp0
 apply tE<;>intro h4
 .apply tE<;>intro h5
  .apply tE<;>intro h6
   .apply tE<;>intro h7
    .exact Zp0
    apply tE<;>intro h8
    .exact Zp0
    exact Zp0
   exact Zp0
  exact Zp0
 apply tE<;>intro h5
 .apply tE<;>intro h6
  .apply tE<;>intro h7
   .exact Zp0
   exact Zp0
  exact Zp0
 apply tE<;>intro h6
 .apply tE<;>intro h7
  .apply tD<;>intro h8
   .apply tD<;>intro h9
    .apply tD<;>intro h10
     .exact Zp0
     exact Zp0
    exact Zp0
   exact Zp0
  exact Zp0
 exact Zp0
theorem Za3b{a0:Z4}(oa0:Zbq a0):Tot (Za0p a0) (fun r=>True):=by
 apply tZ;dsimp only [Zamf,LT.den];apply tN<;>intro h1
 .exact tR trivial
 apply tN<;>intro h2
 .exact tR trivial
 apply tE<;>intro h3
 .exact tl25
 apply tE<;>intro h4
 .apply tD<;>intro h5
  .exact tR trivial
  exact tR trivial
 exact tR trivial
def Zl9(a0:Z4):Zrp->Prop
 | .L0 E0 v3 v4=>(E0=a0)/\(Zbq E0)/\(E0.On≠2)/\(v4=true->E0.Do=3\/E0.Do=4\/E0.Do=8)
 | .L1 E0 v3=>(E0=a0)/\(Zbq E0)/\(E0.On≠2)/\(1<=E0.Do/\E0.Do<=4)
 | .L2 E0 v3 v4 v109=>(E0=a0)/\(Zbq E0)/\(E0.On≠2)/\(v4=true->E0.Do=3\/E0.Do=4\/E0.Do=8)
def Z5j:Zrp->M6
 | .L0 E0 v3 v4=>(0,0,0,0,0,0)
 | .L1 E0 v3=>(0,0,0,0,0,0)
 | .L2 E0 v3 v4 v109=>(0,0,0,0,0,0)
theorem Zad2{a0:Z4}{E0:Z4}{v3:Bool}{v4:Bool}{v109:Bool}(h:(Zl9 a0) (.L2 E0 v3 v4 v109)):Tot (Zr9 E0 v3 v4 v109).den (Nx (Zl9 a0) Z5j (0,0,0,0,0,0) (fun r=>(r=true->rOK a0))):=by
 obtain⟨al0,O0,i0,i1⟩:=h;subst al0;dsimp only [Zr9,LT.den];apply tF<;>intro h1
 .apply tF<;>intro h2
  .apply tD<;>intro h3
   .apply tD<;>intro h4
    .exact Zje
    exact Zje
   exact Zje
  exact Zje
 exact Zje
theorem Zad3{a0:Z4}{E0:Z4}{v3:Bool}(h:(Zl9 a0) (.L1 E0 v3)):Tot (Zod E0 v3).den (Nx (Zl9 a0) Z5j (0,0,0,0,0,0) (fun r=>(r=true->rOK a0))):=by
 obtain⟨al0,O0,i0,i1⟩:=h;subst al0;dsimp only [Zod,LT.den];apply tE<;>intro h1
 .refine tB (Zzp O0) fun x1 h2=>?_;apply tF<;>intro h3
  .exact Zje
  apply tE<;>intro h4
  .exact Zje
  apply tE<;>intro h5
  .exact Zje
  exact Zje
 apply tE<;>intro h2
 .exact Zje
 apply tE<;>intro h3
 .exact Zje
 exact Zje
theorem Zad4{a0:Z4}{E0:Z4}{v3:Bool}{v4:Bool}(h:(Zl9 a0) (.L0 E0 v3 v4)):Tot (Zsa E0 v3 v4).den (Nx (Zl9 a0) Z5j (0,0,0,0,0,0) (fun r=>(r=true->rOK a0))):=by
 obtain⟨al0,O0,i0,i1⟩:=h;subst al0;dsimp only [Zsa,LT.den];apply tE<;>intro h1
 .apply tN<;>intro h2
  .apply tN<;>intro h3
   .apply tN<;>intro h4
    .apply tN<;>intro h5
     .exact Zje
     exact tl49
    exact tl49
   exact tl49
  exact tl49
 apply tE<;>intro h2
 .apply tF<;>intro h3
  .apply tE<;>intro h4
   .exact tB (Zzp O0) fun x1 h5=>tR tk57
   exact Zje
  exact Zje
 apply tE<;>intro h3
 .apply tE<;>intro h4
  .apply tD<;>intro h5
   .apply tD<;>intro h6
    .exact Zje
    exact Zje
   exact Zje
  apply tE<;>intro h5
  .apply tD<;>intro h6
   .apply tD<;>intro h7
    .exact Zje
    exact Zje
   exact Zje
  exact Zje
 apply tE<;>intro h4
 .exact Zbfq
 apply tE<;>intro h5
 .exact Zbfq
 exact Zbfq
theorem Zbgq{a0:Z4}(oa0:Zbq a0):Tot (Zbii a0) (fun r=>(r=true->rOK a0)):=by
 apply Tot.rn (Zl9 a0) Z5j
 .dsimp only [Za63,LT.den];apply tE<;>intro h1
  .exact tB (Za3a oa0) fun x1 h2=>tR tk57
  refine tB (Za3b oa0) fun x1 h2=>?_;apply tO<;>intro h3
  .exact Zje
  apply tE<;>intro h4
  .exact Zbfo
  apply tE<;>intro h5
  .exact Zbfo
  exact Zbfo
 intro s hs;cases s with
 | L0 _ _ _=>exact Zad4 hs
 | L1 _ _=>exact Zad3 hs
 | L2 _ _ _ _=>exact Zad2 hs
theorem Za9u{a0:Za9}(oa0:Zi4 a0):Tot (Za65 a0) (fun r=>True):=by
 apply tZ;dsimp only [Zatc,LT.den];apply tO<;>intro h1
 .exact tl27
 refine tB (Ziv oa0) fun x1 h2=>?_;have eh2_0:=h2.1;apply tF<;>intro h3
 .apply tE<;>intro h4
  .exact tR trivial
  apply tE<;>intro h5
  .exact tR trivial
  exact tR trivial
 exact tR trivial
def Za3c:Zqb->Prop
 | .L0 v0 v3=>((SzL 144 Zi4) v0)/\(0<=v3)
def Z2x:Zqb->M6
 | .L0 v0 v3=>(1,((v0.length:Int) - v3).toNat,1000000,0,0,0)
theorem Za3d{a0:List Za9}(oa0:(SzL 144 Zi4) a0):Tot (Za0q a0) (fun r=>True):=by
 apply Tot.rn Za3c Z2x
 .dsimp only [Zamh,LT.den];exact tL ⟨oa0,cl⟩ (by unfold Z2x lt6;dsimp only;omega)
 rintro ⟨v0,v3⟩ ⟨ov0,cv3⟩;have lb_v0:=ov0.1;dsimp only [Z54,Zaf3,LT.den];apply tD<;>intro h1
 .refine Tot.ix fun x1 h2=>?_;have oh2:Zi4 x1:=ov0.2 x1 h2.1;refine tB (Za9u oh2) fun x2 h3=>?_;apply tO<;>intro h4
  .exact tR trivial
  have q1:=wr (v3+1);exact tL ⟨ov0,cl⟩ (by unfold Z2x lt6;dsimp only;omega)
 exact tR trivial
theorem Za9v{a0:Int}:Tot (Za67 a0) (fun r=>(SzN r)):=by
 apply tZ;dsimp only [Zate,LT.den];apply tD<;>intro h1
 .exact tR (SzN.nil)
 apply tD<;>intro h2
 .exact tR (SzN.nil)
 have q1:(SzL 16 SzN) ([([100,97,109,97,103,101]:List UInt8),([100,101,115,116,114,111,121]:List UInt8),([109,111,118,101]:List UInt8),([100,114,97,119]:List UInt8),([100,105,115,99,97,114,100]:List UInt8),([103,97,105,110]:List UInt8),([108,111,115,101]:List UInt8),([116,97,112]:List UInt8),([117,110,116,97,112]:List UInt8),([112,117,116]:List UInt8),([116,97,107,101]:List UInt8),([99,114,101,97,116,101]:List UInt8),([109,111,100]:List UInt8),([109,97,110,97]:List UInt8),([99,111,117,110,116,101,114]:List UInt8),([99,111,112,121]:List UInt8),([98,101,99,111,109,101]:List UInt8),([115,97,99,114,105,102,105,99,101]:List UInt8),([109,105,108,108]:List UInt8),([115,99,114,121]:List UInt8),([115,101,97,114,99,104]:List UInt8),([115,104,105,101,108,100]:List UInt8),([116,117,114,110]:List UInt8),([119,105,110]:List UInt8),([100,101,102,101,97,116]:List UInt8),([118,101,110,111,109]:List UInt8)]:List (List UInt8)):=⟨by simp only [List.length_cons,List.length_nil];omega,mem_cons' Zbk (mem_cons' Zbk (mem_cons' Zbk (mem_cons' Zbk (mem_cons' Zbk (mem_cons' Zbk (mem_cons' Zbk (mem_cons' Zbk (mem_cons' Zbk (mem_cons' Zbk (mem_cons' Zbk (mem_cons' Zbk (mem_cons' Zbk (mem_cons' Zbk (mem_cons' Zbk (mem_cons' Zbk (mem_cons' Zbk (mem_cons' Zbk (mem_cons' Zbk (mem_cons' Zbk (mem_cons' Zbk (mem_cons' Zbk (mem_cons' Zbk (mem_cons' Zbk (mem_cons' Zbk (mem_cons' Zbk (fun _ h=>by cases h))))))))))))))))))))))))))⟩;have lq1:([([100,97,109,97,103,101]:List UInt8),([100,101,115,116,114,111,121]:List UInt8),([109,111,118,101]:List UInt8),([100,114,97,119]:List UInt8),([100,105,115,99,97,114,100]:List UInt8),([103,97,105,110]:List UInt8),([108,111,115,101]:List UInt8),([116,97,112]:List UInt8),([117,110,116,97,112]:List UInt8),([112,117,116]:List UInt8),([116,97,107,101]:List UInt8),([99,114,101,97,116,101]:List UInt8),([109,111,100]:List UInt8),([109,97,110,97]:List UInt8),([99,111,117,110,116,101,114]:List UInt8),([99,111,112,121]:List UInt8),([98,101,99,111,109,101]:List UInt8),([115,97,99,114,105,102,105,99,101]:List UInt8),([109,105,108,108]:List UInt8),([115,99,114,121]:List UInt8),([115,101,97,114,99,104]:List UInt8),([115,104,105,101,108,100]:List UInt8),([116,117,114,110]:List UInt8),([119,105,110]:List UInt8),([100,101,102,101,97,116]:List UInt8),([118,101,110,111,109]:List UInt8)]:List (List UInt8)).length=26:=rfl;have q2:=wr (a0 - 1);refine Tot.ix fun x1 h3=>?_;have oh3:SzN x1:=q1.2 x1 h3.1;exact tR oh3
def Z2y:Zpf->Prop
 | .L0 v3 v4=>True
 | .L1 v3 v14=>True
def Z63:Zpf->M6
 | .L0 v3 v4=>(0,0,0,0,0,0)
 | .L1 v3 v14=>(0,0,0,0,0,0)
theorem Zui{v3:Int}{v14:Bool}(h:True):Tot (Zqc v3 v14).den (Nx Z2y Z63 (0,0,0,0,0,0) (fun r=>(SzN r))):=by
 dsimp only [Zqc,LT.den];apply tF<;>intro h1
 .exact Zgt
 apply tE<;>intro h2
 .exact Zgt
 apply tE<;>intro h3
 .exact Zgt
 apply tE<;>intro h4
 .exact Zgt
 apply tE<;>intro h5
 .exact Zgt
 apply tE<;>intro h6
 .exact Zgt
 apply tE<;>intro h7
 .exact Zgt
 apply tE<;>intro h8
 .exact tR (SzN.nil)
 apply tE<;>intro h9
 .exact tR (SzN.nil)
 exact Zgt
theorem Z5k{v3:Int}{v4:Bool}(h:True):Tot (Zgj v3 v4).den (Nx Z2y Z63 (0,0,0,0,0,0) (fun r=>(SzN r))):=by
 dsimp only [Zgj,LT.den];apply tF<;>intro h1
 .exact Zgt
 apply tE<;>intro h2
 .exact Zgt
 apply tE<;>intro h3
 .exact tJ (Zui trivial)
 exact tJ (Zui trivial)
theorem Za9w{a0:Int}:Tot (Za68 a0) (fun r=>(SzN r)):=by
 apply Tot.rn Z2y Z63
 .dsimp only [Zatg,LT.den];apply tE<;>intro h1
  .exact tl3
  apply tE<;>intro h2
  .exact tl3
  apply tE<;>intro h3
  .exact tl3
  apply tE<;>intro h4
  .exact tl3
  apply tE<;>intro h5
  .exact tl3
  apply tE<;>intro h6
  .exact tl3
  exact tl3
 intro s hs;cases s with
 | L0 _ _=>exact Z5k hs
 | L1 _ _=>exact Zui hs
def Za9x:Ztd->Prop
 | .L0 v1 v5 v6=>(SzT v5)/\(0<=v6)
def Z64:Ztd->M6
 | .L0 v1 v5 v6=>(1,((v5.length:Int) - v6).toNat,1000000,0,0,0)
theorem Zh2{a0:Int}{a1:Int}:Tot (Za69 a0 a1) (fun r=>True):=by
 apply Tot.rn Za9x Z64
 .dsimp only [Zati,LT.den];exact tB (Za9w) fun x1 h1=>tL ⟨SzN.t h1,cl⟩ (by unfold Z64 lt6;dsimp only;omega)
 rintro ⟨v1,v5,v6⟩ ⟨ov5,cv6⟩;have lb_v5:v5.length<=562949953421312:=ov5;dsimp only [Zaav,Zami,LT.den];apply tD<;>intro h1
 .refine Tot.ix fun x1 h2=>?_;apply tE<;>intro h3
  .exact tR trivial
  have q1:=wr (v6+1);exact tL ⟨ov5,cl⟩ (by unfold Z64 lt6;dsimp only;omega)
 exact tR trivial
theorem Zaqj{a0:Int}:Tot (Zaf4 a0) (fun r=>True):=by
 apply tZ;dsimp only [Z7v,LT.den];exact tl23
def Zuj:Zvj->Prop
 | .L0 v1 E0=>(Zue E0)/\True
 | .L1 E0=>(Zue E0)/\True
def Zajg:Zvj->M6
 | .L0 v1 E0=>(0,0,0,0,0,0)
 | .L1 E0=>(0,0,0,0,0,0)
theorem Zzq{E0:Zgy}(h:Zuj (.L1 E0)):Tot (Zxg E0).den (Nx Zuj Zajg (0,0,0,0,0,0) (fun r=>True)):=by
 obtain⟨O0,_⟩:=h;dsimp only [Zxg,LT.den];apply tE<;>intro h1
 .exact tB (Ziv O0) fun x1 h2=>tR trivial
 exact tR trivial
theorem Zzr{v1:Int}{E0:Zgy}(h:Zuj (.L0 v1 E0)):Tot (Zxh v1 E0).den (Nx Zuj Zajg (0,0,0,0,0,0) (fun r=>True)):=by
 obtain⟨O0,_⟩:=h;dsimp only [Zxh,LT.den];apply tD<;>intro h1
 .exact tR trivial
 apply tD<;>intro h2
 .exact tR trivial
 refine tB (Zaqj) fun x1 h3=>?_;apply tF<;>intro h4
 .apply tD<;>intro h5
  .exact tR trivial
  apply tD<;>intro h6
  .exact tR trivial
  exact tJ (Zzq ⟨O0,trivial⟩)
 apply tN<;>intro h5
 .exact tR trivial
 exact tJ (Zzq ⟨O0,trivial⟩)
theorem Zbgr{a0:Zgy}{a1:Int}(oa0:Zue a0):Tot (Zbik a0 a1) (fun r=>True):=by
 apply Tot.rn Zuj Zajg
 .dsimp only [Za7a,LT.den];apply tD<;>intro h1
  .exact tJ (Zzr ⟨oa0,trivial⟩)
  exact tJ (Zzr ⟨oa0,trivial⟩)
 intro s hs;cases s with
 | L0 _ _=>exact Zzr hs
 | L1 _=>exact Zzq hs
theorem Zajh{a0:Int}:Tot (Za7c a0) (fun r=>(SzT r)/\(r=[]↔¬ (0<=a0/\a0<=2))):=by
 apply tZ;dsimp only [Zatk,LT.den];apply tE<;>intro h1
 .exact Zbfz
 apply tE<;>intro h2
 .exact Zbfz
 apply tE<;>intro h3
 .exact Zbfz
 exact tR ⟨SzT.nil,tk35⟩
theorem Zbgs{a0:Zb0}(oa0:Zzf a0):Tot (Zbim a0) (fun r=>(r=amV a0)):=by
 apply tZ;dsimp only [Za7d,LT.den];apply tE<;>intro h1
 .apply tD<;>intro h2
  .exact Zrx
  apply tD<;>intro h3
  .exact Zrx
  exact Zbof
 apply tE<;>intro h2
 .apply tD<;>intro h3
  .exact Zrx
  apply tD<;>intro h4
  .exact Zrx
  refine tB (Ziv oa0) fun x1 h5=>?_;have eh5_0:=h5.1;have eh5_1:=h5.2;apply tO<;>intro h6
  .exact Zrx
  have h6_0:=eh5_0 h6;apply tD<;>intro h7
  .apply tD<;>intro h8
   .exact Zrx
   exact Zrx
  exact Zrx
 apply tE<;>intro h3
 .refine tB (Zajh) fun x1 h4=>?_;have eh4_1:=h4.2;apply tF<;>intro h5
  .exact Zrx
  apply tD<;>intro h6
  .apply tD<;>intro h7
   .exact Zrx
   exact Zrx
  exact Zrx
 exact Zbof
theorem Za9y{a0:List Zv}(oa0:(SzL 176 Zax) a0):Tot (Za7f a0) (fun r=>True):=by
 apply tZ;dsimp only [Zatm,LT.den];exact tB (Zry oa0) fun x1 h1=>tR trivial
def Za9z:Zte->Prop
 | .L0 E0 E1 E2 v4=>(0<=v4)/\True
def Z65:Zte->M6
 | .L0 E0 E1 E2 v4=>(1,(5 - v4).toNat,1000000,0,0,0)
theorem Za90{a0:A6 Int}:Tot (Za7g a0) (fun r=>True):=by
 apply Tot.rn Za9z Z65
 .dsimp only [Zato,LT.den];exact tB (tI (by omega) (by have e:(A6.list a0).length=6:=rfl;omega)) fun x1 h1=>tL ⟨cl,trivial⟩ (by unfold Z65 lt6;dsimp only;omega)
 rintro ⟨E0,E1,E2,v4⟩ ⟨cv4,_⟩;dsimp only [Zaaw,Zamk,LT.den];apply tD<;>intro h1
 .have q1:=wr (v4+1);exact tB (tI (by omega) tk96) fun x1 h2=>tB (tI (by omega) (by have e:(A5.list E2.Color).length=5:=rfl;omega)) fun x2 h3=>tB (Tot.setA5 (by omega) (by omega)) fun x3 h4=>tL ⟨cl,trivial⟩ (by unfold Z65 lt6;dsimp only;omega)
 exact tR trivial
def Za91:Zlu->Prop
 | .L0 E0 v3 v4=>(0<=v4)/\(E0.X<=2)/\(∀ n,n∈A5.list E0.Color->n<=9)/\(v3.length<=v4.toNat)/\(v4<=2)
 | .L1 E0 v3 v5=>(0<=v5)/\(v3.length<=200+200*v5.toNat)/\(∀ n,n∈A5.list E0.Color->n<=9)/\(v5<=5)
 | .L2 E0 v3 v5 v6=>(0<=v5)/\(0<=v6)/\(v5 < 5)/\(v3.length<=200+200*v5.toNat+v6.toNat)/\(∀ n,n∈A5.list E0.Color->n<=9)/\(v5 < 5)/\(v6<=9)
def Z66:Zlu->M6
 | .L0 E0 v3 v4=>(3,(E0.X - v4).toNat,1000000,0,0,0)
 | .L1 E0 v3 v5=>(1,(5 - v5).toNat,1000000,0,0,0)
 | .L2 E0 v3 v5 v6=>(1,(5 - v5).toNat,1,(9 - v6).toNat,1000000,0)
theorem Za92{a0:Z2}:Tot (Za7h a0) (fun r=>(SzT r)):=by
 apply Tot.rn Za91 Z66
 .dsimp only [Zatp,LT.den];refine tB (Z0v a0) fun x1 h1=>?_;have eh1_0:=h1.1;have eh1_1:=h1.2.1;apply tO<;>intro h2
  .exact tR (SzT.nil)
  have h2_0:=eh1_0 h2;have h2_1:=eh1_1 h2;exact tl22
 intro s hs;cases s with
 | L0 E0 v3 v4=>
  obtain⟨cv4,i0,i1,i2,i3⟩:=hs;dsimp only [Ztf,Zaml,LT.den];apply tD<;>intro h1
  .refine tB (tK Zd0) fun x1 h2=>?_;have q1:=wr (v4+1);exact tl22
  apply tN<;>intro h2
  .refine tB (Zk5) fun x1 h3=>?_;have q1:x1.length<=100:=h3;exact tB (tK Zd0) fun x2 h4=>tL ⟨cl,cs⟩ (by unfold Z66 lt6;dsimp only;omega)
  exact tl22
 | L1 E0 v3 v5=>
  obtain⟨cv5,i0,i1,i2⟩:=hs;dsimp only [Ztf,Zamm,LT.den];apply tD<;>intro h1
  .exact tl22
  exact Zbob
 | L2 E0 v3 v5 v6=>
  obtain⟨cv5,cv6,bd2,i0,i1,i2,i3⟩:=hs;dsimp only [Ztf,Zamn,LT.den];refine tB (tI (by omega) tk93) fun x1 h1=>?_;have ph1:=i1 x1 h1.1;apply tD<;>intro h2
  .have q1:=wr (v5+1);refine tB (Tot.slice (by omega) (by omega) (by first | omega | (simp only [List.length_cons,List.length_nil];omega))) fun x2 h3=>tB (tK Zd0) fun x3 h4=>?_;have q2:=wr (v6+1);exact tl22
  have q1:=wr (v5+1);exact tl22
theorem Zaqk{a0:A6 Int}:Tot (Zaf5 a0) (fun r=>(SzT r)):=by
 apply tZ;dsimp only [Z7x,LT.den];exact tB (Za90) fun x1 h1=>tB (Za92) fun x2 h2=>tR h2
theorem Zazi{a0:Int}{a1:Zm}(oa1:Za1 a1):Tot (Zatr a0 a1) (fun r=>True):=by
 apply tZ;dsimp only [Zaf6,LT.den];apply tE<;>intro h1
 .exact tl91
 exact tl91
def Zgu:Zic->Prop
 | .L0 E0 v5=>(Zas E0)/\True
 | .L1 E0 v5 v6=>(Zas E0)/\True
 | .L2 E0 v5 v6 v7=>(Zas E0)/\True
 | .L3 E0 v5 v6 v7 v8=>(Zas E0)/\True
 | .L4 E0 v5 v6 v7 v8 v9=>(Zas E0)/\True
 | .L5 E0 v5 v6 v7 v8 v9 v10=>(Zas E0)/\True
 | .L6 E0 v5 v6 v7 v8 v9 v10 v11=>(Zas E0)/\True
 | .L7 v5 v6 v7 v8 v9 v10 v11 v12=>True
def Zj6:Zic->M6
 | .L0 E0 v5=>(0,0,0,0,0,0)
 | .L1 E0 v5 v6=>(0,0,0,0,0,0)
 | .L2 E0 v5 v6 v7=>(0,0,0,0,0,0)
 | .L3 E0 v5 v6 v7 v8=>(0,0,0,0,0,0)
 | .L4 E0 v5 v6 v7 v8 v9=>(0,0,0,0,0,0)
 | .L5 E0 v5 v6 v7 v8 v9 v10=>(0,0,0,0,0,0)
 | .L6 E0 v5 v6 v7 v8 v9 v10 v11=>(0,0,0,0,0,0)
 | .L7 v5 v6 v7 v8 v9 v10 v11 v12=>(0,0,0,0,0,0)
theorem Zzs{v5:Bool}{v6:Bool}{v7:Bool}{v8:Bool}{v9:Bool}{v10:Bool}{v11:Bool}{v12:Bool}(h:True):Tot (Zxi v5 v6 v7 v8 v9 v10 v11 v12).den (Nx Zgu Zj6 (0,0,0,0,0,0) (fun r=>True)):=by
 dsimp only [Zxi,LT.den];apply tF<;>intro h1
 .apply tF<;>intro h2
  .apply tF<;>intro h3
   .apply tF<;>intro h4
    .apply tF<;>intro h5
     .apply tF<;>intro h6
      .apply tF<;>intro h7
       .exact tR trivial
       exact tR trivial
      exact tR trivial
     exact tR trivial
    exact tR trivial
   exact tR trivial
  exact tR trivial
 exact tR trivial
theorem Zrb{E0:Z6}{v5:Bool}{v6:Bool}{v7:Bool}{v8:Bool}{v9:Bool}{v10:Bool}{v11:Bool}(h:(Zas E0)/\True):Tot (Zsb E0 v5 v6 v7 v8 v9 v10 v11).den (Nx Zgu Zj6 (0,0,0,0,0,0) (fun r=>True)):=by
 obtain⟨O0,_⟩:=h;dsimp only [Zsb,LT.den];refine tB (Zh2) fun x1 h1=>?_;apply tF<;>intro h2
 .exact tB (Zazi O0.2.2.2.1) fun x2 h3=>tJ (Zzs trivial)
 exact tJ (Zzs trivial)
theorem Zzt{E0:Z6}{v5:Bool}{v6:Bool}{v7:Bool}{v8:Bool}{v9:Bool}{v10:Bool}(h:(Zas E0)/\True):Tot (Zxj E0 v5 v6 v7 v8 v9 v10).den (Nx Zgu Zj6 (0,0,0,0,0,0) (fun r=>True)):=by
 obtain⟨O0,_⟩:=h;dsimp only [Zxj,LT.den];refine tB (Zh2) fun x1 h1=>?_;apply tF<;>intro h2
 .apply tO<;>intro h3
  .exact tB (Zaqk) fun x2 h4=>tJ (Zrb ⟨O0,trivial⟩)
  exact tJ (Zrb ⟨O0,trivial⟩)
 exact tJ (Zrb ⟨O0,trivial⟩)
theorem Zzu{E0:Z6}{v5:Bool}{v6:Bool}{v7:Bool}{v8:Bool}{v9:Bool}(h:(Zas E0)/\True):Tot (Zxk E0 v5 v6 v7 v8 v9).den (Nx Zgu Zj6 (0,0,0,0,0,0) (fun r=>True)):=by
 obtain⟨O0,_⟩:=h;dsimp only [Zxk,LT.den];refine tB (Zh2) fun x1 h1=>?_;apply tF<;>intro h2
 .exact tB (Za9y O0.2.2.2.2) fun x2 h3=>tJ (Zzt ⟨O0,trivial⟩)
 exact tJ (Zzt ⟨O0,trivial⟩)
theorem Zzv{E0:Z6}{v5:Bool}{v6:Bool}{v7:Bool}{v8:Bool}(h:(Zas E0)/\True):Tot (Zxl E0 v5 v6 v7 v8).den (Nx Zgu Zj6 (0,0,0,0,0,0) (fun r=>True)):=by
 obtain⟨O0,_⟩:=h;dsimp only [Zxl,LT.den];refine tB (Zh2) fun x1 h1=>?_;apply tF<;>intro h2
 .exact tB (Zbgs O0.2.1) fun x2 h3=>tJ (Zzu ⟨O0,trivial⟩)
 exact tJ (Zzu ⟨O0,trivial⟩)
theorem Zrc{E0:Z6}{v5:Bool}{v6:Bool}{v7:Bool}(h:(Zas E0)/\True):Tot (Zsc E0 v5 v6 v7).den (Nx Zgu Zj6 (0,0,0,0,0,0) (fun r=>True)):=by
 obtain⟨O0,_⟩:=h;dsimp only [Zsc,LT.den];refine tB (Zh2) fun x1 h1=>?_;apply tF<;>intro h2
 .exact tB (Zabv (SzS.t O0.2.2.1)) fun x2 h3=>tJ (Zzv ⟨O0,trivial⟩)
 exact tJ (Zzv ⟨O0,trivial⟩)
theorem Zad5{E0:Z6}{v5:Bool}{v6:Bool}(h:Zgu (.L1 E0 v5 v6)):Tot (Zoe E0 v5 v6).den (Nx Zgu Zj6 (0,0,0,0,0,0) (fun r=>True)):=by
 obtain⟨O0,_⟩:=h;dsimp only [Zoe,LT.den];apply tE<;>intro h1
 .exact tJ (Zrc ⟨O0,trivial⟩)
 refine tB (Zh2) fun x1 h2=>?_;apply tF<;>intro h3
 .exact tB (Zajh) fun x2 h4=>tJ (Zrc ⟨O0,trivial⟩)
 exact tJ (Zrc ⟨O0,trivial⟩)
theorem Zzw{E0:Z6}{v5:Bool}(h:Zgu (.L0 E0 v5)):Tot (Zxm E0 v5).den (Nx Zgu Zj6 (0,0,0,0,0,0) (fun r=>True)):=by
 obtain⟨O0,_⟩:=h;dsimp only [Zxm,LT.den];apply tE<;>intro h1
 .exact tl12
 refine tB (Zh2) fun x1 h2=>?_;apply tF<;>intro h3
 .apply tD<;>intro h4
  .exact tl12
  exact tl12
 exact tl12
theorem Zbgt{a0:Z6}{a1:Int}(oa0:Zas a0):Tot (Zbio a0 a1) (fun r=>True):=by
 apply Tot.rn Zgu Zj6
 .dsimp only [Za7i,LT.den];refine tB (Za9v) fun x1 h1=>?_;apply tF<;>intro h2
  .exact tR trivial
  refine tB (Zh2) fun x2 h3=>?_;apply tF<;>intro h4
  .exact tB (Zbgr oa0.1) fun x3 h5=>tJ (Zzw ⟨oa0,trivial⟩)
  exact tJ (Zzw ⟨oa0,trivial⟩)
 intro s hs;cases s with
 | L0 _ _=>exact Zzw hs
 | L1 _ _ _=>exact Zad5 hs
 | L2 _ _ _ _=>exact Zrc hs
 | L3 _ _ _ _ _=>exact Zzv hs
 | L4 _ _ _ _ _ _=>exact Zzu hs
 | L5 _ _ _ _ _ _ _=>exact Zzt hs
 | L6 _ _ _ _ _ _ _ _=>exact Zrb hs
 | L7 _ _ _ _ _ _ _ _=>exact Zzs hs
def Zawa:Zme->Prop
 | .L0 v0 v1 v5=>((SzL 560 Zas) v0)/\(0<=v5)
def Zv5:Zme->M6
 | .L0 v0 v1 v5=>(1,((v0.length:Int) - v5).toNat,1000000,0,0,0)
theorem Zawb{a0:List Z6}{a1:Int}(oa0:(SzL 560 Zas) a0):Tot (Zamo a0 a1) (fun r=>True):=by
 apply Tot.rn Zawa Zv5
 .dsimp only [Zack,LT.den];exact tL ⟨oa0,cl⟩ (by unfold Zv5 lt6;dsimp only;omega)
 rintro ⟨v0,v1,v5⟩ ⟨ov0,cv5⟩;have lb_v0:=ov0.1;dsimp only [Zyq,Z7z,LT.den];apply tD<;>intro h1
 .refine Tot.ix fun x1 h2=>?_;have oh2:Zas x1:=ov0.2 x1 h2.1;refine tB (Zbgt oh2) fun x2 h3=>?_;apply tO<;>intro h4
  .exact tR trivial
  have q1:=wr (v5+1);exact tL ⟨ov0,cl⟩ (by unfold Zv5 lt6;dsimp only;omega)
 exact tl21
def Zgv(a0:Zh):Zlv->Prop
 | .L0 E0 v3=>(E0=a0)/\(Zac E0)
 | .L1 E0 v3=>(E0=a0)/\(Zac E0)
 | .L2 E0 v3=>(E0=a0)/\(Zac E0)
 | .L3 E0 v3=>(E0=a0)/\(Zac E0)
 | .L4 E0 v3=>(E0=a0)/\(Zac E0)/\(abOK E0)
def Zsq:Zlv->M6
 | .L0 E0 v3=>(0,0,0,0,0,0)
 | .L1 E0 v3=>(0,0,0,0,0,0)
 | .L2 E0 v3=>(0,0,0,0,0,0)
 | .L3 E0 v3=>(0,0,0,0,0,0)
 | .L4 E0 v3=>(0,0,0,0,0,0)
theorem Zad6{a0:Zh}{E0:Zh}{v3:Bool}(h:(Zgv a0) (.L4 E0 v3)):Tot (Zxn E0 v3).den (Nx (Zgv a0) Zsq (0,0,0,0,0,0) (fun r=>(r=true->abOK a0))):=by
 obtain⟨al0,O0,i0⟩:=h;subst al0;dsimp only [Zxn,LT.den];apply tF<;>intro h1
 .refine tB (Za3d O0.2.2.2.1) fun x1 h2=>?_;apply tF<;>intro h3
  .exact tB (Zawb O0.2.2.2.2.1) fun x2 h4=>tR tk86
  exact Znj
 apply tE<;>intro h2
 .exact Znj
 exact Znj
theorem Zzx{a0:Zh}{E0:Zh}{v3:Bool}(h:(Zgv a0) (.L3 E0 v3)):Tot (Zxo E0 v3).den (Nx (Zgv a0) Zsq (0,0,0,0,0,0) (fun r=>(r=true->abOK a0))):=by
 obtain⟨al0,O0⟩:=h;subst al0;dsimp only [Zxo,LT.den];apply tE<;>intro h1
 .refine tB (Zbgq O0.2.2.2.2.2) fun x1 h2=>?_;have eh2_0:=h2;apply tO<;>intro h3
  .exact Znj
  exact tl56
 apply tO<;>intro h2
 .exact Znj
 exact tl56
theorem Zzy{a0:Zh}{E0:Zh}{v3:Bool}(h:(Zgv a0) (.L2 E0 v3)):Tot (Zxp E0 v3).den (Nx (Zgv a0) Zsq (0,0,0,0,0,0) (fun r=>(r=true->abOK a0))):=by
 obtain⟨al0,O0⟩:=h;subst al0;dsimp only [Zxp,LT.den];apply tE<;>intro h1
 .refine tB (Zbgp O0.2.2.1) fun x1 h2=>?_;apply tO<;>intro h3
  .exact Znj
  exact tJ (Zzx ⟨rfl,O0⟩)
 apply tO<;>intro h2
 .exact Znj
 apply tF<;>intro h3
 .exact Znj
 exact tJ (Zzx ⟨rfl,O0⟩)
theorem Zzz{a0:Zh}{E0:Zh}{v3:Bool}(h:(Zgv a0) (.L1 E0 v3)):Tot (Zxq E0 v3).den (Nx (Zgv a0) Zsq (0,0,0,0,0,0) (fun r=>(r=true->abOK a0))):=by
 obtain⟨al0,O0⟩:=h;subst al0;dsimp only [Zxq,LT.den];apply tE<;>intro h1
 .refine tB (Za29) fun x1 h2=>?_;apply tO<;>intro h3
  .exact Znj
  exact tJ (Zzy ⟨rfl,O0⟩)
 apply tO<;>intro h2
 .exact Znj
 apply tF<;>intro h3
 .exact Znj
 exact tJ (Zzy ⟨rfl,O0⟩)
theorem Zad7{a0:Zh}{E0:Zh}{v3:Bool}(h:(Zgv a0) (.L0 E0 v3)):Tot (Zsd E0 v3).den (Nx (Zgv a0) Zsq (0,0,0,0,0,0) (fun r=>(r=true->abOK a0))):=by
 obtain⟨al0,O0⟩:=h;subst al0;dsimp only [Zsd,LT.den];apply tE<;>intro h1
 .refine tB (Ziv O0.1) fun x1 h2=>?_;have eh2_0:=h2.1;apply tO<;>intro h3
  .exact Znj
  apply tN<;>intro h4
  .exact Znj
  refine tB (Zry O0.2.1) fun x2 h5=>?_;apply tF<;>intro h6
  .exact Znj
  exact tJ (Zzz ⟨rfl,O0⟩)
 apply tO<;>intro h2
 .exact Znj
 apply tD<;>intro h3
 .exact Znj
 exact tJ (Zzz ⟨rfl,O0⟩)
theorem Z0x{a0:Zh}(oa0:Zac a0):Tot (Zbiq a0) (fun r=>(r=true->abOK a0)):=by
 apply Tot.rn (Zgv a0) Zsq
 .dsimp only [Za7k,LT.den];apply tD<;>intro h1
  .exact Znj
  apply tD<;>intro h2
  .exact Znj
  apply tE<;>intro h3
  .exact tl7
  apply tE<;>intro h4
  .exact tl7
  exact tl7
 intro s hs;cases s with
 | L0 _ _=>exact Zad7 hs
 | L1 _ _=>exact Zzz hs
 | L2 _ _=>exact Zzy hs
 | L3 _ _=>exact Zzx hs
 | L4 _ _=>exact Zad6 hs
theorem Za93{a0:Zg}(oa0:Z1 a0):Tot (Za7m a0) (fun r=>True):=by
 apply tZ;dsimp only [Zats,LT.den];exact tl23
abbrev Zaoy(a0:Zg)(r:Bool):Prop:=(r=true->a0.Abilities.length<=8)/\(r=true->Zq8 a0.Abilities)
def Zabz(a0:Zg):Zvk->Prop
 | .L0 E0=>(E0=a0)/\(Z1 E0)/\(E0.Abilities.length<=8)
 | .L1 E0 v3 v4=>(E0=a0)/\(Z1 E0)/\(0<=v4)/\(E0.Abilities.length<=8)/\(∀ (k:Nat) x,(k:Int) < v4->E0.Abilities[k]?=some x->abOK x)
def Z5l:Zvk->M6
 | .L0 E0=>(2,0,0,0,0,0)
 | .L1 E0 v3 v4=>(1,((E0.Abilities.length:Int) - v4).toNat,1000000,0,0,0)
theorem Zz0{a0:Zg}{E0:Zg}(h:(Zabz a0) (.L0 E0)):Tot (Zxr E0).den (Nx (Zabz a0) Z5l (2,0,0,0,0,0) (Zaoy a0)):=by
 obtain⟨al0,O0,i0⟩:=h;subst al0;dsimp only [Zxr,LT.den];exact Zbn4
theorem Zbgu{a0:Zg}(oa0:Z1 a0):Tot (Zbir a0) (Zaoy a0):=by
 apply Tot.rn (Zabz a0) Z5l
 .dsimp only [Za7n,LT.den];refine tB (Zabv (SzS.t oa0.1)) fun x1 h1=>?_;apply tO<;>intro h2
  .exact Zht
  refine tB (Z0v a0.Cost) fun x2 h3=>?_;have eh3_0:=h3.1;have eh3_1:=h3.2.1;apply tO<;>intro h4
  .exact Zht
  refine tB (Zbgn oa0.2.1) fun x3 h5=>?_;apply tO<;>intro h6
  .exact Zht
  refine tB (Zav8) fun x4 h7=>?_;apply tO<;>intro h8
  .exact Zht
  apply tD<;>intro h9
  .exact Zht
  apply tD<;>intro h10
  .exact Zht
  apply tD<;>intro h11
  .exact Zht
  apply tD<;>intro h12
  .exact Zht
  apply tD<;>intro h13
  .exact Zht
  apply tD<;>intro h14
  .exact Zht
  refine tB (Zaqe oa0) fun x5 h15=>?_;apply tO<;>intro h16
  .apply tN<;>intro h17
   .exact Zht
   apply tN<;>intro h18
   .exact Zht
   have q1:=oa0.2.2.1;apply tD<;>intro h19
   .exact Zht
   exact tJ (Zz0 ⟨rfl,oa0,cl⟩)
  have q1:=oa0.2.2.1;apply tD<;>intro h17
  .exact Zht
  exact tJ (Zz0 ⟨rfl,oa0,cl⟩)
 intro s hs;cases s with
 | L0 _=>exact Zz0 hs
 | L1 E0 v3 v4=>
  obtain⟨al0,O0,cv4,i0,i1⟩:=hs;subst al0;dsimp only [Zapr,Za0r,LT.den,Z5l];apply tD<;>intro h1
  .refine Tot.ix fun x1 h2=>?_;have oh2:Zac x1:=O0.2.2.2 x1 h2.1;have mh2:=h2.2;refine tB (Z0x oh2) fun x2 h3=>?_;have eh3_0:=h3;apply tO<;>intro h4
   .exact Zht
   apply tE<;>intro h5
   .exact Zbn5
   exact Zbn5
  refine tB (Za93 O0) fun x1 h2=>?_;apply tF<;>intro h3
  .apply tO<;>intro h4
   .apply tE<;>intro h5
    .exact Zbon
    exact Zht
   exact Zht
  apply tE<;>intro h4
  .apply tO<;>intro h5
   .exact Zbon
   exact Zht
  exact Zht
def Za94:Ztg->Prop
 | .L0 v0 v1 v5=>((SzL 176 Z1) v0)/\(SzT v1)/\(0<=v5)
def Z67:Ztg->M6
 | .L0 v0 v1 v5=>(1,((v0.length:Int) - v5).toNat,1000000,0,0,0)
theorem Za95{a0:List Zg}{a1:List UInt8}(oa0:(SzL 176 Z1) a0)(oa1:SzT a1):Tot (Za7o a0 a1) (fun r=>True):=by
 apply Tot.rn Za94 Z67
 .dsimp only [Zatu,LT.den];exact tL ⟨oa0,oa1,cl⟩ (by unfold Z67 lt6;dsimp only;omega)
 rintro ⟨v0,v1,v5⟩ ⟨ov0,ov1,cv5⟩;have lb_v0:=ov0.1;dsimp only [Zaax,Zamp,LT.den];apply tD<;>intro h1
 .refine Tot.ix fun x1 h2=>?_;apply tF<;>intro h3
  .exact tR trivial
  have q1:=wr (v5+1);exact tL ⟨ov0,ov1,cl⟩ (by unfold Z67 lt6;dsimp only;omega)
 exact tR trivial
def Za3e:Zqd->Prop
 | .L0 v0 v1 v5=>((SzL 176 Z1) v0)/\(SzT v1)/\(0<=v5)
def Z2z:Zqd->M6
 | .L0 v0 v1 v5=>(1,((v0.length:Int) - v5).toNat,1000000,0,0,0)
theorem Za3f{a0:List Zg}{a1:List UInt8}(oa0:(SzL 176 Z1) a0)(oa1:SzT a1):Tot (Za0s a0 a1) (fun r=>True):=by
 apply Tot.rn Za3e Z2z
 .dsimp only [Zamq,LT.den];exact tL ⟨oa0,oa1,cl⟩ (by unfold Z2z lt6;dsimp only;omega)
 rintro ⟨v0,v1,v5⟩ ⟨ov0,ov1,cv5⟩;have lb_v0:=ov0.1;dsimp only [Z55,Zaf8,LT.den];apply tD<;>intro h1
 .refine Tot.ix fun x1 h2=>?_;apply tF<;>intro h3
  .apply tF<;>intro h4
   .exact tR trivial
   exact tl61
  exact tl61
 exact tR trivial
def Zawc:Zjs->Prop
 | .L0 v0 E0 v5=>((SzL 176 Z1) v0)/\(Z1 E0)/\(0<=v5)
 | .L1 v0 E0 v5 v6=>((SzL 176 Z1) v0)/\(Z1 E0)/\(0<=v5)/\(0<=v6)/\(v5 < (E0.Abilities.length:Int))/\(v5 < (E0.Abilities.length:Int))
def Z9i:Zjs->M6
 | .L0 v0 E0 v5=>(1,((E0.Abilities.length:Int) - v5).toNat,1000000,0,0,0)
 | .L1 v0 E0 v5 v6=>(1,((E0.Abilities.length:Int) - v5).toNat,1,((((E0.Abilities[v5.toNat]?).map fun x=>x.Effects.length).getD 0:Nat) - v6).toNat,1000000,0)
theorem Zawd{a0:List Zg}{a1:Zg}(oa0:(SzL 176 Z1) a0)(oa1:Z1 a1):Tot (Zamr a0 a1) (fun r=>True):=by
 apply Tot.rn Zawc Z9i
 .dsimp only [Zacl,LT.den];exact tL ⟨oa0,oa1,cl⟩ Zbgf
 intro s hs;cases s with
 | L0 v0 E0 v5=>
  obtain⟨ov0,O0,cv5⟩:=hs;dsimp only [Zq4,Z70,LT.den];apply tD<;>intro h1
  .exact tl44
  exact tR trivial
 | L1 v0 E0 v5 v6=>
  obtain⟨ov0,O0,cv5,cv6,bd4,i0⟩:=hs;dsimp only [Zq4,Z71,LT.den];have lx_0:E0.Abilities.length*640<=140737488351232:=O0.2.2.1;refine Tot.ix fun x1 h1=>?_;have oh1:Zac x1:=O0.2.2.2 x1 h1.1;have mh1:((E0.Abilities[v5.toNat]?).map fun x=>x.Effects.length).getD 0=x1.Effects.length:=by rw [h1.2];rfl
  have q1:=oh1.2.2.2.2.1.1;apply tD<;>intro h2
  .refine Tot.ix fun x2 h3=>?_;have oh3:Zas x2:=oh1.2.2.2.2.1.2 x2 h3.1;apply tE<;>intro h4
   .refine tB (Za3f ov0 (SzS.t oh3.2.2.1)) fun x3 h5=>?_;apply tO<;>intro h6
    .exact tR trivial
    exact tl69
   exact tl69
  have q2:=wr (v5+1);exact tL ⟨ov0,O0,cl⟩ Zbgf
abbrev Zazj(a0:List Zg)(r:Int×Int):Prop:=(r.2=0->∀ c,c∈a0->c.Abilities.length<=8)/\(r.2=0->Zdq a0)
def Za3g(a0:List Zg):Zqe->Prop
 | .L0 v0 v4=>(v0=a0)/\((SzL 176 Z1) v0)/\(0<=v4)/\(∀ (k:Nat) c,(k:Int) < v4->v0[k]?=some c->c.Abilities.length<=8)/\(∀ (k:Nat) x,(k:Int) < v4->v0[k]?=some x->Zq8 x.Abilities)
def Z20:Zqe->M6
 | .L0 v0 v4=>(1,((v0.length:Int) - v4).toNat,1000000,0,0,0)
theorem Za3h{a0:List Zg}(oa0:(SzL 176 Z1) a0):Tot (Za0t a0) (Zazj a0):=by
 apply Tot.rn (Za3g a0) Z20
 .dsimp only [Zams,LT.den];apply tD<;>intro h1
  .exact Zav3
  exact tL ⟨rfl,oa0,cl,tk30,tk61⟩ (by unfold Z20 lt6;dsimp only;omega)
 rintro ⟨v0,v4⟩ ⟨al0,ov0,cv4,i0,i1⟩;have lb_v0:=ov0.1;subst al0;dsimp only [Z56,Zaf9,LT.den];apply tD<;>intro h1
 .refine Tot.ix fun x1 h2=>?_;have oh2:Z1 x1:=ov0.2 x1 h2.1;have mh2:=h2.2;refine tB (Zbgu oh2) fun x2 h3=>?_;have eh3_0:=h3.1;have eh3_1:=h3.2;apply tO<;>intro h4
  .exact Zav3
  have h4_0:=eh3_0 h4;refine tB (Za95 ov0 (SzS.t oh2.1)) fun x3 h5=>?_;apply tD<;>intro h6
  .exact Zav3
  refine tB (Zawd ov0 oh2) fun x4 h7=>?_;apply tO<;>intro h8
  .exact Zav3
  have q1:=wr (v4+1);exact tL ⟨rfl,ov0,cl,tk30,tk61⟩ (by unfold Z20 lt6;dsimp only;omega)
 exact Zav3
theorem Zex{a0:Int}{a1:Int}{a2:Int}:Tot (Zbit a0 a1 a2) (fun r=>(r=true↔(a1<=a0/\a0<=a2))):=by
 apply tZ;dsimp only [Za7r,LT.den];apply tD<;>intro h1
 .exact tR (by grind)
 exact tR (by grind)
def Za3i:Zqf->Prop
 | .L0 E0 v3=>(0<=v3)/\True
def Zaji:Zqf->M6
 | .L0 E0 v3=>(1,(6 - v3).toNat,1000000,0,0,0)
theorem Za3j{a0:A6 Int}:Tot (Za0u a0) (fun r=>True):=by
 apply Tot.rn Za3i Zaji
 .dsimp only [Zamt,LT.den];exact tl33
 rintro ⟨E0,v3⟩ ⟨cv3,_⟩;dsimp only [Z57,Zaga,LT.den];apply tD<;>intro h1
 .refine tB (tI (by omega) tk96) fun x1 h2=>?_;apply tD<;>intro h3
  .exact tR trivial
  refine tB (tI (by omega) tk96) fun x2 h4=>?_;apply tD<;>intro h5
  .exact tR trivial
  have q1:=wr (v3+1);exact tl33
 exact tR trivial
def Za3k(a0:Za)(a1:Int):Zqg->Prop
 | .L0 v1 E0 v5=>(E0=a0)/\(v1=a1)/\(Zl E0)/\(0<=v5)/\(NoId E0.Objects v1 v5)
def Z21:Zqg->M6
 | .L0 v1 E0 v5=>(1,((E0.Objects.length:Int) - v5).toNat,1000000,0,0,0)
theorem Zad8{a0:Za}{a1:Int}(oa0:Zl a0):Tot (Za0v a0 a1) (fun r=>(r < (a0.Objects.length:Int))/\(r=ixO a0.Objects a1)):=by
 apply Tot.rn (Za3k a0 a1) Z21
 .dsimp only [Zamu,LT.den];exact tL ⟨rfl,rfl,oa0,cl,tk51⟩ (by unfold Z21 lt6;dsimp only;omega)
 rintro ⟨v1,E0,v5⟩ ⟨al0,al1,O0,cv5,i0⟩;subst al0;subst al1;dsimp only [Z58,Zagb,LT.den];have q1:=O0.2.1.1;apply tD<;>intro h1
 .refine Tot.ix fun x1 h2=>?_;have mh2:=h2.2;apply tE<;>intro h3
  .exact Za4r
  have q2:=wr (v5+1);exact tL ⟨rfl,rfl,O0,cl,tk51⟩ (by unfold Z21 lt6;dsimp only;omega)
 exact Za4r
theorem Zk6{a0:Za}{a1:Int}(oa0:Zl a0):Tot (Za7u a0 a1) (fun r=>(r=fdV a0.Objects a1)):=by
 apply tZ;dsimp only [Zatv,LT.den];refine tB (Zad8 oa0) fun x1 h1=>?_;have eh1_0:=h1.1;have eh1_1:=h1.2;exact Zbog
theorem Z9j{a0:Za}{a1:Int}(oa0:Zl a0):Tot (Zatx a0 a1) (fun r=>True):=by
 apply tZ;dsimp only [Zagd,LT.den];exact tB (Zk6 oa0) fun x1 h1=>tR trivial
def Za3l:Zqh->Prop
 | .L0 v0 v1 v5 v6=>((SzL 8 (fun _=>True)) v0)/\(0<=v6)
def Z22:Zqh->M6
 | .L0 v0 v1 v5 v6=>(1,((v0.length:Int) - v6).toNat,1000000,0,0,0)
theorem Zz1{a0:List Int}{a1:Int}(oa0:(SzL 8 (fun _=>True)) a0):Tot (Za0w a0 a1) (fun r=>True):=by
 apply Tot.rn Za3l Z22
 .dsimp only [Zamv,LT.den];exact tL ⟨oa0,cl⟩ (by unfold Z22 lt6;dsimp only;omega)
 rintro ⟨v0,v1,v5,v6⟩ ⟨ov0,cv6⟩;have lb_v0:=ov0.1;dsimp only [Z59,Zagf,LT.den];apply tD<;>intro h1
 .refine Tot.ix fun x1 h2=>?_;apply tE<;>intro h3
  .exact tl54
  exact tl54
 exact tR trivial
def Za96:Zth->Prop
 | .L0 v1 v2 v3 E0 v9=>((SzL 8 (fun _=>True)) v1)/\(Zl E0)/\(0<=v9)
def Z68:Zth->M6
 | .L0 v1 v2 v3 E0 v9=>(1,((v1.length:Int) - v9).toNat,1000000,0,0,0)
theorem Zo5{a0:Za}{a1:List Int}{a2:Int}{a3:Int}(oa0:Zl a0)(oa1:(SzL 8 (fun _=>True)) a1):Tot (Za7v a0 a1 a2 a3) (fun r=>True):=by
 apply Tot.rn Za96 Z68
 .dsimp only [Zaty,LT.den];exact tL ⟨oa1,oa0,cl⟩ (by unfold Z68 lt6;dsimp only;omega)
 rintro ⟨v1,v2,v3,E0,v9⟩ ⟨ov1,O0,cv9⟩;have lb_v1:=ov1.1;dsimp only [Zaay,Zamw,LT.den];apply tD<;>intro h1
 .refine Tot.ix fun x1 h2=>tB (Z9j O0) fun x2 h3=>?_;apply tO<;>intro h4
  .exact tR trivial
  apply tN<;>intro h5
  .exact tR trivial
  apply tD<;>intro h6
  .apply tN<;>intro h7
   .exact tR trivial
   refine tB (Zz1 ov1) fun x3 h8=>?_;apply tN<;>intro h9
   .exact tR trivial
   exact tl68
  refine tB (Zz1 ov1) fun x3 h7=>?_;apply tN<;>intro h8
  .exact tR trivial
  exact tl68
 exact tR trivial
def Zawe:Zmf->Prop
 | .L0 E0 v3=>(Zl E0)/\(0<=v3)
def Zv6:Zmf->M6
 | .L0 E0 v3=>(1,((E0.Players.length:Int) - v3).toNat,1000000,0,0,0)
theorem Zawf{a0:Za}(oa0:Zl a0):Tot (Zamx a0) (fun r=>True):=by
 apply Tot.rn Zawe Zv6
 .dsimp only [Zacn,LT.den];have q1:=oa0.1.1;refine tB (Zex) fun x1 h1=>?_;apply tO<;>intro h2
  .exact tR trivial
  exact tL ⟨oa0,cl⟩ (by unfold Zv6 lt6;dsimp only;omega)
 rintro ⟨E0,v3⟩ ⟨O0,cv3⟩;dsimp only [Zyr,Z72,LT.den];have q1:=O0.1.1;apply tD<;>intro h1
 .refine Tot.ix fun x1 h2=>?_;have oh2:Zbt x1:=O0.1.2 x1 h2.1;refine tB (Zex) fun x2 h3=>?_;apply tO<;>intro h4
  .exact tR trivial
  refine tB (Zex) fun x3 h5=>?_;apply tO<;>intro h6
  .exact tR trivial
  refine tB (Zex) fun x4 h7=>?_;apply tO<;>intro h8
  .exact tR trivial
  refine tB (Za3j) fun x5 h9=>?_;apply tO<;>intro h10
  .exact tR trivial
  refine tB (Zo5 O0 oh2.1) fun x6 h11=>?_;apply tO<;>intro h12
  .exact tR trivial
  refine tB (Zo5 O0 oh2.2.1) fun x7 h13=>?_;apply tO<;>intro h14
  .exact tR trivial
  refine tB (Zo5 O0 oh2.2.2) fun x8 h15=>?_;apply tO<;>intro h16
  .exact tR trivial
  have q2:=wr (v3+1);exact tL ⟨O0,cl⟩ (by unfold Zv6 lt6;dsimp only;omega)
 refine tB (Zo5 O0 O0.2.2.1) fun x1 h2=>?_;apply tF<;>intro h3
 .exact tB (Zo5 O0 O0.2.2.2.1) fun x2 h4=>tR trivial
 exact tR trivial
theorem Zhh{a0:Za}{a1:Int}(oa0:Zl a0):Tot (Zatz a0 a1) (fun r=>(r=true↔(0<=a1/\a1 < (a0.Players.length:Int)))):=by
 apply tZ;dsimp only [Zagg,LT.den];have q1:=oa0.1.1;have q2:=wr ((a0.Players.length:Int) - 1);exact tB (Zex) fun x1 h1=>tR (by grind)
def Zbgv:Z1u->Prop
 | .L0 E0 v3=>(0<=v3)/\True
def Za2h:Z1u->M6
 | .L0 E0 v3=>(1,(3 - v3).toNat,1000000,0,0,0)
theorem Zbgw{a0:A3 Int}:Tot (Zbiu a0) (fun r=>True):=by
 apply Tot.rn Zbgv Za2h
 .dsimp only [Za7w,LT.den];exact tl30
 rintro ⟨E0,v3⟩ ⟨cv3,_⟩;dsimp only [Zaps,Za0x,LT.den];apply tD<;>intro h1
 .refine tB (tI (by omega) (by have e:(A3.list E0).length=3:=rfl;omega)) fun x1 h2=>?_;apply tD<;>intro h3
  .exact tR trivial
  refine tB (tI (by omega) (by have e:(A3.list E0).length=3:=rfl;omega)) fun x2 h4=>?_;apply tD<;>intro h5
  .exact tR trivial
  have q1:=wr (v3+1);exact tl30
 exact tR trivial
theorem Za97{a0:Zc}:Tot (Za7x a0) (fun r=>True):=by
 apply tZ;dsimp only [Zat0,LT.den];exact tR trivial
theorem Za3m{a0:Zc}:Tot (Za0y a0) (fun r=>True):=by
 apply tZ;dsimp only [Zamy,LT.den];exact tR trivial
theorem Zbgx{a0:Zc}{a1:Int}{a2:Int}:Tot (Zbiw a0 a1 a2) (fun r=>(r=true->1<=a0.Id)/\(r=true->0<=a0.Shield/\a0.Shield<=1000000)):=by
 apply tZ;dsimp only [Za7z,LT.den];apply tD<;>intro h1
 .exact Zh1
 apply tD<;>intro h2
 .exact Zh1
 apply tD<;>intro h3
 .exact Zh1
 apply tD<;>intro h4
 .exact Zh1
 apply tD<;>intro h5
 .exact Zh1
 apply tD<;>intro h6
 .exact Zh1
 apply tD<;>intro h7
 .exact Zh1
 apply tD<;>intro h8
 .exact Zh1
 apply tD<;>intro h9
 .exact Zh1
 apply tD<;>intro h10
 .exact Zh1
 apply tD<;>intro h11
 .exact Zh1
 apply tD<;>intro h12
 .exact Zh1
 apply tD<;>intro h13
 .exact Zh1
 apply tD<;>intro h14
 .exact Zh1
 apply tD<;>intro h15
 .exact Zh1
 apply tD<;>intro h16
 .exact Zh1
 apply tD<;>intro h17
 .exact Zh1
 refine tB (Zbgw) fun x1 h18=>?_;apply tO<;>intro h19
 .exact Zh1
 apply tD<;>intro h20
 .exact Zh1
 apply tD<;>intro h21
 .exact Zh1
 apply tD<;>intro h22
 .exact Zh1
 apply tD<;>intro h23
 .exact Zh1
 apply tE<;>intro h24
 .exact tl90
 refine tB (Za97) fun x2 h25=>?_;apply tF<;>intro h26
 .refine tB (Za3m) fun x3 h27=>?_;apply tF<;>intro h28
  .apply tO<;>intro h29
   .apply tO<;>intro h30
    .exact tl90
    exact Zh1
   exact Zh1
  exact Zh1
 exact Zh1
def Zazk:Zof->Prop
 | .L0 v1 E0 v5 v6=>(Zl E0)/\(0<=v6)
def Zz2:Zof->M6
 | .L0 v1 E0 v5 v6=>(1,((E0.Stack.length:Int) - v6).toNat,1000000,0,0,0)
theorem Zazl{a0:Za}{a1:Int}(oa0:Zl a0):Tot (Zat2 a0 a1) (fun r=>True):=by
 apply Tot.rn Zazk Zz2
 .dsimp only [Zagi,LT.den];exact tL ⟨oa0,cl⟩ (by unfold Zz2 lt6;dsimp only;omega)
 rintro ⟨v1,E0,v5,v6⟩ ⟨O0,cv6⟩;dsimp only [Z1v,Zaco,LT.den];have q1:=O0.2.2.2.2.1.1;apply tD<;>intro h1
 .refine Tot.ix fun x1 h2=>?_;apply tE<;>intro h3
  .apply tE<;>intro h4
   .exact tl67
   exact tl67
  exact tl67
 exact tR trivial
theorem Zem{a0:List Int}(oa0:(SzL 8 (fun _=>True)) a0):Tot (Zapt a0) (fun r=>((SzL 8 (fun _=>True)) r)/\(r=a0)):=by
 apply tZ;have lb_a0:=oa0.1;dsimp only [Zat3,LT.den];refine Tot.ap fun x1 h1=>?_;have lh1:x1.length=([]:List Int).length+a0.length:=by rw [h1,List.length_append]
 try simp only [List.length_cons,List.length_nil,Nat.zero_add] at lh1
 exact tR ⟨SzL.tr,(by first | assumption | (simpa using (by assumption:r=[]++a0)) | grind)⟩
theorem Za98{a0:Za}{a1:Int}{a2:Int}(oa0:Zl a0):Tot (Zapu a0 a1 a2) (fun r=>((SzL 8 (fun _=>True)) r)):=by
 apply tZ;dsimp only [Zat5,LT.den];apply tE<;>intro h1
 .exact tB (Zem oa0.2.2.1) fun x1 h2=>tR h2.1
 apply tE<;>intro h2
 .exact tB (Zem oa0.2.2.2.1) fun x1 h3=>tR h3.1
 apply tD<;>intro h3
 .exact tR SzL.nil
 apply tD<;>intro h4
 .exact tR SzL.nil
 apply tE<;>intro h5
 .refine Tot.ix fun x1 h6=>?_;have oh6:Zbt x1:=oa0.1.2 x1 h6.1;exact tB (Zem oh6.2.1) fun x2 h7=>tR h7.1
 apply tE<;>intro h6
 .refine Tot.ix fun x1 h7=>?_;have oh7:Zbt x1:=oa0.1.2 x1 h7.1;exact tB (Zem oh7.1) fun x2 h8=>tR h8.1
 apply tE<;>intro h7
 .refine Tot.ix fun x1 h8=>?_;have oh8:Zbt x1:=oa0.1.2 x1 h8.1;exact tB (Zem oh8.2.2) fun x2 h9=>tR h9.1
 exact tR SzL.nil
theorem Z9k{a0:Za}{a1:Zc}(oa0:Zl a0):Tot (Zat7 a0 a1) (fun r=>True):=by
 apply tZ;dsimp only [Zagj,LT.den];apply tE<;>intro h1
 .exact tB (Zazl oa0) fun x1 h2=>tR trivial
 exact tB (Za98 oa0) fun x1 h2=>tB (Zz1 h2) fun x2 h3=>tR trivial
def Zawg(a0:List Zg)(a1:Za):Zmg->Prop
 | .L0 v0 E0 v5=>(v0=a0)/\(E0=a1)/\((SzL 176 Z1) v0)/\(Zl E0)/\(0<=v5)/\(Cons E0.Objects v5)/\(∀ (k:Nat) x,(k:Int) < v5->E0.Objects[k]?=some x->0<=x.Shield/\x.Shield<=1000000)
def Zv7:Zmg->M6
 | .L0 v0 E0 v5=>(1,((E0.Objects.length:Int) - v5).toNat,1000000,0,0,0)
theorem Znu{a0:List Zg}{a1:Za}(oa0:(SzL 176 Z1) a0)(oa1:Zl a1):Tot (Zam0 a0 a1) (fun r=>(r=true->Ids a1.Objects)/\(r=true->ShOK a1.Objects)):=by
 apply Tot.rn (Zawg a0 a1) Zv7
 .dsimp only [Zacq,LT.den];have q1:=oa1.2.1.1;apply tD<;>intro h1
  .exact Z5b
  exact tL ⟨rfl,rfl,oa0,oa1,cl,tk13,tk36⟩ (by unfold Zv7 lt6;dsimp only;omega)
 rintro ⟨v0,E0,v5⟩ ⟨al0,al1,ov0,O0,cv5,i0,i1⟩;subst al0;subst al1;dsimp only [Zys,Z73,LT.den];have q1:=O0.2.1.1;apply tD<;>intro h1
 .refine Tot.ix fun x1 h2=>?_;have mh2:=h2.2;refine tB (Zbgx) fun x2 h3=>?_;have eh3_0:=h3.1;have eh3_1:=h3.2;apply tO<;>intro h4
  .exact Z5b
  have h4_0:=eh3_0 h4;apply tD<;>intro h5
  .exact Z5b
  apply tD<;>intro h6
  .exact Z5b
  apply tD<;>intro h7
  .have q2:=wr (v5 - 1);refine Tot.ix fun x3 h8=>?_;have mh8:=h8.2;apply tD<;>intro h9
   .exact Z5b
   refine tB (Z9k O0) fun x4 h10=>?_;apply tO<;>intro h11
   .exact Z5b
   have q3:=wr (v5+1);exact Zbos
  refine tB (Z9k O0) fun x3 h8=>?_;apply tO<;>intro h9
  .exact Z5b
  have q2:=wr (v5+1);exact Zbos
 exact Z5b
def Zaql(a0:List Zv)(a1:List Zv):Zkr->Prop
 | .L0 v0 v1 v5=>(v0=a0)/\(v1=a1)/\((SzL 176 Zax) v0)/\((SzL 176 Zax) v1)/\(0<=v5)/\(v0.length=v1.length)
def Zuk:Zkr->M6
 | .L0 v0 v1 v5=>(1,((v0.length:Int) - v5).toNat,1000000,0,0,0)
theorem Z23{a0:List Zv}{a1:List Zv}(oa0:(SzL 176 Zax) a0)(oa1:(SzL 176 Zax) a1):Tot (Zagl a0 a1) (fun r=>(a0=a1->r=true)):=by
 apply Tot.rn (Zaql a0 a1) Zuk
 .have lb_a1:=oa1.1;dsimp only [Z74,LT.den];have q1:=oa1.1;apply tN<;>intro h1
  .exact tR (by exact sm)
  exact tL ⟨rfl,rfl,oa0,oa1,cs⟩ (by unfold Zuk lt6;dsimp only;omega)
 rintro ⟨v0,v1,v5⟩ ⟨al0,al1,ov0,ov1,cv5,i0⟩;have lb_v0:=ov0.1;have lb_v1:=ov1.1;subst al0;subst al1;dsimp only [Zvl,Z4l,LT.den];apply tD<;>intro h1
 .refine Tot.ix fun x1 h2=>Tot.ix fun x2 h3=>?_;have mh3:=h3.2;apply tO<;>intro h4
  .exact tR (by exact sm)
  have q1:=wr (v5+1);exact tL ⟨rfl,rfl,ov0,ov1,cs⟩ (by unfold Zuk lt6;dsimp only;omega)
 exact tR (by exact sm)
theorem Za99{a0:Z6}{a1:Z6}(oa0:Zas a0)(oa1:Zas a1):Tot (Za72 a0 a1) (fun r=>(a0=a1->r=true)):=by
 apply tZ;dsimp only [Zat8,LT.den];apply tE<;>intro h1
 .apply tF<;>intro h2
  .apply tF<;>intro h3
   .apply tE<;>intro h4
    .apply tE<;>intro h5
     .apply tF<;>intro h6
      .apply tF<;>intro h7
       .apply tF<;>intro h8
        .exact tB (Z23 oa0.2.2.2.2 oa1.2.2.2.2) fun x1 h9=>tR (by exact sm)
        exact tR (by exact sm)
       exact tR (by exact sm)
      exact tR (by exact sm)
     exact tR (by exact sm)
    exact tR (by exact sm)
   exact tR (by exact sm)
  exact tR (by exact sm)
 exact tR (by exact sm)
def Zaqm(a0:List Z6)(a1:List Z6):Zks->Prop
 | .L0 v0 v1 v5=>(v0=a0)/\(v1=a1)/\((SzL 560 Zas) v0)/\((SzL 560 Zas) v1)/\(0<=v5)/\(v0.length=v1.length)
def Zul:Zks->M6
 | .L0 v0 v1 v5=>(1,((v0.length:Int) - v5).toNat,1000000,0,0,0)
theorem Zaqn{a0:List Z6}{a1:List Z6}(oa0:(SzL 560 Zas) a0)(oa1:(SzL 560 Zas) a1):Tot (Zagm a0 a1) (fun r=>(a0=a1->r=true)):=by
 apply Tot.rn (Zaqm a0 a1) Zul
 .have lb_a1:=oa1.1;dsimp only [Z75,LT.den];have q1:=oa1.1;apply tN<;>intro h1
  .exact tR (by exact sm)
  exact tL ⟨rfl,rfl,oa0,oa1,cs⟩ (by unfold Zul lt6;dsimp only;omega)
 rintro ⟨v0,v1,v5⟩ ⟨al0,al1,ov0,ov1,cv5,i0⟩;have lb_v0:=ov0.1;have lb_v1:=ov1.1;subst al0;subst al1;dsimp only [Zvm,Z4n,LT.den];apply tD<;>intro h1
 .refine Tot.ix fun x1 h2=>?_;have oh2:Zas x1:=ov0.2 x1 h2.1;refine Tot.ix fun x2 h3=>?_;have oh3:Zas x2:=ov1.2 x2 h3.1;have mh3:=h3.2;refine tB (Za99 oh2 oh3) fun x3 h4=>?_;apply tO<;>intro h5
  .exact tR (by exact sm)
  have q1:=wr (v5+1);exact tL ⟨rfl,rfl,ov0,ov1,cs⟩ (by unfold Zul lt6;dsimp only;omega)
 exact tR (by exact sm)
def Zbaa(a0:Zh)(a1:Zh):Zti->Prop
 | .L0 E0 E1 v5=>(E0=a0)/\(E1=a1)/\(Zac E0)/\(Zac E1)/\(0<=v5)/\(E0.Specs.length=E1.Specs.length)
def Z69:Zti->M6
 | .L0 E0 E1 v5=>(1,((E0.Specs.length:Int) - v5).toNat,1000000,0,0,0)
theorem Z24{a0:Zh}{a1:Zh}(oa0:Zac a0)(oa1:Zac a1):Tot (Za73 a0 a1) (fun r=>(a0=a1->r=true)):=by
 apply Tot.rn (Zbaa a0 a1) Z69
 .dsimp only [Zaub,LT.den];have q1:=oa0.2.2.2.1.1;have q2:=oa1.2.2.2.1.1;apply tN<;>intro h1
  .exact tR (by exact sm)
  exact tL ⟨rfl,rfl,oa0,oa1,cs⟩ (by unfold Z69 lt6;dsimp only;omega)
 rintro ⟨E0,E1,v5⟩ ⟨al0,al1,O0,O1,cv5,i0⟩;subst al0;subst al1;dsimp only [Zaaz,Zam1,LT.den];have q1:=O0.2.2.2.1.1;apply tD<;>intro h1
 .refine Tot.ix fun x1 h2=>Tot.ix fun x2 h3=>?_;have mh3:=h3.2;apply tO<;>intro h4
  .exact tR (by exact sm)
  have q2:=wr (v5+1);exact tL ⟨rfl,rfl,O0,O1,cs⟩ (by unfold Z69 lt6;dsimp only;omega)
 apply tE<;>intro h2
 .apply tF<;>intro h3
  .refine tB (Z23 O0.2.1 O1.2.1) fun x1 h4=>?_;apply tF<;>intro h5
   .apply tF<;>intro h6
    .apply tF<;>intro h7
     .apply tF<;>intro h8
      .apply tF<;>intro h9
       .refine tB (Zaqn O0.2.2.2.2.1 O1.2.2.2.2.1) fun x2 h10=>?_;apply tF<;>intro h11
        .exact tR (by exact sm)
        exact tR (by exact sm)
       exact tR (by exact sm)
      exact tR (by exact sm)
     exact tR (by exact sm)
    exact tR (by exact sm)
   exact tR (by exact sm)
  exact tR (by exact sm)
 exact tR (by exact sm)
theorem Zbab{a0:Za}{a1:Zai}(oa0:Zl a0)(oa1:Zcr a1):Tot (Za74 a0 a1) (fun r=>True):=by
 apply tZ;dsimp only [Zauc,LT.den];refine tB (Zex) fun x1 h1=>?_;apply tO<;>intro h2
 .exact tR trivial
 refine tB (Zex) fun x2 h3=>?_;apply tO<;>intro h4
 .exact tR trivial
 apply tD<;>intro h5
 .exact tR trivial
 refine tB (Zhh oa0) fun x3 h6=>?_;apply tO<;>intro h7
 .exact tR trivial
 refine tB (Z9j oa0) fun x4 h8=>?_;apply tE<;>intro h9
 .refine tB (Z24 oa1.1 ⟨SzS.nil,SzL.nil,SzS.nil,SzL.nil,SzL.nil,SzS.nil⟩) fun x5 h10=>?_;apply tE<;>intro h11
  .apply tF<;>intro h12
   .apply tE<;>intro h13
    .apply tF<;>intro h14
     .exact tR trivial
     exact tB (Z0x oa1.1) fun x6 h15=>tR trivial
    exact tR trivial
   exact tR trivial
  exact tR trivial
 apply tE<;>intro h10
 .apply tO<;>intro h11
  .exact tB (Z0x oa1.1) fun x5 h12=>tR trivial
  exact tR trivial
 exact tR trivial
def Zbgy:Z1w->Prop
 | .L0 v0 v3=>((SzL 8 (fun _=>True)) v0)/\(0<=v3)/\(1<=v3)
def Zajj:Z1w->M6
 | .L0 v0 v3=>(1,((v0.length:Int) - v3).toNat,1000000,0,0,0)
theorem Zbgz{a0:List Int}(oa0:(SzL 8 (fun _=>True)) a0):Tot (Zbiy a0) (fun r=>True):=by
 apply Tot.rn Zbgy Zajj
 .dsimp only [Za75,LT.den];exact tL ⟨oa0,cs⟩ (by unfold Zajj lt6;dsimp only;omega)
 rintro ⟨v0,v3⟩ ⟨ov0,cv3,i0⟩;have lb_v0:=ov0.1;dsimp only [Zapv,Za0z,LT.den];apply tD<;>intro h1
 .have q1:=wr (v3 - 1);refine Tot.ix fun x1 h2=>Tot.ix fun x2 h3=>?_;apply tD<;>intro h4
  .exact tR trivial
  have q2:=wr (v3+1);exact tL ⟨ov0,cs⟩ (by unfold Zajj lt6;dsimp only;omega)
 exact tR trivial
def Za3n:Zi1->Prop
 | .L0 E0 v3=>(Zl E0)/\(0<=v3)
 | .L1 E0 v3 v4=>(Zl E0)/\(0<=v4)/\(0<=v3)/\(v3 < (E0.Stack.length:Int))
 | .L2 E0 v5=>(Zl E0)/\(0<=v5)
 | .L3 E0 v7=>(Zl E0)/\(0<=v7)
def Zajk:Zi1->M6
 | .L0 E0 v3=>(5,((E0.Stack.length:Int) - v3).toNat,1000000,0,0,0)
 | .L1 E0 v3 v4=>(5,((E0.Stack.length:Int) - v3).toNat,1,(v3 - v4).toNat,1000000,0)
 | .L2 E0 v5=>(3,((E0.Waiting.length:Int) - v5).toNat,1000000,0,0,0)
 | .L3 E0 v7=>(1,((E0.Conts.length:Int) - v7).toNat,1000000,0,0,0)
theorem Zrd{a0:Za}(oa0:Zl a0):Tot (Za00 a0) (fun r=>True):=by
 apply Tot.rn Za3n Zajk
 .dsimp only [Zam2,LT.den];have q1:=oa0.2.2.2.2.1.1;apply tD<;>intro h1
  .exact tR trivial
  apply tD<;>intro h2
  .exact tR trivial
  apply tD<;>intro h3
  .exact tR trivial
  exact tL ⟨oa0,cl⟩ Zbgj
 intro s hs;cases s with
 | L0 E0 v3=>
  obtain⟨O0,cv3⟩:=hs;dsimp only [Zm8,Zagn,LT.den];have q1:=O0.2.2.2.2.1.1;apply tD<;>intro h1
  .refine Tot.ix fun x1 h2=>?_;have oh2:Zcr x1:=O0.2.2.2.2.1.2 x1 h2.1;refine tB (Zbab O0 oh2) fun x2 h3=>?_;apply tO<;>intro h4
   .exact tR trivial
   exact tl39
  exact tl38
 | L1 E0 v3 v4=>
  obtain⟨O0,cv4,cv3,bd3⟩:=hs;dsimp only [Zm8,Zago,LT.den];have lx_0:E0.Stack.length*824<=140737488351232:=O0.2.2.2.2.1.1;apply tD<;>intro h1
  .refine Tot.ix fun x1 h2=>Tot.ix fun x2 h3=>?_;apply tE<;>intro h4
   .exact tR trivial
   have q1:=wr (v4+1);exact tl39
  have q1:=wr (v3+1);exact tl38
 | L2 E0 v5=>
  obtain⟨O0,cv5⟩:=hs;dsimp only [Zm8,Zagp,LT.den];have q1:=O0.2.2.2.2.2.1.1;apply tD<;>intro h1
  .refine Tot.ix fun x1 h2=>?_;have oh2:Zd1 x1:=O0.2.2.2.2.2.1.2 x1 h2.1;refine tB (Zhh O0) fun x2 h3=>?_;apply tO<;>intro h4
   .exact tR trivial
   apply tN<;>intro h5
   .exact tR trivial
   refine tB (Z0x oh2) fun x3 h6=>?_;have eh6_0:=h6;apply tO<;>intro h7
   .exact tR trivial
   have q2:=wr (v5+1);exact tl38
  exact tl38
 | L3 E0 v7=>
  obtain⟨O0,cv7⟩:=hs;dsimp only [Zm8,Zagq,LT.den];have q1:=O0.2.2.2.2.2.2.1.1;apply tD<;>intro h1
  .refine Tot.ix fun x1 h2=>?_;have oh2:Zdp x1:=O0.2.2.2.2.2.2.1.2 x1 h2.1;refine tB (Zhh O0) fun x2 h3=>?_;apply tO<;>intro h4
   .exact tR trivial
   apply tD<;>intro h5
   .exact tR trivial
   refine tB (Zex) fun x3 h6=>?_;have eh6_0:=h6;apply tO<;>intro h7
   .exact tR trivial
   refine tB (Zbgz oh2.1) fun x4 h8=>?_;apply tO<;>intro h9
   .exact tR trivial
   refine tB (Zry oh2.2) fun x5 h10=>?_;apply tF<;>intro h11
   .exact tR trivial
   have q2:=wr (v7+1);exact tl38
  exact tR trivial
def Zbg0(a0:List Zg)(a1:Za):Z1x->Prop
 | .L0 v0 E0 v5=>(E0=a1)/\((SzL 176 Z1) v0)/\(Zl E0)/\(0<=v5)
def Zajl:Z1x->M6
 | .L0 v0 E0 v5=>(1,((E0.Extra.length:Int) - v5).toNat,1000000,0,0,0)
theorem Zbg1{a0:List Zg}{a1:Za}(oa0:(SzL 176 Z1) a0)(oa1:Zl a1):Tot (Zbi0 a0 a1) (fun r=>(r=true->Ids a1.Objects)/\(r=true->ShOK a1.Objects)):=by
 apply Tot.rn (Zbg0 a0 a1) Zajl
 .dsimp only [Za76,LT.den];refine tB (Zex) fun x1 h1=>?_;apply tO<;>intro h2
  .exact Ziu
  refine tB (Zex) fun x2 h3=>?_;apply tO<;>intro h4
  .exact Ziu
  refine tB (Zex) fun x3 h5=>?_;apply tO<;>intro h6
  .exact Ziu
  refine tB (Zex) fun x4 h7=>?_;apply tO<;>intro h8
  .exact Ziu
  apply tD<;>intro h9
  .exact Ziu
  refine tB (Zawf oa1) fun x5 h10=>?_;apply tO<;>intro h11
  .exact Ziu
  refine tB (Zhh oa1) fun x6 h12=>?_;apply tO<;>intro h13
  .exact Ziu
  refine tB (Zhh oa1) fun x7 h14=>?_;have eh14_0:=h14;apply tO<;>intro h15
  .exact Ziu
  refine tB (Zex) fun x8 h16=>?_;apply tO<;>intro h17
  .exact Ziu
  apply tD<;>intro h18
  .exact Ziu
  refine tB (Zex) fun x9 h19=>?_;apply tO<;>intro h20
  .exact Ziu
  exact tL ⟨rfl,oa0,oa1,cl⟩ (by unfold Zajl lt6;dsimp only;omega)
 rintro ⟨v0,E0,v5⟩ ⟨al0,ov0,O0,cv5⟩;subst al0;dsimp only [Zapw,Za01,LT.den];have q1:=O0.2.2.2.2.2.2.2.1;apply tD<;>intro h1
 .refine Tot.ix fun x1 h2=>tB (Zhh O0) fun x2 h3=>?_;apply tO<;>intro h4
  .exact Ziu
  have q2:=wr (v5+1);exact tL ⟨rfl,ov0,O0,cl⟩ (by unfold Zajl lt6;dsimp only;omega)
 apply tE<;>intro h2
 .refine tB (Zhh O0) fun x1 h3=>?_;apply tO<;>intro h4
  .exact Ziu
  apply tN<;>intro h5
  .apply tN<;>intro h6
   .exact Ziu
   refine tB (Znu ov0 O0) fun x2 h7=>?_;have eh7_0:=h7.1;have eh7_1:=h7.2;apply tF<;>intro h8
   .have h8_0:=eh7_0 h8;have h8_1:=eh7_1 h8;exact tB (Zrd O0) fun x3 h9=>tR ⟨tk86,tk82⟩
   exact Ziu
  refine tB (Znu ov0 O0) fun x2 h6=>?_;have eh6_0:=h6.1;have eh6_1:=h6.2;apply tF<;>intro h7
  .have h7_0:=eh6_0 h7;have h7_1:=eh6_1 h7;exact tB (Zrd O0) fun x3 h8=>tR ⟨tk86,tk82⟩
  exact Ziu
 apply tN<;>intro h3
 .apply tN<;>intro h4
  .exact Ziu
  refine tB (Znu ov0 O0) fun x1 h5=>?_;have eh5_0:=h5.1;have eh5_1:=h5.2;apply tF<;>intro h6
  .have h6_0:=eh5_0 h6;have h6_1:=eh5_1 h6;exact tB (Zrd O0) fun x2 h7=>tR ⟨tk86,tk82⟩
  exact Ziu
 refine tB (Znu ov0 O0) fun x1 h4=>?_;have eh4_0:=h4.1;have eh4_1:=h4.2;apply tF<;>intro h5
 .have h5_0:=eh4_0 h5;have h5_1:=eh4_1 h5;exact tB (Zrd O0) fun x2 h6=>tR ⟨tk86,tk82⟩
 exact Ziu
abbrev Zazm(a0:List Zg)(a1:Za)(r:Bool):Prop:=(r=true->a1.Objects.length<=60/\a1.Conts.length<=8/\a1.Players.length<=4/\∀ c,c∈a0->c.Abilities.length<=8)/\(r=true->Ids a1.Objects)/\(r=true->Zdq a0)/\(r=true->ShOK a1.Objects)
def Za3o(a0:List Zg)(a1:Za):Zqj->Prop
 | .L0 v0 E0 v5=>(v0=a0)/\(E0=a1)/\((SzL 176 Z1) v0)/\(Zl E0)/\(0<=v5)/\(E0.Objects.length<=60)/\(E0.Conts.length<=8)/\(E0.Players.length<=4)
def Z25:Zqj->M6
 | .L0 v0 E0 v5=>(1,((E0.Players.length:Int) - v5).toNat,1000000,0,0,0)
theorem Zm0{a0:List Zg}{a1:Za}(oa0:(SzL 176 Z1) a0)(oa1:Zl a1):Tot (Za02 a0 a1) (Zazm a0 a1):=by
 apply Tot.rn (Za3o a0 a1) Z25
 .dsimp only [Zam3,LT.den];apply tD<;>intro h1
  .exact Zq9
  have q1:=oa1.1.1;apply tD<;>intro h2
  .exact Zq9
  have q2:=oa1.2.1.1;apply tD<;>intro h3
  .exact Zq9
  apply tD<;>intro h4
  .exact Zq9
  apply tD<;>intro h5
  .exact Zq9
  apply tD<;>intro h6
  .exact Zq9
  have q3:=oa1.2.2.2.2.2.1.1;apply tD<;>intro h7
  .exact Zq9
  have q4:=oa1.2.2.2.2.2.2.1.1;apply tD<;>intro h8
  .exact Zq9
  apply tD<;>intro h9
  .exact Zq9
  exact tL ⟨rfl,rfl,oa0,oa1,cs⟩ (by unfold Z25 lt6;dsimp only;omega)
 rintro ⟨v0,E0,v5⟩ ⟨al0,al1,ov0,O0,cv5,i0,i1,i2⟩;subst al0;subst al1;dsimp only [Z6b,Zagr,LT.den];apply tD<;>intro h1
 .refine Tot.ix fun x1 h2=>?_;have oh2:Zbt x1:=O0.1.2 x1 h2.1;have q1:=oh2.1.1;apply tD<;>intro h3
  .exact Zq9
  have q2:=wr (v5+1);exact tL ⟨rfl,rfl,ov0,O0,cs⟩ (by unfold Z25 lt6;dsimp only;omega)
 refine tB (Za3h ov0) fun x1 h2=>?_;apply tE<;>intro h3
 .refine tB (Zbg1 ov0 O0) fun x2 h4=>?_;have eh4_0:=h4.1;have eh4_1:=h4.2;exact Zq9
 exact Zq9
theorem Zawh:Tot (Zam4) (fun r=>(Zl r.1)/\(r=(Zni 2,Zub 1 3))):=by
 apply tZ;dsimp only [Zacr,LT.den];have q1:(SzL 152 Zbt) ([(⟨20,0,0,(⟨0,0,0,0,0,0⟩:A6 Int),false,false,([]:List Int),([]:List Int),([]:List Int)⟩:Z9),(⟨20,0,0,(⟨0,0,0,0,0,0⟩:A6 Int),false,false,([]:List Int),([]:List Int),([]:List Int)⟩:Z9)]:List Z9):=⟨by simp only [List.length_cons,List.length_nil];omega,mem_cons' ⟨SzL.nil,SzL.nil,SzL.nil⟩ (mem_cons' ⟨SzL.nil,SzL.nil,SzL.nil⟩ (fun _ h=>by cases h))⟩;exact tR ⟨⟨q1,SzL.tr,SzL.tr,SzL.nil,SzL.nil,SzL.nil,SzL.nil,SzL.nil⟩,(by rfl)⟩
theorem Zqx:Tot (Zayd) (fun r=>((SzL 176 Z1) r)/\(r=Zl7)):=by
 apply tZ;dsimp only [Za03,LT.den];exact tR ⟨SzL.one ⟨(by unfold SzS;first | omega | (simp only [List.length_append,List.length_cons,List.length_nil];omega)),SzL.nil,SzL.nil⟩,(by rfl)⟩
theorem Z9l{a0:Zc}{b0:Int}:Tot (Zz7 a0 b0) (fun r=>(r=(a0.Id==b0))):=by
 apply tZ;dsimp only [Zu0,LT.den];exact tR (by rfl)
def Zg1(a0:List Zc)(b0:Int):Za4->Prop
 | .L0 v0 c0 v7 v8=>(v0=a0)/\(c0=b0)/\((SzL 128 (fun _=>True)) v0)/\(0<=v8)/\(v7=(v0.length:Int))/\(NoId v0 c0 v8)
def Zdt:Za4->M6
 | .L0 v0 c0 v7 v8=>(1,(v7 - v8).toNat,1000000,0,0,0)
theorem Zg2{a0:List Zc}{b0:Int}(oa0:(SzL 128 (fun _=>True)) a0):Tot (Zd2 a0 b0) (fun r=>(r.1=ixO a0 b0)):=by
 apply Tot.rn (Zg1 a0 b0) Zdt
 .dsimp only [Zdv,LT.den];exact tL ⟨rfl,rfl,oa0,cl,cl,tk51⟩ tk80
 rintro ⟨v0,c0,v7,v8⟩ ⟨al0,al1,ov0,cv8,i0,i1⟩;have lb_v0:=ov0.1;subst al0;subst al1;dsimp only [Zb5,Zdr,LT.den];apply tD<;>intro h1
 .refine Tot.ix fun x1 h2=>?_;have mh2:=h2.2;refine tB (Z9l) fun x2 h3=>?_;apply tF<;>intro h4
  .exact Za4q
  have q1:=wr (v8+1);exact tL ⟨rfl,rfl,ov0,cl,cl,tk51⟩ tk80
 exact Za4q
theorem Z9m{a0:Za}{a1:Int}(oa0:Zl a0):Tot (Zaue a0 a1) (fun r=>(r=ixO a0.Objects a1)):=by
 apply tZ;dsimp only [Zags,LT.den];exact tB (Zg2 oa0.2.1) fun x1 h1=>tR ‹_›
theorem Zm1{a0:Za}{a1:Int}(oa0:Zl a0):Tot (Za05 a0 a1) (fun r=>(r=fdV a0.Objects a1)):=by
 apply tZ;dsimp only [Zam5,LT.den];refine tB (Z9m oa0) fun x1 h1=>?_;have lh1:=Z9c a0.Objects a1;exact Zbog
theorem Zki{a0:Za}{a1:Int}(oa0:Zl a0):Tot (Zacu a0 a1) (fun r=>(r=((fdV a0.Objects a1).1,heB a0 a1))):=by
 apply tZ;dsimp only [Z4o,LT.den];refine tB (Zm1 oa0) fun x1 h1=>?_;exact tl60
theorem Zma{a0:Ze}:Tot (Zagu a0) (fun r=>(r=amB a0.Amount)):=by
 apply tZ;dsimp only [Z77,LT.den];exact tl62
theorem Zhi{a0:Za}{a1:Int}(oa0:Zl a0):Tot (Zagv a0 a1) (fun r=>(r=Znh a0.Players a1)):=by
 apply tZ;dsimp only [Z79,LT.den];exact Zbot
theorem Zawi{a0:Za}{a1:Ze}(oa0:Zl a0)(h0:Ids a0.Objects):Tot (Zam7 a0 a1) (fun r=>(r=(amB a1.Amount&&(heB a0 a1.Object||(decide (a1.Object=0)&&Znh a0.Players a1.Player))))):=by
 apply tZ;have l0:=Zbvr h0;dsimp only [Zacv,LT.den];refine tB (Zma) fun x1 h1=>?_;apply tO<;>intro h2
 .exact tR (by grind)
 apply tE<;>intro h3
 .exact tB (Zhi oa0) fun x2 h4=>tR (by grind)
 exact tB (Zki oa0) fun x2 h4=>tR (by grind)
theorem Zawj{a0:Za}{a1:Ze}(oa0:Zl a0):Tot (Zam8 a0 a1) (fun r=>(r=((fdV a0.Objects a1.Object).2&&decide (a1.From=(fdV a0.Objects a1.Object).1.Zone/\a1.To≠a1.From/\0<=a1.To/\a1.To<=4/\0<=a1.Player/\a1.Player < (a0.Players.length:Int))))):=by
 apply tZ;dsimp only [Zacx,LT.den];refine tB (Zm1 oa0) fun x1 h1=>?_;apply tF<;>intro h2
 .apply tE<;>intro h3
  .apply tN<;>intro h4
   .apply tD<;>intro h5
    .apply tD<;>intro h6
     .apply tD<;>intro h7
      .exact tR (by grind)
      exact tR (by grind)
     exact tR (by grind)
    exact tR (by grind)
   exact tR (by grind)
  exact tR (by grind)
 exact tR (by grind)
theorem Zaqo{a0:Za}{a1:Ze}(oa0:Zl a0):Tot (Zagw a0 a1) (fun r=>(r=(heB a0 a1.Object&&(decide (0<=a1.Counter/\a1.Counter < 3)&&amB a1.Amount)))):=by
 apply tZ;dsimp only [Z8b,LT.den];refine tB (Zki oa0) fun x1 h1=>?_;apply tF<;>intro h2
 .apply tD<;>intro h3
  .apply tD<;>intro h4
   .exact tB (Zma) fun x2 h5=>tR (by grind)
   exact tR (by grind)
  exact tR (by grind)
 exact tR (by grind)
theorem Zale{a0:List Zg}{a1:Za}{a2:Ze}(oa0:(SzL 176 Z1) a0)(oa1:Zl a1):Tot (Zacz a0 a1 a2) (fun r=>(r=(Znh a1.Players a2.Player&&(tokV a0 a2.Card&&amB a2.Amount)))):=by
 apply tZ;dsimp only [Z4q,LT.den];refine tB (Zhi oa1) fun x1 h1=>?_;apply tF<;>intro h2
 .apply tD<;>intro h3
  .apply tD<;>intro h4
   .refine Tot.ix fun x2 h5=>?_;have mh5:=h5.2;apply tF<;>intro h6
    .exact tB (Zma) fun x3 h7=>tR tk69
    exact tl74
   exact tl74
  exact tl74
 exact tl74
def Zjf(a0:List Zg)(a1:Za)(a2:Ze):Zlx->Prop
 | .L0 v0 E0 E1 E2 v8 v21 v32=>(v0=a0)/\(E0=a1)/\(E1=a2)/\((SzL 176 Z1) v0)/\(Zl E0)/\(Ids E0.Objects)/\(v8=heB E0 E1.Object)/\(E2=(fdV E0.Objects E1.Object).1)/\(v21=E1.Kind)/\(v32=true↔(E1.Kind=3\/E1.Kind=14\/E1.Kind=15\/E1.Kind=17))/\(¬ (E1.Kind=1\/E1.Kind=2))
 | .L1 v0 E0 E1 E2 v8 v21 v41=>(v0=a0)/\(E0=a1)/\(E1=a2)/\((SzL 176 Z1) v0)/\(Zl E0)/\(v8=heB E0 E1.Object)/\(E2=(fdV E0.Objects E1.Object).1)/\(v21=E1.Kind)/\(v41=true↔(E1.Kind=4\/E1.Kind=5\/E1.Kind=16))/\(¬ (E1.Kind=1\/E1.Kind=2\/E1.Kind=3\/E1.Kind=14\/E1.Kind=15\/E1.Kind=17))
 | .L2 v0 E0 E1 v8 v21 v68=>(v0=a0)/\(E0=a1)/\(E1=a2)/\((SzL 176 Z1) v0)/\(Zl E0)/\(v8=heB E0 E1.Object)/\(v21=E1.Kind)/\(v68=true↔(E1.Kind=8\/E1.Kind=9))/\(¬ (E1.Kind=1\/E1.Kind=2\/E1.Kind=3\/E1.Kind=14\/E1.Kind=15\/E1.Kind=17\/E1.Kind=4\/E1.Kind=5\/E1.Kind=16\/E1.Kind=6\/E1.Kind=7))
def Zwu:Zlx->M6
 | .L0 v0 E0 E1 E2 v8 v21 v32=>(0,0,0,0,0,0)
 | .L1 v0 E0 E1 E2 v8 v21 v41=>(0,0,0,0,0,0)
 | .L2 v0 E0 E1 v8 v21 v68=>(0,0,0,0,0,0)
theorem Z5m{a0:List Zg}{a1:Za}{a2:Ze}{v0:List Zg}{E0:Za}{E1:Ze}{v8:Bool}{v21:Int}{v68:Bool}(h:(Zjf a0 a1 a2) (.L2 v0 E0 E1 v8 v21 v68)):Tot (Zqk v0 E0 E1 v8 v21 v68).den (Nx (Zjf a0 a1 a2) Zwu (0,0,0,0,0,0) (fun r=>(r=evB a0 a1 a2))):=by
 obtain⟨al0,al1,al2,ov0,O0,i0,i1,i2,i3⟩:=h;subst al0;subst al1;subst al2;dsimp only [Zqk,LT.den];apply tF<;>intro h1
 .exact tB (Zaqo O0) fun x1 h2=>tR Z0u
 apply tE<;>intro h2
 .exact tB (Zale ov0 O0) fun x1 h3=>tR Z0u
 apply tE<;>intro h3
 .refine tB (Zm1 O0) fun x1 h4=>?_;apply tF<;>intro h5
  .apply tE<;>intro h6
   .exact tB (Zhi O0) fun x2 h7=>tR Z0u
   exact tl0
  exact tl0
 apply tE<;>intro h4
 .apply tF<;>intro h5
  .exact tB (Zhi O0) fun x1 h6=>tR Z0u
  exact tl0
 apply tE<;>intro h5
 .refine tB (Zki O0) fun x1 h6=>?_;apply tF<;>intro h7
  .exact tl0
  exact tl0
 exact tl0
theorem Z5n{a0:List Zg}{a1:Za}{a2:Ze}{v0:List Zg}{E0:Za}{E1:Ze}{E2:Zc}{v8:Bool}{v21:Int}{v41:Bool}(h:(Zjf a0 a1 a2) (.L1 v0 E0 E1 E2 v8 v21 v41)):Tot (Zm9 v0 E0 E1 E2 v8 v21 v41).den (Nx (Zjf a0 a1 a2) Zwu (0,0,0,0,0,0) (fun r=>(r=evB a0 a1 a2))):=by
 obtain⟨al0,al1,al2,ov0,O0,i0,i1,i2,i3,i4⟩:=h;subst al0;subst al1;subst al2;dsimp only [Zm9,LT.den];apply tF<;>intro h1
 .refine tB (Zhi O0) fun x1 h2=>?_;apply tF<;>intro h3
  .exact tB (Zma) fun x2 h4=>tR Z0u
  exact tl0
 apply tE<;>intro h2
 .apply tF<;>intro h3
  .exact tl0
  exact tl0
 apply tE<;>intro h3
 .apply tF<;>intro h4
  .exact tl0
  exact tl0
 apply tE<;>intro h4
 .exact tl89
 exact tl89
theorem Z5o{a0:List Zg}{a1:Za}{a2:Ze}{v0:List Zg}{E0:Za}{E1:Ze}{E2:Zc}{v8:Bool}{v21:Int}{v32:Bool}(h:(Zjf a0 a1 a2) (.L0 v0 E0 E1 E2 v8 v21 v32)):Tot (Zka v0 E0 E1 E2 v8 v21 v32).den (Nx (Zjf a0 a1 a2) Zwu (0,0,0,0,0,0) (fun r=>(r=evB a0 a1 a2))):=by
 obtain⟨al0,al1,al2,ov0,O0,i0,i1,i2,i3,i4,i5⟩:=h;subst al0;subst al1;subst al2;dsimp only [Zka,LT.den];apply tF<;>intro h1
 .exact tB (Zhi O0) fun x1 h2=>tR Z0u
 apply tE<;>intro h2
 .exact tl93
 apply tE<;>intro h3
 .exact tl93
 exact tl93
theorem Zbac{a0:List Zg}{a1:Za}{a2:Ze}(oa0:(SzL 176 Z1) a0)(oa1:Zl a1)(h0:Ids a1.Objects):Tot (Za77 a0 a1 a2) (fun r=>(r=evB a0 a1 a2)):=by
 apply Tot.rn (Zjf a0 a1 a2) Zwu
 .dsimp only [Zaug,LT.den];refine tB (Zki oa1) fun x1 h1=>?_;apply tE<;>intro h2
  .exact tB (Zawi oa1 ‹_›) fun x2 h3=>tR Z0u
  apply tE<;>intro h3
  .exact tB (Zawj oa1) fun x2 h4=>tR Z0u
  apply tE<;>intro h4
  .exact tl98
  apply tE<;>intro h5
  .exact tl98
  apply tE<;>intro h6
  .exact tl98
  exact tl98
 intro s hs;cases s with
 | L0 _ _ _ _ _ _ _=>exact Z5o hs
 | L1 _ _ _ _ _ _ _=>exact Z5n hs
 | L2 _ _ _ _ _ _=>exact Z5m hs
theorem Z3o{a0:Zc}{b0:Int}:Tot (Zu2 a0 b0) (fun r=>(r=(a0.Id==b0))):=by
 apply tZ;dsimp only [Zse,LT.den];exact tR (by rfl)
end Go.PW
