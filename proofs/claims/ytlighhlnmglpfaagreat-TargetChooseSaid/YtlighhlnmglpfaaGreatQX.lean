import Derived.Test.YtlighhlnmglpfaaGreatQE
import Derived.Test.YtlighhlnmglpfaaGreatPwYc
import Derived.Test.YtlighhlnmglpfaaGreatQDc
import Derived.Test.YtlighhlnmglpfaaGreatQSd
set_option linter.all false
set_option maxRecDepth 100000
namespace Go.PW
theorem tk0{p:Prop}(h:p:=by first | exact Eq.trans ‹v9=lgP _ _› (List.append_nil _).symm | exact Zbjn (by assumption) (by assumption) (by assumption) (by assumption) (by first | exact Za52 (by assumption) (by assumption) | exact Zbg1 (by assumption) (by assumption) (by assumption) (by assumption) | exact Zbg2 (by assumption) (by assumption) (by assumption) (by assumption) (by assumption) (by assumption) | exact Zbg3 (by assumption) (by assumption) (by assumption) (by assumption) (by assumption) (by assumption) | exact Zbg4 (by assumption) (by assumption) (by assumption) (by assumption) (by assumption)) rfl (by omega) | exact Zbia (by assumption) (by assumption) (by assumption) (by first | exact Za52 (by assumption) (by assumption) | exact Zbg1 (by assumption) (by assumption) (by assumption) (by assumption) | exact Zbg2 (by assumption) (by assumption) (by assumption) (by assumption) (by assumption) (by assumption) | exact Zbg3 (by assumption) (by assumption) (by assumption) (by assumption) (by assumption) (by assumption) | exact Zbg4 (by assumption) (by assumption) (by assumption) (by assumption) (by assumption)) (by omega)):p:=h
theorem tk1{p:Prop}(h:p:=by first | rfl | exact Za9k (by assumption) (by assumption) (by assumption) (by omega) (by assumption) (by assumption) (by assumption) (by omega) | exact Zbd4 (v:=v21) (by assumption) (by assumption) (by assumption) (by omega) (by assumption) (by assumption) (by assumption) (by omega) | exact Za53 (v:=v21) (by assumption) (by assumption) (by omega) (by omega) (by assumption) (by omega)):p:=h
theorem tk2{p:Prop}(h:p:=by first | rfl | exact Za9k (by assumption) (by assumption) (by assumption) (by omega) (by assumption) (by assumption) (by assumption) (by omega) | exact Zbd4 (v:=v14) (by assumption) (by assumption) (by assumption) (by omega) (by assumption) (by assumption) (by assumption) (by omega) | exact Za53 (v:=v14) (by assumption) (by assumption) (by omega) (by omega) (by assumption) (by omega)):p:=h
theorem tk3{p:Prop}(h:p:=by first | exact Zbg7 | exact Za9l (v:=v21) (by assumption) (by assumption) (by omega) (by assumption) (by assumption) (by assumption) (by omega) | exact Zbd5 (v:=v21) (by assumption) (by assumption) (by omega) (by assumption) (by assumption) (by assumption) (by omega) | exact Za54 (v:=v21) (by assumption) (by omega) (by omega) (by assumption) (by omega)):p:=h
theorem tk4{p:Prop}(h:p:=by first | exact Zbg7 | exact Za9l (v:=v14) (by assumption) (by assumption) (by omega) (by assumption) (by assumption) (by assumption) (by omega) | exact Zbd5 (v:=v14) (by assumption) (by assumption) (by omega) (by assumption) (by assumption) (by assumption) (by omega) | exact Za54 (v:=v14) (by assumption) (by omega) (by omega) (by assumption) (by omega)):p:=h
theorem tk5{p:Prop}(h:p:=by exact Zbf4 (by assumption) (by assumption) (by omega) (by assumption) (by omega) (by assumption) (by first | exact Zbjq (by assumption) (by assumption) | exact Zbjr (by assumption) (by assumption) (by omega) | exact Zbjs (by assumption) (by assumption) (by assumption) (by assumption)) rfl rfl rfl):p:=h
theorem tk6{p:Prop}(h:p:=by first | exact Zbju | exact Zazm (v:=v5) (by assumption) (by assumption) (by omega) (by omega) (Zbjz (v:=v5) (by assumption) (by omega) (by assumption)) (by omega) | exact Zazm (v:=v5) (by assumption) (by assumption) (by omega) (by omega) (fun y hv _=>absurd hv (by omega)) (by omega)):p:=h
theorem tk7{p:Prop}(h:p:=by first | assumption | (intro x hx hd;rfl) | (intro x hx hd;exact absurd hd (Zbk9 (v:=v7) (w:=v9) (by assumption) (by assumption) (by assumption) (by assumption) (by assumption) (by assumption) (by assumption) (by assumption) (by assumption) (by assumption) (by assumption) hx)) | grind):p:=h
theorem tk8{p:Prop}(h:p:=by first | (intro hk;exfalso;have:=Za9n (by assumption) (by assumption) hk;subst hk;subst this;unfold akV at *;grind;done) | (intro hk;have hj:=(by assumption:akV _=_→(_:Zm)=_) hk;first | (exfalso;grind [Zqa];done) | grind [Zqa])):p:=h
theorem tk9{p:Prop}(h:p:=by first | exact Zbfl (by assumption) (by assumption) (by omega) | exact Zbhx (v:=v0) (i:=v5) (j:=v6) (by assumption) (by grind) (by assumption) (by grind) (by omega) (by omega) | exact Zbhy (j:=v6) (by assumption) (by assumption) (by grind) (by omega)):p:=h
theorem tk10{p:Prop}(h:p:=by first | rfl | exact Zbf1 (by assumption) (by assumption) (by assumption) (by assumption) (by first | assumption | grind) (by omega) | exact Zbdx (by assumption) (by assumption) (by assumption) (by first | assumption | grind) (by omega)):p:=h
theorem tk11{p:Prop}(h:p:=by first | exact⟨fun _=>Z3b (v:=v5) (by assumption) (by assumption) (by omega),fun _=>rfl⟩ | exact Za9m (v:=v5) (by assumption) (by assumption) (one (by assumption)) | exact Za55 (by assumption)):p:=h
theorem tk12{p:Prop}(h:p:=by first | exact⟨fun _=>Z3b (v:=v5) (by assumption) (by assumption) (by omega),fun _=>rfl⟩ | exact Za9m (v:=v5) (by assumption) (by assumption) (tne (by assumption)) | exact Za55 (by assumption)):p:=h
theorem tk13{p:Prop}(h:p:=by first | rfl | (exact Zbhv (by assumption) (by assumption) (by assumption) (by assumption) (by grind) (by omega)) | (exact Zbfj (by assumption) (by assumption) (by assumption) (by grind) (by omega))):p:=h
theorem tk14{p:Prop}(h:p:=by first | (intro k x hk;omega) | (intro k x hk hx hd;by_cases hkk:(k:Int) < v7;(have:=i6 k x hkk hx hd;grind);(have hke:k=v7.toNat:=by omega);subst hke;have:=i7 x hx hd;grind)):p:=h
theorem tk15{p:Prop}(h:p:=by first | rfl | (rw [Za3b (v:=v9) (by assumption) (by assumption) (by grind) (by omega)];assumption) | (rw [Zavh (v:=v9) (by assumption) (by assumption) (by grind) (by omega)];omega)):p:=h
theorem tk16{p:Prop}(h:p:=by first | assumption | exact List.nodup_nil | (refine ‹_=v6++_› ▸ Zn4 (by assumption) (by grind)) | (rw [‹_=List.filter _ v6›];exact List.Nodup.filter _ (by assumption)) | grind):p:=h
theorem tk17{p:Prop}(h:p:=by first | (intro k c hk;omega) | (intro k c hk hc;rcases Zv3 (v:=v4) (by assumption) (by omega) hk hc (by assumption) with h | h;(exact i0 k c h hc);(rw [h];assumption))):p:=h
theorem tk18{p:Prop}(h:p:=by first | (rw [← Zbdy (by assumption)];assumption) | (rw [← Za9d (by assumption)];unfold lgO;rw [← ‹v12=Zs6 _ _ _ _ _›];exact Zbjo (by assumption) (by omega))):p:=h
theorem tk19{p:Prop}(h:p:=by first | exact Zbjf (by assumption) (by assumption) | exact Zbjd (v:=v0) (i:=v5) (j:=v6) (by assumption) (by assumption) (by assumption) (by omega) (by omega)):p:=h
theorem tk20{p:Prop}(h:p:=by first | (refine⟨fun _=>by omega,fun _=>rfl⟩) | (have w := ‹_∈A3.list _›;simp only [A3.list,List.mem_cons,List.not_mem_nil,or_false] at w;grind) | grind):p:=h
theorem tk21{p:Prop}(h:p:=by first | exact Zbii (by assumption) (by assumption) (by assumption) (by assumption) | exact Zbjx (by assumption) (by assumption) (by assumption) (by omega)):p:=h
theorem tk22{p:Prop}(h:p:=by first | (intro k hk;omega) | exact Zahj (v:=v5) (by assumption) (by assumption) (by assumption) (by omega) (oeq (by assumption)) (by omega)):p:=h
theorem tk23{p:Prop}(h:p:=by first | (intro k hk;omega) | exact Zahj (v:=v5) (by assumption) (by assumption) (by assumption) (by omega) (teq (by assumption)) (by omega)):p:=h
theorem tk24{p:Prop}(h:p:=by first | exact Zbh8 (by assumption) (by assumption) (by assumption) (by first | assumption | grind) | exact Zbfz (by assumption) (by omega)):p:=h
theorem tk25{p:Prop}(h:p:=by first | exact Za1y (by assumption) (by assumption) (Zbg5 (by assumption)) | exact Za1y (by assumption) (by assumption) (Zbg6 (by assumption))):p:=h
theorem tk26{p:Prop}(h:p:=by first | (intro k x hk;omega) | (intro k x hk hx;rcases Zv3 (v:=v5) (by assumption) (by grind) hk hx (by assumption) with h | h<;>grind)):p:=h
theorem tk27{p:Prop}(h:p:=by first | (intro k x hk;omega) | (intro k x hk hx;rcases Zv3 (v:=v4) (by assumption) (by grind) hk hx (by assumption) with h | h<;>grind)):p:=h
theorem tk28{p:Prop}(h:p:=by first | assumption | exact Zbdz (by assumption) | (rw [← Za9e (by assumption),← ‹v10=Zyv _›];exact Zbd0 (by assumption) (by omega))):p:=h
theorem tk29{p:Prop}(h:p:=by first | rfl | exact Zbic (by assumption) (by assumption) (by first | exact Zble (by assumption) | exact Zblf (by assumption)) (by omega)):p:=h
theorem tk30{p:Prop}(h:p:=by first | assumption | (intro y hy;exact absurd hy List.not_mem_nil) | exact Zbfm (by assumption) (by assumption) (by assumption) | grind):p:=h
theorem tk31{p:Prop}(h:p:=by first | (intro k y hk;omega) | assumption | exact Zub (by assumption) (by assumption) (by assumption) ⟨by omega,by omega⟩ (by omega)):p:=h
theorem tk32{p:Prop}(h:p:=by first | (intro hr;exact absurd hr (by decide)) | (intro _ c hc;obtain⟨k,hk⟩:=List.mem_iff_getElem?.1 hc;exact i0 k c (by grind) hk)):p:=h
theorem tk33{p:Prop}(h:p:=by first | (intro k y hk;omega) | exact Zub (v:=v8) (by assumption) (by assumption) (by omega) (one (by assumption)).symm (by omega)):p:=h
theorem tk34{p:Prop}(h:p:=by first | (intro k hk;omega) | exact Zahj (by assumption) (by assumption) (by assumption) (by assumption) (by assumption) (by omega)):p:=h
theorem tk35{p:Prop}(h:p:=by first | rfl | exact Zbid (by assumption) (by assumption) (by assumption) (by assumption) (by assumption) (by assumption) (by omega)):p:=h
theorem tk36{p:Prop}(h:p:=by first | (intro k y hk;omega) | exact Zub (v:=v13) (by assumption) (by assumption) (by omega) (one (by assumption)) (by omega)):p:=h
theorem tk37{p:Prop}(h:p:=by first | exact Zbji | exact Zbdw (by assumption) (by assumption) (by assumption) (by first | assumption | grind) (by omega)):p:=h
theorem tk38{p:Prop}(h:p:=by first | (unfold Z47 akV;grind [Zawi];done) | (obtain⟨_,_,_,_,_,_,_⟩:=a1;unfold Z47 akV;grind [Zawi])):p:=h
theorem Zyx{p:Prop}(h:p:=by first | (intro hr;exact absurd hr (by decide)) | (intro _;exact⟨by assumption,by assumption,by assumption,by grind⟩)):p:=h
theorem tk40{p:Prop}(h:p:=by first | exact Zbje (by assumption) (by assumption) (by assumption) (by grind) | exact Zbhz (by assumption) (by omega)):p:=h
theorem tk41{p:Prop}(h:p:=by first | exact Zbib (by assumption) (by omega) | exact Zbjp (by assumption) (by assumption) (by assumption) (by omega)):p:=h
theorem tk42{p:Prop}(h:p:=by first | (intro k x hk;omega) | exact Zub (by assumption) (by assumption) (by assumption) (by assumption) (by omega)):p:=h
theorem tk43{p:Prop}(h:p:=by first | rfl | exact Zbf5 (by assumption) (by assumption) (by assumption) (by assumption) (by assumption) (by omega)):p:=h
theorem tk44{p:Prop}(h:p:=by first | assumption | exact Zblg (by assumption) (by assumption) (by omega) (by assumption) (by assumption) (by omega)):p:=h
theorem tk45{p:Prop}(h:p:=by first | exact Zbjk (by assumption) (by assumption) | exact Za9c (by assumption) (by assumption) (by assumption)):p:=h
theorem tk46{p:Prop}(h:p:=by first | (intro k x hk;omega) | exact Zub (by assumption) (by assumption) (by assumption) (by grind) (by omega)):p:=h
theorem tk47{p:Prop}(h:p:=by first | (intro k y hk;omega) | exact Zub (by assumption) (by assumption) (by assumption) (by grind) (by omega)):p:=h
theorem tk48{p:Prop}(h:p:=by first | exact RB_0 (by assumption) (by omega) | exact Zbja (by assumption) (by assumption) (by omega) (by grind)):p:=h
theorem tk49{p:Prop}(h:p:=by first | exact Zbih (by assumption) (by omega) (oeq (by assumption)) | exact Zbd3 (by assumption) (by omega)):p:=h
theorem tk50{p:Prop}(h:p:=by first | (intro hr;exact absurd hr (by decide)) | exact fun _=>Zbf6 (v:=v5) (by assumption) (by omega)):p:=h
theorem tk51{p:Prop}(h:p:=by first | rfl | exact Zbjm (by assumption) (by assumption) (by assumption) (by assumption) rfl (by omega)):p:=h
theorem tk52{p:Prop}(h:p:=by first | (rw [← Zbdy (by assumption)];assumption) | (rw [← Za9d (by assumption)];unfold lgO;grind)):p:=h
theorem Zau{p:Prop}(h:p:=by unfold SzN;first | omega | (simp only [List.length_append,List.length_cons,List.length_nil];omega)):p:=h
theorem Zqx{p:Prop}(h:p:=by unfold SzT;first | omega | (simp only [List.length_append,List.length_cons,List.length_nil];omega)):p:=h
theorem tk55{p:Prop}(h:p:=by intro m hm;simp only [List.mem_cons,List.not_mem_nil,or_false] at hm;subst hm;exact Zbi8 _):p:=h
theorem tk56{p:Prop}(h:p:=by unfold Zci lt6;dsimp only;omega):p:=h
theorem tk57{p:Prop}(h:p:=by first | assumption | exact Zbdz (by assumption) | (rw [← Za9e (by assumption)];grind)):p:=h
theorem tk58{p:Prop}(h:p:=by first | assumption | (right;omega) | (left;exact⟨rfl,by grind [List.mem_iff_getElem?]⟩)):p:=h
theorem Zcz{p:Prop}(h:p:=by first | (simp only [List.length_append,List.length_cons,List.length_nil];omega) | omega):p:=h
theorem tk60{p:Prop}(h:p:=by first | (intro x hx;exact absurd hx List.not_mem_nil) | (intro x hx;have:=i9 x;grind)):p:=h
theorem tk61{p:Prop}(h:p:=by first | assumption | (intro hk;have:=Za9n (by assumption) (by assumption) hk;grind)):p:=h
theorem Znq{p:Prop}(h:p:=by first | assumption | (intro hk;first | rfl | assumption | (exfalso;omega)) | grind):p:=h
theorem tk63{p:Prop}(h:p:=by first | (intro k y hk;omega) | (rw [‹_=v5+1›];assumption) | assumption | grind):p:=h
theorem tk64{p:Prop}(h:p:=by unfold Zc7 lt6;dsimp only;omega):p:=h
theorem tk65{p:Prop}(h:p:=by first | assumption | exact (by assumption:_→LegT _ _ _ _ _) (by assumption)):p:=h
theorem tk66{p:Prop}(h:p:=by first | assumption | exact Zbg5 (by assumption) | exact Zbg6 (by assumption)):p:=h
theorem tk67{p:Prop}(h:p:=by unfold Zd1 lt6;dsimp only;omega):p:=h
theorem tk68{p:Prop}(h:p:=by first | exact Za9b (by omega) | exact Za50 (by assumption) (by omega)):p:=h
theorem tk69{p:Prop}(h:p:=by first | grind | (obtain⟨_,_,⟨_,_,_,_,_,_,_⟩,_,_⟩:=b0;grind)):p:=h
theorem Zhd{p:Prop}(h:p:=by first | (intro hr;exact absurd hr (by decide)) | (intro _;assumption)):p:=h
theorem Zkm{p:Prop}(h:p:=by first | omega | (simp only [List.length_cons,List.length_nil];omega)):p:=h
theorem tk72{p:Prop}(h:p:=by unfold Ze9 lt6;dsimp only;omega):p:=h
theorem Zhe{p:Prop}(h:p:=by first | (intro hr;exact absurd hr (by decide)) | (intro _;omega)):p:=h
theorem tk74{p:Prop}(h:p:=by first | (intro x hx;exact absurd hx List.not_mem_nil) | grind):p:=h
theorem Zl8{p:Prop}(h:p:=by obtain⟨k1,k2,k3,k4⟩:=a0;unfold amV;grind [Zblb,usV]):p:=h
theorem tk76{p:Prop}(h:p:=by first | omega | exact shl_ne' (by omega) (by omega) | decide):p:=h
theorem Zyy{p:Prop}(h:p:=by first | assumption | (intro hr;exact absurd hr (by decide))):p:=h
theorem tk78{p:Prop}(h:p:=by have e:(A5.list E0.Color).length=5:=rfl;omega):p:=h
theorem tk79{p:Prop}(h:p:=by first | assumption | (left;constructor<;>omega) | grind):p:=h
theorem tk80{p:Prop}(h:p:=by unfold Zln lt6;dsimp only;omega):p:=h
theorem tk81{p:Prop}(h:p:=by have e:(A6.list E0).length=6:=rfl;omega):p:=h
theorem Zb0{p:Prop}(h:p:=by simp only [List.length_cons,List.length_nil];omega):p:=h
theorem Zs7{p:Prop}(h:p:=by first | (intro _;rfl) | (intro hk;exfalso;grind)):p:=h
theorem tk84{p:Prop}(h:p:=by unfold Zf4 lt6;dsimp only;omega):p:=h
theorem Zvh{p:Prop}(h:p:=by unfold Zt5 lt6;dsimp only;omega):p:=h
theorem tk86{p:Prop}(h:p:=by unfold Zic lt6;dsimp only;omega):p:=h
theorem tk87{p:Prop}(h:p:=by unfold Zz3 lt6;dsimp only;omega):p:=h
theorem tk88{p:Prop}(h:p:=by first | omega | (unfold Zt8;split<;>omega)):p:=h
theorem tk89{p:Prop}(h:p:=by unfold Z5f lt6;dsimp only;omega):p:=h
theorem tk90{p:Prop}(h:p:=by unfold Z5i lt6;dsimp only;omega):p:=h
theorem tk91{p:Prop}(h:p:=by unfold Zts lt6;dsimp only;omega):p:=h
theorem tk92{p:Prop}(h:p:=by unfold Z5l lt6;dsimp only;omega):p:=h
theorem Zeq{p:Prop}(h:p:=by first | assumption | (exfalso;omega) | grind):p:=h
theorem tk94{p:Prop}(h:p:=by unfold Z85 lt6;dsimp only;omega):p:=h
theorem tk95{p:Prop}(h:p:=by unfold Z88 lt6;dsimp only;omega):p:=h
theorem tk96{p:Prop}(h:p:=by unfold Z9b lt6;dsimp only;omega):p:=h
theorem tk97{p:Prop}(h:p:=by unfold Z9c lt6;dsimp only;omega):p:=h
theorem tk98{p:Prop}(h:p:=by unfold Z9g lt6;dsimp only;omega):p:=h
theorem tk99{p:Prop}(h:p:=by unfold Z9h lt6;dsimp only;omega):p:=h
theorem Za1z{p:Prop}(h:p:=by unfold Z9i lt6;dsimp only;omega):p:=h
theorem Z0h{p:Prop}(h:p:=by unfold Z9j lt6;dsimp only;omega):p:=h
theorem Zbbj{p:Prop}(h:p:=by unfold Z9k lt6;dsimp only;omega):p:=h
theorem Za10{p:Prop}(h:p:=by unfold Z9m lt6;dsimp only;omega):p:=h
theorem Za11{p:Prop}(h:p:=by unfold Zadd lt6;dsimp only;omega):p:=h
theorem Za12{p:Prop}(h:p:=by unfold Zade lt6;dsimp only;omega):p:=h
theorem Zbbk{p:Prop}(h:p:=by unfold Zadg lt6;dsimp only;omega):p:=h
theorem Z48{p:Prop}(h:p:=by unfold Zadh lt6;dsimp only;omega):p:=h
theorem Zaix{p:Prop}(h:p:=by unfold Zadk lt6;dsimp only;omega):p:=h
theorem Zbbl{p:Prop}(h:p:=by unfold Zadl lt6;dsimp only;omega):p:=h
theorem Zbbm{p:Prop}(h:p:=by unfold Zahn lt6;dsimp only;omega):p:=h
theorem Zatg{p:Prop}(h:p:=by intro hr;first | omega | (cases hr;done)):p:=h
theorem Zbbn{p:Prop}(h:p:=by unfold Zahu lt6;dsimp only;omega):p:=h
theorem Zbbo{p:Prop}(h:p:=by unfold Zahv lt6;dsimp only;omega):p:=h
theorem Z49{p:Prop}(h:p:=by unfold Zahy lt6;dsimp only;omega):p:=h
theorem Zbbp{p:Prop}(h:p:=by unfold Zah5 lt6;dsimp only;omega):p:=h
theorem Z5a{p:Prop}(h:p:=by unfold Zah7 lt6;dsimp only;omega):p:=h
theorem Za13{p:Prop}(h:p:=by unfold Zaic lt6;dsimp only;omega):p:=h
theorem Za14{p:Prop}(h:p:=by unfold Zamc lt6;dsimp only;omega):p:=h
theorem Za15{p:Prop}(h:p:=by unfold Zamd lt6;dsimp only;omega):p:=h
theorem Zbbq{p:Prop}(h:p:=by unfold Zame lt6;dsimp only;omega):p:=h
theorem Zkn{p:Prop}(h:p:=by unfold Zgw lt6;dsimp only;omega):p:=h
theorem Zaa5{p:Prop}(h:p:=by unfold Zamf lt6;dsimp only;omega):p:=h
theorem Zbbr{p:Prop}(h:p:=by unfold Zamg lt6;dsimp only;omega):p:=h
theorem Zaiy{p:Prop}(h:p:=by unfold Zamj lt6;dsimp only;omega):p:=h
theorem Zaiz{p:Prop}(h:p:=by unfold Zamk lt6;dsimp only;omega):p:=h
theorem Z5b{p:Prop}(h:p:=by unfold Zp5 lt6;dsimp only;omega):p:=h
theorem Za16{p:Prop}(h:p:=by unfold Zaml lt6;dsimp only;omega):p:=h
theorem Za17{p:Prop}(h:p:=by unfold Z5c lt6;dsimp only;omega):p:=h
theorem Zbbs{p:Prop}(h:p:=by unfold Zazo lt6;dsimp only;omega):p:=h
theorem Zbbt{p:Prop}(h:p:=by unfold Z5h lt6;dsimp only;omega):p:=h
theorem Zbbu{p:Prop}(h:p:=by unfold Zazr lt6;dsimp only;omega):p:=h
theorem Zath{p:Prop}(h:p:=by intro x h0 hx;grind [Zbjl,Za50]):p:=h
theorem Zati{p:Prop}(h:p:=by first | (intro _;rfl) | grind):p:=h
theorem Za18{p:Prop}(h:p:=by grind [List.mem_iff_getElem?]):p:=h
theorem Zai0{p:Prop}(h:p:=by unfold Z47;grind [Zawi]):p:=h
theorem Zan{p:Prop}(h:p:=by first | assumption | grind):p:=h
theorem Zhj{p:Prop}(h:p:=by first | rfl | assumption):p:=h
theorem Zatj{p:Prop}(h:p:=by unfold Zjo;grind [fdZ]):p:=h
theorem Z0i{p:Prop}(h:p:=by first | omega | grind):p:=h
theorem Zbo{p:Prop}(h:p:=by intro hr;cases hr):p:=h
abbrev Zdb(x:Z8):Prop:=(SzL 16 SzT) x.Subs
theorem Zawu{x:Z8}(h:Z7b x):Zdb x:=(Zcf h.2.2 (fun _ h=>Zbi9 h))
abbrev Zav(x:Ze):Prop:=SzS x.Sub
theorem Zds{x:Ze}(h:Zdw x):Zav x:=(Zaqi h.2.2.2.2.2.2.2.1)
abbrev Za0(x:Zz):Prop:=SzS x.Sub∧Zav x.Filter
theorem Zyz{x:Zz}(h:Zs4 x):Za0 x:=⟨(Zaqi h.2.2.2.1),(Zds h.2.2.2.2)⟩
abbrev Zoc(x:Zce):Prop:=Zav x.Filter
theorem Zaja{x:Zce}(h:Zvc x):Zoc x:=(Zds h.2.2)
abbrev Zas(x:Zr):Prop:=Zav x.Filter
theorem Z82{x:Zr}(h:Zwe x):Zas x:=(Zds h.2.2)
abbrev Zs8(x:Zed):Prop:=Zav x.Filter
theorem Za0c{x:Zed}(h:Zaaz x):Zs8 x:=(Zds h.2.2)
abbrev Zy0(x:Zbn):Prop:=Zav x.Filter
theorem Zaoc{x:Zbn}(h:Zyr x):Zy0 x:=(Zds h.2.2.2)
abbrev Zaw(x:Z9):Prop:=Zs8 x.Ref∧Zy0 x.Amount∧SzS x.Card∧Zav x.Filter∧(SzL 176 Za0) x.Mods
theorem Zaod{x:Z9}(h:Zys x):Zaw x:=⟨(Za0c h.2.1),(Zaoc h.2.2.1),(Zaqi h.2.2.2.2.2.1),(Zds h.2.2.2.2.2.2.1),(Zcf h.2.2.2.2.2.2.2.2 (fun _ h=>(Zyz h)))⟩
abbrev Zdz(x:Za6):Prop:=Zav x.Filter
theorem Zajb{x:Za6}(h:Zvd x):Zdz x:=(Zds h.2.2.1)
abbrev Za1(x:Zt):Prop:=Zav x.Filter∧(SzL 176 Za0) x.Mods∧Zoc x.Trigger∧(SzL 144 Zas) x.Specs∧(SzL 560 Zaw) x.Effects∧Zdz x.Replace
theorem Zot{x:Zt}(h:Zjn x):Za1 x:=⟨(Zds h.2.1),(Zcf h.2.2.1 (fun _ h=>(Zyz h))),(Zaja h.2.2.2.2.2.1),(Zcf h.2.2.2.2.2.2.2.1 (fun _ h=>(Z82 h))),(Zcf h.2.2.2.2.2.2.2.2.1 (fun _ h=>(Zaod h))),(Zajb h.2.2.2.2.2.2.2.2.2)⟩
abbrev Zal(x:Zq):Prop:=SzS x.Name∧Zdb x.Line∧(SzL 640 Za1) x.Abilities
theorem Zjp{x:Zq}(h:Zal9 x):Zal x:=⟨(Zaqi h.1),(Zawu h.2.2.2.2.1),(Zcf h.2.2.2.2.2.2.2.2 (fun _ h=>(Zot h)))⟩
abbrev Zcv(x:Za2):Prop:=(SzL 8 (fun _=>True)) x.Library∧(SzL 8 (fun _=>True)) x.Hand∧(SzL 8 (fun _=>True)) x.Graveyard
theorem Zaoe{x:Za2}(h:Zyt x):Zcv x:=⟨(Zcf h.2.2.2.2.2.2.1 (fun _ _=>trivial)),(Zcf h.2.2.2.2.2.2.2.1 (fun _ _=>trivial)),(Zcf h.2.2.2.2.2.2.2.2 (fun _ _=>trivial))⟩
abbrev Zin(x:Zdg):Prop:=Za1 x.Ability∧(SzL 16 (fun _=>True)) x.Targets
theorem Zawv{x:Zdg}(h:Z7c x):Zin x:=⟨(Zot h.2.2.2.2.2.2.1),(Zcf h.2.2.2.2.2.2.2.1 (fun _ _=>trivial))⟩
abbrev Zvi(x:Zc0):Prop:=Za1 x.Ability
theorem Zajc{x:Zc0}(h:Zve x):Zvi x:=(Zot h.2.2.1)
abbrev Zwf(x:Ze4):Prop:=(SzL 8 (fun _=>True)) x.Objects∧(SzL 176 Za0) x.Mods
theorem Zaww{x:Ze4}(h:Z7d x):Zwf x:=⟨(Zcf h.2.2.2.2.1 (fun _ _=>trivial)),(Zcf h.2.2.2.2.2 (fun _ h=>(Zyz h)))⟩
abbrev Zw(x:Zb):Prop:=(SzL 152 Zcv) x.Players∧(SzL 128 (fun _=>True)) x.Objects∧(SzL 8 (fun _=>True)) x.Battlefield∧(SzL 8 (fun _=>True)) x.Exile∧(SzL 824 Zin) x.Stack∧(SzL 768 Zvi) x.Waiting∧(SzL 80 Zwf) x.Conts∧(SzL 8 (fun _=>True)) x.Extra
theorem Zh8{x:Zb}(h:Zahf x):Zw x:=⟨(Zcf h.1 (fun _ h=>(Zaoe h))),(Zcf h.2.1 (fun _ _=>trivial)),(Zcf h.2.2.1 (fun _ _=>trivial)),(Zcf h.2.2.2.1 (fun _ _=>trivial)),(Zcf h.2.2.2.2.1 (fun _ h=>(Zawv h))),(Zcf h.2.2.2.2.2.1 (fun _ h=>(Zajc h))),(Zcf h.2.2.2.2.2.2.1 (fun _ h=>(Zaww h))),(Zcf h.2.2.2.2.2.2.2.2.2.2.2.2.2.2.2.2.1 (fun _ _=>trivial))⟩
abbrev Zat(x:Zj):Prop:=(SzL 16 (fun _=>True)) x.Targets
theorem Zajd{x:Zj}(h:Zvf x):Zat x:=(Zcf h.2.2.2.1 (fun _ _=>trivial))
abbrev Za9(x:Z0):Prop:=Zat x.Ctx∧(SzL 144 Zas) x.Specs∧(SzL 16 (fun _=>True)) x.Targets∧(SzL 24 (SzL 8 (fun _=>True))) x.Answers
theorem Zdj{x:Z0}(h:Zp0 x):Za9 x:=⟨(Zajd h.1),(Zcf h.2.1 (fun _ h=>(Z82 h))),(Zcf h.2.2.1 (fun _ _=>trivial)),(Zcf h.2.2.2 (fun _ h=>(Zcf h (fun _ _=>trivial))))⟩
abbrev Zv(x:Za):Prop:=SzS x.Name∧Zdb x.Line∧(SzL 640 Za1) x.Abilities
abbrev Zap(x:Zm):Prop:=(SzL 24 (fun _=>True)) x.Options
abbrev Zcp(x:Z6):Prop:=(SzL 24 (SzL 8 (fun _=>True))) x.answers∧Zap x.pending
abbrev Zba(x:Zg):Prop:=(SzL 24 (SzL 8 (fun _=>True))) x.Answers∧Zap x.Choice
abbrev Zah(x:Zx):Prop:=(SzL 8 (fun _=>True)) x.Objects∧Zav x.Filter∧(SzL 176 Za0) x.Mods
abbrev Z5(x:Zc):Prop:=Zw x.S∧(SzL 176 Zv) x.All∧(SzL 224 Zah) x.L∧(SzL 1 (fun _=>True)) x.Begun∧(SzL 24 (SzL 8 (fun _=>True))) x.Sets∧(SzL 1 (fun _=>True)) x.Blank
theorem Zama(a0:Int):Tot (Z7w a0) (fun r=>True):=by
 unfold Z7w
 refine tZ ?_
 dsimp only [Zaep,LT.den]
 refine tD (fun h1=>?_) (fun h1=>?_)
 ·exact tR trivial
 ·exact tR trivial
def Zaa6:Zkd→Prop
 | .L0 v0 v3=>(SzT v0)∧(0≤v3)
 | .L1 v0 v3=>(SzT v0)∧(0≤v3)∧(v3 < (v0.length:Int))∧(0≤v3)∧(v3 < v0.length)
def Z5c:Zkd→M6
 | .L0 v0 v3=>(1,((v0.length:Int) - v3).toNat,1000000,0,0,0)
 | .L1 v0 v3=>(1,((v0.length:Int) - v3).toNat,0,0,0,0)
theorem Zli(v0:(List UInt8))(v3:Int)(h:Zaa6 (.L1 v0 v3)):Tot (Zh2 v0 v3).den (Nx Zaa6 Z5c (1,((v0.length:Int) - v3).toNat,0,0,0,0) (fun r=>True)):=by
 obtain⟨ov0,cv3,bd2,i0,i1⟩:=h
 have lb_v0:v0.length≤562949953421312:=ov0
 dsimp only [Zh2,LT.den]
 refine tD (fun h1=>?_) (fun h1=>?_)
 ·refine tB (tI (by omega) (by omega)) (fun x2 h3=>?_)
  refine tE (fun h4=>?_) (fun h4=>?_)
  ·refine qw (v3 - 1) fun q5 q6=>?_
   refine tB (tI (by omega) (by omega)) (fun x7 h8=>?_)
   refine tE (fun h9=>?_) (fun h9=>?_)
   ·exact tR trivial
   ·refine qw (v3+1) fun q10 q11=>?_
    exact tL ⟨ov0,cl⟩ Za17
  ·refine qw (v3+1) fun q12 q13=>?_
   exact tL ⟨ov0,cl⟩ Za17
 ·refine qw (v3+1) fun q14 q15=>?_
  exact tL ⟨ov0,cl⟩ Za17
theorem Zaa7(a0:(List UInt8))(oa0:SzT a0):Tot (Zaeq a0) (fun r=>True):=by
 unfold Zaeq
 refine tX (Inv:=Zaa6) (μ:=Z5c) (m:=(1000000,0,0,0,0,0)) ?_ ?_
 ·have lb_a0:a0.length≤562949953421312:=oa0
  dsimp only [Zamw,LT.den]
  have q1:a0.length≤562949953421312:=oa0
  refine tD (fun h2=>?_) (fun h2=>?_)
  ·exact tR trivial
  ·refine tD (fun h3=>?_) (fun h3=>?_)
   ·exact tR trivial
   ·refine tB (tI (by omega) (by omega)) (fun x4 h5=>?_)
    refine tB (Zama (UInt8.toNat x4:Int)) (fun x6 h7=>?_)
    refine tO (fun h8=>?_) (fun h8=>?_)
    ·exact tR trivial
    ·refine qw ((a0.length:Int) - 1) fun q9 q10=>?_
     refine tB (tI (by omega) (by omega)) (fun x11 h12=>?_)
     refine tE (fun h13=>?_) (fun h13=>?_)
     ·exact tR trivial
     ·exact tL ⟨oa0,cl⟩ Za17
 ·intro s hs
  cases s with
  | L0 v0 v3=>
   obtain⟨ov0,cv3⟩:=hs
   have lb_v0:v0.length≤562949953421312:=ov0
   show Tot (Zmt v0 v3).den _
   dsimp only [Zmt,LT.den,Z5c]
   have q1:v0.length≤562949953421312:=ov0
   refine tD (fun h2=>?_) (fun h2=>?_)
   ·refine tB (tI (by omega) (by omega)) (fun x3 h4=>?_)
    refine tB (Zama (UInt8.toNat x3:Int)) (fun x5 h6=>?_)
    refine tO (fun h7=>?_) (fun h7=>?_)
    ·refine tB (tI (by omega) (by omega)) (fun x8 h9=>?_)
     refine tD (fun h10=>?_) (fun h10=>?_)
     ·refine tB (tI (by omega) (by omega)) (fun x11 h12=>?_)
      refine tN (fun h13=>?_) (fun h13=>?_)
      ·exact tR trivial
      ·exact tJ (Zli v0 v3 ⟨ov0,cl,cl,cl,cl⟩)
     ·refine tB (tI (by omega) (by omega)) (fun x14 h15=>?_)
      refine tD (fun h16=>?_) (fun h16=>?_)
      ·refine tB (tI (by omega) (by omega)) (fun x17 h18=>?_)
       refine tN (fun h19=>?_) (fun h19=>?_)
       ·exact tR trivial
       ·exact tJ (Zli v0 v3 ⟨ov0,cl,cl,cl,cl⟩)
      ·exact tJ (Zli v0 v3 ⟨ov0,cl,cl,cl,cl⟩)
    ·exact tJ (Zli v0 v3 ⟨ov0,cl,cl,cl,cl⟩)
   ·exact tR trivial
  | L1 v0 v3=>exact Zli v0 v3 hs
def Z3c(n m:Int):Bool:=decide (n≥0)&&decide (n≤m)
def Zatk(c:Z1):Bool:=Z3c c.Generic 99&&(Z3c c.X 2&&c.Color.list.all fun n=>Z3c n 9)
theorem Zbbv(c:Z1):Z7x c=some (Zatk c):=by
 unfold Z7x LF.run;dsimp only [Zamx,LT.den]
 have hl:Zcm Zie.step (.L0 c 0)=some (c.Color.list.all fun n=>Z3c n 9):=by
  have:=Z03 (st:=fun i=>Zke.L0 c (i:Int)) (step:=Zie.step) (bad:=false) c.Color.list (fun n=>Z3c n 9) (fun i x hx=>by
   have hi:=(List.getElem?_eq_some_iff.1 hx).1
   have hi:i < 5:=hi
   show (Zmu _ _).den=_
   dsimp only [Zmu,LT.den]
   rw [decide_eq_true (by omega),Zg2 hx,Zfs (by omega) (by omega)]
   simp only [cond_true,Option.bind_some]
   unfold Z3c
   by_cases h1:x < 0
   ·rw [decide_eq_true h1,decide_eq_false (show ¬ x≥0 by omega)];rfl
   ·rw [decide_eq_false h1,decide_eq_true (show x≥0 by omega)]
    by_cases h2:x > 9
    ·rw [decide_eq_true h2,decide_eq_false (show ¬ x≤9 by omega)];rfl
    ·rw [decide_eq_false h2,decide_eq_true (show x≤9 by omega)];rfl)
  rw [show (Zke.L0 c 0) = .L0 c ((0:Nat):Int) from rfl,this]
  have he:Zcm Zie.step (.L0 c ((c.Color.list.length:Nat):Int))=some true:=by
   refine Zcx ?_
   show (Zmu c 5).den=_
   rfl
  rw [he]
  cases c.Color.list.all fun n=>Z3c n 9<;>rfl
 refine (Zbu fun _=>Zbu fun _=>Zbu fun _=>Zbu fun _=>(show Option.bind (some (Sum.inl (Zke.L0 c 0))) (Ze3 Zie.step)=some (c.Color.list.all fun n=>Z3c n 9) from hl)).trans ?_
 congr 1
 unfold Zatk Z3c
 rw [Bool.eq_iff_iff]
 simp only [Bool.and_eq_true,Bool.not_eq_true',decide_eq_false_iff_not,decide_eq_true_eq,ge_iff_le,gt_iff_lt,Int.not_lt]
 constructor
 ·rintro ⟨h1,h2,h3,h4,h5⟩;exact⟨⟨h1,h2⟩,⟨h3,h4⟩,h5⟩
 ·rintro ⟨⟨h1,h2⟩,⟨h3,h4⟩,h5⟩;exact⟨h1,h2,h3,h4,h5⟩
theorem Zs9(a0:Z1):Tot (Z7x a0) (fun r=>(r=true→a0.X≤2)∧(r=true→∀ n,n∈A5.list a0.Color→n≤9)):=by
 refine⟨_,Zbbv a0,fun h=>?_,fun h n hn=>?_⟩
 ·simp only [Zatk,Z3c,Bool.and_eq_true,decide_eq_true_eq] at h
  exact h.2.1.2
 ·simp only [Zatk,Z3c,Bool.and_eq_true,decide_eq_true_eq,List.all_eq_true] at h
  exact (h.2.2 n hn).2
theorem Zahm:Tot (Zi0) (fun r=>((SzL 16 SzN) r)∧(r.length=2)):=by
 unfold Zi0
 refine tZ ?_
 dsimp only [Z06,LT.den]
 have q1:(SzL 16 SzN) ([([98,97,115,105,99]:List UInt8),([117,110,105,113,117,101]:List UInt8)]:(List (List UInt8))):=⟨by simp only [List.length_cons,List.length_nil];omega,(mem_cons' Zau (mem_cons' Zau (fun _ h=>by cases h)))⟩
 have lq1:([([98,97,115,105,99]:List UInt8),([117,110,105,113,117,101]:List UInt8)]:(List (List UInt8))).length=2:=rfl
 exact tR ⟨q1,cl⟩
def Za0d:Zo8→Prop
 | .L0 v0 v1 v5=>((SzL 16 SzT) v0)∧(SzT v1)∧(0≤v5)
def Z3d:Zo8→M6
 | .L0 v0 v1 v5=>(1,((v0.length:Int) - v5).toNat,1000000,0,0,0)
theorem Zy1(a0:(List (List UInt8)))(a1:(List UInt8))(oa0:(SzL 16 SzT) a0)(oa1:SzT a1):Tot (Zww a0 a1) (fun r=>True):=by
 unfold Zww
 refine tX (Inv:=Za0d) (μ:=Z3d) (m:=(1000000,0,0,0,0,0)) ?_ ?_
 ·have lb_a0:=oa0.1
  have lb_a1:a1.length≤562949953421312:=oa1
  dsimp only [Z5t,LT.den]
  exact tL ⟨oa0,oa1,cl⟩ (by unfold Z3d lt6;dsimp only;omega)
 ·intro s hs
  cases s with
  | L0 v0 v1 v5=>
   obtain⟨ov0,ov1,cv5⟩:=hs
   have lb_v0:=ov0.1
   have lb_v1:v1.length≤562949953421312:=ov1
   show Tot (Zg3 v0 v1 v5).den _
   dsimp only [Zg3,LT.den]
   have q1:=ov0.1
   refine tD (fun h2=>?_) (fun h2=>?_)
   ·refine tB (tI (by omega) (by omega)) (fun x3 h4=>?_)
    have oh4:SzT x3:=ov0.2 x3 h4.1
    refine tF (fun h5=>?_) (fun h5=>?_)
    ·exact tR trivial
    ·refine qw (v5+1) fun q6 q7=>?_
     exact tL ⟨ov0,ov1,cl⟩ (by unfold Z3d lt6;dsimp only;omega)
   ·exact tR trivial
theorem Zz2:Tot (Zkq) (fun r=>((SzL 16 SzN) r)∧(r.length=6)):=by
 unfold Zkq
 refine tZ ?_
 dsimp only [Z4h,LT.den]
 have q1:(SzL 16 SzN) ([([99,114,101,97,116,117,114,101]:List UInt8),([105,110,115,116,97,110,116]:List UInt8),([114,105,116,117,97,108]:List UInt8),([114,101,108,105,99]:List UInt8),([99,104,97,114,109]:List UInt8),([108,97,110,100]:List UInt8)]:(List (List UInt8))):=⟨by simp only [List.length_cons,List.length_nil];omega,(mem_cons' Zau (mem_cons' Zau (mem_cons' Zau (mem_cons' Zau (mem_cons' Zau (mem_cons' Zau (fun _ h=>by cases h)))))))⟩
 have lq1:([([99,114,101,97,116,117,114,101]:List UInt8),([105,110,115,116,97,110,116]:List UInt8),([114,105,116,117,97,108]:List UInt8),([114,101,108,105,99]:List UInt8),([99,104,97,114,109]:List UInt8),([108,97,110,100]:List UInt8)]:(List (List UInt8))).length=6:=rfl
 exact tR ⟨q1,cl⟩
theorem Zqd(a0:(List UInt8))(oa0:SzT a0):Tot (Zwx a0) (fun r=>True):=by
 unfold Zwx
 refine tZ ?_
 have lb_a0:a0.length≤562949953421312:=oa0
 dsimp only [Z5v,LT.den]
 refine tB (Zaa7 a0 oa0) (fun x1 h2=>?_)
 refine tF (fun h3=>?_) (fun h3=>?_)
 ·refine tB (Zahm) (fun x4 h5=>?_)
  have eh5_1:=h5.2
  refine tB (Zy1 x4 a0 (SzL.nt h5.1) oa0) (fun x6 h7=>?_)
  refine tD (fun h8=>?_) (fun h8=>?_)
  ·refine tB (Zz2) (fun x9 h10=>?_)
   have eh10_1:=h10.2
   refine tB (Zy1 x9 a0 (SzL.nt h10.1) oa0) (fun x11 h12=>?_)
   exact tR trivial
  ·exact tR trivial
 ·exact tR trivial
def Za8g:Zwy→Prop
 | .L0 v0 v1 v5=>(0≤v5)∧(v1≤100)
def Zaa8:Zwy→M6
 | .L0 v0 v1 v5=>(1,(v1 - v5).toNat,1000000,0,0,0)
theorem Z7f(a0:Int)(a1:Int)(h0:a1≤100):Tot (Zavi a0 a1) (fun r=>True):=by
 unfold Zavi
 refine tX (Inv:=Za8g) (μ:=Zaa8) (m:=(1000000,0,0,0,0,0)) ?_ ?_
 ·dsimp only [Zayj,LT.den]
  exact tL ⟨cl,cl⟩ (by unfold Zaa8 lt6;dsimp only;omega)
 ·intro s hs
  cases s with
  | L0 v0 v1 v5=>
   obtain⟨cv5,i0⟩:=hs
   show Tot (Z92 v0 v1 v5).den _
   dsimp only [Z92,LT.den]
   refine tD (fun h1=>?_) (fun h1=>?_)
   ·refine qw (v5+1) fun q2 q3=>?_
    exact tL ⟨cl,cl⟩ (by unfold Zaa8 lt6;dsimp only;omega)
   ·exact tR trivial
def Zbbw:Z1a→Prop
 | .L0 E0 v3=>(Zdb E0)∧(0≤v3)
def Zazo:Z1a→M6
 | .L0 E0 v3=>(1,((E0.Subs.length:Int) - v3).toNat,1000000,0,0,0)
theorem Zbbx(a0:Z8)(oa0:Zdb a0):Tot (Za3i a0) (fun r=>True):=by
 unfold Za3i
 refine tX (Inv:=Zbbw) (μ:=Zazo) (m:=(1000000,0,0,0,0,0)) ?_ ?_
 ·dsimp only [Za3g,LT.den]
  refine tD (fun h1=>?_) (fun h1=>?_)
  ·exact tR trivial
  ·refine tD (fun h2=>?_) (fun h2=>?_)
   ·exact tR trivial
   ·refine tD (fun h3=>?_) (fun h3=>?_)
    ·exact tR trivial
    ·refine tD (fun h4=>?_) (fun h4=>?_)
     ·exact tR trivial
     ·have q5:=oa0.1
      refine tD (fun h6=>?_) (fun h6=>?_)
      ·exact tR trivial
      ·exact tL ⟨oa0,cl⟩ Zbbs
 ·intro s hs
  cases s with
  | L0 E0 v3=>
   obtain⟨O0,cv3⟩:=hs
   show Tot (Zaet E0 v3).den _
   dsimp only [Zaet,LT.den]
   have q1:=O0.1
   refine tD (fun h2=>?_) (fun h2=>?_)
   ·refine tB (tI (by omega) (by omega)) (fun x3 h4=>?_)
    have oh4:SzT x3:=O0.2 x3 h4.1
    refine tB (Zqd x3 oh4) (fun x5 h6=>?_)
    refine tO (fun h7=>?_) (fun h7=>?_)
    ·exact tR trivial
    ·refine tD (fun h8=>?_) (fun h8=>?_)
     ·refine qw (v3 - 1) fun q9 q10=>?_
      refine tB (tI (by omega) (by omega)) (fun x11 h12=>?_)
      have oh12:SzT x11:=O0.2 x11 h12.1
      refine tO (fun h13=>?_) (fun h13=>?_)
      ·exact tR trivial
      ·refine qw (v3+1) fun q14 q15=>?_
       exact tL ⟨O0,cl⟩ Zbbs
     ·refine qw (v3+1) fun q16 q17=>?_
      exact tL ⟨O0,cl⟩ Zbbs
   ·refine tE (fun h18=>?_) (fun h18=>?_)
    ·exact tR trivial
    ·refine tE (fun h19=>?_) (fun h19=>?_)
     ·exact tR trivial
     ·refine tB (Z7f E0.Types 1 cl) (fun x20 h21=>?_)
      refine tO (fun h22=>?_) (fun h22=>?_)
      ·refine tB (Z7f E0.Types 2 cl) (fun x23 h24=>?_)
       exact tR trivial
      ·exact tR trivial
theorem Zatl(a0:Int):Tot (Za3l a0) (fun r=>True):=by
 unfold Za3l
 refine tZ ?_
 dsimp only [Za3j,LT.den]
 refine tD (fun h1=>?_) (fun h1=>?_)
 ·exact tR trivial
 ·exact tR trivial
theorem Zaof(a0:Zq)(oa0:Zal a0):Tot (Z1b a0) (fun r=>True):=by
 unfold Z1b
 refine tZ ?_
 dsimp only [Z7y,LT.den]
 exact tR trivial
def Za0e:Zo9→Prop
 | .L0 v0 v1 v7=>(0≤v7)∧True
def Zahn:Zo9→M6
 | .L0 v0 v1 v7=>(1,(6 - v7).toNat,1000000,0,0,0)
theorem Zadc(a0:Int)(a1:Int)(a2:Int):Tot (Zwz a0 a1 a2) (fun r=>True):=by
 unfold Zwz
 refine tX (Inv:=Za0e) (μ:=Zahn) (m:=(1000000,0,0,0,0,0)) ?_ ?_
 ·dsimp only [Z5w,LT.den]
  refine tD (fun h1=>?_) (fun h1=>?_)
  ·exact tR trivial
  ·refine tD (fun h2=>?_) (fun h2=>?_)
   ·exact tR trivial
   ·refine tD (fun h3=>?_) (fun h3=>?_)
    ·exact tR trivial
    ·refine tD (fun h4=>?_) (fun h4=>?_)
     ·exact tR trivial
     ·exact tL ⟨cl,trivial⟩ Zbbm
 ·intro s hs
  cases s with
  | L0 v0 v1 v7=>
   obtain⟨cv7,_⟩:=hs
   show Tot (Zg4 v0 v1 v7).den _
   dsimp only [Zg4,LT.den]
   refine tD (fun h1=>?_) (fun h1=>?_)
   ·refine tE (fun h2=>?_) (fun h2=>?_)
    ·refine tE (fun h3=>?_) (fun h3=>?_)
     ·exact tR trivial
     ·refine qw (v7+1) fun q4 q5=>?_
      exact tL ⟨cl,trivial⟩ Zbbm
    ·refine qw (v7+1) fun q6 q7=>?_
     exact tL ⟨cl,trivial⟩ Zbbm
   ·exact tR trivial
theorem Zy2(a0:Zd):Tot (Zw0 a0) (fun r=>(r=true→0≤a0.Kind∧a0.Kind≤3)):=by
 unfold Zw0
 refine tZ ?_
 dsimp only [Z5x,LT.den]
 refine tD (fun h1=>?_) (fun h1=>?_)
 ·exact tR Zbo
 ·refine tD (fun h2=>?_) (fun h2=>?_)
  ·exact tR Zbo
  ·refine tD (fun h3=>?_) (fun h3=>?_)
   ·exact tR Zbo
   ·refine tD (fun h4=>?_) (fun h4=>?_)
    ·exact tR Zbo
    ·refine tN (fun h5=>?_) (fun h5=>?_)
     ·exact tR Zatg
     ·exact tR Zatg
abbrev Zamb(a0:Ze)(r:Bool):Prop:=(r=true→0≤a0.Zone∧a0.Zone≤5∧0≤a0.Who∧a0.Who≤2∧0≤a0.Self∧a0.Self≤2∧0≤a0.Tap∧a0.Tap≤2∧0≤a0.Power.Kind∧a0.Power.Kind≤3∧0≤a0.Tough.Kind∧a0.Tough.Kind≤3∧0≤a0.Value.Kind∧a0.Value.Kind≤3)
def Zaa9(a0:Ze):Z1d→Prop
 | .L0 E0=>(E0=a0)∧(Zav E0)∧(0≤E0.Zone∧E0.Zone≤5∧0≤E0.Who∧E0.Who≤2∧0≤E0.Self∧E0.Self≤2∧0≤E0.Tap∧E0.Tap≤2)
def Zazp:Z1d→M6
 | .L0 E0=>(0,0,0,0,0,0)
theorem Zy3(a0:Ze)(E0:Ze)(h:(Zaa9 a0) (.L0 E0)):Tot (Zmv E0).den (Nx (Zaa9 a0) Zazp (0,0,0,0,0,0) (Zamb a0)):=by
 obtain⟨al0,O0,i0⟩:=h
 subst al0
 dsimp only [Zmv,LT.den]
 refine tB (Zy2 E0.Power) (fun x1 h2=>?_)
 have eh2_0:=h2
 refine tF (fun h3=>?_) (fun h3=>?_)
 ·have h3_0:=eh2_0 h3
  refine tB (Zy2 E0.Tough) (fun x4 h5=>?_)
  have eh5_0:=h5
  refine tF (fun h6=>?_) (fun h6=>?_)
  ·have h6_0:=eh5_0 h6
   refine tB (Zy2 E0.Value) (fun x7 h8=>?_)
   have eh8_0:=h8
   exact tR (by intro hr;have:=eh8_0 hr;first | omega | (cases hr;done))
  ·exact tR Zbo
 ·exact tR Zbo
theorem Za8h(a0:Ze)(oa0:Zav a0):Tot (Z70 a0) (Zamb a0):=by
 unfold Z70
 refine tX (Inv:=(Zaa9 a0)) (μ:=Zazp) (m:=(1000000,0,0,0,0,0)) ?_ ?_
 ·dsimp only [Zamy,LT.den]
  refine tD (fun h1=>?_) (fun h1=>?_)
  ·exact tR Zbo
  ·refine tD (fun h2=>?_) (fun h2=>?_)
   ·exact tR Zbo
   ·refine tD (fun h3=>?_) (fun h3=>?_)
    ·exact tR Zbo
    ·refine tD (fun h4=>?_) (fun h4=>?_)
     ·exact tR Zbo
     ·refine tD (fun h5=>?_) (fun h5=>?_)
      ·exact tR Zbo
      ·refine tD (fun h6=>?_) (fun h6=>?_)
       ·exact tR Zbo
       ·refine tD (fun h7=>?_) (fun h7=>?_)
        ·exact tR Zbo
        ·refine tD (fun h8=>?_) (fun h8=>?_)
         ·exact tR Zbo
         ·refine tB (Zadc a0.Types a0.NotTypes 63) (fun x9 h10=>?_)
          refine tO (fun h11=>?_) (fun h11=>?_)
          ·exact tR Zbo
          ·refine tB (Zadc a0.Colors a0.NotColors 31) (fun x12 h13=>?_)
           refine tO (fun h14=>?_) (fun h14=>?_)
           ·exact tR Zbo
           ·refine tO (fun h15=>?_) (fun h15=>?_)
            ·refine tB (Zqd a0.Sub (SzS.t oa0)) (fun x16 h17=>?_)
             refine tO (fun h18=>?_) (fun h18=>?_)
             ·exact tR Zbo
             ·refine tD (fun h19=>?_) (fun h19=>?_)
              ·exact tR Zbo
              ·refine tD (fun h20=>?_) (fun h20=>?_)
               ·exact tR Zbo
               ·exact tJ (Zy3 a0 a0 ⟨rfl,oa0,cl⟩)
            ·refine tD (fun h21=>?_) (fun h21=>?_)
             ·exact tR Zbo
             ·refine tD (fun h22=>?_) (fun h22=>?_)
              ·exact tR Zbo
              ·exact tJ (Zy3 a0 a0 ⟨rfl,oa0,cl⟩)
 ·intro s hs
  cases s with
  | L0 E0=>exact Zy3 a0 E0 hs
theorem Zek(a0:Ze)(oa0:Zav a0):Tot (Z70 a0) (fun r=>(r=true→0≤a0.Zone∧a0.Zone≤5∧0≤a0.Who∧a0.Who≤2∧0≤a0.Self∧a0.Self≤2∧0≤a0.Tap∧a0.Tap≤2∧0≤a0.Power.Kind∧a0.Power.Kind≤3∧0≤a0.Tough.Kind∧a0.Tough.Kind≤3∧0≤a0.Value.Kind∧a0.Value.Kind≤3)∧(r=filV a0)):=(Tot.we (Za8h a0 oa0)).mono fun r h=>⟨h.1,Option.some.inj (h.2.symm.trans (Zazi a0))⟩
def Znr:Zn5→Prop
 | .L0 E0 E1 v7 v8=>(Za0 E0)∧(Za0 E1)
 | .L1 E0 E1 v7 v16=>(Za0 E0)∧(Za0 E1)
def Z7g:Zn5→M6
 | .L0 E0 E1 v7 v8=>(0,0,0,0,0,0)
 | .L1 E0 E1 v7 v16=>(0,0,0,0,0,0)
theorem Zta(E0:Zz)(E1:Zz)(v7:Int)(v16:Bool)(h:Znr (.L1 E0 E1 v7 v16)):Tot (Zpb E0 E1 v7 v16).den (Nx Znr Z7g (0,0,0,0,0,0) (fun r=>(Za0 r))):=by
 obtain⟨O0,O1⟩:=h
 dsimp only [Zpb,LT.den]
 refine tF (fun h1=>?_) (fun h1=>?_)
 ·exact tR ⟨(SzS.nil),O0.2⟩
 ·refine tE (fun h2=>?_) (fun h2=>?_)
  ·exact tR ⟨O0.1,(SzS.nil)⟩
  ·refine tE (fun h3=>?_) (fun h3=>?_)
   ·exact tR ⟨O0.1,O0.2⟩
   ·refine tE (fun h4=>?_) (fun h4=>?_)
    ·exact tR ⟨O0.1,O0.2⟩
    ·exact tR O0
theorem Ze6(E0:Zz)(E1:Zz)(v7:Int)(v8:Bool)(h:Znr (.L0 E0 E1 v7 v8)):Tot (Zfq E0 E1 v7 v8).den (Nx Znr Z7g (0,0,0,0,0,0) (fun r=>(Za0 r))):=by
 obtain⟨O0,O1⟩:=h
 dsimp only [Zfq,LT.den]
 refine tF (fun h1=>?_) (fun h1=>?_)
 ·exact tR ⟨O0.1,O0.2⟩
 ·refine tE (fun h2=>?_) (fun h2=>?_)
  ·exact tJ (Zta E0 E1 v7 (v7==4) ⟨O0,O1⟩)
  ·exact tJ (Zta E0 E1 v7 (v7==5) ⟨O0,O1⟩)
theorem Za58(a0:Zz)(oa0:Za0 a0):Tot (Zam0 a0) (fun r=>(Za0 r)):=by
 unfold Zam0
 refine tX (Inv:=Znr) (μ:=Z7g) (m:=(1000000,0,0,0,0,0)) ?_ ?_
 ·dsimp only [Zaqo,LT.den]
  refine tE (fun h1=>?_) (fun h1=>?_)
  ·exact tJ (Ze6 (⟨0,a0.N,a0.M,a0.Sub,a0.Filter⟩:Zz) (⟨0,0,0,([]:List UInt8),(⟨0,0,0,0,0,0,0,([]:List UInt8),0,0,(⟨0,0⟩:Zd),(⟨0,0⟩:Zd),(⟨0,0⟩:Zd)⟩:Ze)⟩:Zz) a0.Kind (a0.Kind==2) ⟨⟨oa0.1,oa0.2⟩,⟨(SzS.nil),(SzS.nil)⟩⟩)
  ·refine tE (fun h2=>?_) (fun h2=>?_)
   ·exact tJ (Ze6 (⟨0,a0.N,a0.M,a0.Sub,a0.Filter⟩:Zz) (⟨0,0,0,([]:List UInt8),(⟨0,0,0,0,0,0,0,([]:List UInt8),0,0,(⟨0,0⟩:Zd),(⟨0,0⟩:Zd),(⟨0,0⟩:Zd)⟩:Ze)⟩:Zz) a0.Kind (a0.Kind==3) ⟨⟨oa0.1,oa0.2⟩,⟨(SzS.nil),(SzS.nil)⟩⟩)
   ·refine tE (fun h3=>?_) (fun h3=>?_)
    ·exact tJ (Ze6 (⟨0,a0.N,a0.M,a0.Sub,a0.Filter⟩:Zz) (⟨0,0,0,([]:List UInt8),(⟨0,0,0,0,0,0,0,([]:List UInt8),0,0,(⟨0,0⟩:Zd),(⟨0,0⟩:Zd),(⟨0,0⟩:Zd)⟩:Ze)⟩:Zz) a0.Kind (a0.Kind==6) ⟨⟨oa0.1,oa0.2⟩,⟨(SzS.nil),(SzS.nil)⟩⟩)
    ·refine tE (fun h4=>?_) (fun h4=>?_)
     ·exact tJ (Ze6 (⟨0,a0.N,a0.M,a0.Sub,a0.Filter⟩:Zz) (⟨0,0,0,([]:List UInt8),(⟨0,0,0,0,0,0,0,([]:List UInt8),0,0,(⟨0,0⟩:Zd),(⟨0,0⟩:Zd),(⟨0,0⟩:Zd)⟩:Ze)⟩:Zz) a0.Kind (a0.Kind==7) ⟨⟨oa0.1,oa0.2⟩,⟨(SzS.nil),(SzS.nil)⟩⟩)
     ·refine tE (fun h5=>?_) (fun h5=>?_)
      ·exact tJ (Ze6 (⟨0,a0.N,a0.M,a0.Sub,a0.Filter⟩:Zz) (⟨0,0,0,([]:List UInt8),(⟨0,0,0,0,0,0,0,([]:List UInt8),0,0,(⟨0,0⟩:Zd),(⟨0,0⟩:Zd),(⟨0,0⟩:Zd)⟩:Ze)⟩:Zz) a0.Kind (a0.Kind==8) ⟨⟨oa0.1,oa0.2⟩,⟨(SzS.nil),(SzS.nil)⟩⟩)
      ·exact tJ (Ze6 (⟨0,a0.N,a0.M,a0.Sub,a0.Filter⟩:Zz) (⟨0,0,0,([]:List UInt8),(⟨0,0,0,0,0,0,0,([]:List UInt8),0,0,(⟨0,0⟩:Zd),(⟨0,0⟩:Zd),(⟨0,0⟩:Zd)⟩:Ze)⟩:Zz) a0.Kind (a0.Kind==9) ⟨⟨oa0.1,oa0.2⟩,⟨(SzS.nil),(SzS.nil)⟩⟩)
 ·intro s hs
  cases s with
  | L0 E0 E1 v7 v8=>exact Ze6 E0 E1 v7 v8 hs
  | L1 E0 E1 v7 v16=>exact Zta E0 E1 v7 v16 hs
theorem Za0f(a0:Int):Tot (Zaev a0) (fun r=>True):=by
 unfold Zaev
 refine tZ ?_
 dsimp only [Zajx,LT.den]
 refine tD (fun h1=>?_) (fun h1=>?_)
 ·refine tD (fun h2=>?_) (fun h2=>?_)
  ·exact tR trivial
  ·exact tR trivial
 ·exact tR trivial
def Z0j:Zqp→Prop
 | .L0 E0 v18 v19=>(Za0 E0)∧True
 | .L1 E0 v18 v25=>(Za0 E0)∧True
 | .L2 E0 v18 v51=>(Za0 E0)∧True
def Z5d:Zqp→M6
 | .L0 E0 v18 v19=>(0,0,0,0,0,0)
 | .L1 E0 v18 v25=>(0,0,0,0,0,0)
 | .L2 E0 v18 v51=>(0,0,0,0,0,0)
theorem Zy4(E0:Zz)(v18:Int)(v51:Bool)(h:(Za0 E0)∧True):Tot (Zw1 E0 v18 v51).den (Nx Z0j Z5d (0,0,0,0,0,0) (fun r=>True)):=by
 obtain⟨O0,_⟩:=h
 dsimp only [Zw1,LT.den]
 refine tF (fun h1=>?_) (fun h1=>?_)
 ·refine tD (fun h2=>?_) (fun h2=>?_)
  ·exact tR trivial
  ·exact tR trivial
 ·refine tE (fun h3=>?_) (fun h3=>?_)
  ·refine tB (Zek E0.Filter O0.2) (fun x4 h5=>?_)
   have eh5_0:=h5.1
   have eh5_1:=h5.2
   exact tR trivial
  ·refine tE (fun h6=>?_) (fun h6=>?_)
   ·refine tD (fun h7=>?_) (fun h7=>?_)
    ·refine tD (fun h8=>?_) (fun h8=>?_)
     ·refine tD (fun h9=>?_) (fun h9=>?_)
      ·exact tR trivial
      ·exact tR trivial
     ·exact tR trivial
    ·exact tR trivial
   ·refine tE (fun h10=>?_) (fun h10=>?_)
    ·refine tD (fun h11=>?_) (fun h11=>?_)
     ·refine tD (fun h12=>?_) (fun h12=>?_)
      ·refine tD (fun h13=>?_) (fun h13=>?_)
       ·exact tR trivial
       ·exact tR trivial
      ·exact tR trivial
     ·exact tR trivial
    ·exact tR trivial
theorem Zy5(E0:Zz)(v18:Int)(v25:Bool)(h:(Za0 E0)∧True):Tot (Zw2 E0 v18 v25).den (Nx Z0j Z5d (0,0,0,0,0,0) (fun r=>True)):=by
 obtain⟨O0,_⟩:=h
 dsimp only [Zw2,LT.den]
 refine tF (fun h1=>?_) (fun h1=>?_)
 ·refine tB (Zqd E0.Sub (SzS.t O0.1)) (fun x2 h3=>?_)
  exact tR trivial
 ·refine tE (fun h4=>?_) (fun h4=>?_)
  ·refine tD (fun h5=>?_) (fun h5=>?_)
   ·exact tR trivial
   ·exact tR trivial
  ·refine tE (fun h6=>?_) (fun h6=>?_)
   ·refine tD (fun h7=>?_) (fun h7=>?_)
    ·exact tR trivial
    ·exact tR trivial
   ·refine tE (fun h8=>?_) (fun h8=>?_)
    ·exact tJ (Zy4 E0 v18 (v18==8) ⟨O0,trivial⟩)
    ·exact tJ (Zy4 E0 v18 (v18==9) ⟨O0,trivial⟩)
theorem Zy6(E0:Zz)(v18:Int)(v19:Bool)(h:(Za0 E0)∧True):Tot (Zw3 E0 v18 v19).den (Nx Z0j Z5d (0,0,0,0,0,0) (fun r=>True)):=by
 obtain⟨O0,_⟩:=h
 dsimp only [Zw3,LT.den]
 refine tF (fun h1=>?_) (fun h1=>?_)
 ·refine tB (Za0f E0.N) (fun x2 h3=>?_)
  exact tR trivial
 ·refine tE (fun h4=>?_) (fun h4=>?_)
  ·exact tJ (Zy5 E0 v18 (v18==4) ⟨O0,trivial⟩)
  ·exact tJ (Zy5 E0 v18 (v18==5) ⟨O0,trivial⟩)
theorem Zaba(a0:Zz)(oa0:Za0 a0):Tot (Za3p a0) (fun r=>True):=by
 unfold Za3p
 refine tX (Inv:=Z0j) (μ:=Z5d) (m:=(1000000,0,0,0,0,0)) ?_ ?_
 ·dsimp only [Za3n,LT.den]
  refine tD (fun h1=>?_) (fun h1=>?_)
  ·exact tR trivial
  ·refine tD (fun h2=>?_) (fun h2=>?_)
   ·exact tR trivial
   ·refine tB (Za58 a0 oa0) (fun x3 h4=>?_)
    refine tO (fun h5=>?_) (fun h5=>?_)
    ·exact tR trivial
    ·refine tE (fun h6=>?_) (fun h6=>?_)
     ·exact tJ (Zy6 a0 a0.Kind (a0.Kind==2) ⟨oa0,trivial⟩)
     ·exact tJ (Zy6 a0 a0.Kind (a0.Kind==3) ⟨oa0,trivial⟩)
 ·intro s hs
  cases s with
  | L0 E0 v18 v19=>exact Zy6 E0 v18 v19 hs
  | L1 E0 v18 v25=>exact Zy5 E0 v18 v25 hs
  | L2 E0 v18 v51=>exact Zy4 E0 v18 v51 hs
def Zawx:Zmw→Prop
 | .L0 v0 v1 v2 v7 v8=>((SzL 16 SzN) v0)∧(SzN v2)∧(0≤v8)∧(v7.length≤200*v8.toNat)∧(v0.length≤100)∧(v8≤v0.length)
def Zadd:Zmw→M6
 | .L0 v0 v1 v2 v7 v8=>(1,((v0.length:Int) - v8).toNat,1000000,0,0,0)
theorem Zawy(a0:(List (List UInt8)))(a1:Int)(a2:(List UInt8))(oa0:(SzL 16 SzN) a0)(oa2:SzN a2)(h0:a0.length≤100):Tot (Z94 a0 a1 a2) (fun r=>(SzT r)∧(r.length≤20000)):=by
 unfold Z94
 refine tX (Inv:=Zawx) (μ:=Zadd) (m:=(1000000,0,0,0,0,0)) ?_ ?_
 ·have lb_a0:=oa0.1
  have lb_a2:a2.length≤100:=oa2
  dsimp only [Zaex,LT.den]
  exact tL ⟨oa0,oa2,cl,cl,cl,cl⟩ Za11
 ·intro s hs
  cases s with
  | L0 v0 v1 v2 v7 v8=>
   obtain⟨ov0,ov2,cv8,i0,i1,i2⟩:=hs
   have lb_v0:=ov0.1
   have lb_v2:v2.length≤100:=ov2
   show Tot (Zx6 v0 v1 v2 v7 v8).den _
   dsimp only [Zx6,LT.den]
   have q1:=(SzL.nt ov0).1
   refine tD (fun h2=>?_) (fun h2=>?_)
   ·refine tB (Z7f v1 v8 cl) (fun x3 h4=>?_)
    refine tF (fun h5=>?_) (fun h5=>?_)
    ·refine tO (fun h6=>?_) (fun h6=>?_)
     ·have q7:v2.length≤100:=ov2
      refine tB (tK Zcz) (fun x8 h9=>?_)
      refine tB (tI (by omega) (by omega)) (fun x10 h11=>?_)
      have oh11:SzN x10:=ov0.2 x10 h11.1
      have q12:x10.length≤100:=oh11
      refine tB (tK Zcz) (fun x13 h14=>?_)
      refine qw (v8+1) fun q15 q16=>?_
      exact tL ⟨ov0,ov2,cl,cl,cl,cl⟩ Za11
     ·refine tB (tI (by omega) (by omega)) (fun x17 h18=>?_)
      have oh18:SzN x17:=ov0.2 x17 h18.1
      have q19:x17.length≤100:=oh18
      refine tB (tK Zcz) (fun x20 h21=>?_)
      refine qw (v8+1) fun q22 q23=>?_
      exact tL ⟨ov0,ov2,cl,cl,cl,cl⟩ Za11
    ·refine qw (v8+1) fun q24 q25=>?_
     exact tL ⟨ov0,ov2,cl,cl,cl,cl⟩ Za11
   ·exact tR ⟨Zqx,cl⟩
theorem Zou(a0:Int):Tot (Zx7 a0) (fun r=>(SzT r)∧(r.length≤20000)):=by
 unfold Zx7
 refine tZ ?_
 dsimp only [Z4j,LT.den]
 refine tD (fun h1=>?_) (fun h1=>?_)
 ·exact tR ⟨(SzT.nil),cl⟩
 ·refine tD (fun h2=>?_) (fun h2=>?_)
  ·exact tR ⟨(SzT.nil),cl⟩
  ·refine tB (Zz2) (fun x3 h4=>?_)
   have eh4_1:=h4.2
   refine tB (Zawy x3 a0 ([43]:List UInt8) h4.1 Zau cl) (fun x5 h6=>?_)
   have eh6_1:=h6.2
   exact tR ⟨h6.1,cl⟩
theorem Zbby(a0:Int):Tot (Za3s a0) (fun r=>True):=by
 unfold Za3s
 refine tZ ?_
 dsimp only [Za3q,LT.den]
 refine tD (fun h1=>?_) (fun h1=>?_)
 ·exact tR trivial
 ·exact tR trivial
theorem Ztb(a0:Int):Tot (Zam1 a0) (fun r=>(SzN r)):=by
 unfold Zam1
 refine tZ ?_
 dsimp only [Zaqq,LT.den]
 refine tE (fun h1=>?_) (fun h1=>?_)
 ·exact tR Zau
 ·refine tE (fun h2=>?_) (fun h2=>?_)
  ·exact tR Zau
  ·refine tE (fun h3=>?_) (fun h3=>?_)
   ·exact tR Zau
   ·refine tE (fun h4=>?_) (fun h4=>?_)
    ·exact tR Zau
    ·refine tE (fun h5=>?_) (fun h5=>?_)
     ·exact tR Zau
     ·exact tR (SzN.nil)
def Za59:Zrv→Prop
 | .L0 v0 v3 v4=>(0≤v4)∧(v3.length≤200*v4.toNat)∧(v4≤5)
def Zamc:Zrv→M6
 | .L0 v0 v3 v4=>(1,(5 - v4).toNat,1000000,0,0,0)
theorem Zaho(a0:Int):Tot (Zam2 a0) (fun r=>(SzT r)):=by
 unfold Zam2
 refine tX (Inv:=Za59) (μ:=Zamc) (m:=(1000000,0,0,0,0,0)) ?_ ?_
 ·dsimp only [Zaqs,LT.den]
  refine tB (Zbby a0) (fun x1 h2=>?_)
  refine tO (fun h3=>?_) (fun h3=>?_)
  ·exact tR (SzT.nil)
  ·refine tE (fun h4=>?_) (fun h4=>?_)
   ·exact tR Zqx
   ·exact tL ⟨cl,cl,cl⟩ Za14
 ·intro s hs
  cases s with
  | L0 v0 v3 v4=>
   obtain⟨cv4,i0,i1⟩:=hs
   show Tot (Z5y v0 v3 v4).den _
   dsimp only [Z5y,LT.den]
   refine tD (fun h1=>?_) (fun h1=>?_)
   ·refine tB (tK tk76) (fun x2 h3=>?_)
    refine tB (tK tk76) (fun x4 h5=>?_)
    refine tE (fun h6=>?_) (fun h6=>?_)
    ·refine tO (fun h7=>?_) (fun h7=>?_)
     ·refine tB (tK Zcz) (fun x8 h9=>?_)
      refine tB (Ztb v4) (fun x10 h11=>?_)
      have q12:x10.length≤100:=h11
      refine tB (tK Zcz) (fun x13 h14=>?_)
      refine qw (v4+1) fun q15 q16=>?_
      exact tL ⟨cl,cl,cl⟩ Za14
     ·refine tB (Ztb v4) (fun x17 h18=>?_)
      have q19:x17.length≤100:=h18
      refine tB (tK Zcz) (fun x20 h21=>?_)
      refine qw (v4+1) fun q22 q23=>?_
      exact tL ⟨cl,cl,cl⟩ Za14
    ·refine qw (v4+1) fun q24 q25=>?_
     exact tL ⟨cl,cl,cl⟩ Za14
   ·exact tR Zqx
theorem Za0g:Tot (Z4l) (fun r=>((SzL 16 SzN) r)∧(r.length=17)):=by
 unfold Z4l
 refine tZ ?_
 dsimp only [Zaj0,LT.den]
 have q1:(SzL 16 SzN) ([([102,108,121,105,110,103]:List UInt8),([114,101,97,99,104]:List UInt8),([104,97,115,116,101]:List UInt8),([118,105,103,105,108,97,110,116]:List UInt8),([116,114,97,109,112,108,101]:List UInt8),([102,105,114,115,116,45,115,116,114,105,107,101]:List UInt8),([100,111,117,98,108,101,45,115,116,114,105,107,101]:List UInt8),([100,101,97,100,108,121]:List UInt8),([108,105,102,101,108,105,110,107]:List UInt8),([109,101,110,97,99,101]:List UInt8),([100,101,102,101,110,100,101,114]:List UInt8),([119,97,114,100,101,100]:List UInt8),([115,116,117,114,100,121]:List UInt8),([101,108,117,115,105,118,101]:List UInt8),([110,111,45,97,116,116,97,99,107]:List UInt8),([110,111,45,98,108,111,99,107]:List UInt8),([109,117,115,116,45,97,116,116,97,99,107]:List UInt8)]:(List (List UInt8))):=⟨by simp only [List.length_cons,List.length_nil];omega,(mem_cons' Zau (mem_cons' Zau (mem_cons' Zau (mem_cons' Zau (mem_cons' Zau (mem_cons' Zau (mem_cons' Zau (mem_cons' Zau (mem_cons' Zau (mem_cons' Zau (mem_cons' Zau (mem_cons' Zau (mem_cons' Zau (mem_cons' Zau (mem_cons' Zau (mem_cons' Zau (mem_cons' Zau (fun _ h=>by cases h))))))))))))))))))⟩
 have lq1:([([102,108,121,105,110,103]:List UInt8),([114,101,97,99,104]:List UInt8),([104,97,115,116,101]:List UInt8),([118,105,103,105,108,97,110,116]:List UInt8),([116,114,97,109,112,108,101]:List UInt8),([102,105,114,115,116,45,115,116,114,105,107,101]:List UInt8),([100,111,117,98,108,101,45,115,116,114,105,107,101]:List UInt8),([100,101,97,100,108,121]:List UInt8),([108,105,102,101,108,105,110,107]:List UInt8),([109,101,110,97,99,101]:List UInt8),([100,101,102,101,110,100,101,114]:List UInt8),([119,97,114,100,101,100]:List UInt8),([115,116,117,114,100,121]:List UInt8),([101,108,117,115,105,118,101]:List UInt8),([110,111,45,97,116,116,97,99,107]:List UInt8),([110,111,45,98,108,111,99,107]:List UInt8),([109,117,115,116,45,97,116,116,97,99,107]:List UInt8)]:(List (List UInt8))).length=17:=rfl
 exact tR ⟨q1,cl⟩
theorem Z3e(a0:Int):Tot (Zam3 a0) (fun r=>(SzN r)):=by
 unfold Zam3
 refine tZ ?_
 dsimp only [Zaqu,LT.den]
 refine tD (fun h1=>?_) (fun h1=>?_)
 ·exact tR (SzN.nil)
 ·refine tD (fun h2=>?_) (fun h2=>?_)
  ·exact tR (SzN.nil)
  ·refine tB (Za0g) (fun x3 h4=>?_)
   have eh4_1:=h4.2
   refine tB (tI (by omega) (by omega)) (fun x5 h6=>?_)
   have oh6:SzN x5:=h4.1.2 x5 h6.1
   exact tR oh6
def Za6a:Zrw→Prop
 | .L0 v0 v3 v4=>(0≤v4)∧(v3.length≤200*v4.toNat)∧(v4≤17)
def Zamd:Zrw→M6
 | .L0 v0 v3 v4=>(1,(17 - v4).toNat,1000000,0,0,0)
theorem Zahp(a0:Int):Tot (Zam4 a0) (fun r=>(SzT r)):=by
 unfold Zam4
 refine tX (Inv:=Za6a) (μ:=Zamd) (m:=(1000000,0,0,0,0,0)) ?_ ?_
 ·dsimp only [Zaqw,LT.den]
  refine tB (Zatl a0) (fun x1 h2=>?_)
  refine tO (fun h3=>?_) (fun h3=>?_)
  ·exact tR (SzT.nil)
  ·exact tL ⟨cl,cl,cl⟩ Za15
 ·intro s hs
  cases s with
  | L0 v0 v3 v4=>
   obtain⟨cv4,i0,i1⟩:=hs
   show Tot (Z50 v0 v3 v4).den _
   dsimp only [Z50,LT.den]
   refine tD (fun h1=>?_) (fun h1=>?_)
   ·refine tE (fun h2=>?_) (fun h2=>?_)
    ·refine tO (fun h3=>?_) (fun h3=>?_)
     ·refine tB (tK Zcz) (fun x4 h5=>?_)
      refine tB (Z3e v4) (fun x6 h7=>?_)
      have q8:x6.length≤100:=h7
      refine tB (tK Zcz) (fun x9 h10=>?_)
      refine qw (v4+1) fun q11 q12=>?_
      exact tL ⟨cl,cl,cl⟩ Za15
     ·refine tB (Z3e v4) (fun x13 h14=>?_)
      have q15:x13.length≤100:=h14
      refine tB (tK Zcz) (fun x16 h17=>?_)
      refine qw (v4+1) fun q18 q19=>?_
      exact tL ⟨cl,cl,cl⟩ Za15
    ·refine qw (v4+1) fun q20 q21=>?_
     exact tL ⟨cl,cl,cl⟩ Za15
   ·refine tF (fun h22=>?_) (fun h22=>?_)
    ·exact tR Zqx
    ·exact tR Zqx
theorem Zaje:Tot (Zp7) (fun r=>((SzL 16 SzN) r)∧(r.length=6)):=by
 unfold Zp7
 refine tZ ?_
 dsimp only [Z4m,LT.den]
 have q1:(SzL 16 SzN) ([([]:List UInt8),([105,110,45,104,97,110,100]:List UInt8),([105,110,45,108,105,98,114,97,114,121]:List UInt8),([105,110,45,103,114,97,118,101,121,97,114,100]:List UInt8),([105,110,45,101,120,105,108,101]:List UInt8),([111,110,45,115,116,97,99,107]:List UInt8)]:(List (List UInt8))):=⟨by simp only [List.length_cons,List.length_nil];omega,(mem_cons' (SzN.nil) (mem_cons' Zau (mem_cons' Zau (mem_cons' Zau (mem_cons' Zau (mem_cons' Zau (fun _ h=>by cases h)))))))⟩
 have lq1:([([]:List UInt8),([105,110,45,104,97,110,100]:List UInt8),([105,110,45,108,105,98,114,97,114,121]:List UInt8),([105,110,45,103,114,97,118,101,121,97,114,100]:List UInt8),([105,110,45,101,120,105,108,101]:List UInt8),([111,110,45,115,116,97,99,107]:List UInt8)]:(List (List UInt8))).length=6:=rfl
 exact tR ⟨q1,cl⟩
theorem Zaog:Tot (Zrx) (fun r=>((SzL 16 SzN) r)∧(r.length=3)):=by
 unfold Zrx
 refine tZ ?_
 dsimp only [Z71,LT.den]
 have q1:(SzL 16 SzN) ([([]:List UInt8),([121,111,117,114,115]:List UInt8),([116,104,101,105,114,115]:List UInt8)]:(List (List UInt8))):=⟨by simp only [List.length_cons,List.length_nil];omega,(mem_cons' (SzN.nil) (mem_cons' Zau (mem_cons' Zau (fun _ h=>by cases h))))⟩
 have lq1:([([]:List UInt8),([121,111,117,114,115]:List UInt8),([116,104,101,105,114,115]:List UInt8)]:(List (List UInt8))).length=3:=rfl
 exact tR ⟨q1,cl⟩
theorem Zajf:Tot (Zp8) (fun r=>((SzL 16 SzN) r)∧(r.length=3)):=by
 unfold Zp8
 refine tZ ?_
 dsimp only [Z4o,LT.den]
 have q1:(SzL 16 SzN) ([([]:List UInt8),([115,101,108,102]:List UInt8),([111,116,104,101,114]:List UInt8)]:(List (List UInt8))):=⟨by simp only [List.length_cons,List.length_nil];omega,(mem_cons' (SzN.nil) (mem_cons' Zau (mem_cons' Zau (fun _ h=>by cases h))))⟩
 have lq1:([([]:List UInt8),([115,101,108,102]:List UInt8),([111,116,104,101,114]:List UInt8)]:(List (List UInt8))).length=3:=rfl
 exact tR ⟨q1,cl⟩
theorem Zaoh:Tot (Zry) (fun r=>((SzL 16 SzN) r)∧(r.length=3)):=by
 unfold Zry
 refine tZ ?_
 dsimp only [Z73,LT.den]
 have q1:(SzL 16 SzN) ([([]:List UInt8),([116,97,112,112,101,100]:List UInt8),([117,110,116,97,112,112,101,100]:List UInt8)]:(List (List UInt8))):=⟨by simp only [List.length_cons,List.length_nil];omega,(mem_cons' (SzN.nil) (mem_cons' Zau (mem_cons' Zau (fun _ h=>by cases h))))⟩
 have lq1:([([]:List UInt8),([116,97,112,112,101,100]:List UInt8),([117,110,116,97,112,112,101,100]:List UInt8)]:(List (List UInt8))).length=3:=rfl
 exact tR ⟨q1,cl⟩
def Za8i:Zw4→Prop
 | .L0 v0 v1 v5=>(0≤v5)∧(v1≤100)
def Zabb:Zw4→M6
 | .L0 v0 v1 v5=>(1,(v1 - v5).toNat,1000000,0,0,0)
theorem Zp2(a0:Int)(a1:Int)(h0:a1≤100):Tot (Zavj a0 a1) (fun r=>True):=by
 unfold Zavj
 refine tX (Inv:=Za8i) (μ:=Zabb) (m:=(1000000,0,0,0,0,0)) ?_ ?_
 ·dsimp only [Zaym,LT.den]
  exact tL ⟨cl,cl⟩ (by unfold Zabb lt6;dsimp only;omega)
 ·intro s hs
  cases s with
  | L0 v0 v1 v5=>
   obtain⟨cv5,i0⟩:=hs
   show Tot (Z95 v0 v1 v5).den _
   dsimp only [Z95,LT.den]
   refine tD (fun h1=>?_) (fun h1=>?_)
   ·refine qw (v5+1) fun q2 q3=>?_
    exact tL ⟨cl,cl⟩ (by unfold Zabb lt6;dsimp only;omega)
   ·exact tR trivial
def Zaoi:Zi1→Prop
 | .L0 v0 v3 v4=>(0≤v4)∧(v0≤100)
def Ztc:Zi1→M6
 | .L0 v0 v3 v4=>(1,(v0 - v4).toNat,1000000,0,0,0)
theorem Z3f(a0:Int)(h0:a0≤100):Tot (Z1e a0) (fun r=>(SzT r)∧(r.length≤20000)):=by
 unfold Z1e
 refine tX (Inv:=Zaoi) (μ:=Ztc) (m:=(1000000,0,0,0,0,0)) ?_ ?_
 ·dsimp only [Z75,LT.den]
  exact tL ⟨cl,cl⟩ (by unfold Ztc lt6;dsimp only;omega)
 ·intro s hs
  cases s with
  | L0 v0 v3 v4=>
   obtain⟨cv4,i0⟩:=hs
   show Tot (Zr0 v0 v3 v4).den _
   dsimp only [Zr0,LT.den]
   refine tD (fun h1=>?_) (fun h1=>?_)
   ·refine qw (v3*2) fun q2 q3=>?_
    refine qw (v4+1) fun q4 q5=>?_
    exact tL ⟨cl,cl⟩ (by unfold Ztc lt6;dsimp only;omega)
   ·refine tB (Zou v3) (fun x6 h7=>?_)
    have eh7_1:=h7.2
    exact tR ⟨h7.1,cl⟩
theorem Za0h:Tot (Z4r) (fun r=>((SzL 16 SzN) r)∧(r.length=4)):=by
 unfold Z4r
 refine tZ ?_
 dsimp only [Zaj3,LT.den]
 have q1:(SzL 16 SzN) ([([]:List UInt8),([62,61]:List UInt8),([60,61]:List UInt8),([61]:List UInt8)]:(List (List UInt8))):=⟨by simp only [List.length_cons,List.length_nil];omega,(mem_cons' (SzN.nil) (mem_cons' Zau (mem_cons' Zau (mem_cons' Zau (fun _ h=>by cases h)))))⟩
 have lq1:([([]:List UInt8),([62,61]:List UInt8),([60,61]:List UInt8),([61]:List UInt8)]:(List (List UInt8))).length=4:=rfl
 exact tR ⟨q1,cl⟩
theorem Zbg9{n:Int}(h0:0≤n)(h1:n < 18446744073709551616):Zms .u64 n 10=n / 10:=by
 unfold Zms
 rw [Int.tdiv_eq_ediv_of_nonneg h0]
 have h2:0≤n / 10:=by omega
 have h3:n / 10 < 18446744073709551616:=by omega
 simp only [IntKind.wrap,IntKind.bits,IntKind.signed,Bool.false_and,Bool.false_eq_true,if_false]
 exact Int.emod_eq_of_lt h2 h3
theorem Z5e:∀ (k:Nat) (n:Int) (s:List UInt8),k≤20→0≤n→n < 10 ^ k→n < 18446744073709551616→s.length+k≤40→Tot (Zcm Zr1.step (.L0 n s)) fun r=>SzN r∧r.length≤40
 | 0,n,s,_,h0,h1,_,hs=>by
  have:n=0:=by omega
  subst this
  refine Tot.stop (r:=s) ?_ ⟨show s.length≤100 by omega,by omega⟩
  show (Zf6 _ _).den=_
  dsimp only [Zf6,LT.den]
  rfl
 | k+1,n,s,hk,h0,h1,h2,hs=>by
  by_cases hn:n > 0
  ·obtain⟨d,hd,hl⟩:=Tot.str (xs:=[IntKind.wrap .u8 (IntKind.wrap .u64 (48+(Int.tmod n 10)))]) (by simp) tk55
   simp only [List.length_cons,List.length_nil] at hl
   have e:Zr1.step (.L0 n s)=some (.inl (.L0 (n / 10) (d++s))):=by
    show (Zf6 _ _).den=_
    dsimp only [Zf6,LT.den]
    rw [decide_eq_true hn,cond_true,hd,Option.bind_some,decide_eq_true (show d.length+s.length≤9223372036854775807 by omega),Zbg9 h0 h2]
    rfl
   obtain⟨r,hr,hp⟩:=Z5e k (n / 10) (d++s) (by omega) (by omega) (by
    rw [Int.pow_succ] at h1
    have:n / 10 < 10 ^ k:=Int.ediv_lt_of_lt_mul (by decide) h1
    exact this) (by omega) (by rw [List.length_append];omega)
   exact⟨r,by rw [Zid e];exact hr,hp⟩
  ·refine Tot.stop (r:=s) ?_ ⟨show s.length≤100 by omega,by omega⟩
   show (Zf6 _ _).den=_
   dsimp only [Zf6,LT.den]
   rw [decide_eq_false hn];rfl
theorem Z83(a0:Int)(h0:0≤a0)(h1:a0 < 18446744073709551616):Tot (Z96 a0) (fun r=>(SzN r)∧(r.length≤40)):=by
 unfold Z96 LF.run;dsimp only [Zaez,LT.den]
 obtain⟨d,hd,hl⟩:=Tot.str (xs:=[IntKind.wrap .u8 (IntKind.wrap .u64 (48+(Int.tmod a0 10)))]) (by simp) tk55
 simp only [List.length_cons,List.length_nil] at hl
 rw [hd,Option.bind_some,Option.bind_some,Zkc,Zbg9 h0 h1]
 exact Z5e 20 (a0 / 10) d (by omega) (by omega) (by omega) (by omega) (by omega)
theorem Zjq(a0:Int):Tot (Zam9 a0) (fun r=>(SzN r)):=by
 unfold Zam9
 refine tZ ?_
 dsimp only [Zaq0,LT.den]
 refine tD (fun h1=>?_) (fun h1=>?_)
 ·have q2:0≤IntKind.wrap .u64 a0∧IntKind.wrap .u64 a0 < 18446744073709551616:=Zavf _
  have q3:0≤IntKind.wrap .u64 (0 - (IntKind.wrap .u64 a0))∧IntKind.wrap .u64 (0 - (IntKind.wrap .u64 a0)) < 18446744073709551616:=Zavf _
  refine tB (Z83 (IntKind.wrap .u64 (0 - (IntKind.wrap .u64 a0))) cl cl) (fun x4 h5=>?_)
  have eh5_1:=h5.2
  have q6:x4.length≤100:=h5.1
  refine tB (tK Zcz) (fun x7 h8=>?_)
  exact tR Zau
 ·have q9:0≤IntKind.wrap .u64 a0∧IntKind.wrap .u64 a0 < 18446744073709551616:=Zavf _
  refine tB (Z83 (IntKind.wrap .u64 a0) cl cl) (fun x10 h11=>?_)
  have eh11_1:=h11.2
  exact tR h11.1
theorem Zov(a0:(List UInt8))(a1:Zd)(oa0:SzN a0)(h0:0≤a1.Kind)(h1:a1.Kind≤3):Tot (Zx8 a0 a1) (fun r=>(SzT r)):=by
 unfold Zx8
 refine tZ ?_
 have lb_a0:a0.length≤100:=oa0
 dsimp only [Z4s,LT.den]
 refine tE (fun h1=>?_) (fun h1=>?_)
 ·exact tR (SzT.nil)
 ·refine tB (Za0h) (fun x2 h3=>?_)
  have eh3_1:=h3.2
  refine tB (tI (by omega) (by omega)) (fun x4 h5=>?_)
  have oh5:SzN x4:=h3.1.2 x4 h5.1
  have q6:a0.length≤100:=oa0
  have q7:x4.length≤100:=oh5
  refine tB (tK Zcz) (fun x8 h9=>?_)
  refine tB (Zjq a1.N) (fun x10 h11=>?_)
  have q12:x10.length≤100:=h11
  refine tB (tK Zcz) (fun x13 h14=>?_)
  exact tR Zqx
def Za6b:Zr2→Prop
 | .L0 v0 v1 v5 v6=>((SzL 16 SzT) v0)∧(SzN v1)∧(0≤v6)∧(v5.length≤1125899906842624*v6.toNat)∧(v0.length≤100)∧(v6≤v0.length)
def Zame:Zr2→M6
 | .L0 v0 v1 v5 v6=>(1,((v0.length:Int) - v6).toNat,1000000,0,0,0)
theorem Za6c(a0:(List (List UInt8)))(a1:(List UInt8))(oa0:(SzL 16 SzT) a0)(oa1:SzN a1)(h0:a0.length≤100):Tot (Zana a0 a1) (fun r=>(r.length≤144115188075855872)):=by
 unfold Zana
 refine tX (Inv:=Za6b) (μ:=Zame) (m:=(1000000,0,0,0,0,0)) ?_ ?_
 ·have lb_a0:=oa0.1
  have lb_a1:a1.length≤100:=oa1
  dsimp only [Zaq2,LT.den]
  exact tL ⟨oa0,oa1,cl,cl,cl,cl⟩ Zbbq
 ·intro s hs
  cases s with
  | L0 v0 v1 v5 v6=>
   obtain⟨ov0,ov1,cv6,i0,i1,i2⟩:=hs
   have lb_v0:=ov0.1
   have lb_v1:v1.length≤100:=ov1
   show Tot (Z51 v0 v1 v5 v6).den _
   dsimp only [Z51,LT.den]
   have q1:=ov0.1
   refine tD (fun h2=>?_) (fun h2=>?_)
   ·refine tD (fun h3=>?_) (fun h3=>?_)
    ·have q4:v1.length≤100:=ov1
     refine tB (tK Zcz) (fun x5 h6=>?_)
     refine tB (tI (by omega) (by omega)) (fun x7 h8=>?_)
     have oh8:SzT x7:=ov0.2 x7 h8.1
     have q9:x7.length≤562949953421312:=oh8
     refine tB (tK Zcz) (fun x10 h11=>?_)
     refine qw (v6+1) fun q12 q13=>?_
     exact tL ⟨ov0,ov1,cl,cl,cl,cl⟩ Zbbq
    ·refine tB (tI (by omega) (by omega)) (fun x14 h15=>?_)
     have oh15:SzT x14:=ov0.2 x14 h15.1
     have q16:x14.length≤562949953421312:=oh15
     refine tB (tK Zcz) (fun x17 h18=>?_)
     refine qw (v6+1) fun q19 q20=>?_
     exact tL ⟨ov0,ov1,cl,cl,cl,cl⟩ Zbbq
   ·exact tR cl
theorem Zer(b0:(List (List UInt8)))(a1:(List UInt8))(ob0:(SzL 16 SzT) b0)(oa1:SzT a1)(h0:b0.length≤1000):Tot (Z1g b0 a1) (fun r=>((SzL 16 SzT) r)∧(r.length≤b0.length+1)):=by
 unfold Z1g
 refine tZ ?_
 have lb_b0:=ob0.1
 have lb_a1:a1.length≤562949953421312:=oa1
 dsimp only [Z77,LT.den]
 refine tF (fun h1=>?_) (fun h1=>?_)
 ·exact tR ⟨ob0,cl⟩
 ·have q2:(SzL 16 SzT) ([a1]:(List (List UInt8))):=⟨by simp only [List.length_cons,List.length_nil];omega,(mem_cons' oa1 (fun _ h=>by cases h))⟩
  have q5:=ob0.1
  refine tB (tA Zb0 (by decide)) (fun x3 h4=>?_)
  have lh4:x3.length=b0.length+1:=by rw [h4,List.length_append];rfl
  exact tR ⟨(SzL.app (k:=16) h4 lo ob0.2 q2.2),cl⟩
def Z3g:Zfr→Prop
 | .L0 E0 v6 v7 v8=>(Zav E0)∧((SzL 16 SzN) v6)∧((SzL 16 SzT) v7)∧(0≤v8)∧(v7.length≤3+v8.toNat)∧(v8≤6)∧(v6.length=3)∧(0≤E0.Tap∧E0.Tap≤2∧0≤E0.Power.Kind∧E0.Power.Kind≤3∧0≤E0.Tough.Kind∧E0.Tough.Kind≤3∧0≤E0.Value.Kind∧E0.Value.Kind≤3)
 | .L1 E0 v6 v7 v9=>(Zav E0)∧((SzL 16 SzN) v6)∧((SzL 16 SzT) v7)∧(0≤v9)∧(v7.length≤9+v9.toNat)∧(v9≤6)∧(v6.length=3)∧(0≤E0.Tap∧E0.Tap≤2∧0≤E0.Power.Kind∧E0.Power.Kind≤3∧0≤E0.Tough.Kind∧E0.Tough.Kind≤3∧0≤E0.Value.Kind∧E0.Value.Kind≤3)
 | .L2 E0 v6 v7 v10=>(Zav E0)∧((SzL 16 SzN) v6)∧((SzL 16 SzT) v7)∧(0≤v10)∧(v7.length≤15+v10.toNat)∧(v10≤5)∧(v6.length=3)∧(0≤E0.Tap∧E0.Tap≤2∧0≤E0.Power.Kind∧E0.Power.Kind≤3∧0≤E0.Tough.Kind∧E0.Tough.Kind≤3∧0≤E0.Value.Kind∧E0.Value.Kind≤3)
 | .L3 E0 v6 v7 v11=>(Zav E0)∧((SzL 16 SzN) v6)∧((SzL 16 SzT) v7)∧(0≤v11)∧(v7.length≤20+v11.toNat)∧(v11≤5)∧(v6.length=3)∧(0≤E0.Tap∧E0.Tap≤2∧0≤E0.Power.Kind∧E0.Power.Kind≤3∧0≤E0.Tough.Kind∧E0.Tough.Kind≤3∧0≤E0.Value.Kind∧E0.Value.Kind≤3)
 | .L4 E0 v6 v7=>(Zav E0)∧((SzL 16 SzN) v6)∧((SzL 16 SzT) v7)∧(v7.length≤26)∧(v6.length=3)∧(0≤E0.Tap∧E0.Tap≤2∧0≤E0.Power.Kind∧E0.Power.Kind≤3∧0≤E0.Tough.Kind∧E0.Tough.Kind≤3∧0≤E0.Value.Kind∧E0.Value.Kind≤3)
 | .L5 E0 v6 v7 v12=>(Zav E0)∧((SzL 16 SzN) v6)∧((SzL 16 SzT) v7)∧(0≤v12)∧(v7.length≤26+v12.toNat)∧(v12≤17)∧(v6.length=3)∧(0≤E0.Tap∧E0.Tap≤2∧0≤E0.Power.Kind∧E0.Power.Kind≤3∧0≤E0.Tough.Kind∧E0.Tough.Kind≤3∧0≤E0.Value.Kind∧E0.Value.Kind≤3)
def Zgw:Zfr→M6
 | .L0 E0 v6 v7 v8=>(9,(6 - v8).toNat,1000000,0,0,0)
 | .L1 E0 v6 v7 v9=>(7,(6 - v9).toNat,1000000,0,0,0)
 | .L2 E0 v6 v7 v10=>(5,(5 - v10).toNat,1000000,0,0,0)
 | .L3 E0 v6 v7 v11=>(3,(5 - v11).toNat,1000000,0,0,0)
 | .L4 E0 v6 v7=>(2,0,0,0,0,0)
 | .L5 E0 v6 v7 v12=>(1,(17 - v12).toNat,1000000,0,0,0)
theorem Ztd(E0:Ze)(v6:(List (List UInt8)))(v7:(List (List UInt8)))(h:Z3g (.L4 E0 v6 v7)):Tot (Zpc E0 v6 v7).den (Nx Z3g Zgw (2,0,0,0,0,0) (fun r=>(r.length≤144115188075855872))):=by
 obtain⟨O0,ov6,ov7,i0,i1,i2⟩:=h
 have lb_v6:=ov6.1
 have lb_v7:=ov7.1
 dsimp only [Zpc,LT.den]
 exact tL ⟨O0,ov6,ov7,cl,cl,cl,cl,cl⟩ Zkn
theorem Za6d(a0:Ze)(oa0:Zav a0):Tot (Zanb a0) (fun r=>(r.length≤144115188075855872)):=by
 unfold Zanb
 refine tX (Inv:=Z3g) (μ:=Zgw) (m:=(1000000,0,0,0,0,0)) ?_ ?_
 ·dsimp only [Zaq4,LT.den]
  refine tB (Zek a0 oa0) (fun x1 h2=>?_)
  have eh2_0:=h2.1
  have eh2_1:=h2.2
  refine tO (fun h3=>?_) (fun h3=>?_)
  ·exact tR cl
  ·have h3_0:=eh2_0 h3
   refine tB (Zaje) (fun x4 h5=>?_)
   have eh5_1:=h5.2
   refine tB (Zaog) (fun x6 h7=>?_)
   have eh7_1:=h7.2
   refine tB (Zajf) (fun x8 h9=>?_)
   have eh9_1:=h9.2
   refine tB (Zaoh) (fun x10 h11=>?_)
   have eh11_1:=h11.2
   refine tB (tI (by omega) (by omega)) (fun x12 h13=>?_)
   have oh13:SzN x12:=h5.1.2 x12 h13.1
   refine tB (Zer ([]:(List (List UInt8))) x12 SzL.nil (SzN.t oh13) cl) (fun x14 h15=>?_)
   have eh15_1:=h15.2
   try simp only [List.length_nil,List.length_cons,Nat.zero_add] at eh15_1
   refine tB (tI (by omega) (by omega)) (fun x16 h17=>?_)
   have oh17:SzN x16:=h7.1.2 x16 h17.1
   refine tB (Zer x14 x16 h15.1 (SzN.t oh17) cl) (fun x18 h19=>?_)
   have eh19_1:=h19.2
   refine tB (tI (by omega) (by omega)) (fun x20 h21=>?_)
   have oh21:SzN x20:=h9.1.2 x20 h21.1
   refine tB (Zer x18 x20 h19.1 (SzN.t oh21) cl) (fun x22 h23=>?_)
   have eh23_1:=h23.2
   exact tL ⟨oa0,h11.1,h23.1,cl,cl,cl,cl,cl⟩ Zkn
 ·intro s hs
  cases s with
  | L0 E0 v6 v7 v8=>
   obtain⟨O0,ov6,ov7,cv8,i0,i1,i2,i3⟩:=hs
   have lb_v6:=ov6.1
   have lb_v7:=ov7.1
   show Tot (Z52 E0 v6 v7 v8).den _
   dsimp only [Z52,LT.den,Zgw]
   refine tD (fun h1=>?_) (fun h1=>?_)
   ·refine tB (Zp2 E0.Types v8 cl) (fun x2 h3=>?_)
    refine tF (fun h4=>?_) (fun h4=>?_)
    ·refine tB (Z3f v8 cl) (fun x5 h6=>?_)
     have eh6_1:=h6.2
     have q7:(SzL 16 SzT) ([x5]:(List (List UInt8))):=⟨by simp only [List.length_cons,List.length_nil];omega,(mem_cons' h6.1 (fun _ h=>by cases h))⟩
     have q10:=ov7.1
     refine tB (tA Zb0 (by decide)) (fun x8 h9=>?_)
     have lh9:x8.length=v7.length+1:=by rw [h9,List.length_append];rfl
     refine qw (v8+1) fun q11 q12=>?_
     exact tL ⟨O0,ov6,(SzL.app (k:=16) h9 lo ov7.2 q7.2),cl,cl,cl,cl,cl⟩ Zkn
    ·refine qw (v8+1) fun q13 q14=>?_
     exact tL ⟨O0,ov6,ov7,cl,cl,cl,cl,cl⟩ Zkn
   ·exact tL ⟨O0,ov6,ov7,cl,cl,cl,cl,cl⟩ Zkn
  | L1 E0 v6 v7 v9=>
   obtain⟨O0,ov6,ov7,cv9,i0,i1,i2,i3⟩:=hs
   have lb_v6:=ov6.1
   have lb_v7:=ov7.1
   show Tot (Z53 E0 v6 v7 v9).den _
   dsimp only [Z53,LT.den,Zgw]
   refine tD (fun h1=>?_) (fun h1=>?_)
   ·refine tB (Zp2 E0.NotTypes v9 cl) (fun x2 h3=>?_)
    refine tF (fun h4=>?_) (fun h4=>?_)
    ·refine tB (Z3f v9 cl) (fun x5 h6=>?_)
     have eh6_1:=h6.2
     have q7:x5.length≤562949953421312:=h6.1
     refine tB (tK Zcz) (fun x8 h9=>?_)
     have q10:(SzL 16 SzT) ([(([110,111,110,45]:List UInt8)++x5)]:(List (List UInt8))):=⟨by simp only [List.length_cons,List.length_nil];omega,(mem_cons' Zqx (fun _ h=>by cases h))⟩
     have q13:=ov7.1
     refine tB (tA Zb0 (by decide)) (fun x11 h12=>?_)
     have lh12:x11.length=v7.length+1:=by rw [h12,List.length_append];rfl
     refine qw (v9+1) fun q14 q15=>?_
     exact tL ⟨O0,ov6,(SzL.app (k:=16) h12 lo ov7.2 q10.2),cl,cl,cl,cl,cl⟩ Zkn
    ·refine qw (v9+1) fun q16 q17=>?_
     exact tL ⟨O0,ov6,ov7,cl,cl,cl,cl,cl⟩ Zkn
   ·exact tL ⟨O0,ov6,ov7,cl,cl,cl,cl,cl⟩ Zkn
  | L2 E0 v6 v7 v10=>
   obtain⟨O0,ov6,ov7,cv10,i0,i1,i2,i3⟩:=hs
   have lb_v6:=ov6.1
   have lb_v7:=ov7.1
   show Tot (Z54 E0 v6 v7 v10).den _
   dsimp only [Z54,LT.den,Zgw]
   refine tD (fun h1=>?_) (fun h1=>?_)
   ·refine tB (Zp2 E0.Colors v10 cl) (fun x2 h3=>?_)
    refine tF (fun h4=>?_) (fun h4=>?_)
    ·refine tB (Ztb v10) (fun x5 h6=>?_)
     have q7:(SzL 16 SzN) ([x5]:(List (List UInt8))):=⟨by simp only [List.length_cons,List.length_nil];omega,(mem_cons' h6 (fun _ h=>by cases h))⟩
     have q10:=ov7.1
     refine tB (tA Zb0 (by decide)) (fun x8 h9=>?_)
     have lh9:x8.length=v7.length+1:=by rw [h9,List.length_append];rfl
     refine qw (v10+1) fun q11 q12=>?_
     exact tL ⟨O0,ov6,(SzL.app (k:=16) h9 lo ov7.2 (SzL.nt q7).2),cl,cl,cl,cl,cl⟩ Zkn
    ·refine qw (v10+1) fun q13 q14=>?_
     exact tL ⟨O0,ov6,ov7,cl,cl,cl,cl,cl⟩ Zkn
   ·exact tL ⟨O0,ov6,ov7,cl,cl,cl,cl,cl⟩ Zkn
  | L3 E0 v6 v7 v11=>
   obtain⟨O0,ov6,ov7,cv11,i0,i1,i2,i3⟩:=hs
   have lb_v6:=ov6.1
   have lb_v7:=ov7.1
   show Tot (Z55 E0 v6 v7 v11).den _
   dsimp only [Z55,LT.den,Zgw]
   refine tD (fun h1=>?_) (fun h1=>?_)
   ·refine tB (Zp2 E0.NotColors v11 cl) (fun x2 h3=>?_)
    refine tF (fun h4=>?_) (fun h4=>?_)
    ·refine tB (Ztb v11) (fun x5 h6=>?_)
     have q7:x5.length≤100:=h6
     refine tB (tK Zcz) (fun x8 h9=>?_)
     have q10:(SzL 16 SzT) ([(([110,111,110,45]:List UInt8)++x5)]:(List (List UInt8))):=⟨by simp only [List.length_cons,List.length_nil];omega,(mem_cons' Zqx (fun _ h=>by cases h))⟩
     have q13:=ov7.1
     refine tB (tA Zb0 (by decide)) (fun x11 h12=>?_)
     have lh12:x11.length=v7.length+1:=by rw [h12,List.length_append];rfl
     refine qw (v11+1) fun q14 q15=>?_
     exact tL ⟨O0,ov6,(SzL.app (k:=16) h12 lo ov7.2 q10.2),cl,cl,cl,cl,cl⟩ Zkn
    ·refine qw (v11+1) fun q16 q17=>?_
     exact tL ⟨O0,ov6,ov7,cl,cl,cl,cl,cl⟩ Zkn
   ·refine tO (fun h18=>?_) (fun h18=>?_)
    ·have q19:E0.Sub.length≤281474976710656:=O0
     refine tB (tK Zcz) (fun x20 h21=>?_)
     have q22:(SzL 16 SzT) ([(([115,117,98,58]:List UInt8)++E0.Sub)]:(List (List UInt8))):=⟨by simp only [List.length_cons,List.length_nil];omega,(mem_cons' Zqx (fun _ h=>by cases h))⟩
     have q25:=ov7.1
     refine tB (tA Zb0 (by decide)) (fun x23 h24=>?_)
     have lh24:x23.length=v7.length+1:=by rw [h24,List.length_append];rfl
     exact tJ (Ztd E0 v6 x23 ⟨O0,ov6,(SzL.app (k:=16) h24 lo ov7.2 q22.2),cl,cl,cl⟩)
    ·exact tJ (Ztd E0 v6 v7 ⟨O0,ov6,ov7,cl,cl,cl⟩)
  | L4 E0 v6 v7=>exact Ztd E0 v6 v7 hs
  | L5 E0 v6 v7 v12=>
   obtain⟨O0,ov6,ov7,cv12,i0,i1,i2,i3⟩:=hs
   have lb_v6:=ov6.1
   have lb_v7:=ov7.1
   show Tot (Z56 E0 v6 v7 v12).den _
   dsimp only [Z56,LT.den,Zgw]
   refine tD (fun h1=>?_) (fun h1=>?_)
   ·refine tB (Zp2 E0.Keys v12 cl) (fun x2 h3=>?_)
    refine tF (fun h4=>?_) (fun h4=>?_)
    ·refine tB (Z3e v12) (fun x5 h6=>?_)
     have q7:x5.length≤100:=h6
     refine tB (tK Zcz) (fun x8 h9=>?_)
     have q10:(SzL 16 SzT) ([(([119,105,116,104,58]:List UInt8)++x5)]:(List (List UInt8))):=⟨by simp only [List.length_cons,List.length_nil];omega,(mem_cons' Zqx (fun _ h=>by cases h))⟩
     have q13:=ov7.1
     refine tB (tA Zb0 (by decide)) (fun x11 h12=>?_)
     have lh12:x11.length=v7.length+1:=by rw [h12,List.length_append];rfl
     refine qw (v12+1) fun q14 q15=>?_
     exact tL ⟨O0,ov6,(SzL.app (k:=16) h12 lo ov7.2 q10.2),cl,cl,cl,cl,cl⟩ Zkn
    ·refine qw (v12+1) fun q16 q17=>?_
     exact tL ⟨O0,ov6,ov7,cl,cl,cl,cl,cl⟩ Zkn
   ·refine tB (tI (by omega) (by omega)) (fun x18 h19=>?_)
    have oh19:SzN x18:=ov6.2 x18 h19.1
    refine tB (Zer v7 x18 ov7 (SzN.t oh19) cl) (fun x20 h21=>?_)
    have eh21_1:=h21.2
    refine tB (Zov ([112,111,119,101,114]:List UInt8) E0.Power Zau cl cl) (fun x22 h23=>?_)
    refine tB (Zer x20 x22 h21.1 h23 cl) (fun x24 h25=>?_)
    have eh25_1:=h25.2
    refine tB (Zov ([116,111,117,103,104]:List UInt8) E0.Tough Zau cl cl) (fun x26 h27=>?_)
    refine tB (Zer x24 x26 h25.1 h27 cl) (fun x28 h29=>?_)
    have eh29_1:=h29.2
    refine tB (Zov ([118,97,108,117,101]:List UInt8) E0.Value Zau cl cl) (fun x30 h31=>?_)
    refine tB (Zer x28 x30 h29.1 h31 cl) (fun x32 h33=>?_)
    have eh33_1:=h33.2
    have q34:=h33.1.1
    refine tE (fun h35=>?_) (fun h35=>?_)
    ·exact tR cl
    ·refine tB (Za6c x32 ([32]:List UInt8) h33.1 Zau cl) (fun x36 h37=>?_)
     have eh37_0:=h37
     exact tR cl
theorem Zahq(a0:Zz)(oa0:Za0 a0):Tot (Zanc a0) (fun r=>(r.length≤288230376151711744)):=by
 unfold Zanc
 refine tZ ?_
 dsimp only [Zaq6,LT.den]
 refine tB (Zaba a0 oa0) (fun x1 h2=>?_)
 refine tO (fun h3=>?_) (fun h3=>?_)
 ·exact tR cl
 ·refine tE (fun h4=>?_) (fun h4=>?_)
  ·exact tR cl
  ·refine tE (fun h5=>?_) (fun h5=>?_)
   ·refine tB (Zou a0.N) (fun x6 h7=>?_)
    have eh7_1:=h7.2
    have q8:x6.length≤562949953421312:=h7.1
    refine tB (tK Zcz) (fun x9 h10=>?_)
    exact tR cl
   ·refine tE (fun h11=>?_) (fun h11=>?_)
    ·refine tB (Zou a0.N) (fun x12 h13=>?_)
     have eh13_1:=h13.2
     have q14:x12.length≤562949953421312:=h13.1
     refine tB (tK Zcz) (fun x15 h16=>?_)
     exact tR cl
    ·refine tE (fun h17=>?_) (fun h17=>?_)
     ·have q18:a0.Sub.length≤281474976710656:=oa0.1
      refine tB (tK Zcz) (fun x19 h20=>?_)
      exact tR cl
     ·refine tE (fun h21=>?_) (fun h21=>?_)
      ·have q22:a0.Sub.length≤281474976710656:=oa0.1
       refine tB (tK Zcz) (fun x23 h24=>?_)
       exact tR cl
      ·refine tE (fun h25=>?_) (fun h25=>?_)
       ·refine tB (Zaho a0.N) (fun x26 h27=>?_)
        have q28:x26.length≤562949953421312:=h27
        refine tB (tK Zcz) (fun x29 h30=>?_)
        exact tR cl
       ·refine tE (fun h31=>?_) (fun h31=>?_)
        ·refine tB (Zaho a0.N) (fun x32 h33=>?_)
         have q34:x32.length≤562949953421312:=h33
         refine tB (tK Zcz) (fun x35 h36=>?_)
         exact tR cl
        ·refine tE (fun h37=>?_) (fun h37=>?_)
         ·refine tB (Zahp a0.N) (fun x38 h39=>?_)
          have q40:x38.length≤562949953421312:=h39
          refine tB (tK Zcz) (fun x41 h42=>?_)
          exact tR cl
         ·refine tE (fun h43=>?_) (fun h43=>?_)
          ·refine tB (Zahp a0.N) (fun x44 h45=>?_)
           have q46:x44.length≤562949953421312:=h45
           refine tB (tK Zcz) (fun x47 h48=>?_)
           exact tR cl
          ·refine tE (fun h49=>?_) (fun h49=>?_)
           ·exact tR cl
           ·refine tE (fun h50=>?_) (fun h50=>?_)
            ·refine tB (Za6d a0.Filter oa0.2) (fun x51 h52=>?_)
             have eh52_0:=h52
             refine tB (tK Zcz) (fun x53 h54=>?_)
             refine tB (tK Zcz) (fun x55 h56=>?_)
             exact tR cl
            ·refine tE (fun h57=>?_) (fun h57=>?_)
             ·refine tB (Zjq a0.N) (fun x58 h59=>?_)
              have q60:x58.length≤100:=h59
              refine tB (tK Zcz) (fun x61 h62=>?_)
              refine tB (tK Zcz) (fun x63 h64=>?_)
              refine tB (Zjq a0.M) (fun x65 h66=>?_)
              have q67:x65.length≤100:=h66
              refine tB (tK Zcz) (fun x68 h69=>?_)
              exact tR cl
             ·refine tE (fun h70=>?_) (fun h70=>?_)
              ·refine tB (Zjq a0.N) (fun x71 h72=>?_)
               have q73:x71.length≤100:=h72
               refine tB (tK Zcz) (fun x74 h75=>?_)
               refine tB (tK Zcz) (fun x76 h77=>?_)
               refine tB (Zjq a0.M) (fun x78 h79=>?_)
               have q80:x78.length≤100:=h79
               refine tB (tK Zcz) (fun x81 h82=>?_)
               exact tR cl
              ·exact tR cl
def Zaoj:Zi2→Prop
 | .L0 v0 v3 v4=>((SzL 176 Za0) v0)∧(0≤v4)∧(v3.length≤576460752303423488*v4.toNat)∧(v0.length≤6)∧(v4≤v0.length)
def Z5f:Zi2→M6
 | .L0 v0 v3 v4=>(1,((v0.length:Int) - v4).toNat,1000000,0,0,0)
theorem Zqy(a0:(List Zz))(oa0:(SzL 176 Za0) a0):Tot (Z1h a0) (fun r=>(r.length≤4611686018427387904)):=by
 unfold Z1h
 refine tX (Inv:=Zaoj) (μ:=Z5f) (m:=(1000000,0,0,0,0,0)) ?_ ?_
 ·have lb_a0:=oa0.1
  dsimp only [Z79,LT.den]
  have q1:=oa0.1
  refine tE (fun h2=>?_) (fun h2=>?_)
  ·exact tR cl
  ·refine tD (fun h3=>?_) (fun h3=>?_)
   ·exact tR cl
   ·exact tL ⟨oa0,cl,cl,cl,cl⟩ tk89
 ·intro s hs
  cases s with
  | L0 v0 v3 v4=>
   obtain⟨ov0,cv4,i0,i1,i2⟩:=hs
   have lb_v0:=ov0.1
   show Tot (Zr3 v0 v3 v4).den _
   dsimp only [Zr3,LT.den]
   have q1:=ov0.1
   refine tD (fun h2=>?_) (fun h2=>?_)
   ·refine tB (tI (by omega) (by omega)) (fun x3 h4=>?_)
    have oh4:Za0 x3:=ov0.2 x3 h4.1
    refine tB (Zaba x3 oh4) (fun x5 h6=>?_)
    refine tO (fun h7=>?_) (fun h7=>?_)
    ·exact tR cl
    ·refine tD (fun h8=>?_) (fun h8=>?_)
     ·refine tB (tK Zcz) (fun x9 h10=>?_)
      refine tB (Zahq x3 oh4) (fun x11 h12=>?_)
      have eh12_0:=h12
      refine tB (tK Zcz) (fun x13 h14=>?_)
      refine qw (v4+1) fun q15 q16=>?_
      exact tL ⟨ov0,cl,cl,cl,cl⟩ tk89
     ·refine tB (Zahq x3 oh4) (fun x17 h18=>?_)
      have eh18_0:=h18
      refine tB (tK Zcz) (fun x19 h20=>?_)
      refine qw (v4+1) fun q21 q22=>?_
      exact tL ⟨ov0,cl,cl,cl,cl⟩ tk89
   ·exact tR cl
theorem Za0i(a0:Zft):Tot (Zae0 a0) (fun r=>True):=by
 unfold Zae0
 refine tZ ?_
 dsimp only [Zaj6,LT.den]
 refine tB (Zs9 a0.Mana) (fun x1 h2=>?_)
 have eh2_0:=h2.1
 have eh2_1:=h2.2
 refine tF (fun h3=>?_) (fun h3=>?_)
 ·have h3_0:=eh2_0 h3
  have h3_1:=eh2_1 h3
  refine tE (fun h4=>?_) (fun h4=>?_)
  ·refine tD (fun h5=>?_) (fun h5=>?_)
   ·exact tR trivial
   ·exact tR trivial
  ·exact tR trivial
 ·exact tR trivial
theorem Zahr(a0:Int):Tot (Zand a0) (fun r=>(SzN r)):=by
 unfold Zand
 refine tZ ?_
 dsimp only [Zaq8,LT.den]
 refine tE (fun h1=>?_) (fun h1=>?_)
 ·exact tR Zau
 ·refine tE (fun h2=>?_) (fun h2=>?_)
  ·exact tR Zau
  ·refine tE (fun h3=>?_) (fun h3=>?_)
   ·exact tR Zau
   ·refine tE (fun h4=>?_) (fun h4=>?_)
    ·exact tR Zau
    ·refine tE (fun h5=>?_) (fun h5=>?_)
     ·exact tR Zau
     ·refine tE (fun h6=>?_) (fun h6=>?_)
      ·exact tR Zau
      ·refine tE (fun h7=>?_) (fun h7=>?_)
       ·exact tR Zau
       ·refine tE (fun h8=>?_) (fun h8=>?_)
        ·exact tR Zau
        ·refine tE (fun h9=>?_) (fun h9=>?_)
         ·exact tR Zau
         ·refine tE (fun h10=>?_) (fun h10=>?_)
          ·exact tR Zau
          ·refine tE (fun h11=>?_) (fun h11=>?_)
           ·exact tR Zau
           ·refine tE (fun h12=>?_) (fun h12=>?_)
            ·exact tR Zau
            ·refine tE (fun h13=>?_) (fun h13=>?_)
             ·exact tR Zau
             ·refine tE (fun h14=>?_) (fun h14=>?_)
              ·exact tR Zau
              ·exact tR (SzN.nil)
theorem Z84(a0:Int):Tot (Z97 a0) (fun r=>True):=by
 unfold Z97
 refine tZ ?_
 dsimp only [Zae1,LT.den]
 refine tE (fun h1=>?_) (fun h1=>?_)
 ·exact tR trivial
 ·refine tE (fun h2=>?_) (fun h2=>?_)
  ·exact tR trivial
  ·refine tE (fun h3=>?_) (fun h3=>?_)
   ·exact tR trivial
   ·refine tE (fun h4=>?_) (fun h4=>?_)
    ·exact tR trivial
    ·refine tE (fun h5=>?_) (fun h5=>?_)
     ·exact tR trivial
     ·exact tR trivial
theorem Zajg(a0:Int):Tot (Zx9 a0) (fun r=>True):=by
 unfold Zx9
 refine tZ ?_
 dsimp only [Z4u,LT.den]
 refine tB (Zahr a0) (fun x1 h2=>?_)
 refine tO (fun h3=>?_) (fun h3=>?_)
 ·refine tB (Z84 a0) (fun x4 h5=>?_)
  refine tO (fun h6=>?_) (fun h6=>?_)
  ·exact tR trivial
  ·exact tR trivial
 ·exact tR trivial
def Zabc:Z1i→Prop
 | .L0 E0=>(Zoc E0)∧True
def Zazq:Z1i→M6
 | .L0 E0=>(0,0,0,0,0,0)
theorem Zy7(E0:Zce)(h:Zabc (.L0 E0)):Tot (Zw5 E0).den (Nx Zabc Zazq (0,0,0,0,0,0) (fun r=>True)):=by
 obtain⟨O0,_⟩:=h
 dsimp only [Zw5,LT.den]
 refine tB (Zajg E0.When) (fun x1 h2=>?_)
 refine tO (fun h3=>?_) (fun h3=>?_)
 ·exact tR trivial
 ·refine tE (fun h4=>?_) (fun h4=>?_)
  ·refine tB (Zek E0.Filter O0) (fun x5 h6=>?_)
   have eh6_0:=h6.1
   have eh6_1:=h6.2
   refine tF (fun h7=>?_) (fun h7=>?_)
   ·have h7_0:=eh6_0 h7
    exact tR trivial
   ·exact tR trivial
  ·refine tB (Zek E0.Filter O0) (fun x8 h9=>?_)
   have eh9_0:=h9.1
   have eh9_1:=h9.2
   refine tF (fun h10=>?_) (fun h10=>?_)
   ·have h10_0:=eh9_0 h10
    exact tR trivial
   ·exact tR trivial
theorem Zbbz(a0:Zce)(oa0:Zoc a0):Tot (Za3y a0) (fun r=>True):=by
 unfold Za3y
 refine tX (Inv:=Zabc) (μ:=Zazq) (m:=(1000000,0,0,0,0,0)) ?_ ?_
 ·dsimp only [Za3w,LT.den]
  refine tB (Zahr a0.When) (fun x1 h2=>?_)
  refine tF (fun h3=>?_) (fun h3=>?_)
  ·exact tR trivial
  ·refine tD (fun h4=>?_) (fun h4=>?_)
   ·exact tR trivial
   ·refine tD (fun h5=>?_) (fun h5=>?_)
    ·exact tR trivial
    ·refine tB (Z84 a0.When) (fun x6 h7=>?_)
     refine tO (fun h8=>?_) (fun h8=>?_)
     ·refine tN (fun h9=>?_) (fun h9=>?_)
      ·exact tR trivial
      ·exact tJ (Zy7 a0 ⟨oa0,trivial⟩)
     ·exact tJ (Zy7 a0 ⟨oa0,trivial⟩)
 ·intro s hs
  cases s with
  | L0 E0=>exact Zy7 E0 hs
theorem Zy8(a0:Ze)(oa0:Zav a0):Tot (Zae3 a0) (fun r=>True):=by
 unfold Zae3
 refine tZ ?_
 dsimp only [Zaj9,LT.den]
 refine tB (Zek a0 oa0) (fun x1 h2=>?_)
 have eh2_0:=h2.1
 have eh2_1:=h2.2
 refine tF (fun h3=>?_) (fun h3=>?_)
 ·have h3_0:=eh2_0 h3
  exact tR trivial
 ·exact tR trivial
theorem Za0j(a0:Za6)(oa0:Zdz a0):Tot (Zae4 a0) (fun r=>True):=by
 unfold Zae4
 refine tZ ?_
 dsimp only [Zakb,LT.den]
 refine tN (fun h1=>?_) (fun h1=>?_)
 ·exact tR trivial
 ·refine tB (Zy8 a0.Filter oa0) (fun x2 h3=>?_)
  refine tO (fun h4=>?_) (fun h4=>?_)
  ·exact tR trivial
  ·refine tE (fun h5=>?_) (fun h5=>?_)
   ·refine tE (fun h6=>?_) (fun h6=>?_)
    ·refine tE (fun h7=>?_) (fun h7=>?_)
     ·refine tE (fun h8=>?_) (fun h8=>?_)
      ·exact tR trivial
      ·refine tE (fun h9=>?_) (fun h9=>?_)
       ·exact tR trivial
       ·exact tR trivial
     ·exact tR trivial
    ·exact tR trivial
   ·refine tE (fun h10=>?_) (fun h10=>?_)
    ·refine tE (fun h11=>?_) (fun h11=>?_)
     ·refine tE (fun h12=>?_) (fun h12=>?_)
      ·exact tR trivial
      ·exact tR trivial
     ·exact tR trivial
    ·refine tE (fun h13=>?_) (fun h13=>?_)
     ·refine tE (fun h14=>?_) (fun h14=>?_)
      ·refine tD (fun h15=>?_) (fun h15=>?_)
       ·refine tD (fun h16=>?_) (fun h16=>?_)
        ·refine tD (fun h17=>?_) (fun h17=>?_)
         ·exact tR trivial
         ·exact tR trivial
        ·exact tR trivial
       ·exact tR trivial
      ·exact tR trivial
     ·exact tR trivial
theorem Za0k(a0:Za6)(oa0:Zdz a0):Tot (Zae5 a0) (fun r=>True):=by
 unfold Zae5
 refine tZ ?_
 dsimp only [Zakd,LT.den]
 refine tN (fun h1=>?_) (fun h1=>?_)
 ·exact tR trivial
 ·refine tN (fun h2=>?_) (fun h2=>?_)
  ·exact tR trivial
  ·refine tE (fun h3=>?_) (fun h3=>?_)
   ·refine tD (fun h4=>?_) (fun h4=>?_)
    ·exact tR trivial
    ·exact tR trivial
   ·refine tE (fun h5=>?_) (fun h5=>?_)
    ·refine tD (fun h6=>?_) (fun h6=>?_)
     ·exact tR trivial
     ·exact tR trivial
    ·exact tR trivial
def Zod:Zqs→Prop
 | .L0 E0 v3 v4=>(Zdz E0)∧True
 | .L1 E0 v3=>(Zdz E0)∧True
 | .L2 E0 v3 v4 v109=>(Zdz E0)∧True
def Z5g:Zqs→M6
 | .L0 E0 v3 v4=>(0,0,0,0,0,0)
 | .L1 E0 v3=>(0,0,0,0,0,0)
 | .L2 E0 v3 v4 v109=>(0,0,0,0,0,0)
theorem Zqe(E0:Za6)(v3:Bool)(v4:Bool)(v109:Bool)(h:(Zdz E0)∧True):Tot (Zq7 E0 v3 v4 v109).den (Nx Zod Z5g (0,0,0,0,0,0) (fun r=>True)):=by
 obtain⟨O0,_⟩:=h
 dsimp only [Zq7,LT.den]
 refine tF (fun h1=>?_) (fun h1=>?_)
 ·refine tF (fun h2=>?_) (fun h2=>?_)
  ·refine tD (fun h3=>?_) (fun h3=>?_)
   ·refine tD (fun h4=>?_) (fun h4=>?_)
    ·exact tR trivial
    ·exact tR trivial
   ·exact tR trivial
  ·exact tR trivial
 ·exact tR trivial
theorem Zlj(E0:Za6)(v3:Bool)(h:Zod (.L1 E0 v3)):Tot (Zmx E0 v3).den (Nx Zod Z5g (0,0,0,0,0,0) (fun r=>True)):=by
 obtain⟨O0,_⟩:=h
 dsimp only [Zmx,LT.den]
 refine tE (fun h1=>?_) (fun h1=>?_)
 ·refine tB (Zy8 E0.Filter O0) (fun x2 h3=>?_)
  refine tF (fun h4=>?_) (fun h4=>?_)
  ·exact tR trivial
  ·refine tE (fun h5=>?_) (fun h5=>?_)
   ·exact tR trivial
   ·refine tE (fun h6=>?_) (fun h6=>?_)
    ·exact tR trivial
    ·exact tR trivial
 ·refine tE (fun h7=>?_) (fun h7=>?_)
  ·exact tR trivial
  ·refine tE (fun h8=>?_) (fun h8=>?_)
   ·exact tR trivial
   ·exact tR trivial
theorem Zqf(E0:Za6)(v3:Bool)(v4:Bool)(h:Zod (.L0 E0 v3 v4)):Tot (Zq8 E0 v3 v4).den (Nx Zod Z5g (0,0,0,0,0,0) (fun r=>True)):=by
 obtain⟨O0,_⟩:=h
 dsimp only [Zq8,LT.den]
 refine tE (fun h1=>?_) (fun h1=>?_)
 ·refine tN (fun h2=>?_) (fun h2=>?_)
  ·refine tN (fun h3=>?_) (fun h3=>?_)
   ·refine tN (fun h4=>?_) (fun h4=>?_)
    ·refine tN (fun h5=>?_) (fun h5=>?_)
     ·exact tR trivial
     ·exact tJ (Zlj E0 v3 ⟨O0,trivial⟩)
    ·exact tJ (Zlj E0 v3 ⟨O0,trivial⟩)
   ·exact tJ (Zlj E0 v3 ⟨O0,trivial⟩)
  ·exact tJ (Zlj E0 v3 ⟨O0,trivial⟩)
 ·refine tE (fun h6=>?_) (fun h6=>?_)
  ·refine tF (fun h7=>?_) (fun h7=>?_)
   ·refine tE (fun h8=>?_) (fun h8=>?_)
    ·refine tB (Zy8 E0.Filter O0) (fun x9 h10=>?_)
     exact tR trivial
    ·exact tR trivial
   ·exact tR trivial
  ·refine tE (fun h11=>?_) (fun h11=>?_)
   ·refine tE (fun h12=>?_) (fun h12=>?_)
    ·refine tD (fun h13=>?_) (fun h13=>?_)
     ·refine tD (fun h14=>?_) (fun h14=>?_)
      ·exact tR trivial
      ·exact tR trivial
     ·exact tR trivial
    ·refine tE (fun h15=>?_) (fun h15=>?_)
     ·refine tD (fun h16=>?_) (fun h16=>?_)
      ·refine tD (fun h17=>?_) (fun h17=>?_)
       ·exact tR trivial
       ·exact tR trivial
      ·exact tR trivial
     ·exact tR trivial
   ·refine tE (fun h18=>?_) (fun h18=>?_)
    ·exact tJ (Zqe E0 v3 v4 (E0.On==4) ⟨O0,trivial⟩)
    ·refine tE (fun h19=>?_) (fun h19=>?_)
     ·exact tJ (Zqe E0 v3 v4 (E0.On==5) ⟨O0,trivial⟩)
     ·exact tJ (Zqe E0 v3 v4 (E0.On==10) ⟨O0,trivial⟩)
theorem Zbb0(a0:Za6)(oa0:Zdz a0):Tot (Za33 a0) (fun r=>True):=by
 unfold Za33
 refine tX (Inv:=Zod) (μ:=Z5g) (m:=(1000000,0,0,0,0,0)) ?_ ?_
 ·dsimp only [Za31,LT.den]
  refine tE (fun h1=>?_) (fun h1=>?_)
  ·refine tB (Za0j a0 oa0) (fun x2 h3=>?_)
   exact tR trivial
  ·refine tB (Za0k a0 oa0) (fun x4 h5=>?_)
   refine tO (fun h6=>?_) (fun h6=>?_)
   ·exact tR trivial
   ·refine tE (fun h7=>?_) (fun h7=>?_)
    ·exact tJ (Zqf a0 (Zar (Zy a0.Filter) (Zy (⟨0,0,0,0,0,0,0,([]:List UInt8),0,0,(⟨0,0⟩:Zd),(⟨0,0⟩:Zd),(⟨0,0⟩:Zd)⟩:Ze))) true ⟨oa0,trivial⟩)
    ·refine tE (fun h8=>?_) (fun h8=>?_)
     ·exact tJ (Zqf a0 (Zar (Zy a0.Filter) (Zy (⟨0,0,0,0,0,0,0,([]:List UInt8),0,0,(⟨0,0⟩:Zd),(⟨0,0⟩:Zd),(⟨0,0⟩:Zd)⟩:Ze))) true ⟨oa0,trivial⟩)
     ·exact tJ (Zqf a0 (Zar (Zy a0.Filter) (Zy (⟨0,0,0,0,0,0,0,([]:List UInt8),0,0,(⟨0,0⟩:Zd),(⟨0,0⟩:Zd),(⟨0,0⟩:Zd)⟩:Ze))) (a0.Do==8) ⟨oa0,trivial⟩)
 ·intro s hs
  cases s with
  | L0 E0 v3 v4=>exact Zqf E0 v3 v4 hs
  | L1 E0 v3=>exact Zlj E0 v3 hs
  | L2 E0 v3 v4 v109=>exact Zqe E0 v3 v4 v109 hs
theorem Za6e(a0:Zr)(oa0:Zas a0):Tot (Zanf a0) (fun r=>True):=by
 unfold Zanf
 refine tZ ?_
 dsimp only [Zara,LT.den]
 refine tO (fun h1=>?_) (fun h1=>?_)
 ·refine tF (fun h2=>?_) (fun h2=>?_)
  ·exact tR trivial
  ·exact tR trivial
 ·refine tB (Zek a0.Filter oa0) (fun x3 h4=>?_)
  have eh4_0:=h4.1
  have eh4_1:=h4.2
  refine tF (fun h5=>?_) (fun h5=>?_)
  ·have h5_0:=eh4_0 h5
   refine tE (fun h6=>?_) (fun h6=>?_)
   ·exact tR trivial
   ·refine tE (fun h7=>?_) (fun h7=>?_)
    ·exact tR trivial
    ·exact tR trivial
  ·exact tR trivial
def Za0l:Zpd→Prop
 | .L0 v0 v3=>((SzL 144 Zas) v0)∧(0≤v3)
def Z3h:Zpd→M6
 | .L0 v0 v3=>(1,((v0.length:Int) - v3).toNat,1000000,0,0,0)
theorem Za0m(a0:(List Zr))(oa0:(SzL 144 Zas) a0):Tot (Zae6 a0) (fun r=>True):=by
 unfold Zae6
 refine tX (Inv:=Za0l) (μ:=Z3h) (m:=(1000000,0,0,0,0,0)) ?_ ?_
 ·have lb_a0:=oa0.1
  dsimp only [Zakf,LT.den]
  exact tL ⟨oa0,cl⟩ (by unfold Z3h lt6;dsimp only;omega)
 ·intro s hs
  cases s with
  | L0 v0 v3=>
   obtain⟨ov0,cv3⟩:=hs
   have lb_v0:=ov0.1
   show Tot (Z1k v0 v3).den _
   dsimp only [Z1k,LT.den]
   have q1:=ov0.1
   refine tD (fun h2=>?_) (fun h2=>?_)
   ·refine tB (tI (by omega) (by omega)) (fun x3 h4=>?_)
    have oh4:Zas x3:=ov0.2 x3 h4.1
    refine tB (Za6e x3 oh4) (fun x5 h6=>?_)
    refine tO (fun h7=>?_) (fun h7=>?_)
    ·exact tR trivial
    ·refine qw (v3+1) fun q8 q9=>?_
     exact tL ⟨ov0,cl⟩ (by unfold Z3h lt6;dsimp only;omega)
   ·exact tR trivial
theorem Za6f(a0:Int):Tot (Zang a0) (fun r=>(SzN r)):=by
 unfold Zang
 refine tZ ?_
 dsimp only [Zarc,LT.den]
 refine tD (fun h1=>?_) (fun h1=>?_)
 ·exact tR (SzN.nil)
 ·refine tD (fun h2=>?_) (fun h2=>?_)
  ·exact tR (SzN.nil)
  ·have q3:(SzL 16 SzN) ([([100,97,109,97,103,101]:List UInt8),([100,101,115,116,114,111,121]:List UInt8),([109,111,118,101]:List UInt8),([100,114,97,119]:List UInt8),([100,105,115,99,97,114,100]:List UInt8),([103,97,105,110]:List UInt8),([108,111,115,101]:List UInt8),([116,97,112]:List UInt8),([117,110,116,97,112]:List UInt8),([112,117,116]:List UInt8),([116,97,107,101]:List UInt8),([99,114,101,97,116,101]:List UInt8),([109,111,100]:List UInt8),([109,97,110,97]:List UInt8),([99,111,117,110,116,101,114]:List UInt8),([99,111,112,121]:List UInt8),([98,101,99,111,109,101]:List UInt8),([115,97,99,114,105,102,105,99,101]:List UInt8),([109,105,108,108]:List UInt8),([115,99,114,121]:List UInt8),([115,101,97,114,99,104]:List UInt8),([115,104,105,101,108,100]:List UInt8),([116,117,114,110]:List UInt8),([119,105,110]:List UInt8),([100,101,102,101,97,116]:List UInt8),([118,101,110,111,109]:List UInt8)]:(List (List UInt8))):=⟨by simp only [List.length_cons,List.length_nil];omega,(mem_cons' Zau (mem_cons' Zau (mem_cons' Zau (mem_cons' Zau (mem_cons' Zau (mem_cons' Zau (mem_cons' Zau (mem_cons' Zau (mem_cons' Zau (mem_cons' Zau (mem_cons' Zau (mem_cons' Zau (mem_cons' Zau (mem_cons' Zau (mem_cons' Zau (mem_cons' Zau (mem_cons' Zau (mem_cons' Zau (mem_cons' Zau (mem_cons' Zau (mem_cons' Zau (mem_cons' Zau (mem_cons' Zau (mem_cons' Zau (mem_cons' Zau (mem_cons' Zau (fun _ h=>by cases h)))))))))))))))))))))))))))⟩
   have lq3:([([100,97,109,97,103,101]:List UInt8),([100,101,115,116,114,111,121]:List UInt8),([109,111,118,101]:List UInt8),([100,114,97,119]:List UInt8),([100,105,115,99,97,114,100]:List UInt8),([103,97,105,110]:List UInt8),([108,111,115,101]:List UInt8),([116,97,112]:List UInt8),([117,110,116,97,112]:List UInt8),([112,117,116]:List UInt8),([116,97,107,101]:List UInt8),([99,114,101,97,116,101]:List UInt8),([109,111,100]:List UInt8),([109,97,110,97]:List UInt8),([99,111,117,110,116,101,114]:List UInt8),([99,111,112,121]:List UInt8),([98,101,99,111,109,101]:List UInt8),([115,97,99,114,105,102,105,99,101]:List UInt8),([109,105,108,108]:List UInt8),([115,99,114,121]:List UInt8),([115,101,97,114,99,104]:List UInt8),([115,104,105,101,108,100]:List UInt8),([116,117,114,110]:List UInt8),([119,105,110]:List UInt8),([100,101,102,101,97,116]:List UInt8),([118,101,110,111,109]:List UInt8)]:(List (List UInt8))).length=26:=rfl
   refine qw (a0 - 1) fun q4 q5=>?_
   refine tB (tI (by omega) (by omega)) (fun x6 h7=>?_)
   have oh7:SzN x6:=q3.2 x6 h7.1
   exact tR oh7
def Z3i:Zn6→Prop
 | .L0 v3 v4=>True
 | .L1 v3 v14=>True
def Z7h:Zn6→M6
 | .L0 v3 v4=>(0,0,0,0,0,0)
 | .L1 v3 v14=>(0,0,0,0,0,0)
theorem Zte(v3:Int)(v14:Bool)(h:True):Tot (Zpe v3 v14).den (Nx Z3i Z7h (0,0,0,0,0,0) (fun r=>(SzN r))):=by
 dsimp only [Zpe,LT.den]
 refine tF (fun h1=>?_) (fun h1=>?_)
 ·exact tR Zau
 ·refine tE (fun h2=>?_) (fun h2=>?_)
  ·exact tR Zau
  ·refine tE (fun h3=>?_) (fun h3=>?_)
   ·exact tR Zau
   ·refine tE (fun h4=>?_) (fun h4=>?_)
    ·exact tR Zau
    ·refine tE (fun h5=>?_) (fun h5=>?_)
     ·exact tR Zau
     ·refine tE (fun h6=>?_) (fun h6=>?_)
      ·exact tR Zau
      ·refine tE (fun h7=>?_) (fun h7=>?_)
       ·exact tR Zau
       ·refine tE (fun h8=>?_) (fun h8=>?_)
        ·exact tR (SzN.nil)
        ·refine tE (fun h9=>?_) (fun h9=>?_)
         ·exact tR (SzN.nil)
         ·exact tR Zau
theorem Zd9(v3:Int)(v4:Bool)(h:True):Tot (Ze1 v3 v4).den (Nx Z3i Z7h (0,0,0,0,0,0) (fun r=>(SzN r))):=by
 dsimp only [Ze1,LT.den]
 refine tF (fun h1=>?_) (fun h1=>?_)
 ·exact tR Zau
 ·refine tE (fun h2=>?_) (fun h2=>?_)
  ·exact tR Zau
  ·refine tE (fun h3=>?_) (fun h3=>?_)
   ·exact tJ (Zte v3 (v3==10) trivial)
   ·exact tJ (Zte v3 (v3==11) trivial)
theorem Za6g(a0:Int):Tot (Zanh a0) (fun r=>(SzN r)):=by
 unfold Zanh
 refine tX (Inv:=Z3i) (μ:=Z7h) (m:=(1000000,0,0,0,0,0)) ?_ ?_
 ·dsimp only [Zare,LT.den]
  refine tE (fun h1=>?_) (fun h1=>?_)
  ·exact tJ (Zd9 a0 (a0==2) trivial)
  ·refine tE (fun h2=>?_) (fun h2=>?_)
   ·exact tJ (Zd9 a0 (a0==8) trivial)
   ·refine tE (fun h3=>?_) (fun h3=>?_)
    ·exact tJ (Zd9 a0 (a0==9) trivial)
    ·refine tE (fun h4=>?_) (fun h4=>?_)
     ·exact tJ (Zd9 a0 (a0==15) trivial)
     ·refine tE (fun h5=>?_) (fun h5=>?_)
      ·exact tJ (Zd9 a0 (a0==16) trivial)
      ·refine tE (fun h6=>?_) (fun h6=>?_)
       ·exact tJ (Zd9 a0 (a0==17) trivial)
       ·exact tJ (Zd9 a0 (a0==25) trivial)
 ·intro s hs
  cases s with
  | L0 v3 v4=>exact Zd9 v3 v4 hs
  | L1 v3 v14=>exact Zte v3 v14 hs
def Za6h:Zr5→Prop
 | .L0 v1 v5 v6=>(SzT v5)∧(0≤v6)
def Z7i:Zr5→M6
 | .L0 v1 v5 v6=>(1,((v5.length:Int) - v6).toNat,1000000,0,0,0)
theorem Zfv(a0:Int)(a1:Int):Tot (Zani a0 a1) (fun r=>True):=by
 unfold Zani
 refine tX (Inv:=Za6h) (μ:=Z7i) (m:=(1000000,0,0,0,0,0)) ?_ ?_
 ·dsimp only [Zarg,LT.den]
  refine tB (Za6g a0) (fun x1 h2=>?_)
  exact tL ⟨(SzN.t h2),cl⟩ (by unfold Z7i lt6;dsimp only;omega)
 ·intro s hs
  cases s with
  | L0 v1 v5 v6=>
   obtain⟨ov5,cv6⟩:=hs
   have lb_v5:v5.length≤562949953421312:=ov5
   show Tot (Z57 v1 v5 v6).den _
   dsimp only [Z57,LT.den]
   have q1:v5.length≤562949953421312:=ov5
   refine tD (fun h2=>?_) (fun h2=>?_)
   ·refine tB (tI (by omega) (by omega)) (fun x3 h4=>?_)
    refine tE (fun h5=>?_) (fun h5=>?_)
    ·exact tR trivial
    ·refine qw (v6+1) fun q6 q7=>?_
     exact tL ⟨ov5,cl⟩ (by unfold Z7i lt6;dsimp only;omega)
   ·exact tR trivial
theorem Zaok(a0:Int):Tot (Z1l a0) (fun r=>True):=by
 unfold Z1l
 refine tZ ?_
 dsimp only [Z8b,LT.den]
 refine tE (fun h1=>?_) (fun h1=>?_)
 ·exact tR trivial
 ·exact tR trivial
def Ztf:Zuc→Prop
 | .L0 v1 E0=>(Zs8 E0)∧True
 | .L1 E0=>(Zs8 E0)∧True
def Zahs:Zuc→M6
 | .L0 v1 E0=>(0,0,0,0,0,0)
 | .L1 E0=>(0,0,0,0,0,0)
theorem Zy9(E0:Zed)(h:Ztf (.L1 E0)):Tot (Zw6 E0).den (Nx Ztf Zahs (0,0,0,0,0,0) (fun r=>True)):=by
 obtain⟨O0,_⟩:=h
 dsimp only [Zw6,LT.den]
 refine tE (fun h1=>?_) (fun h1=>?_)
 ·refine tB (Zek E0.Filter O0) (fun x2 h3=>?_)
  have eh3_0:=h3.1
  have eh3_1:=h3.2
  exact tR trivial
 ·exact tR trivial
theorem Zza(v1:Int)(E0:Zed)(h:Ztf (.L0 v1 E0)):Tot (Zw7 v1 E0).den (Nx Ztf Zahs (0,0,0,0,0,0) (fun r=>True)):=by
 obtain⟨O0,_⟩:=h
 dsimp only [Zw7,LT.den]
 refine tD (fun h1=>?_) (fun h1=>?_)
 ·exact tR trivial
 ·refine tD (fun h2=>?_) (fun h2=>?_)
  ·exact tR trivial
  ·refine tB (Zaok E0.Kind) (fun x3 h4=>?_)
   refine tF (fun h5=>?_) (fun h5=>?_)
   ·refine tD (fun h6=>?_) (fun h6=>?_)
    ·exact tR trivial
    ·refine tD (fun h7=>?_) (fun h7=>?_)
     ·exact tR trivial
     ·exact tJ (Zy9 E0 ⟨O0,trivial⟩)
   ·refine tN (fun h8=>?_) (fun h8=>?_)
    ·exact tR trivial
    ·exact tJ (Zy9 E0 ⟨O0,trivial⟩)
theorem Zbb1(a0:Zed)(a1:Int)(oa0:Zs8 a0):Tot (Za37 a0 a1) (fun r=>True):=by
 unfold Za37
 refine tX (Inv:=Ztf) (μ:=Zahs) (m:=(1000000,0,0,0,0,0)) ?_ ?_
 ·dsimp only [Za35,LT.den]
  refine tD (fun h1=>?_) (fun h1=>?_)
  ·exact tJ (Zza 4 a0 ⟨oa0,trivial⟩)
  ·exact tJ (Zza a1 a0 ⟨oa0,trivial⟩)
 ·intro s hs
  cases s with
  | L0 v1 E0=>exact Zza v1 E0 hs
  | L1 E0=>exact Zy9 E0 hs
theorem Zaht(a0:Int):Tot (Zanj a0) (fun r=>(SzT r)∧(r=[]↔¬ (0≤a0∧a0≤2))):=by
 unfold Zanj
 refine tZ ?_
 dsimp only [Zarj,LT.den]
 refine tE (fun h1=>?_) (fun h1=>?_)
 ·exact tR ⟨Zqx,tk20⟩
 ·refine tE (fun h2=>?_) (fun h2=>?_)
  ·exact tR ⟨Zqx,tk20⟩
  ·refine tE (fun h3=>?_) (fun h3=>?_)
   ·exact tR ⟨Zqx,tk20⟩
   ·exact tR ⟨(SzT.nil),tk20⟩
theorem Zbb2(a0:Zbn)(oa0:Zy0 a0):Tot (Za4a a0) (fun r=>(r=amV a0)):=by
 unfold Za4a
 refine tZ ?_
 dsimp only [Za38,LT.den]
 refine tE (fun h1=>?_) (fun h1=>?_)
 ·refine tD (fun h2=>?_) (fun h2=>?_)
  ·exact tR Zl8
  ·refine tD (fun h3=>?_) (fun h3=>?_)
   ·exact tR Zl8
   ·refine tD (fun h4=>?_) (fun h4=>?_)
    ·refine tD (fun h5=>?_) (fun h5=>?_)
     ·exact tR Zl8
     ·exact tR Zl8
    ·exact tR Zl8
 ·refine tE (fun h6=>?_) (fun h6=>?_)
  ·refine tD (fun h7=>?_) (fun h7=>?_)
   ·exact tR Zl8
   ·refine tD (fun h8=>?_) (fun h8=>?_)
    ·exact tR Zl8
    ·refine tB (Zek a0.Filter oa0) (fun x9 h10=>?_)
     have eh10_0:=h10.1
     have eh10_1:=h10.2
     refine tO (fun h11=>?_) (fun h11=>?_)
     ·exact tR Zl8
     ·have h11_0:=eh10_0 h11
      refine tD (fun h12=>?_) (fun h12=>?_)
      ·refine tD (fun h13=>?_) (fun h13=>?_)
       ·exact tR Zl8
       ·exact tR Zl8
      ·exact tR Zl8
  ·refine tE (fun h14=>?_) (fun h14=>?_)
   ·refine tB (Zaht a0.Counter) (fun x15 h16=>?_)
    have eh16_1:=h16.2
    refine tF (fun h17=>?_) (fun h17=>?_)
    ·exact tR Zl8
    ·refine tD (fun h18=>?_) (fun h18=>?_)
     ·refine tD (fun h19=>?_) (fun h19=>?_)
      ·exact tR Zl8
      ·exact tR Zl8
     ·exact tR Zl8
   ·refine tD (fun h20=>?_) (fun h20=>?_)
    ·refine tD (fun h21=>?_) (fun h21=>?_)
     ·exact tR Zl8
     ·exact tR Zl8
    ·exact tR Zl8
theorem Za6i(a0:(List Zz))(oa0:(SzL 176 Za0) a0):Tot (Zank a0) (fun r=>True):=by
 unfold Zank
 refine tZ ?_
 have lb_a0:=oa0.1
 dsimp only [Zarl,LT.den]
 refine tB (Zqy a0 oa0) (fun x1 h2=>?_)
 have eh2_0:=h2
 exact tR trivial
def Za6j:Zr6→Prop
 | .L0 E0 E1 E2 v4=>(0≤v4)∧True
def Z7j:Zr6→M6
 | .L0 E0 E1 E2 v4=>(1,(5 - v4).toNat,1000000,0,0,0)
theorem Za6k(a0:(A6 Int)):Tot (Zanl a0) (fun r=>True):=by
 unfold Zanl
 refine tX (Inv:=Za6j) (μ:=Z7j) (m:=(1000000,0,0,0,0,0)) ?_ ?_
 ·dsimp only [Zarn,LT.den]
  refine tB (tI (by omega) (by have e:(A6.list a0).length=6:=rfl;omega)) (fun x1 h2=>?_)
  exact tL ⟨cl,trivial⟩ (by unfold Z7j lt6;dsimp only;omega)
 ·intro s hs
  cases s with
  | L0 E0 E1 E2 v4=>
   obtain⟨cv4,_⟩:=hs
   show Tot (Z58 E0 E1 E2 v4).den _
   dsimp only [Z58,LT.den]
   refine tD (fun h1=>?_) (fun h1=>?_)
   ·refine qw (v4+1) fun q2 q3=>?_
    refine tB (tI (by omega) tk81) (fun x4 h5=>?_)
    refine tB (tI (by omega) (by have e:(A5.list E2.Color).length=5:=rfl;omega)) (fun x6 h7=>?_)
    refine tB (Tot.setA5 (by omega) (by omega)) (fun x8 h9=>?_)
    exact tL ⟨cl,trivial⟩ (by unfold Z7j lt6;dsimp only;omega)
   ·exact tR trivial
def Za6l:Zkf→Prop
 | .L0 E0 v3 v4=>(0≤v4)∧(E0.X≤2)∧(∀ n,n∈A5.list E0.Color→n≤9)∧(v3.length≤v4.toNat)∧(v4≤2)
 | .L1 E0 v3 v5=>(0≤v5)∧(v3.length≤200+200*v5.toNat)∧(∀ n,n∈A5.list E0.Color→n≤9)∧(v5≤5)
 | .L2 E0 v3 v5 v6=>(0≤v5)∧(0≤v6)∧(v5 < 5)∧(v3.length≤200+200*v5.toNat+v6.toNat)∧(∀ n,n∈A5.list E0.Color→n≤9)∧(v5 < 5)∧(v6≤9)
def Zamf:Zkf→M6
 | .L0 E0 v3 v4=>(3,(E0.X - v4).toNat,1000000,0,0,0)
 | .L1 E0 v3 v5=>(1,(5 - v5).toNat,1000000,0,0,0)
 | .L2 E0 v3 v5 v6=>(1,(5 - v5).toNat,1,(9 - v6).toNat,1000000,0)
theorem Za6m(a0:Z1):Tot (Zanm a0) (fun r=>(SzT r)):=by
 unfold Zanm
 refine tX (Inv:=Za6l) (μ:=Zamf) (m:=(1000000,0,0,0,0,0)) ?_ ?_
 ·dsimp only [Zarp,LT.den]
  refine tB (Zs9 a0) (fun x1 h2=>?_)
  have eh2_0:=h2.1
  have eh2_1:=h2.2
  refine tO (fun h3=>?_) (fun h3=>?_)
  ·exact tR (SzT.nil)
  ·have h3_0:=eh2_0 h3
   have h3_1:=eh2_1 h3
   exact tL ⟨cl,cl,cl,cl,cl⟩ Zaa5
 ·intro s hs
  cases s with
  | L0 E0 v3 v4=>
   obtain⟨cv4,i0,i1,i2,i3⟩:=hs
   show Tot (Z59 E0 v3 v4).den _
   dsimp only [Z59,LT.den]
   refine tD (fun h1=>?_) (fun h1=>?_)
   ·refine tB (tK Zcz) (fun x2 h3=>?_)
    refine qw (v4+1) fun q4 q5=>?_
    exact tL ⟨cl,cl,cl,cl,cl⟩ Zaa5
   ·refine tN (fun h6=>?_) (fun h6=>?_)
    ·refine tB (Zjq E0.Generic) (fun x7 h8=>?_)
     have q9:x7.length≤100:=h8
     refine tB (tK Zcz) (fun x10 h11=>?_)
     exact tL ⟨cl,cl,cl,cl⟩ Zaa5
    ·exact tL ⟨cl,cl,cl,cl⟩ Zaa5
  | L1 E0 v3 v5=>
   obtain⟨cv5,i0,i1,i2⟩:=hs
   show Tot (Z6a E0 v3 v5).den _
   dsimp only [Z6a,LT.den]
   refine tD (fun h1=>?_) (fun h1=>?_)
   ·exact tL ⟨cl,cl,cl,cl,cl,cl,cl⟩ Zaa5
   ·refine tF (fun h2=>?_) (fun h2=>?_)
    ·exact tR Zqx
    ·exact tR Zqx
  | L2 E0 v3 v5 v6=>
   obtain⟨cv5,cv6,bd2,i0,i1,i2,i3⟩:=hs
   show Tot (Z6b E0 v3 v5 v6).den _
   dsimp only [Z6b,LT.den]
   refine tB (tI (by omega) tk78) (fun x1 h2=>?_)
   have ph2:=i1 x1 h2.1
   refine tD (fun h3=>?_) (fun h3=>?_)
   ·refine qw (v5+1) fun q4 q5=>?_
    refine tB (Tot.slice (by omega) (by omega) Zkm) (fun x6 h7=>?_)
    have lh7:=h7.1
    refine tB (tK Zcz) (fun x8 h9=>?_)
    refine qw (v6+1) fun q10 q11=>?_
    exact tL ⟨cl,cl,cl,cl,cl,cl,cl⟩ Zaa5
   ·refine qw (v5+1) fun q12 q13=>?_
    exact tL ⟨cl,cl,cl,cl⟩ Zaa5
theorem Zaol(a0:(A6 Int)):Tot (Z1m a0) (fun r=>(SzT r)):=by
 unfold Z1m
 refine tZ ?_
 dsimp only [Z8d,LT.den]
 refine tB (Za6k a0) (fun x1 h2=>?_)
 refine tB (Za6m x1) (fun x3 h4=>?_)
 exact tR h4
theorem Zawz(a0:Int)(a1:Ze)(oa1:Zav a1):Tot (Z98 a0 a1) (fun r=>True):=by
 unfold Z98
 refine tZ ?_
 dsimp only [Zae7,LT.den]
 refine tE (fun h1=>?_) (fun h1=>?_)
 ·refine tB (Zek a1 oa1) (fun x2 h3=>?_)
  have eh3_0:=h3.1
  have eh3_1:=h3.2
  refine tF (fun h4=>?_) (fun h4=>?_)
  ·have h4_0:=eh3_0 h4
   exact tR trivial
  ·exact tR trivial
 ·refine tB (Zek a1 oa1) (fun x5 h6=>?_)
  have eh6_0:=h6.1
  have eh6_1:=h6.2
  refine tF (fun h7=>?_) (fun h7=>?_)
  ·have h7_0:=eh6_0 h7
   exact tR trivial
  ·exact tR trivial
def Ze7:Zf7→Prop
 | .L0 E0 v5=>(Zaw E0)∧True
 | .L1 E0 v5 v6=>(Zaw E0)∧True
 | .L2 E0 v5 v6 v7=>(Zaw E0)∧True
 | .L3 E0 v5 v6 v7 v8=>(Zaw E0)∧True
 | .L4 E0 v5 v6 v7 v8 v9=>(Zaw E0)∧True
 | .L5 E0 v5 v6 v7 v8 v9 v10=>(Zaw E0)∧True
 | .L6 E0 v5 v6 v7 v8 v9 v10 v11=>(Zaw E0)∧True
 | .L7 v5 v6 v7 v8 v9 v10 v11 v12=>True
def Zh9:Zf7→M6
 | .L0 E0 v5=>(0,0,0,0,0,0)
 | .L1 E0 v5 v6=>(0,0,0,0,0,0)
 | .L2 E0 v5 v6 v7=>(0,0,0,0,0,0)
 | .L3 E0 v5 v6 v7 v8=>(0,0,0,0,0,0)
 | .L4 E0 v5 v6 v7 v8 v9=>(0,0,0,0,0,0)
 | .L5 E0 v5 v6 v7 v8 v9 v10=>(0,0,0,0,0,0)
 | .L6 E0 v5 v6 v7 v8 v9 v10 v11=>(0,0,0,0,0,0)
 | .L7 v5 v6 v7 v8 v9 v10 v11 v12=>(0,0,0,0,0,0)
theorem Zzb(v5:Bool)(v6:Bool)(v7:Bool)(v8:Bool)(v9:Bool)(v10:Bool)(v11:Bool)(v12:Bool)(h:True):Tot (Zw8 v5 v6 v7 v8 v9 v10 v11 v12).den (Nx Ze7 Zh9 (0,0,0,0,0,0) (fun r=>True)):=by
 dsimp only [Zw8,LT.den]
 refine tF (fun h1=>?_) (fun h1=>?_)
 ·refine tF (fun h2=>?_) (fun h2=>?_)
  ·refine tF (fun h3=>?_) (fun h3=>?_)
   ·refine tF (fun h4=>?_) (fun h4=>?_)
    ·refine tF (fun h5=>?_) (fun h5=>?_)
     ·refine tF (fun h6=>?_) (fun h6=>?_)
      ·refine tF (fun h7=>?_) (fun h7=>?_)
       ·exact tR trivial
       ·exact tR trivial
      ·exact tR trivial
     ·exact tR trivial
    ·exact tR trivial
   ·exact tR trivial
  ·exact tR trivial
 ·exact tR trivial
theorem Zqg(E0:Z9)(v5:Bool)(v6:Bool)(v7:Bool)(v8:Bool)(v9:Bool)(v10:Bool)(v11:Bool)(h:(Zaw E0)∧True):Tot (Zq9 E0 v5 v6 v7 v8 v9 v10 v11).den (Nx Ze7 Zh9 (0,0,0,0,0,0) (fun r=>True)):=by
 obtain⟨O0,_⟩:=h
 dsimp only [Zq9,LT.den]
 refine tB (Zfv E0.Op 102) (fun x1 h2=>?_)
 refine tF (fun h3=>?_) (fun h3=>?_)
 ·refine tB (Zawz E0.Op E0.Filter O0.2.2.2.1) (fun x4 h5=>?_)
  exact tJ (Zzb v5 v6 v7 v8 v9 v10 v11 x4 trivial)
 ·exact tJ (Zzb v5 v6 v7 v8 v9 v10 v11 (Zar (Zy E0.Filter) (Zy (⟨0,0,0,0,0,0,0,([]:List UInt8),0,0,(⟨0,0⟩:Zd),(⟨0,0⟩:Zd),(⟨0,0⟩:Zd)⟩:Ze))) trivial)
theorem Zzc(E0:Z9)(v5:Bool)(v6:Bool)(v7:Bool)(v8:Bool)(v9:Bool)(v10:Bool)(h:(Zaw E0)∧True):Tot (Zw9 E0 v5 v6 v7 v8 v9 v10).den (Nx Ze7 Zh9 (0,0,0,0,0,0) (fun r=>True)):=by
 obtain⟨O0,_⟩:=h
 dsimp only [Zw9,LT.den]
 refine tB (Zfv E0.Op 112) (fun x1 h2=>?_)
 refine tF (fun h3=>?_) (fun h3=>?_)
 ·refine tO (fun h4=>?_) (fun h4=>?_)
  ·refine tB (Zaol E0.Pool) (fun x5 h6=>?_)
   exact tJ (Zqg E0 v5 v6 v7 v8 v9 v10 (!(x5==([]:List UInt8))) ⟨O0,trivial⟩)
  ·exact tJ (Zqg E0 v5 v6 v7 v8 v9 v10 false ⟨O0,trivial⟩)
 ·exact tJ (Zqg E0 v5 v6 v7 v8 v9 v10 (Zar ((cA6 (cI .i64)) E0.Pool) ((cA6 (cI .i64)) (⟨0,0,0,0,0,0⟩:(A6 Int)))) ⟨O0,trivial⟩)
theorem Zzd(E0:Z9)(v5:Bool)(v6:Bool)(v7:Bool)(v8:Bool)(v9:Bool)(h:(Zaw E0)∧True):Tot (Zxa E0 v5 v6 v7 v8 v9).den (Nx Ze7 Zh9 (0,0,0,0,0,0) (fun r=>True)):=by
 obtain⟨O0,_⟩:=h
 dsimp only [Zxa,LT.den]
 have q1:=O0.2.2.2.2.1
 refine tB (Zfv E0.Op 109) (fun x2 h3=>?_)
 refine tF (fun h4=>?_) (fun h4=>?_)
 ·refine tB (Za6i E0.Mods O0.2.2.2.2) (fun x5 h6=>?_)
  exact tJ (Zzc E0 v5 v6 v7 v8 v9 x5 ⟨O0,trivial⟩)
 ·exact tJ (Zzc E0 v5 v6 v7 v8 v9 ((E0.Mods.length:Int)==0) ⟨O0,trivial⟩)
theorem Zze(E0:Z9)(v5:Bool)(v6:Bool)(v7:Bool)(v8:Bool)(h:(Zaw E0)∧True):Tot (Zxb E0 v5 v6 v7 v8).den (Nx Ze7 Zh9 (0,0,0,0,0,0) (fun r=>True)):=by
 obtain⟨O0,_⟩:=h
 dsimp only [Zxb,LT.den]
 refine tB (Zfv E0.Op 97) (fun x1 h2=>?_)
 refine tF (fun h3=>?_) (fun h3=>?_)
 ·refine tB (Zbb2 E0.Amount O0.2.1) (fun x4 h5=>?_)
  have eh5_0:=h5
  exact tJ (Zzd E0 v5 v6 v7 v8 x4 ⟨O0,trivial⟩)
 ·exact tJ (Zzd E0 v5 v6 v7 v8 (Zar (Zbc E0.Amount) (Zbc (⟨0,0,0,(⟨0,0,0,0,0,0,0,([]:List UInt8),0,0,(⟨0,0⟩:Zd),(⟨0,0⟩:Zd),(⟨0,0⟩:Zd)⟩:Ze)⟩:Zbn))) ⟨O0,trivial⟩)
theorem Zqh(E0:Z9)(v5:Bool)(v6:Bool)(v7:Bool)(h:(Zaw E0)∧True):Tot (Zra E0 v5 v6 v7).den (Nx Ze7 Zh9 (0,0,0,0,0,0) (fun r=>True)):=by
 obtain⟨O0,_⟩:=h
 dsimp only [Zra,LT.den]
 refine tB (Zfv E0.Op 99) (fun x1 h2=>?_)
 refine tF (fun h3=>?_) (fun h3=>?_)
 ·refine tB (Zaa7 E0.Card (SzS.t O0.2.2.1)) (fun x4 h5=>?_)
  exact tJ (Zze E0 v5 v6 v7 x4 ⟨O0,trivial⟩)
 ·exact tJ (Zze E0 v5 v6 v7 (E0.Card==([]:List UInt8)) ⟨O0,trivial⟩)
theorem Zlk(E0:Z9)(v5:Bool)(v6:Bool)(h:Ze7 (.L1 E0 v5 v6)):Tot (Zmy E0 v5 v6).den (Nx Ze7 Zh9 (0,0,0,0,0,0) (fun r=>True)):=by
 obtain⟨O0,_⟩:=h
 dsimp only [Zmy,LT.den]
 refine tE (fun h1=>?_) (fun h1=>?_)
 ·exact tJ (Zqh E0 v5 v6 true ⟨O0,trivial⟩)
 ·refine tB (Zfv E0.Op 107) (fun x2 h3=>?_)
  refine tF (fun h4=>?_) (fun h4=>?_)
  ·refine tB (Zaht E0.Counter) (fun x5 h6=>?_)
   have eh6_1:=h6.2
   exact tJ (Zqh E0 v5 v6 (!(x5==([]:List UInt8))) ⟨O0,trivial⟩)
  ·exact tJ (Zqh E0 v5 v6 false ⟨O0,trivial⟩)
theorem Zzf(E0:Z9)(v5:Bool)(h:Ze7 (.L0 E0 v5)):Tot (Zxc E0 v5).den (Nx Ze7 Zh9 (0,0,0,0,0,0) (fun r=>True)):=by
 obtain⟨O0,_⟩:=h
 dsimp only [Zxc,LT.den]
 refine tE (fun h1=>?_) (fun h1=>?_)
 ·exact tJ (Zlk E0 v5 true ⟨O0,trivial⟩)
 ·refine tB (Zfv E0.Op 122) (fun x2 h3=>?_)
  refine tF (fun h4=>?_) (fun h4=>?_)
  ·refine tD (fun h5=>?_) (fun h5=>?_)
   ·exact tJ (Zlk E0 v5 (decide (E0.Zone≤4)) ⟨O0,trivial⟩)
   ·exact tJ (Zlk E0 v5 false ⟨O0,trivial⟩)
  ·exact tJ (Zlk E0 v5 false ⟨O0,trivial⟩)
theorem Zbb3(a0:Z9)(a1:Int)(oa0:Zaw a0):Tot (Za4d a0 a1) (fun r=>True):=by
 unfold Za4d
 refine tX (Inv:=Ze7) (μ:=Zh9) (m:=(1000000,0,0,0,0,0)) ?_ ?_
 ·dsimp only [Za4b,LT.den]
  refine tB (Za6f a0.Op) (fun x1 h2=>?_)
  refine tF (fun h3=>?_) (fun h3=>?_)
  ·exact tR trivial
  ·refine tB (Zfv a0.Op 114) (fun x4 h5=>?_)
   refine tF (fun h6=>?_) (fun h6=>?_)
   ·refine tB (Zbb1 a0.Ref a1 oa0.1) (fun x7 h8=>?_)
    exact tJ (Zzf a0 x7 ⟨oa0,trivial⟩)
   ·exact tJ (Zzf a0 (Zar (Zdp a0.Ref) (Zdp (⟨0,0,(⟨0,0,0,0,0,0,0,([]:List UInt8),0,0,(⟨0,0⟩:Zd),(⟨0,0⟩:Zd),(⟨0,0⟩:Zd)⟩:Ze)⟩:Zed))) ⟨oa0,trivial⟩)
 ·intro s hs
  cases s with
  | L0 E0 v5=>exact Zzf E0 v5 hs
  | L1 E0 v5 v6=>exact Zlk E0 v5 v6 hs
  | L2 E0 v5 v6 v7=>exact Zqh E0 v5 v6 v7 hs
  | L3 E0 v5 v6 v7 v8=>exact Zze E0 v5 v6 v7 v8 hs
  | L4 E0 v5 v6 v7 v8 v9=>exact Zzd E0 v5 v6 v7 v8 v9 hs
  | L5 E0 v5 v6 v7 v8 v9 v10=>exact Zzc E0 v5 v6 v7 v8 v9 v10 hs
  | L6 E0 v5 v6 v7 v8 v9 v10 v11=>exact Zqg E0 v5 v6 v7 v8 v9 v10 v11 hs
  | L7 v5 v6 v7 v8 v9 v10 v11 v12=>exact Zzb v5 v6 v7 v8 v9 v10 v11 v12 hs
def Zatm:Zkr→Prop
 | .L0 v0 v1 v5=>((SzL 560 Zaw) v0)∧(0≤v5)
def Zvj:Zkr→M6
 | .L0 v0 v1 v5=>(1,((v0.length:Int) - v5).toNat,1000000,0,0,0)
theorem Zatn(a0:(List Z9))(a1:Int)(oa0:(SzL 560 Zaw) a0):Tot (Z6c a0 a1) (fun r=>True):=by
 unfold Z6c
 refine tX (Inv:=Zatm) (μ:=Zvj) (m:=(1000000,0,0,0,0,0)) ?_ ?_
 ·have lb_a0:=oa0.1
  dsimp only [Zabq,LT.den]
  exact tL ⟨oa0,cl⟩ (by unfold Zvj lt6;dsimp only;omega)
 ·intro s hs
  cases s with
  | L0 v0 v1 v5=>
   obtain⟨ov0,cv5⟩:=hs
   have lb_v0:=ov0.1
   show Tot (Zud v0 v1 v5).den _
   dsimp only [Zud,LT.den]
   have q1:=ov0.1
   refine tD (fun h2=>?_) (fun h2=>?_)
   ·refine tB (tI (by omega) (by omega)) (fun x3 h4=>?_)
    have oh4:Zaw x3:=ov0.2 x3 h4.1
    refine tB (Zbb3 x3 v1 oh4) (fun x5 h6=>?_)
    refine tO (fun h7=>?_) (fun h7=>?_)
    ·exact tR trivial
    ·refine qw (v5+1) fun q8 q9=>?_
     exact tL ⟨ov0,cl⟩ (by unfold Zvj lt6;dsimp only;omega)
   ·refine tD (fun h10=>?_) (fun h10=>?_)
    ·exact tR trivial
    ·exact tR trivial
def Ze8:Zkg→Prop
 | .L0 E0 v3=>(Za1 E0)∧True
 | .L1 E0 v3=>(Za1 E0)∧True
 | .L2 E0 v3=>(Za1 E0)∧True
 | .L3 E0 v3=>(Za1 E0)∧True
 | .L4 E0 v3=>(Za1 E0)∧True
def Zrh:Zkg→M6
 | .L0 E0 v3=>(0,0,0,0,0,0)
 | .L1 E0 v3=>(0,0,0,0,0,0)
 | .L2 E0 v3=>(0,0,0,0,0,0)
 | .L3 E0 v3=>(0,0,0,0,0,0)
 | .L4 E0 v3=>(0,0,0,0,0,0)
theorem Zzg(E0:Zt)(v3:Bool)(h:Ze8 (.L4 E0 v3)):Tot (Zxd E0 v3).den (Nx Ze8 Zrh (0,0,0,0,0,0) (fun r=>True)):=by
 obtain⟨O0,_⟩:=h
 dsimp only [Zxd,LT.den]
 refine tF (fun h1=>?_) (fun h1=>?_)
 ·refine tB (Za0m E0.Specs O0.2.2.2.1) (fun x2 h3=>?_)
  refine tF (fun h4=>?_) (fun h4=>?_)
  ·have q5:=O0.2.2.2.1.1
   refine tB (Zatn E0.Effects (E0.Specs.length:Int) O0.2.2.2.2.1) (fun x6 h7=>?_)
   exact tR trivial
  ·exact tR trivial
 ·have q8:=O0.2.2.2.1.1
  refine tE (fun h9=>?_) (fun h9=>?_)
  ·have q10:=O0.2.2.2.2.1.1
   exact tR trivial
  ·exact tR trivial
theorem Zzh(E0:Zt)(v3:Bool)(h:Ze8 (.L3 E0 v3)):Tot (Zxe E0 v3).den (Nx Ze8 Zrh (0,0,0,0,0,0) (fun r=>True)):=by
 obtain⟨O0,_⟩:=h
 dsimp only [Zxe,LT.den]
 refine tE (fun h1=>?_) (fun h1=>?_)
 ·refine tB (Zbb0 E0.Replace O0.2.2.2.2.2) (fun x2 h3=>?_)
  refine tO (fun h4=>?_) (fun h4=>?_)
  ·exact tR trivial
  ·exact tJ (Zzg E0 v3 ⟨O0,trivial⟩)
 ·refine tO (fun h5=>?_) (fun h5=>?_)
  ·exact tR trivial
  ·exact tJ (Zzg E0 v3 ⟨O0,trivial⟩)
theorem Zzi(E0:Zt)(v3:Bool)(h:Ze8 (.L2 E0 v3)):Tot (Zxf E0 v3).den (Nx Ze8 Zrh (0,0,0,0,0,0) (fun r=>True)):=by
 obtain⟨O0,_⟩:=h
 dsimp only [Zxf,LT.den]
 refine tE (fun h1=>?_) (fun h1=>?_)
 ·refine tB (Zbbz E0.Trigger O0.2.2.1) (fun x2 h3=>?_)
  refine tO (fun h4=>?_) (fun h4=>?_)
  ·exact tR trivial
  ·exact tJ (Zzh E0 v3 ⟨O0,trivial⟩)
 ·refine tO (fun h5=>?_) (fun h5=>?_)
  ·exact tR trivial
  ·refine tF (fun h6=>?_) (fun h6=>?_)
   ·exact tR trivial
   ·exact tJ (Zzh E0 v3 ⟨O0,trivial⟩)
theorem Zzj(E0:Zt)(v3:Bool)(h:Ze8 (.L1 E0 v3)):Tot (Zxg E0 v3).den (Nx Ze8 Zrh (0,0,0,0,0,0) (fun r=>True)):=by
 obtain⟨O0,_⟩:=h
 dsimp only [Zxg,LT.den]
 refine tE (fun h1=>?_) (fun h1=>?_)
 ·refine tB (Za0i E0.Price) (fun x2 h3=>?_)
  refine tO (fun h4=>?_) (fun h4=>?_)
  ·exact tR trivial
  ·exact tJ (Zzi E0 v3 ⟨O0,trivial⟩)
 ·refine tO (fun h5=>?_) (fun h5=>?_)
  ·exact tR trivial
  ·refine tF (fun h6=>?_) (fun h6=>?_)
   ·exact tR trivial
   ·exact tJ (Zzi E0 v3 ⟨O0,trivial⟩)
theorem Zqi(E0:Zt)(v3:Bool)(h:Ze8 (.L0 E0 v3)):Tot (Zrb E0 v3).den (Nx Ze8 Zrh (0,0,0,0,0,0) (fun r=>True)):=by
 obtain⟨O0,_⟩:=h
 dsimp only [Zrb,LT.den]
 refine tE (fun h1=>?_) (fun h1=>?_)
 ·refine tB (Zek E0.Filter O0.1) (fun x2 h3=>?_)
  have eh3_0:=h3.1
  have eh3_1:=h3.2
  refine tO (fun h4=>?_) (fun h4=>?_)
  ·exact tR trivial
  ·have h4_0:=eh3_0 h4
   refine tN (fun h5=>?_) (fun h5=>?_)
   ·exact tR trivial
   ·refine tB (Zqy E0.Mods O0.2.1) (fun x6 h7=>?_)
    have eh7_0:=h7
    refine tF (fun h8=>?_) (fun h8=>?_)
    ·exact tR trivial
    ·exact tJ (Zzj E0 v3 ⟨O0,trivial⟩)
 ·refine tO (fun h9=>?_) (fun h9=>?_)
  ·exact tR trivial
  ·have q10:=O0.2.1.1
   refine tD (fun h11=>?_) (fun h11=>?_)
   ·exact tR trivial
   ·exact tJ (Zzj E0 v3 ⟨O0,trivial⟩)
theorem Z0k(a0:Zt)(oa0:Za1 a0):Tot (Za4g a0) (fun r=>True):=by
 unfold Za4g
 refine tX (Inv:=Ze8) (μ:=Zrh) (m:=(1000000,0,0,0,0,0)) ?_ ?_
 ·dsimp only [Za4e,LT.den]
  refine tD (fun h1=>?_) (fun h1=>?_)
  ·exact tR trivial
  ·refine tD (fun h2=>?_) (fun h2=>?_)
   ·exact tR trivial
   ·refine tE (fun h3=>?_) (fun h3=>?_)
    ·exact tJ (Zqi a0 true ⟨oa0,trivial⟩)
    ·refine tE (fun h4=>?_) (fun h4=>?_)
     ·exact tJ (Zqi a0 true ⟨oa0,trivial⟩)
     ·exact tJ (Zqi a0 (a0.Kind==4) ⟨oa0,trivial⟩)
 ·intro s hs
  cases s with
  | L0 E0 v3=>exact Zqi E0 v3 hs
  | L1 E0 v3=>exact Zzj E0 v3 hs
  | L2 E0 v3=>exact Zzi E0 v3 hs
  | L3 E0 v3=>exact Zzh E0 v3 hs
  | L4 E0 v3=>exact Zzg E0 v3 hs
theorem Za6n(a0:Zq)(oa0:Zal a0):Tot (Zann a0) (fun r=>True):=by
 unfold Zann
 refine tZ ?_
 dsimp only [Zars,LT.den]
 refine tE (fun h1=>?_) (fun h1=>?_)
 ·exact tR trivial
 ·exact tR trivial
def Zabd(a0:Zq):Zue→Prop
 | .L0 E0=>(E0=a0)∧(Zal E0)∧(E0.Abilities.length≤8)
 | .L1 E0 v3 v4=>(E0=a0)∧(Zal E0)∧(0≤v4)∧(E0.Abilities.length≤8)
def Z5h:Zue→M6
 | .L0 E0=>(2,0,0,0,0,0)
 | .L1 E0 v3 v4=>(1,((E0.Abilities.length:Int) - v4).toNat,1000000,0,0,0)
theorem Zzk(a0:Zq)(E0:Zq)(h:(Zabd a0) (.L0 E0)):Tot (Zxh E0).den (Nx (Zabd a0) Z5h (2,0,0,0,0,0) (fun r=>(r=true→a0.Abilities.length≤8))):=by
 obtain⟨al0,O0,i0⟩:=h
 subst al0
 dsimp only [Zxh,LT.den]
 exact tL ⟨rfl,O0,cl,cl⟩ Zbbt
theorem Zbb4(a0:Zq)(oa0:Zal a0):Tot (Za4j a0) (fun r=>(r=true→a0.Abilities.length≤8)):=by
 unfold Za4j
 refine tX (Inv:=(Zabd a0)) (μ:=Z5h) (m:=(1000000,0,0,0,0,0)) ?_ ?_
 ·dsimp only [Za4h,LT.den]
  refine tB (Zaa7 a0.Name (SzS.t oa0.1)) (fun x1 h2=>?_)
  refine tO (fun h3=>?_) (fun h3=>?_)
  ·exact tR Zhe
  ·refine tB (Zs9 a0.Cost) (fun x4 h5=>?_)
   have eh5_0:=h5.1
   have eh5_1:=h5.2
   refine tO (fun h6=>?_) (fun h6=>?_)
   ·exact tR Zhe
   ·have h6_0:=eh5_0 h6
    have h6_1:=eh5_1 h6
    refine tB (Zbbx a0.Line oa0.2.1) (fun x7 h8=>?_)
    refine tO (fun h9=>?_) (fun h9=>?_)
    ·exact tR Zhe
    ·refine tB (Zatl a0.Keys) (fun x10 h11=>?_)
     refine tO (fun h12=>?_) (fun h12=>?_)
     ·exact tR Zhe
     ·refine tD (fun h13=>?_) (fun h13=>?_)
      ·exact tR Zhe
      ·refine tD (fun h14=>?_) (fun h14=>?_)
       ·exact tR Zhe
       ·refine tD (fun h15=>?_) (fun h15=>?_)
        ·exact tR Zhe
        ·refine tD (fun h16=>?_) (fun h16=>?_)
         ·exact tR Zhe
         ·refine tD (fun h17=>?_) (fun h17=>?_)
          ·exact tR Zhe
          ·refine tD (fun h18=>?_) (fun h18=>?_)
           ·exact tR Zhe
           ·refine tB (Zaof a0 oa0) (fun x19 h20=>?_)
            refine tO (fun h21=>?_) (fun h21=>?_)
            ·refine tN (fun h22=>?_) (fun h22=>?_)
             ·exact tR Zhe
             ·refine tN (fun h23=>?_) (fun h23=>?_)
              ·exact tR Zhe
              ·have q24:=oa0.2.2.1
               refine tD (fun h25=>?_) (fun h25=>?_)
               ·exact tR Zhe
               ·exact tJ (Zzk a0 a0 ⟨rfl,oa0,cl⟩)
            ·have q26:=oa0.2.2.1
             refine tD (fun h27=>?_) (fun h27=>?_)
             ·exact tR Zhe
             ·exact tJ (Zzk a0 a0 ⟨rfl,oa0,cl⟩)
 ·intro s hs
  cases s with
  | L0 E0=>exact Zzk a0 E0 hs
  | L1 E0 v3 v4=>
   obtain⟨al0,O0,cv4,i0⟩:=hs
   subst al0
   show Tot (Zae9 E0 v3 v4).den _
   dsimp only [Zae9,LT.den,Z5h]
   have q1:=O0.2.2.1
   refine tD (fun h2=>?_) (fun h2=>?_)
   ·refine tB (tI (by omega) (by omega)) (fun x3 h4=>?_)
    have oh4:Za1 x3:=O0.2.2.2 x3 h4.1
    refine tB (Z0k x3 oh4) (fun x5 h6=>?_)
    refine tO (fun h7=>?_) (fun h7=>?_)
    ·exact tR Zhe
    ·refine tE (fun h8=>?_) (fun h8=>?_)
     ·refine qw (v3+1) fun q9 q10=>?_
      refine qw (v4+1) fun q11 q12=>?_
      exact tL ⟨rfl,O0,cl,cl⟩ Zbbt
     ·refine qw (v4+1) fun q13 q14=>?_
      exact tL ⟨rfl,O0,cl,cl⟩ Zbbt
   ·refine tB (Za6n E0 O0) (fun x15 h16=>?_)
    refine tF (fun h17=>?_) (fun h17=>?_)
    ·refine tO (fun h18=>?_) (fun h18=>?_)
     ·refine tE (fun h19=>?_) (fun h19=>?_)
      ·refine tE (fun h20=>?_) (fun h20=>?_)
       ·exact tR Zhe
       ·exact tR Zhe
      ·exact tR Zhe
     ·exact tR Zhe
    ·refine tE (fun h21=>?_) (fun h21=>?_)
     ·refine tO (fun h22=>?_) (fun h22=>?_)
      ·refine tE (fun h23=>?_) (fun h23=>?_)
       ·exact tR Zhe
       ·exact tR Zhe
      ·exact tR Zhe
     ·exact tR Zhe
def Za6o:Zr7→Prop
 | .L0 v0 v1 v5=>((SzL 176 Zal) v0)∧(SzT v1)∧(0≤v5)
def Z7k:Zr7→M6
 | .L0 v0 v1 v5=>(1,((v0.length:Int) - v5).toNat,1000000,0,0,0)
theorem Za6p(a0:(List Zq))(a1:(List UInt8))(oa0:(SzL 176 Zal) a0)(oa1:SzT a1):Tot (Zano a0 a1) (fun r=>True):=by
 unfold Zano
 refine tX (Inv:=Za6o) (μ:=Z7k) (m:=(1000000,0,0,0,0,0)) ?_ ?_
 ·have lb_a0:=oa0.1
  have lb_a1:a1.length≤562949953421312:=oa1
  dsimp only [Zaru,LT.den]
  exact tL ⟨oa0,oa1,cl⟩ (by unfold Z7k lt6;dsimp only;omega)
 ·intro s hs
  cases s with
  | L0 v0 v1 v5=>
   obtain⟨ov0,ov1,cv5⟩:=hs
   have lb_v0:=ov0.1
   have lb_v1:v1.length≤562949953421312:=ov1
   show Tot (Z6d v0 v1 v5).den _
   dsimp only [Z6d,LT.den]
   have q1:=ov0.1
   refine tD (fun h2=>?_) (fun h2=>?_)
   ·refine tB (tI (by omega) (by omega)) (fun x3 h4=>?_)
    have oh4:Zal x3:=ov0.2 x3 h4.1
    refine tF (fun h5=>?_) (fun h5=>?_)
    ·exact tR trivial
    ·refine qw (v5+1) fun q6 q7=>?_
     exact tL ⟨ov0,ov1,cl⟩ (by unfold Z7k lt6;dsimp only;omega)
   ·exact tR trivial
def Za0n:Zpf→Prop
 | .L0 v0 v1 v5=>((SzL 176 Zal) v0)∧(SzT v1)∧(0≤v5)
def Zahu:Zpf→M6
 | .L0 v0 v1 v5=>(1,((v0.length:Int) - v5).toNat,1000000,0,0,0)
theorem Za0o(a0:(List Zq))(a1:(List UInt8))(oa0:(SzL 176 Zal) a0)(oa1:SzT a1):Tot (Zafa a0 a1) (fun r=>True):=by
 unfold Zafa
 refine tX (Inv:=Za0n) (μ:=Zahu) (m:=(1000000,0,0,0,0,0)) ?_ ?_
 ·have lb_a0:=oa0.1
  have lb_a1:a1.length≤562949953421312:=oa1
  dsimp only [Zaki,LT.den]
  exact tL ⟨oa0,oa1,cl⟩ Zbbn
 ·intro s hs
  cases s with
  | L0 v0 v1 v5=>
   obtain⟨ov0,ov1,cv5⟩:=hs
   have lb_v0:=ov0.1
   have lb_v1:v1.length≤562949953421312:=ov1
   show Tot (Z1n v0 v1 v5).den _
   dsimp only [Z1n,LT.den]
   have q1:=ov0.1
   refine tD (fun h2=>?_) (fun h2=>?_)
   ·refine tB (tI (by omega) (by omega)) (fun x3 h4=>?_)
    have oh4:Zal x3:=ov0.2 x3 h4.1
    refine tF (fun h5=>?_) (fun h5=>?_)
    ·refine tF (fun h6=>?_) (fun h6=>?_)
     ·exact tR trivial
     ·refine qw (v5+1) fun q7 q8=>?_
      exact tL ⟨ov0,ov1,cl⟩ Zbbn
    ·refine qw (v5+1) fun q9 q10=>?_
     exact tL ⟨ov0,ov1,cl⟩ Zbbn
   ·exact tR trivial
def Zato:Zhu→Prop
 | .L0 v0 E0 v5=>((SzL 176 Zal) v0)∧(Zal E0)∧(0≤v5)
 | .L1 v0 E0 v5 v6=>((SzL 176 Zal) v0)∧(Zal E0)∧(0≤v5)∧(0≤v6)∧(v5 < (E0.Abilities.length:Int))∧(v5 < (E0.Abilities.length:Int))
def Z85:Zhu→M6
 | .L0 v0 E0 v5=>(1,((E0.Abilities.length:Int) - v5).toNat,1000000,0,0,0)
 | .L1 v0 E0 v5 v6=>(1,((E0.Abilities.length:Int) - v5).toNat,1,((((E0.Abilities[v5.toNat]?).map fun x=>x.Effects.length).getD 0:Nat) - v6).toNat,1000000,0)
theorem Zatp(a0:(List Zq))(a1:Zq)(oa0:(SzL 176 Zal) a0)(oa1:Zal a1):Tot (Z6e a0 a1) (fun r=>True):=by
 unfold Z6e
 refine tX (Inv:=Zato) (μ:=Z85) (m:=(1000000,0,0,0,0,0)) ?_ ?_
 ·have lb_a0:=oa0.1
  dsimp only [Zabs,LT.den]
  exact tL ⟨oa0,oa1,cl⟩ tk94
 ·intro s hs
  cases s with
  | L0 v0 E0 v5=>
   obtain⟨ov0,O0,cv5⟩:=hs
   have lb_v0:=ov0.1
   show Tot (Zuf v0 E0 v5).den _
   dsimp only [Zuf,LT.den]
   have q1:=O0.2.2.1
   refine tD (fun h2=>?_) (fun h2=>?_)
   ·exact tL ⟨ov0,O0,cl,cl,cl,cl⟩ tk94
   ·exact tR trivial
  | L1 v0 E0 v5 v6=>
   obtain⟨ov0,O0,cv5,cv6,bd4,i0⟩:=hs
   have lb_v0:=ov0.1
   show Tot (Zug v0 E0 v5 v6).den _
   dsimp only [Zug,LT.den]
   have lx_0:E0.Abilities.length*640≤140737488351232:=O0.2.2.1
   refine tB (tI (by omega) (by omega)) (fun x1 h2=>?_)
   have oh2:Za1 x1:=O0.2.2.2 x1 h2.1
   have mh2:((E0.Abilities[v5.toNat]?).map fun x=>x.Effects.length).getD 0=x1.Effects.length:=by rw [h2.2];rfl
   have q3:=oh2.2.2.2.2.1.1
   refine tD (fun h4=>?_) (fun h4=>?_)
   ·refine tB (tI (by omega) (by omega)) (fun x5 h6=>?_)
    have oh6:Zaw x5:=oh2.2.2.2.2.1.2 x5 h6.1
    refine tE (fun h7=>?_) (fun h7=>?_)
    ·refine tB (Za0o v0 x5.Card ov0 (SzS.t oh6.2.2.1)) (fun x8 h9=>?_)
     refine tO (fun h10=>?_) (fun h10=>?_)
     ·exact tR trivial
     ·refine qw (v6+1) fun q11 q12=>?_
      exact tL ⟨ov0,O0,cl,cl,cl,cl⟩ tk94
    ·refine qw (v6+1) fun q13 q14=>?_
     exact tL ⟨ov0,O0,cl,cl,cl,cl⟩ tk94
   ·refine qw (v5+1) fun q15 q16=>?_
    exact tL ⟨ov0,O0,cl⟩ tk94
def Za0p(a0:(List Zq)):Zpg→Prop
 | .L0 v0 v4=>(v0=a0)∧((SzL 176 Zal) v0)∧(0≤v4)∧(∀ (k:Nat) c,(k:Int) < v4→v0[k]?=some c→c.Abilities.length≤8)
def Z3j:Zpg→M6
 | .L0 v0 v4=>(1,((v0.length:Int) - v4).toNat,1000000,0,0,0)
theorem Za0q(a0:(List Zq))(oa0:(SzL 176 Zal) a0):Tot (Zafb a0) (fun r=>(r.2=0→∀ c,c∈a0→c.Abilities.length≤8)):=by
 unfold Zafb
 refine tX (Inv:=(Za0p a0)) (μ:=Z3j) (m:=(1000000,0,0,0,0,0)) ?_ ?_
 ·have lb_a0:=oa0.1
  dsimp only [Zakk,LT.den]
  have q1:=oa0.1
  refine tD (fun h2=>?_) (fun h2=>?_)
  ·exact tR tk32
  ·exact tL ⟨rfl,oa0,cl,tk17⟩ (by unfold Z3j lt6;dsimp only;omega)
 ·intro s hs
  cases s with
  | L0 v0 v4=>
   obtain⟨al0,ov0,cv4,i0⟩:=hs
   have lb_v0:=ov0.1
   subst al0
   show Tot (Z1o v0 v4).den _
   dsimp only [Z1o,LT.den]
   have q1:=ov0.1
   refine tD (fun h2=>?_) (fun h2=>?_)
   ·refine tB (tI (by omega) (by omega)) (fun x3 h4=>?_)
    have oh4:Zal x3:=ov0.2 x3 h4.1
    have mh4:=h4.2
    refine tB (Zbb4 x3 oh4) (fun x5 h6=>?_)
    have eh6_0:=h6
    refine tO (fun h7=>?_) (fun h7=>?_)
    ·exact tR tk32
    ·have h7_0:=eh6_0 h7
     refine tB (Za6p v0 x3.Name ov0 (SzS.t oh4.1)) (fun x8 h9=>?_)
     refine tD (fun h10=>?_) (fun h10=>?_)
     ·exact tR tk32
     ·refine tB (Zatp v0 x3 ov0 oh4) (fun x11 h12=>?_)
      refine tO (fun h13=>?_) (fun h13=>?_)
      ·exact tR tk32
      ·refine qw (v4+1) fun q14 q15=>?_
       exact tL ⟨rfl,ov0,cl,tk17⟩ (by unfold Z3j lt6;dsimp only;omega)
   ·exact tR tk32
theorem Zdk(a0:Int)(a1:Int)(a2:Int):Tot (Za4o a0 a1 a2) (fun r=>(r=true↔(a1≤a0∧a0≤a2))):=by
 unfold Za4o
 refine tZ ?_
 dsimp only [Za4m,LT.den]
 refine tD (fun h1=>?_) (fun h1=>?_)
 ·exact tR (by grind)
 ·exact tR (by grind)
def Za0r:Zph→Prop
 | .L0 E0 v3=>(0≤v3)∧True
def Z3k:Zph→M6
 | .L0 E0 v3=>(1,(6 - v3).toNat,1000000,0,0,0)
theorem Za0s(a0:(A6 Int)):Tot (Zafc a0) (fun r=>True):=by
 unfold Zafc
 refine tX (Inv:=Za0r) (μ:=Z3k) (m:=(1000000,0,0,0,0,0)) ?_ ?_
 ·dsimp only [Zakm,LT.den]
  exact tL ⟨cl,trivial⟩ (by unfold Z3k lt6;dsimp only;omega)
 ·intro s hs
  cases s with
  | L0 E0 v3=>
   obtain⟨cv3,_⟩:=hs
   show Tot (Z1p E0 v3).den _
   dsimp only [Z1p,LT.den]
   refine tD (fun h1=>?_) (fun h1=>?_)
   ·refine tB (tI (by omega) tk81) (fun x2 h3=>?_)
    refine tD (fun h4=>?_) (fun h4=>?_)
    ·exact tR trivial
    ·refine tB (tI (by omega) tk81) (fun x5 h6=>?_)
     refine tD (fun h7=>?_) (fun h7=>?_)
     ·exact tR trivial
     ·refine qw (v3+1) fun q8 q9=>?_
      exact tL ⟨cl,trivial⟩ (by unfold Z3k lt6;dsimp only;omega)
   ·exact tR trivial
def Za0t(a0:Zb)(a1:Int):Zpi→Prop
 | .L0 v1 E0 v5=>(E0=a0)∧(v1=a1)∧(Zw E0)∧(0≤v5)∧(NoId E0.Objects v1 v5)
def Z3l:Zpi→M6
 | .L0 v1 E0 v5=>(1,((E0.Objects.length:Int) - v5).toNat,1000000,0,0,0)
theorem Za0u(a0:Zb)(a1:Int)(oa0:Zw a0):Tot (Zafd a0 a1) (fun r=>(r < (a0.Objects.length:Int))∧(r=ixO a0.Objects a1)):=by
 unfold Zafd
 refine tX (Inv:=(Za0t a0 a1)) (μ:=Z3l) (m:=(1000000,0,0,0,0,0)) ?_ ?_
 ·dsimp only [Zako,LT.den]
  exact tL ⟨rfl,rfl,oa0,cl,tk37⟩ (by unfold Z3l lt6;dsimp only;omega)
 ·intro s hs
  cases s with
  | L0 v1 E0 v5=>
   obtain⟨al0,al1,O0,cv5,i0⟩:=hs
   subst al0
   subst al1
   show Tot (Z1q v1 E0 v5).den _
   dsimp only [Z1q,LT.den]
   have q1:=O0.2.1.1
   refine tD (fun h2=>?_) (fun h2=>?_)
   ·refine tB (tI (by omega) (by omega)) (fun x3 h4=>?_)
    have mh4:=h4.2
    refine tE (fun h5=>?_) (fun h5=>?_)
    ·exact tR ⟨cl,tk24⟩
    ·refine qw (v5+1) fun q6 q7=>?_
     exact tL ⟨rfl,rfl,O0,cl,tk37⟩ (by unfold Z3l lt6;dsimp only;omega)
   ·exact tR ⟨cl,tk24⟩
theorem Za6q(a0:Zb)(a1:Int)(oa0:Zw a0):Tot (Zanp a0 a1) (fun r=>(r=fdV a0.Objects a1)):=by
 unfold Zanp
 refine tZ ?_
 dsimp only [Zarw,LT.den]
 refine tB (Za0u a0 a1 oa0) (fun x1 h2=>?_)
 have eh2_0:=h2.1
 have eh2_1:=h2.2
 have lh2:=Za5z a0.Objects a1
 refine tD (fun h3=>?_) (fun h3=>?_)
 ·exact tR tk45
 ·refine tB (tI (by omega) (by omega)) (fun x4 h5=>?_)
  have mh5:=h5.2
  exact tR tk45
theorem Z86(a0:Zb)(a1:Int)(oa0:Zw a0):Tot (Z99 a0 a1) (fun r=>True):=by
 unfold Z99
 refine tZ ?_
 dsimp only [Zafe,LT.den]
 refine tB (Za6q a0 a1 oa0) (fun x1 h2=>?_)
 have eh2_0:=h2
 exact tR trivial
def Za0v:Zpj→Prop
 | .L0 v0 v1 v5 v6=>((SzL 8 (fun _=>True)) v0)∧(0≤v6)
def Zahv:Zpj→M6
 | .L0 v0 v1 v5 v6=>(1,((v0.length:Int) - v6).toNat,1000000,0,0,0)
theorem Zzl(a0:(List Int))(a1:Int)(oa0:(SzL 8 (fun _=>True)) a0):Tot (Zafg a0 a1) (fun r=>True):=by
 unfold Zafg
 refine tX (Inv:=Za0v) (μ:=Zahv) (m:=(1000000,0,0,0,0,0)) ?_ ?_
 ·have lb_a0:=oa0.1
  dsimp only [Zakq,LT.den]
  exact tL ⟨oa0,cl⟩ Zbbo
 ·intro s hs
  cases s with
  | L0 v0 v1 v5 v6=>
   obtain⟨ov0,cv6⟩:=hs
   have lb_v0:=ov0.1
   show Tot (Z1r v0 v1 v5 v6).den _
   dsimp only [Z1r,LT.den]
   have q1:=ov0.1
   refine tD (fun h2=>?_) (fun h2=>?_)
   ·refine tB (tI (by omega) (by omega)) (fun x3 h4=>?_)
    refine tE (fun h5=>?_) (fun h5=>?_)
    ·refine qw (v5+1) fun q6 q7=>?_
     refine qw (v6+1) fun q8 q9=>?_
     exact tL ⟨ov0,cl⟩ Zbbo
    ·refine qw (v6+1) fun q10 q11=>?_
     exact tL ⟨ov0,cl⟩ Zbbo
   ·exact tR trivial
def Za6r:Zr8→Prop
 | .L0 v1 v2 v3 E0 v9=>((SzL 8 (fun _=>True)) v1)∧(Zw E0)∧(0≤v9)
def Zamg:Zr8→M6
 | .L0 v1 v2 v3 E0 v9=>(1,((v1.length:Int) - v9).toNat,1000000,0,0,0)
theorem Zns(a0:Zb)(a1:(List Int))(a2:Int)(a3:Int)(oa0:Zw a0)(oa1:(SzL 8 (fun _=>True)) a1):Tot (Zanq a0 a1 a2 a3) (fun r=>True):=by
 unfold Zanq
 refine tX (Inv:=Za6r) (μ:=Zamg) (m:=(1000000,0,0,0,0,0)) ?_ ?_
 ·have lb_a1:=oa1.1
  dsimp only [Zary,LT.den]
  exact tL ⟨oa1,oa0,cl⟩ Zbbr
 ·intro s hs
  cases s with
  | L0 v1 v2 v3 E0 v9=>
   obtain⟨ov1,O0,cv9⟩:=hs
   have lb_v1:=ov1.1
   show Tot (Z6f v1 v2 v3 E0 v9).den _
   dsimp only [Z6f,LT.den]
   have q1:=ov1.1
   refine tD (fun h2=>?_) (fun h2=>?_)
   ·refine tB (tI (by omega) (by omega)) (fun x3 h4=>?_)
    refine tB (Z86 E0 x3 O0) (fun x5 h6=>?_)
    refine tO (fun h7=>?_) (fun h7=>?_)
    ·exact tR trivial
    ·refine tN (fun h8=>?_) (fun h8=>?_)
     ·exact tR trivial
     ·refine tD (fun h9=>?_) (fun h9=>?_)
      ·refine tN (fun h10=>?_) (fun h10=>?_)
       ·exact tR trivial
       ·refine tB (Zzl v1 x3 ov1) (fun x11 h12=>?_)
        refine tN (fun h13=>?_) (fun h13=>?_)
        ·exact tR trivial
        ·refine qw (v9+1) fun q14 q15=>?_
         exact tL ⟨ov1,O0,cl⟩ Zbbr
      ·refine tB (Zzl v1 x3 ov1) (fun x16 h17=>?_)
       refine tN (fun h18=>?_) (fun h18=>?_)
       ·exact tR trivial
       ·refine qw (v9+1) fun q19 q20=>?_
        exact tL ⟨ov1,O0,cl⟩ Zbbr
   ·exact tR trivial
def Zatq:Zks→Prop
 | .L0 E0 v3=>(Zw E0)∧(0≤v3)
def Zvk:Zks→M6
 | .L0 E0 v3=>(1,((E0.Players.length:Int) - v3).toNat,1000000,0,0,0)
theorem Zatr(a0:Zb)(oa0:Zw a0):Tot (Z6g a0) (fun r=>True):=by
 unfold Z6g
 refine tX (Inv:=Zatq) (μ:=Zvk) (m:=(1000000,0,0,0,0,0)) ?_ ?_
 ·dsimp only [Zabv,LT.den]
  have q1:=oa0.1.1
  refine tB (Zdk (a0.Players.length:Int) 2 4) (fun x2 h3=>?_)
  have eh3_0:=h3
  refine tO (fun h4=>?_) (fun h4=>?_)
  ·exact tR trivial
  ·exact tL ⟨oa0,cl⟩ (by unfold Zvk lt6;dsimp only;omega)
 ·intro s hs
  cases s with
  | L0 E0 v3=>
   obtain⟨O0,cv3⟩:=hs
   show Tot (Zuh E0 v3).den _
   dsimp only [Zuh,LT.den]
   have q1:=O0.1.1
   refine tD (fun h2=>?_) (fun h2=>?_)
   ·refine tB (tI (by omega) (by omega)) (fun x3 h4=>?_)
    have oh4:Zcv x3:=O0.1.2 x3 h4.1
    refine tB (Zdk x3.Life (-1000000) 1000000) (fun x5 h6=>?_)
    have eh6_0:=h6
    refine tO (fun h7=>?_) (fun h7=>?_)
    ·exact tR trivial
    ·refine tB (Zdk x3.Venom 0 1000000) (fun x8 h9=>?_)
     have eh9_0:=h9
     refine tO (fun h10=>?_) (fun h10=>?_)
     ·exact tR trivial
     ·refine tB (Zdk x3.Lands 0 1000000) (fun x11 h12=>?_)
      have eh12_0:=h12
      refine tO (fun h13=>?_) (fun h13=>?_)
      ·exact tR trivial
      ·refine tB (Za0s x3.Pool) (fun x14 h15=>?_)
       refine tO (fun h16=>?_) (fun h16=>?_)
       ·exact tR trivial
       ·refine tB (Zns E0 x3.Library 2 v3 O0 oh4.1) (fun x17 h18=>?_)
        refine tO (fun h19=>?_) (fun h19=>?_)
        ·exact tR trivial
        ·refine tB (Zns E0 x3.Hand 1 v3 O0 oh4.2.1) (fun x20 h21=>?_)
         refine tO (fun h22=>?_) (fun h22=>?_)
         ·exact tR trivial
         ·refine tB (Zns E0 x3.Graveyard 3 v3 O0 oh4.2.2) (fun x23 h24=>?_)
          refine tO (fun h25=>?_) (fun h25=>?_)
          ·exact tR trivial
          ·refine qw (v3+1) fun q26 q27=>?_
           exact tL ⟨O0,cl⟩ (by unfold Zvk lt6;dsimp only;omega)
   ·refine tB (Zns E0 E0.Battlefield 0 (-1) O0 O0.2.2.1) (fun x28 h29=>?_)
    refine tF (fun h30=>?_) (fun h30=>?_)
    ·refine tB (Zns E0 E0.Exile 4 (-1) O0 O0.2.2.2.1) (fun x31 h32=>?_)
     exact tR trivial
    ·exact tR trivial
theorem Zfm(a0:Zb)(a1:Int)(oa0:Zw a0):Tot (Zaaa a0 a1) (fun r=>(r=true↔(0≤a1∧a1 < (a0.Players.length:Int)))):=by
 unfold Zaaa
 refine tZ ?_
 dsimp only [Zafh,LT.den]
 have q1:=oa0.1.1
 refine qw ((a0.Players.length:Int) - 1) fun q2 q3=>?_
 refine tB (Zdk a1 0 (IntKind.wrap .i64 ((a0.Players.length:Int) - 1))) (fun x4 h5=>?_)
 have eh5_0:=h5
 exact tR (by grind)
def Zbb5:Z1t→Prop
 | .L0 E0 v3=>(0≤v3)∧True
def Zahw:Z1t→M6
 | .L0 E0 v3=>(1,(3 - v3).toNat,1000000,0,0,0)
theorem Zbb6(a0:(A3 Int)):Tot (Za4t a0) (fun r=>True):=by
 unfold Za4t
 refine tX (Inv:=Zbb5) (μ:=Zahw) (m:=(1000000,0,0,0,0,0)) ?_ ?_
 ·dsimp only [Za4r,LT.den]
  exact tL ⟨cl,trivial⟩ (by unfold Zahw lt6;dsimp only;omega)
 ·intro s hs
  cases s with
  | L0 E0 v3=>
   obtain⟨cv3,_⟩:=hs
   show Tot (Zafj E0 v3).den _
   dsimp only [Zafj,LT.den]
   refine tD (fun h1=>?_) (fun h1=>?_)
   ·refine tB (tI (by omega) (by have e:(A3.list E0).length=3:=rfl;omega)) (fun x2 h3=>?_)
    refine tD (fun h4=>?_) (fun h4=>?_)
    ·exact tR trivial
    ·refine tB (tI (by omega) (by have e:(A3.list E0).length=3:=rfl;omega)) (fun x5 h6=>?_)
     refine tD (fun h7=>?_) (fun h7=>?_)
     ·exact tR trivial
     ·refine qw (v3+1) fun q8 q9=>?_
      exact tL ⟨cl,trivial⟩ (by unfold Zahw lt6;dsimp only;omega)
   ·exact tR trivial
theorem Za6s(a0:Zl):Tot (Zanr a0) (fun r=>True):=by
 unfold Zanr
 refine tZ ?_
 dsimp only [Zar0,LT.den]
 exact tR trivial
theorem Za0w(a0:Zl):Tot (Zafk a0) (fun r=>True):=by
 unfold Zafk
 refine tZ ?_
 dsimp only [Zaks,LT.den]
 exact tR trivial
theorem Zbb7(a0:Zl)(a1:Int)(a2:Int):Tot (Za4x a0 a1 a2) (fun r=>(r=true→1≤a0.Id)):=by
 unfold Za4x
 refine tZ ?_
 dsimp only [Za4v,LT.den]
 refine tD (fun h1=>?_) (fun h1=>?_)
 ·exact tR Zbo
 ·refine tD (fun h2=>?_) (fun h2=>?_)
  ·exact tR Zbo
  ·refine tD (fun h3=>?_) (fun h3=>?_)
   ·exact tR Zbo
   ·refine tD (fun h4=>?_) (fun h4=>?_)
    ·exact tR Zbo
    ·refine tD (fun h5=>?_) (fun h5=>?_)
     ·exact tR Zbo
     ·refine tD (fun h6=>?_) (fun h6=>?_)
      ·exact tR Zbo
      ·refine tD (fun h7=>?_) (fun h7=>?_)
       ·exact tR Zbo
       ·refine tD (fun h8=>?_) (fun h8=>?_)
        ·exact tR Zbo
        ·refine tD (fun h9=>?_) (fun h9=>?_)
         ·exact tR Zbo
         ·refine tD (fun h10=>?_) (fun h10=>?_)
          ·exact tR Zbo
          ·refine tD (fun h11=>?_) (fun h11=>?_)
           ·exact tR Zbo
           ·refine tD (fun h12=>?_) (fun h12=>?_)
            ·exact tR Zbo
            ·refine tD (fun h13=>?_) (fun h13=>?_)
             ·exact tR Zbo
             ·refine tD (fun h14=>?_) (fun h14=>?_)
              ·exact tR Zbo
              ·refine tD (fun h15=>?_) (fun h15=>?_)
               ·exact tR Zbo
               ·refine tD (fun h16=>?_) (fun h16=>?_)
                ·exact tR Zbo
                ·refine tD (fun h17=>?_) (fun h17=>?_)
                 ·exact tR Zbo
                 ·refine tB (Zbb6 a0.Counters) (fun x18 h19=>?_)
                  refine tO (fun h20=>?_) (fun h20=>?_)
                  ·exact tR Zbo
                  ·refine tD (fun h21=>?_) (fun h21=>?_)
                   ·exact tR Zbo
                   ·refine tD (fun h22=>?_) (fun h22=>?_)
                    ·exact tR Zbo
                    ·refine tD (fun h23=>?_) (fun h23=>?_)
                     ·exact tR Zbo
                     ·refine tD (fun h24=>?_) (fun h24=>?_)
                      ·exact tR Zbo
                      ·refine tE (fun h25=>?_) (fun h25=>?_)
                       ·exact tR Zatg
                       ·refine tB (Za6s a0) (fun x26 h27=>?_)
                        refine tF (fun h28=>?_) (fun h28=>?_)
                        ·refine tB (Za0w a0) (fun x29 h30=>?_)
                         refine tF (fun h31=>?_) (fun h31=>?_)
                         ·refine tO (fun h32=>?_) (fun h32=>?_)
                          ·refine tO (fun h33=>?_) (fun h33=>?_)
                           ·exact tR Zatg
                           ·exact tR Zbo
                          ·exact tR Zbo
                         ·exact tR Zbo
                        ·exact tR Zbo
def Zaw0:Zmz→Prop
 | .L0 v1 E0 v5 v6=>(Zw E0)∧(0≤v6)
def Zade:Zmz→M6
 | .L0 v1 E0 v5 v6=>(1,((E0.Stack.length:Int) - v6).toNat,1000000,0,0,0)
theorem Zaw1(a0:Zb)(a1:Int)(oa0:Zw a0):Tot (Zaab a0 a1) (fun r=>True):=by
 unfold Zaab
 refine tX (Inv:=Zaw0) (μ:=Zade) (m:=(1000000,0,0,0,0,0)) ?_ ?_
 ·dsimp only [Zafl,LT.den]
  exact tL ⟨oa0,cl⟩ Za12
 ·intro s hs
  cases s with
  | L0 v1 E0 v5 v6=>
   obtain⟨O0,cv6⟩:=hs
   show Tot (Zya v1 E0 v5 v6).den _
   dsimp only [Zya,LT.den]
   have q1:=O0.2.2.2.2.1.1
   refine tD (fun h2=>?_) (fun h2=>?_)
   ·refine tB (tI (by omega) (by omega)) (fun x3 h4=>?_)
    have oh4:Zin x3:=O0.2.2.2.2.1.2 x3 h4.1
    refine tE (fun h5=>?_) (fun h5=>?_)
    ·refine tE (fun h6=>?_) (fun h6=>?_)
     ·refine qw (v5+1) fun q7 q8=>?_
      refine qw (v6+1) fun q9 q10=>?_
      exact tL ⟨O0,cl⟩ Za12
     ·refine qw (v6+1) fun q11 q12=>?_
      exact tL ⟨O0,cl⟩ Za12
    ·refine qw (v6+1) fun q13 q14=>?_
     exact tL ⟨O0,cl⟩ Za12
   ·exact tR trivial
theorem Znt(a0:(List Int))(oa0:(SzL 8 (fun _=>True)) a0):Tot (Zans a0) (fun r=>((SzL 8 (fun _=>True)) r)):=by
 unfold Zans
 refine tZ ?_
 have lb_a0:=oa0.1
 dsimp only [Zar2,LT.den]
 have q3:=oa0.1
 refine tB (tA Zkm (by decide)) (fun x1 h2=>?_)
 have lh2:x1.length=([]:(List Int)).length+a0.length:=by rw [h2,List.length_append]
 try simp only [List.length_cons,List.length_nil,Nat.zero_add] at lh2
 exact tR ⟨lo,fun _ _=>trivial⟩
theorem Za6t(a0:Zb)(a1:Int)(a2:Int)(oa0:Zw a0):Tot (Zaac a0 a1 a2) (fun r=>((SzL 8 (fun _=>True)) r)):=by
 unfold Zaac
 refine tZ ?_
 dsimp only [Zar4,LT.den]
 refine tE (fun h1=>?_) (fun h1=>?_)
 ·refine tB (Znt a0.Battlefield oa0.2.2.1) (fun x2 h3=>?_)
  exact tR h3
 ·refine tE (fun h4=>?_) (fun h4=>?_)
  ·refine tB (Znt a0.Exile oa0.2.2.2.1) (fun x5 h6=>?_)
   exact tR h6
  ·refine tD (fun h7=>?_) (fun h7=>?_)
   ·exact tR SzL.nil
   ·have q8:=oa0.1.1
    refine tD (fun h9=>?_) (fun h9=>?_)
    ·exact tR SzL.nil
    ·refine tE (fun h10=>?_) (fun h10=>?_)
     ·refine tB (tI (by omega) (by omega)) (fun x11 h12=>?_)
      have oh12:Zcv x11:=oa0.1.2 x11 h12.1
      refine tB (Znt x11.Hand oh12.2.1) (fun x13 h14=>?_)
      exact tR h14
     ·refine tE (fun h15=>?_) (fun h15=>?_)
      ·refine tB (tI (by omega) (by omega)) (fun x16 h17=>?_)
       have oh17:Zcv x16:=oa0.1.2 x16 h17.1
       refine tB (Znt x16.Library oh17.1) (fun x18 h19=>?_)
       exact tR h19
      ·refine tE (fun h20=>?_) (fun h20=>?_)
       ·refine tB (tI (by omega) (by omega)) (fun x21 h22=>?_)
        have oh22:Zcv x21:=oa0.1.2 x21 h22.1
        refine tB (Znt x21.Graveyard oh22.2.2) (fun x23 h24=>?_)
        exact tR h24
       ·exact tR SzL.nil
theorem Z87(a0:Zb)(a1:Zl)(oa0:Zw a0):Tot (Zaad a0 a1) (fun r=>True):=by
 unfold Zaad
 refine tZ ?_
 dsimp only [Zafn,LT.den]
 refine tE (fun h1=>?_) (fun h1=>?_)
 ·refine tB (Zaw1 a0 a1.Id oa0) (fun x2 h3=>?_)
  exact tR trivial
 ·refine tB (Za6t a0 a1.Zone a1.Owner oa0) (fun x4 h5=>?_)
  refine tB (Zzl x4 a1.Id h5) (fun x6 h7=>?_)
  exact tR trivial
def Zats(a0:(List Zq))(a1:Zb):Zkt→Prop
 | .L0 v0 E0 v5=>(v0=a0)∧(E0=a1)∧((SzL 176 Zal) v0)∧(Zw E0)∧(0≤v5)∧(Cons E0.Objects v5)
def Z88:Zkt→M6
 | .L0 v0 E0 v5=>(1,((E0.Objects.length:Int) - v5).toNat,1000000,0,0,0)
theorem Zmh(a0:(List Zq))(a1:Zb)(oa0:(SzL 176 Zal) a0)(oa1:Zw a1):Tot (Z6h a0 a1) (fun r=>(r=true→Ids a1.Objects)):=by
 unfold Z6h
 refine tX (Inv:=(Zats a0 a1)) (μ:=Z88) (m:=(1000000,0,0,0,0,0)) ?_ ?_
 ·have lb_a0:=oa0.1
  dsimp only [Zaby,LT.den]
  have q1:=oa1.2.1.1
  refine tD (fun h2=>?_) (fun h2=>?_)
  ·exact tR tk50
  ·exact tL ⟨rfl,rfl,oa0,oa1,cl,tk6⟩ tk95
 ·intro s hs
  cases s with
  | L0 v0 E0 v5=>
   obtain⟨al0,al1,ov0,O0,cv5,i0⟩:=hs
   have lb_v0:=ov0.1
   subst al0
   subst al1
   show Tot (Zui v0 E0 v5).den _
   dsimp only [Zui,LT.den]
   have q1:=O0.2.1.1
   refine tD (fun h2=>?_) (fun h2=>?_)
   ·refine tB (tI (by omega) (by omega)) (fun x3 h4=>?_)
    have mh4:=h4.2
    have q5:=ov0.1
    have q6:=O0.1.1
    refine tB (Zbb7 x3 (v0.length:Int) (E0.Players.length:Int)) (fun x7 h8=>?_)
    have eh8_0:=h8
    refine tO (fun h9=>?_) (fun h9=>?_)
    ·exact tR tk50
    ·have h9_0:=eh8_0 h9
     refine tD (fun h10=>?_) (fun h10=>?_)
     ·exact tR tk50
     ·refine tD (fun h11=>?_) (fun h11=>?_)
      ·exact tR tk50
      ·refine tD (fun h12=>?_) (fun h12=>?_)
       ·refine qw (v5 - 1) fun q13 q14=>?_
        refine tB (tI (by omega) (by omega)) (fun x15 h16=>?_)
        have mh16:=h16.2
        refine tD (fun h17=>?_) (fun h17=>?_)
        ·exact tR tk50
        ·refine tB (Z87 E0 x3 O0) (fun x18 h19=>?_)
         refine tO (fun h20=>?_) (fun h20=>?_)
         ·exact tR tk50
         ·refine qw (v5+1) fun q21 q22=>?_
          exact tL ⟨rfl,rfl,ov0,O0,cl,tk6⟩ tk95
       ·refine tB (Z87 E0 x3 O0) (fun x23 h24=>?_)
        refine tO (fun h25=>?_) (fun h25=>?_)
        ·exact tR tk50
        ·refine qw (v5+1) fun q26 q27=>?_
         exact tL ⟨rfl,rfl,ov0,O0,cl,tk6⟩ tk95
   ·exact tR tk50
def Zaom:Zi3→Prop
 | .L0 v0 v1 v5=>((SzL 176 Za0) v0)∧((SzL 176 Za0) v1)∧(0≤v5)∧(v0.length=v1.length)
def Ztg:Zi3→M6
 | .L0 v0 v1 v5=>(1,((v0.length:Int) - v5).toNat,1000000,0,0,0)
theorem Z3m(a0:(List Zz))(a1:(List Zz))(oa0:(SzL 176 Za0) a0)(oa1:(SzL 176 Za0) a1):Tot (Z1u a0 a1) (fun r=>True):=by
 unfold Z1u
 refine tX (Inv:=Zaom) (μ:=Ztg) (m:=(1000000,0,0,0,0,0)) ?_ ?_
 ·have lb_a0:=oa0.1
  have lb_a1:=oa1.1
  dsimp only [Z8f,LT.den]
  have q1:=oa0.1
  have q2:=oa1.1
  refine tN (fun h3=>?_) (fun h3=>?_)
  ·exact tR trivial
  ·exact tL ⟨oa0,oa1,cl,cl⟩ (by unfold Ztg lt6;dsimp only;omega)
 ·intro s hs
  cases s with
  | L0 v0 v1 v5=>
   obtain⟨ov0,ov1,cv5,i0⟩:=hs
   have lb_v0:=ov0.1
   have lb_v1:=ov1.1
   show Tot (Zr9 v0 v1 v5).den _
   dsimp only [Zr9,LT.den]
   have q1:=ov0.1
   refine tD (fun h2=>?_) (fun h2=>?_)
   ·refine tB (tI (by omega) (by omega)) (fun x3 h4=>?_)
    have oh4:Za0 x3:=ov0.2 x3 h4.1
    refine tB (tI (by omega) (by omega)) (fun x5 h6=>?_)
    have oh6:Za0 x5:=ov1.2 x5 h6.1
    refine tO (fun h7=>?_) (fun h7=>?_)
    ·exact tR trivial
    ·refine qw (v5+1) fun q8 q9=>?_
     exact tL ⟨ov0,ov1,cl,cl⟩ (by unfold Ztg lt6;dsimp only;omega)
   ·exact tR trivial
theorem Za6u(a0:Z9)(a1:Z9)(oa0:Zaw a0)(oa1:Zaw a1):Tot (Zant a0 a1) (fun r=>True):=by
 unfold Zant
 refine tZ ?_
 dsimp only [Zar6,LT.den]
 refine tE (fun h1=>?_) (fun h1=>?_)
 ·refine tF (fun h2=>?_) (fun h2=>?_)
  ·refine tF (fun h3=>?_) (fun h3=>?_)
   ·refine tE (fun h4=>?_) (fun h4=>?_)
    ·refine tE (fun h5=>?_) (fun h5=>?_)
     ·refine tF (fun h6=>?_) (fun h6=>?_)
      ·refine tF (fun h7=>?_) (fun h7=>?_)
       ·refine tF (fun h8=>?_) (fun h8=>?_)
        ·refine tB (Z3m a0.Mods a1.Mods oa0.2.2.2.2 oa1.2.2.2.2) (fun x9 h10=>?_)
         exact tR trivial
        ·exact tR trivial
       ·exact tR trivial
      ·exact tR trivial
     ·exact tR trivial
    ·exact tR trivial
   ·exact tR trivial
  ·exact tR trivial
 ·exact tR trivial
def Zaon:Zi4→Prop
 | .L0 v0 v1 v5=>((SzL 560 Zaw) v0)∧((SzL 560 Zaw) v1)∧(0≤v5)∧(v0.length=v1.length)
def Zth:Zi4→M6
 | .L0 v0 v1 v5=>(1,((v0.length:Int) - v5).toNat,1000000,0,0,0)
theorem Zaoo(a0:(List Z9))(a1:(List Z9))(oa0:(SzL 560 Zaw) a0)(oa1:(SzL 560 Zaw) a1):Tot (Z1v a0 a1) (fun r=>True):=by
 unfold Z1v
 refine tX (Inv:=Zaon) (μ:=Zth) (m:=(1000000,0,0,0,0,0)) ?_ ?_
 ·have lb_a0:=oa0.1
  have lb_a1:=oa1.1
  dsimp only [Z8h,LT.den]
  have q1:=oa0.1
  have q2:=oa1.1
  refine tN (fun h3=>?_) (fun h3=>?_)
  ·exact tR trivial
  ·exact tL ⟨oa0,oa1,cl,cl⟩ (by unfold Zth lt6;dsimp only;omega)
 ·intro s hs
  cases s with
  | L0 v0 v1 v5=>
   obtain⟨ov0,ov1,cv5,i0⟩:=hs
   have lb_v0:=ov0.1
   have lb_v1:=ov1.1
   show Tot (Zsa v0 v1 v5).den _
   dsimp only [Zsa,LT.den]
   have q1:=ov0.1
   refine tD (fun h2=>?_) (fun h2=>?_)
   ·refine tB (tI (by omega) (by omega)) (fun x3 h4=>?_)
    have oh4:Zaw x3:=ov0.2 x3 h4.1
    refine tB (tI (by omega) (by omega)) (fun x5 h6=>?_)
    have oh6:Zaw x5:=ov1.2 x5 h6.1
    refine tB (Za6u x3 x5 oh4 oh6) (fun x7 h8=>?_)
    refine tO (fun h9=>?_) (fun h9=>?_)
    ·exact tR trivial
    ·refine qw (v5+1) fun q10 q11=>?_
     exact tL ⟨ov0,ov1,cl,cl⟩ (by unfold Zth lt6;dsimp only;omega)
   ·exact tR trivial
def Za6v:Zsb→Prop
 | .L0 E0 E1 v5=>(Za1 E0)∧(Za1 E1)∧(0≤v5)∧(E0.Specs.length=E1.Specs.length)
def Z7l:Zsb→M6
 | .L0 E0 E1 v5=>(1,((E0.Specs.length:Int) - v5).toNat,1000000,0,0,0)
theorem Za6w(a0:Zt)(a1:Zt)(oa0:Za1 a0)(oa1:Za1 a1):Tot (Zanu a0 a1) (fun r=>True):=by
 unfold Zanu
 refine tX (Inv:=Za6v) (μ:=Z7l) (m:=(1000000,0,0,0,0,0)) ?_ ?_
 ·dsimp only [Zar9,LT.den]
  have q1:=oa0.2.2.2.1.1
  have q2:=oa1.2.2.2.1.1
  refine tN (fun h3=>?_) (fun h3=>?_)
  ·exact tR trivial
  ·exact tL ⟨oa0,oa1,cl,cl⟩ (by unfold Z7l lt6;dsimp only;omega)
 ·intro s hs
  cases s with
  | L0 E0 E1 v5=>
   obtain⟨O0,O1,cv5,i0⟩:=hs
   show Tot (Z6i E0 E1 v5).den _
   dsimp only [Z6i,LT.den]
   have q1:=O0.2.2.2.1.1
   refine tD (fun h2=>?_) (fun h2=>?_)
   ·refine tB (tI (by omega) (by omega)) (fun x3 h4=>?_)
    have oh4:Zas x3:=O0.2.2.2.1.2 x3 h4.1
    refine tB (tI (by omega) (by omega)) (fun x5 h6=>?_)
    have oh6:Zas x5:=O1.2.2.2.1.2 x5 h6.1
    refine tO (fun h7=>?_) (fun h7=>?_)
    ·exact tR trivial
    ·refine qw (v5+1) fun q8 q9=>?_
     exact tL ⟨O0,O1,cl,cl⟩ (by unfold Z7l lt6;dsimp only;omega)
   ·refine tE (fun h10=>?_) (fun h10=>?_)
    ·refine tF (fun h11=>?_) (fun h11=>?_)
     ·refine tB (Z3m E0.Mods E1.Mods O0.2.1 O1.2.1) (fun x12 h13=>?_)
      refine tF (fun h14=>?_) (fun h14=>?_)
      ·refine tF (fun h15=>?_) (fun h15=>?_)
       ·refine tF (fun h16=>?_) (fun h16=>?_)
        ·refine tF (fun h17=>?_) (fun h17=>?_)
         ·refine tF (fun h18=>?_) (fun h18=>?_)
          ·refine tB (Zaoo E0.Effects E1.Effects O0.2.2.2.2.1 O1.2.2.2.2.1) (fun x19 h20=>?_)
           refine tF (fun h21=>?_) (fun h21=>?_)
           ·exact tR trivial
           ·exact tR trivial
          ·exact tR trivial
         ·exact tR trivial
        ·exact tR trivial
       ·exact tR trivial
      ·exact tR trivial
     ·exact tR trivial
    ·exact tR trivial
theorem Za6x(a0:Zb)(a1:Zdg)(oa0:Zw a0)(oa1:Zin a1):Tot (Zanv a0 a1) (fun r=>True):=by
 unfold Zanv
 refine tZ ?_
 dsimp only [Zasb,LT.den]
 refine qw (a0.NextId - 1) fun q1 q2=>?_
 refine tB (Zdk a1.Id 1 (IntKind.wrap .i64 (a0.NextId - 1))) (fun x3 h4=>?_)
 have eh4_0:=h4
 refine tO (fun h5=>?_) (fun h5=>?_)
 ·exact tR trivial
 ·refine tB (Zdk a1.X 0 1000000) (fun x6 h7=>?_)
  have eh7_0:=h7
  refine tO (fun h8=>?_) (fun h8=>?_)
  ·exact tR trivial
  ·have q9:=oa1.2.1
   refine tD (fun h10=>?_) (fun h10=>?_)
   ·exact tR trivial
   ·refine tB (Zfm a0 a1.Control oa0) (fun x11 h12=>?_)
    have eh12_0:=h12
    refine tO (fun h13=>?_) (fun h13=>?_)
    ·exact tR trivial
    ·refine tB (Z86 a0 a1.Id oa0) (fun x14 h15=>?_)
     refine tE (fun h16=>?_) (fun h16=>?_)
     ·refine tB (Za6w a1.Ability (⟨0,(⟨0,0,0,0,0,0,0,([]:List UInt8),0,0,(⟨0,0⟩:Zd),(⟨0,0⟩:Zd),(⟨0,0⟩:Zd)⟩:Ze),([]:(List Zz)),(⟨(⟨0,0,(⟨0,0,0,0,0⟩:(A5 Int))⟩:Z1),false,false,0⟩:Zft),false,(⟨0,0,(⟨0,0,0,0,0,0,0,([]:List UInt8),0,0,(⟨0,0⟩:Zd),(⟨0,0⟩:Zd),(⟨0,0⟩:Zd)⟩:Ze)⟩:Zce),false,([]:(List Zr)),([]:(List Z9)),(⟨0,0,(⟨0,0,0,0,0,0,0,([]:List UInt8),0,0,(⟨0,0⟩:Zd),(⟨0,0⟩:Zd),(⟨0,0⟩:Zd)⟩:Ze),0,0,0,0⟩:Za6)⟩:Zt) oa1.1 ⟨(SzS.nil),SzL.nil,(SzS.nil),SzL.nil,SzL.nil,(SzS.nil)⟩) (fun x17 h18=>?_)
      refine tE (fun h19=>?_) (fun h19=>?_)
      ·refine tF (fun h20=>?_) (fun h20=>?_)
       ·refine tE (fun h21=>?_) (fun h21=>?_)
        ·refine tF (fun h22=>?_) (fun h22=>?_)
         ·exact tR trivial
         ·refine tB (Z0k a1.Ability oa1.1) (fun x23 h24=>?_)
          exact tR trivial
        ·exact tR trivial
       ·exact tR trivial
      ·exact tR trivial
     ·refine tE (fun h25=>?_) (fun h25=>?_)
      ·refine tO (fun h26=>?_) (fun h26=>?_)
       ·refine tB (Z0k a1.Ability oa1.1) (fun x27 h28=>?_)
        exact tR trivial
       ·exact tR trivial
      ·exact tR trivial
def Zbb8:Z1w→Prop
 | .L0 v0 v3=>((SzL 8 (fun _=>True)) v0)∧(0≤v3)∧(1≤v3)
def Zahx:Z1w→M6
 | .L0 v0 v3=>(1,((v0.length:Int) - v3).toNat,1000000,0,0,0)
theorem Zbb9(a0:(List Int))(oa0:(SzL 8 (fun _=>True)) a0):Tot (Za41 a0) (fun r=>True):=by
 unfold Za41
 refine tX (Inv:=Zbb8) (μ:=Zahx) (m:=(1000000,0,0,0,0,0)) ?_ ?_
 ·have lb_a0:=oa0.1
  dsimp only [Za4z,LT.den]
  exact tL ⟨oa0,cl,cl⟩ (by unfold Zahx lt6;dsimp only;omega)
 ·intro s hs
  cases s with
  | L0 v0 v3=>
   obtain⟨ov0,cv3,i0⟩:=hs
   have lb_v0:=ov0.1
   show Tot (Zafp v0 v3).den _
   dsimp only [Zafp,LT.den]
   have q1:=ov0.1
   refine tD (fun h2=>?_) (fun h2=>?_)
   ·refine qw (v3 - 1) fun q3 q4=>?_
    refine tB (tI (by omega) (by omega)) (fun x5 h6=>?_)
    refine tB (tI (by omega) (by omega)) (fun x7 h8=>?_)
    refine tD (fun h9=>?_) (fun h9=>?_)
    ·exact tR trivial
    ·refine qw (v3+1) fun q10 q11=>?_
     exact tL ⟨ov0,cl,cl⟩ (by unfold Zahx lt6;dsimp only;omega)
   ·exact tR trivial
end Go.PW
