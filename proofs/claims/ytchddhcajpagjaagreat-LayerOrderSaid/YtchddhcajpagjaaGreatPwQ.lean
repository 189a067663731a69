import Derived.Test.YtchddhcajpagjaaGreatPwP
set_option linter.all false
namespace Go.PW
open Go.RowKit
inductive Kf where
 | seq (c:Code)
 | blk (id:Nat)
 | loop (c:Code)
 | scp
inductive Cfg where
 | code (c:Code) (K:List Kf)
 | head (c:Code) (K:List Kf)
 | done (e:Exit)
def PWL(P:Program)(c:Code)(Q:Exit->St->Prop)(st:St):Prop:=
 ∀ G a w,Rel G st a w->∀ b k cs,∃ e a' w',(∃ st',Q e st'/\Rel G st' a' w')/\Arrives P (lone (b.at a (.code c :: .inLoop c::k)) cs w) b k cs e a' w'
theorem PW.loopHead{P:Program}{c:Code}{Q:Exit->St->Prop}{st:St}(h:PWL P c Q st):PW P (.loop c) Q st:=by
 intro G a w hr b k cs
 obtain⟨e,a',w',hq,harr⟩:=h G a w hr b k cs
 exact⟨e,a',w',hq,.of_steps (.one step_loop) harr⟩
theorem PWL.round{P:Program}{c:Code}{Q:Exit->St->Prop}{st:St}(h:PW P c (Zz1 (PWL P c Q) Q) st):PWL P c Q st:=by
 intro G a w hr b k cs
 obtain⟨e,a₁,w₁,⟨st',hq,hr'⟩,harr⟩:=h G a w hr b (.inLoop c::k) cs
 cases e with
 | normal=>
  obtain⟨e₂,a₂,w₂,hq₂,harr₂⟩:=hq G a₁ w₁ hr' b k cs
  exact⟨e₂,a₂,w₂,hq₂,.of_steps (Steps.trans harr (.one step_inLoop)) harr₂⟩
 | exit id=>exact⟨_,a₁,w₁,⟨st',hq,hr'⟩,.pass (x := .inLoop c) rfl (fun _ _ => .inl (by simp)) harr⟩
 | goto l=>exact⟨_,a₁,w₁,⟨st',hq,hr'⟩,.pass (x := .inLoop c) rfl (fun _ _ => .inl (by simp)) harr⟩
 | ret=>exact⟨_,a₁,w₁,⟨st',hq,hr'⟩,.pass (x := .inLoop c) rfl (fun _ _ => .inl (by simp)) harr⟩
 | panic ch=>exact⟨_,a₁,w₁,⟨st',hq,hr'⟩,.pass (x := .inLoop c) rfl (fun _ _ => .inl (by simp)) harr⟩
 | outgrown=>exact⟨_,a₁,w₁,⟨st',hq,hr'⟩,.pass (x := .inLoop c) rfl (fun _ _ => .inl (by simp)) harr⟩
def post(P:Program):List Kf->(Exit->St->Prop)->Exit->St->Prop
 | [],R=>R
 | .seq c::K,R=>Zz1 (PW P c (post P K R)) (post P K R)
 | .blk id::K,R=>Zzx id (post P K R)
 | .loop c::K,R=>Zz1 (PWL P c (post P K R)) (post P K R)
 | .scp::K,R=>NoGo (post P K R)
def Cfg.holds(P:Program)(R:Exit->St->Prop):Cfg->St->Prop
 | .code c K,st=>PW P c (post P K R) st
 | .head c K,st=>PWL P c (post P K R) st
 | .done e,st=>R e st
def Zwh(id:Nat):List Kf->Option (List Kf)
 | []=>none
 | .blk i::K=>bif Nat.beq i id then some K else Zwh id K
 | _::K=>Zwh id K
theorem Zwi{P:Program}{R:Exit->St->Prop}{id:Nat}{st:St}:∀ {K K':List Kf},Zwh id K=some K'->post P K' R .normal st->post P K R (.exit id) st
 | [],K',h,_=>by cases h
 | .blk i::K,K',h,hp=>by
  simp only [Zwh] at h
  simp only [post,Zzx]
  cases hb:Nat.beq i id with
  | true=>
   have:i=id:=(Z1 _ _).1 hb
   subst this
   simp only [hb,cond_true,Option.some.injEq] at h
   subst h
   simpa using hp
  | false=>
   simp only [hb,cond_false] at h
   have hne:¬ id=i:=fun e=>by subst e;simp at hb
   simp only [hne,if_false]
   exact Zwi h hp
 | .seq c::K,K',h,hp=>by simp only [Zwh] at h;simp only [post,Zz1];exact Zwi h hp
 | .loop c::K,K',h,hp=>by simp only [Zwh] at h;simp only [post,Zz1];exact Zwi h hp
 | .scp::K,K',h,hp=>by simp only [Zwh] at h;simp only [post,NoGo];exact Zwi h hp
theorem Zabe{P:Program}{R:Exit->St->Prop}{st:St}:∀ {K:List Kf},R .ret st->post P K R .ret st
 | [],h=>h
 | .blk i::K,h=>by simp only [post,Zzx];exact Zabe h
 | .seq c::K,h=>by simp only [post,Zz1];exact Zabe h
 | .loop c::K,h=>by simp only [post,Zz1];exact Zabe h
 | .scp::K,h=>by simp only [post,NoGo];exact Zabe h
abbrev Er:=Option (List Prop×Cfg×St)
def ahead(ps:List Prop):Er->Er
 | some (qs,g,st)=>some (ps++qs,g,st)
 | none=>none
section
variable {P:Program} {T:TS} {R:Exit->St->Prop}
theorem Zaic{c:Code}{Q:Exit->St->Prop}{st st':St}(hw:Wk st st')(h:PWL P c Q st'):PWL P c Q st:=fun G a w hr=>h G a w (hw G a w hr)
def Zjv(R:Exit->St->Prop):Exit->St->Prop:=fun e st=>∃ st',Wk st st'/\R e st'
theorem PW.Zg3{c:Code}{st:St}(h:PW P c (Zjv R) st):PW P c R st:=by
 intro G a w hr
 refine wp_mono (h G a w hr) ?_
 rintro e a' w' ⟨st',⟨st2,hw,hq⟩,hr'⟩
 exact⟨st2,hq,hw _ _ _ hr'⟩
def nav:List Nat->Code->List Kf->Option Cfg
 | [],.loop c,K=>some (.head c K)
 | [],c,K=>some (.code c K)
 | d::ds,c,K=>
  match c with
  | .seq a b=>bif Nat.beq d 0 then nav ds a (.seq b::K) else nav ds b K
  | .cond _ a b=>bif Nat.beq d 2 then nav ds a K else nav ds b K
  | .block id body=>nav ds body (.blk id::K)
  | .loop body=>nav ds body (.loop body::K)
  | .scope body=>nav ds body (.scp::K)
  | _=>none
def Za3l(rs:List RV)(st:St):Option (List Prop×PV):=
 match Z2f st rs with
 | some [p]=>Zec st.Z p
 | some ps=>match Zji st.Z ps with | some (cs,ds)=>some (cs,.tup ds) | none=>none
 | none=>none
theorem Zbag{rs:List RV}{st:St}{ps:List Prop}{res:PV}(h:Za3l rs st=some (ps,res))(hc:Zak ps):Zakb rs [] res st:=by
 unfold Za3l at h
 split at h
 .rename_i p hp
  exact⟨[p],hp,Zxv.nil _,Zaoo (fun _=>rfl) h hc⟩
 .rename_i qs hn hq
  split at h
  .rename_i cs ds hd
   cases h
   refine⟨qs,hq,Zxv.nil _,?_⟩
   unfold Zatz
   split
   .rename_i p;exact (hn p rfl).elim
   .exact⟨ds,rfl,Zrt (fun _=>rfl) hd hc⟩
  .cases h
 .cases h
mutual
theorem Frz.refl{Z Z':List (Nat×Blk)}:∀ p:PV,Frz Z Z' p p
 | .t _=>by simp [Frz]
 | .nils=>by simp [Frz]
 | .osl _ _=>by simp [Frz]
 | .bptr _ _=>by simp [Frz]
 | .rptr _ _ _ _=>by simp [Frz]
 | .vptr _=>by simp [Frz]
 | .agg cs=>by simp only [Frz];exact⟨cs,rfl,Zaw.refl cs⟩
 | .tup cs=>by simp only [Frz];exact⟨cs,rfl,Zaw.refl cs⟩
 | .fn _ cs=>by simp only [Frz];exact⟨cs,rfl,Zaw.refl cs⟩
 | .own _ _=>by simp [Frz]
theorem Zaw.refl{Z Z':List (Nat×Blk)}:∀ ps:List PV,Zaw Z Z' ps ps
 | []=>by simp [Zaw]
 | p::ps=>by simp only [Zaw];exact⟨p,ps,rfl,Frz.refl p,Zaw.refl ps⟩
end
def Zavn(rs:List RV)(ls:List Nat)(st:St):Option (List (Nat×Blk)×PV):=
 match Zmt st.Z ls,Z2f st rs with
 | some Z',some [p]=>some (Z',p)
 | some Z',some ps=>some (Z',.tup ps)
 | _,_=>none
theorem Za6t{rs:List RV}{ls:List Nat}{st:St}{Z':List (Nat×Blk)}{res:PV}(h:Zavn rs ls st=some (Z',res)):Zakb rs Z' res st:=by
 have hsub:∀ {Z':List (Nat×Blk)},Zmt st.Z ls=some Z'->Zxv st.Z Z':=fun hp l o ho=>⟨o,Zi1 hp l o ho,by cases o with
  | row k es=>rfl
  | mat k q es=>rfl
  | map ag es=>rfl
  | prow k i es cs=>exact⟨cs,rfl,Zaw.refl cs⟩
  | box cs=>exact⟨cs,rfl,Zaw.refl cs⟩⟩
 unfold Zavn at h
 split at h
 .rename_i s2 p hσ hp
  simp only [Option.some.injEq,Prod.mk.injEq] at h
  obtain⟨rfl,rfl⟩:=h
  exact⟨[p],hp,hsub hσ,Frz.refl p⟩
 .rename_i s2 qs hn hσ hq
  simp only [Option.some.injEq,Prod.mk.injEq] at h
  obtain⟨rfl,rfl⟩:=h
  refine⟨qs,hq,hsub hσ,?_⟩
  unfold Zatz
  split
  .rename_i p;exact (hn p rfl).elim
  .exact⟨qs,rfl,Zaw.refl qs⟩
 .cases h
end
end Go.PW
