import Derived.Test.YtchddhcajpagjaaGreatPwR
import Derived.KernelRfl
set_option linter.all false
namespace Go.PW
open Go.RowKit
inductive LT (S R:Type):Type 1 where
 | ret (r:R) (ds:List Orc)
 | go (s:S) (ds:List Orc)
 | jn (k:Nat) (s:S) (ds:List Orc) (t:LT S R)
 | br (b:Bool) (t e:LT S R)
 | cs (b:Bool) (t e:LT S R)
 | op {α:Type} (o:Option α) (xs:α->List Orc) (fs gs:α->List Prop) (h:∀ x,o=some x->Zak (fs x)/\Zak (gs x)) (k:α->LT S R)
 | ev (xs:List Orc) (fs:List Prop) (h:Zak fs) (t:LT S R)
 | us (ns:List Nat) (t:LT S R)
 | kn (ns:List Nat) (t:LT S R)
 | kg (n:Nat) (t:LT S R)
 | no
def LT.den{S R:Type}:LT S R->Option (S ⊕ R)
 | .ret r _=>some (.inr r)
 | .go s _=>some (.inl s)
 | .jn _ _ _ t=>t.den
 | .br b t e=>bif b then t.den else e.den
 | .cs b t e=>bif b then t.den else e.den
 | .op o _ _ _ _ k=>o.bind fun x=>(k x).den
 | .ev _ _ _ t=>t.den
 | .us _ t=>t.den
 | .kn _ t=>t.den
 | .kg _ t=>t.den
 | .no=>none
inductive E:Type 2 where
 | done
 | fail
 | eq {α:Type} (a b:α) (r:E)
 | teq {α:Type 1} (a b:α) (r:E)
 | two (x y:E)
 | all {α:Type} (k:α->E)
inductive XE:Type 2 where
 | done
 | bad (b:Bool)
 | eq {α:Type} (a:α) (r:XE)
 | teq {α:Type 1} (a:α) (r:XE)
 | two (x y:XE)
 | all {α:Type} (k:α->XE)
noncomputable def E.l(e:E):XE:=E.rec (motive:=fun _=>XE) .done (.bad true) (fun a _ _ r => .eq a r) (fun a _ _ r => .teq a r) (fun _ _ x y => .two x y) (fun _ k => .all k) e
noncomputable def E.r(e:E):XE:=E.rec (motive:=fun _=>XE) .done (.bad false) (fun _ b _ r => .eq b r) (fun _ b _ r => .teq b r) (fun _ _ x y => .two x y) (fun _ k => .all k) e
def E.ok:E->Prop
 | .done=>True
 | .fail=>False
 | .eq a b r=>a=b/\r.ok
 | .teq a b r=>a=b/\r.ok
 | .two x y=>x.ok/\y.ok
 | .all k=>∀ x,(k x).ok
theorem E.sound:∀ e:E,e.l=e.r->e.ok
 | .done,_=>trivial
 | .fail,h=>by cases h
 | .eq a b r,h=>by
  have h:XE.eq a r.l=XE.eq b r.r:=h
  simp only [XE.eq.injEq,heq_eq_eq,true_and] at h
  exact⟨h.1,E.sound r h.2⟩
 | .teq a b r,h=>by
  have h:XE.teq a r.l=XE.teq b r.r:=h
  simp only [XE.teq.injEq,heq_eq_eq,true_and] at h
  exact⟨h.1,E.sound r h.2⟩
 | .two x y,h=>by
  have h:XE.two x.l y.l=XE.two x.r y.r:=h
  simp only [XE.two.injEq] at h
  exact⟨E.sound x h.1,E.sound y h.2⟩
 | .all k,h=>by
  have h:XE.all (fun x=>(k x).l)=XE.all (fun x=>(k x).r):=h
  simp only [XE.all.injEq,heq_eq_eq,true_and] at h
  exact fun x=>E.sound (k x) (congrFun h x)
def cds:List Prop->List Prop->(List Prop->E)->E
 | [],fs,k=>k fs
 | p::ps,f::fs,k => .eq p f (cds ps fs k)
 | _::_,[],_ => .fail
theorem Zwn:∀ {ps fs:List Prop} {k:List Prop->E},(cds ps fs k).ok->Zak fs->∃ fs',Zak ps/\Zak fs'/\(k fs').ok
 | [],fs,k,h,hf=>⟨fs,trivial,hf,h⟩
 | p::ps,f::fs,k,h,hf=>by
  obtain⟨rfl,h⟩:=h
  obtain⟨fs',h1,h2,h3⟩:=Zwn h hf.2
  exact⟨fs',⟨hf.1,h1⟩,h2,h3⟩
 | _::_,[],_,h,_=>h.elim
inductive Sg where
 | cnd (e:Bool) (a b:Code) (K:List Kf)
 | at_ (g:Cfg)
abbrev Esg:=Option (List Prop×List Orc×Sg×St)
def Zavt(ps:List Prop):Esg->Esg
 | some (qs,xs,g,st)=>some (ps++qs,xs,g,st)
 | none=>none
def Zn1(P:Program)(T:TS):Nat->Option Code->List Kf->List Orc->Option Nat->St->Esg
 | 0,_,_,_,_,_=>none
 | n+1,none,K,xs,sp,st=>
  match K with
  | []=>some ([],xs,.at_ (.done .normal),st)
  | .seq c::K=>
   match sp,xs with
   | some 0,[]=>some ([],xs,.at_ (.code c K),st)
   | some (k+1),[]=>Zn1 P T n (some c) K xs (some k) st
   | sp,xs=>Zn1 P T n (some c) K xs sp st
  | .blk _::K=>Zn1 P T n none K xs sp st
  | .scp::K=>Zn1 P T n none K xs sp st
  | .loop c::K=>some ([],xs,.at_ (.head c K),st)
 | n+1,some c,K,xs,sp,st=>
  match c with
  | .skip=>Zn1 P T n none K xs sp st
  | .label _=>Zn1 P T n none K xs sp st
  | .region id ops draw=>
   match Zaib P T id ops draw xs st with
   | some (ps,xs',st')=>Zavt ps (Zn1 P T n none K xs' sp st')
   | none=>none
  | .seq a b=>Zn1 P T n (some a) (.seq b::K) xs sp st
  | .cond (.tmp t) a b=>
   match get st.tm t with
   | some (.t (.bool e))=>some ([],xs,.cnd e a b K,st)
   | _=>none
  | .cond (.const (.bool v)) a b=>Zn1 P T n (some (bif v then a else b)) K xs sp st
  | .block id body=>Zn1 P T n (some body) (.blk id::K) xs sp st
  | .loop body=>some ([],xs,.at_ (.head body K),st)
  | .scope body=>Zn1 P T n (some body) (.scp::K) xs sp st
  | .exit id=>
   match Zwh id K with
   | some K'=>Zn1 P T n none K' xs sp st
   | none=>none
  | .ret=>some ([],xs,.at_ (.done .ret),st)
  | _=>none
def seg(P:Program)(T:TS)(g:Cfg)(xs:List Orc)(sp:Option Nat)(st:St):Esg:=
 match g with
 | .code c K=>Zn1 P T 400 (some c) K xs sp st
 | .head c K=>Zn1 P T 400 (some c) (.loop c::K) xs sp st
 | .done _=>none
section
variable {P:Program} {T:TS} {R:Exit->St->Prop}
theorem Za3p{qs ps:List Prop}{xs:List Orc}{r:Esg}{g:Sg}{st:St}(h:Zavt qs r=some (ps,xs,g,st)):∃ ps',ps=qs++ps'/\r=some (ps',xs,g,st):=by
 unfold Zavt at h
 split at h
 .cases h;exact⟨_,rfl,rfl⟩
 .cases h
def Sg.holds(P:Program)(R:Exit->St->Prop)(st:St):Sg->Prop
 | .cnd e a b K=>PW P (bif e then a else b) (post P K R) st
 | .at_ g=>g.holds P R st
theorem Zh0(hm:P.follows .mixedOrders=true)(hT:TOK P T):∀ (n:Nat) (oc:Option Code) (K:List Kf) (xs:List Orc) (sp:Option Nat) (st:St) {xs':List Orc} {st':St} {g:Sg} {ps:List Prop},
 Zn1 P T n oc K xs sp st=some (ps,xs',g,st')->Zak ps->g.holds P (Zjv R) st' ->
  match oc with
  | some c=>PW P c (post P K (Zjv R)) st
  | none=>post P K (Zjv R) .normal st
 | 0,oc,K,xs,sp,st,xs',st',g,ps,h,_,_=>by simp [Zn1] at h
 | n+1,none,K,xs,sp,st,xs',st',g,ps,h,hc,hg=>by
  simp only [Zn1] at h
  simp only
  split at h
  .cases h;exact hg
  .simp only [post,Zz1]
   split at h
   .cases h;exact hg
   .exact Zh0 hm hT n (some _) _ _ _ _ h hc hg
   .exact Zh0 hm hT n (some _) _ _ _ _ h hc hg
  .simp only [post,Zzx]
   exact Zh0 hm hT n none _ _ _ _ h hc hg
  .simp only [post,NoGo]
   exact Zh0 hm hT n none _ _ _ _ h hc hg
  .cases h;simp only [post,Zz1];exact hg
 | n+1,some c,K,xs,sp,st,xs',st',g,ps,h,hc,hg=>by
  simp only [Zn1] at h
  simp only
  split at h
  .exact PW.skip (Zh0 hm hT n none _ _ _ _ h hc hg)
  .exact PW.label (Zh0 hm hT n none _ _ _ _ h hc hg)
  .split at h
   .rename_i ps1 xs1 st1 h1
    obtain⟨ps2,rfl,h2⟩:=Za3p h
    obtain⟨c1,c2⟩:=Zx.1 hc
    exact Zaz5 hm hT h1 c1 (Zh0 hm hT n none _ _ _ _ h2 c2 hg)
   .cases h
  .exact PW.seq (by
    have:=Zh0 hm hT n (some _) _ _ _ _ h hc hg
    simpa only [post] using this)
  .split at h
   .rename_i e he
    cases h
    have hg:PW P (bif e then _ else _) (post P K (Zjv R)) st:=hg
    refine PW.cond rfl he (fun hb=>?_) (fun hb=>?_)
    .subst hb;exact hg
    .subst hb;exact hg
   .cases h
  .rename_i v a b
   have:=Zh0 hm hT n (some _) _ _ _ _ h hc hg
   exact PW.condConst (fun hb=>by subst hb;exact this) (fun hb=>by subst hb;exact this)
  .exact PW.block (by
    have:=Zh0 hm hT n (some _) _ _ _ _ h hc hg
    simpa only [post] using this)
  .cases h;exact PW.loopHead hg
  .exact PW.scope (by
    have:=Zh0 hm hT n (some _) _ _ _ _ h hc hg
    simpa only [post] using this)
  .split at h
   .rename_i K' hu
    exact PW.exit (Zwi hu (Zh0 hm hT n none _ _ _ _ h hc hg))
   .cases h
  .cases h
   obtain⟨s2,hw2,hr⟩:=hg
   exact PW.ret (Zabe ⟨s2,hw2,hr⟩)
  .cases h
theorem Zakx(hm:P.follows .mixedOrders=true)(hT:TOK P T){g:Cfg}{xs xs':List Orc}{sp:Option Nat}{st st':St}{z:Sg}{ps:List Prop}(h:seg P T g xs sp st=some (ps,xs',z,st'))(hc:Zak ps)(hg:z.holds P (Zjv R) st'):g.holds P (Zjv R) st:=by
 unfold seg at h
 split at h
 .exact Zh0 hm hT _ (some _) _ _ _ _ h hc hg
 .have:=Zh0 hm hT _ (some _) _ _ _ _ h hc hg
  exact PWL.round (by simpa only [post] using this)
 .cases h
theorem Cfg.weaken{g:Cfg}{st st':St}(hw:Wk st st')(h:g.holds P (Zjv R) st'):g.holds P (Zjv R) st:=by
 cases g with
 | code c K=>exact PW.weaken hw h
 | head c K=>exact Zaic hw h
 | done e=>obtain⟨s,h1,h2⟩:=h;exact⟨s,hw.trans h1,h2⟩
end
structure LF (S R:Type) where
 f:Nat
 rs:List RV
 own:Bool
 dirs:S->List Nat
 stf:S->PW.St
 sr:R->List (Nat×Blk)
 res:R->PV
 body:S->LT S R
section
variable {S R:Type}
def Zabl(P:Program)(f:Nat):Code:=((P.funcs[f]?).bind (·.body)).getD .skip
def LF.cfg(F:LF S R)(P:Program)(s:S):Cfg:=(nav (F.dirs s) (Zabl P F.f) []).getD (.done .normal)
noncomputable def LF.step(F:LF S R)(s:S):Option (S ⊕ R):=(F.body s).den
noncomputable def LF.run(F:LF S R)(t:LT S R):Option R:=t.den.bind (Zhm F.step)
def Z70{α:Type}:List (Nat×α)->List Nat
 | []=>[]
 | (k,_)::r=>k::Z70 r
def kgo(P:Program)(T:TS)(kn:List (Bool×Bool)):List Nat->Cfg->List Orc->List Prop->PW.St->(Cfg->List Orc->List Prop->PW.St->E)->E
 | [],g,xs,fs,st,k=>k g xs fs st
 | n::ns,g,xs,fs,st,k=>
  match seg P T g xs none st with
  | some (ps,xs',.cnd c a b K,st')=>cds ps fs fun fs'=>
   match n with
   | 0=>bif c then kgo P T kn ns (.code a K) xs' fs' st' k else kgo P T kn ns (.code b K) xs' fs' st' k
   | i+1=>
    match kn[i]? with
    | some (d,v) => .eq c d (bif v then kgo P T kn ns (.code a K) xs' fs' st' k else kgo P T kn ns (.code b K) xs' fs' st' k)
    | none => .fail
  | _ => .fail
def endE(P:Program)(T:TS)(sp:Option Nat)(g:Cfg)(xs:List Orc)(fs:List Prop)(st:PW.St)(ds:List Orc)(g1:Cfg)(st1:PW.St)(rest:E):E:=
 match seg P T g xs sp st with
 | some (ps,[],.at_ g',st')=>cds ps fs fun fs'=>
  match Zmt st'.tm (Z70 st1.tm) with
  | some tm=>
   match Zbv ds ⟨st'.n,tm,st'.Z⟩ with
   | some (qs,[],st2)=>cds qs fs' fun _=>
    match Zmt st2.tm (Z70 st1.tm),Zmt st2.Z (Z70 st1.Z) with
    | some tm2,some Z => .eq (g',st2.n,tm2,Z) (g1,st1.n,st1.tm,st1.Z) rest
    | _,_ => .fail
   | _ => .fail
  | none => .fail
 | _ => .fail
def Za3r:Exit->Bool
 | .ret=>true
 | .normal=>true
 | _=>false
def retE(P:Program)(T:TS)(F:LF S R)(g:Cfg)(xs:List Orc)(fs:List Prop)(st:PW.St)(ds:List Orc)(r:R):E:=
 match seg P T g xs none st with
 | some (ps,[],.at_ (.done e),st')=>bif Za3r e then cds ps fs fun fs'=>
  match Zbv ds st' with
  | some (qs,[],st2)=>cds qs fs' fun fs2=>
   bif F.own then
    match Zavn F.rs (Z70 (F.sr r)) st2 with
    | some (Z,p) => .eq (Z,p) (F.sr r,F.res r) .done
    | none => .fail
   else
    match Za3l F.rs st2 with
    | some (q2,p)=>cds q2 fs2 fun _ => .eq (([]:List (Nat×Blk)),p) (F.sr r,F.res r) .done
    | none => .fail
  | _ => .fail
  else .fail
 | _ => .fail
def brE(P:Program)(T:TS)(g:Cfg)(xs:List Orc)(fs:List Prop)(st:PW.St)(b:Bool)(x y:Cfg->List Orc->List Prop->PW.St->E):E:=
 match seg P T g xs none st with
 | some (ps,xs',.cnd c A B K,st')=>cds ps fs fun fs' => .eq c b (.two (x (.code A K) xs' fs' st') (y (.code B K) xs' fs' st'))
 | _ => .fail
structure Kn where
 bs:List (Bool×Bool)
 gs:List Prop
structure Kn.OK (k:Kn):Prop where
 b:∀ p∈k.bs,p.1=p.2
 g:∀ p∈k.gs,p
theorem Zavu:∀ {ps:List Prop},Zak ps->∀ p∈ps,p
 | p::ps,h,q,hq=>by
  rcases List.mem_cons.1 hq with rfl | hq
  .exact h.1
  .exact Zavu h.2 q hq
def Zaky(gs:List Prop):List Nat->Option (List Prop)
 | []=>some []
 | n::ns=>
  match gs[n]?,Zaky gs ns with
  | some p,some ps=>some (p::ps)
  | _,_=>none
theorem Zavv{gs:List Prop}(h:∀ p∈gs,p):∀ {ns:List Nat} {ps:List Prop},Zaky gs ns=some ps->Zak ps
 | [],ps,hp=>by cases hp;trivial
 | n::ns,ps,hp=>by
  simp only [Zaky] at hp
  split at hp
  .rename_i p qs h1 h2
   cases hp
   exact⟨h p (List.mem_of_getElem? h1),Zavv h h2⟩
  .cases hp
theorem Kn.OK.br{k:Kn}(h:k.OK)(b:Bool):(Kn.mk (k.bs++[(b,b)]) k.gs).OK:=⟨fun p hp=>by
 rcases List.mem_append.1 hp with hp | hp
 .exact h.b p hp
 .rw [List.mem_singleton.1 hp],h.g⟩
theorem Kn.OK.op{k:Kn}(h:k.OK){gs:List Prop}(hg:Zak gs):(Kn.mk k.bs (k.gs++gs)).OK:=⟨h.b,fun p hp=>by
 rcases List.mem_append.1 hp with hp | hp
 .exact h.g p hp
 .exact Zavu hg p hp⟩
noncomputable def chk(P:Program)(T:TS)(F:LF S R)(t:LT S R):Cfg->List Orc->List Prop->Kn->PW.St->E:=
 LT.rec (motive:=fun _=>Cfg->List Orc->List Prop->Kn->PW.St->E)
  (fun r ds g xs fs _ st=>retE P T F g xs fs st ds r)
  (fun s ds g xs fs _ st=>endE P T none g xs fs st ds (F.cfg P s) (F.stf s) .done)
  (fun k s ds t _ g xs fs _ st=>endE P T (some k) g xs fs st ds (F.cfg P s) (F.stf s) (.teq t (F.body s) .done))
  (fun b _ _ x y g xs fs kn st=>brE P T g xs fs st b (fun g xs fs st=>x g xs fs ⟨kn.bs++[(b,true)],kn.gs⟩ st) (fun g xs fs st=>y g xs fs ⟨kn.bs++[(b,false)],kn.gs⟩ st))
  (fun b _ _ x y g xs fs kn st => .two (x g xs fs ⟨kn.bs++[(b,true)],kn.gs⟩ st) (y g xs fs ⟨kn.bs++[(b,false)],kn.gs⟩ st))
  (fun _ X Fs Gs _ _ k g xs fs kn st => .all fun x=>k x g (xs++X x) (fs++Fs x) ⟨kn.bs,kn.gs++Gs x⟩ st)
  (fun X Fs _ _ k g xs fs kn st=>k g (xs++X) (fs++Fs) kn st)
  (fun ns _ k g xs fs kn st=>match Zaky kn.gs ns with | some qs=>k g xs (fs++qs) kn st | none => .fail)
  (fun ns _ k g xs fs kn st=>kgo P T kn.bs ns g xs fs st fun g xs fs st=>k g xs fs kn st)
  (fun n _ k g xs fs kn st=>match kn.bs[n]? with | some (d,v)=>k g (xs++[.br v]) (fs++[d=v]) kn st | none => .fail)
  (fun _ _ _ _ _ => .done)
  t
section
variable {P:Program} {T:TS} {Q:Exit->PW.St->Prop}
theorem Zabm(hm:P.follows .mixedOrders=true)(hT:TOK P T){kn:List (Bool×Bool)}(hk:∀ p∈kn,p.1=p.2){k:Cfg->List Orc->List Prop->PW.St->E}(H:∀ g xs fs st,(k g xs fs st).ok->Zak fs->g.holds P (Zjv Q) st) :
 ∀ (ns:List Nat) (g:Cfg) (xs:List Orc) (fs:List Prop) (st:PW.St),(kgo P T kn ns g xs fs st k).ok->Zak fs->g.holds P (Zjv Q) st
 | [],g,xs,fs,st,h,hf=>H g xs fs st h hf
 | n::ns,g,xs,fs,st,h,hf=>by
  simp only [kgo] at h
  split at h
  .rename_i ps xs' c a b K st' hs
   obtain⟨fs',h1,h2,h3⟩:=Zwn h hf
   refine Zakx hm hT hs h1 ?_
   show PW P (bif c then a else b) (post P K (Zjv Q)) st'
   split at h3
   .cases c with
    | true=>exact Zabm hm hT hk H ns _ _ _ _ h3 h2
    | false=>exact Zabm hm hT hk H ns _ _ _ _ h3 h2
   .split at h3
    .rename_i d v hd
     obtain⟨rfl,h3⟩:=h3
     have:c=v:=hk _ (List.mem_of_getElem? hd)
     subst this
     cases c with
     | true=>exact Zabm hm hT hk H ns _ _ _ _ h3 h2
     | false=>exact Zabm hm hT hk H ns _ _ _ _ h3 h2
    .exact h3.elim
  .exact h.elim
theorem Za1u(hm:P.follows .mixedOrders=true)(hT:TOK P T){sp:Option Nat}{g g1:Cfg}{xs:List Orc}{fs:List Prop}{st st1:PW.St}{ds:List Orc}{rest:E}(h:(endE P T sp g xs fs st ds g1 st1 rest).ok)(hf:Zak fs):(g1.holds P (Zjv Q) st1->g.holds P (Zjv Q) st)/\rest.ok:=by
 unfold endE at h
 split at h
 .rename_i ps g' st' hs
  obtain⟨fs',h1,h2,h3⟩:=Zwn h hf
  split at h3
  .rename_i tm ht
   split at h3
   .rename_i qs st2 hd
    obtain⟨fs2,h4,_,h5⟩:=Zwn h3 h2
    split at h5
    .rename_i tm2 Z ht2 hσ
     obtain⟨h6,h7⟩:=h5
     refine⟨fun hg=>Zakx hm hT hs h1 (show g'.holds P (Zjv Q) st' from ?_),h7⟩
     simp only [Prod.mk.injEq] at h6
     obtain⟨rfl,e1,e2,e3⟩:=h6
     have hp:Zmt st'.Z (Z70 st'.Z)=Zmt st'.Z (Z70 st'.Z):=rfl
     have w1:Wk st' ⟨st'.n,tm,st'.Z⟩:=fun _ _ _ ⟨β,h⟩=>⟨β,h.sub (Nat.le_refl _) (fun i p hp=>⟨Zi1 ht i p hp,(h.tm i p (Zi1 ht i p hp)).1⟩) (fun l o ho=>ho)⟩
     have w2:=Zc2 _ _ hd h4
     have w3:Wk st2 ⟨st2.n,tm2,Z⟩:=fun _ _ _ ⟨β,h⟩=>⟨β,h.sub (Nat.le_refl _) (fun i p hp=>⟨Zi1 ht2 i p hp,(h.tm i p (Zi1 ht2 i p hp)).1⟩) (fun l o ho=>Zi1 hσ l o ho)⟩
     have e:(⟨st2.n,tm2,Z⟩:PW.St)=st1:=by rw [e1,e2,e3]
     exact Cfg.weaken ((w1.trans w2).trans w3) (e▸hg)
    .exact h5.elim
   .exact h3.elim
  .exact h3.elim
 .exact h.elim
theorem Zbeu(hm:P.follows .mixedOrders=true)(hT:TOK P T){F:LF S R}{g:Cfg}{xs:List Orc}{fs:List Prop}{st:PW.St}{ds:List Orc}{r:R}(h:(retE P T F g xs fs st ds r).ok)(hf:Zak fs):g.holds P (Zjv (Zz4 F.rs (F.sr r) (F.res r))) st:=by
 unfold retE at h
 split at h
 .rename_i ps e st' hs
  have he:Za3r e=true:=by cases hb:Za3r e with | true=>rfl | false=>rw [hb] at h;exact h.elim
  rw [he,cond_true] at h
  have hR:∀ st2,Zakb F.rs (F.sr r) (F.res r) st2->Zz4 F.rs (F.sr r) (F.res r) e st2:=fun st2 h=>by
   cases e<;>first | exact h | cases he
  obtain⟨fs',h1,h2,h3⟩:=Zwn h hf
  split at h3
  .rename_i qs st2 hd
   obtain⟨fs2,h4,h6,h5⟩:=Zwn h3 h2
   refine Zakx hm hT hs h1 (show Zjv (Zz4 F.rs (F.sr r) (F.res r)) e st' from ?_)
   refine⟨st2,Zc2 _ _ hd h4,hR st2 ?_⟩
   cases ho:F.own with
   | true=>
    simp only [ho,cond_true] at h5
    split at h5
    .rename_i Z p hr
     have:=Za6t hr
     obtain⟨h7,_⟩:=h5
     simp only [Prod.mk.injEq] at h7
     rw [h7.1,h7.2] at this
     exact this
    .exact h5.elim
   | false=>
    simp only [ho,cond_false] at h5
    split at h5
    .rename_i q2 p hr
     obtain⟨_,h7,_,h8⟩:=Zwn h5 h6
     have:=Zbag hr h7
     obtain⟨h9,_⟩:=h8
     simp only [Prod.mk.injEq] at h9
     rw [h9.1,h9.2] at this
     exact this
    .exact h5.elim
  .exact h3.elim
 .exact h.elim
theorem Za62{ps:List Prop}{p:Prop}(h:Zak ps)(hp:p):Zak (ps++[p]):=Zx.2 ⟨h,hp,trivial⟩
theorem Za63(hm:P.follows .mixedOrders=true)(hT:TOK P T)(F:LF S R)(J:∀ s,(chk P T F (F.body s) (F.cfg P s) [] [] ⟨[],[]⟩ (F.stf s)).ok){r:R} :
 ∀ (t:LT S R) (g:Cfg) (xs:List Orc) (fs:List Prop) (kn:Kn) (st:PW.St) (y:S ⊕ R),(chk P T F t g xs fs kn st).ok->Zak fs->kn.OK->t.den=some y ->
  Ok P F.rs F.sr F.res (F.cfg P) F.stf r y->g.holds P (Zjv (Zz4 F.rs (F.sr r) (F.res r))) st:=by
 intro t
 induction t with
 | ret r' ds=>
  intro g xs fs kn st y h hf hk hd hy
  cases hd
  have hy:r'=r:=hy
  subst hy
  exact Zbeu hm hT h hf
 | go s ds=>
  intro g xs fs kn st y h hf hk hd hy
  cases hd
  exact (Za1u hm hT h hf).1 hy
 | jn k s ds t ih=>
  intro g xs fs kn st y h hf hk hd hy
  have h2:=Za1u (Q:=Zz4 F.rs (F.sr r) (F.res r)) hm hT h hf
  refine h2.1 (ih _ [] [] ⟨[],[]⟩ _ y ?_ trivial ⟨(fun _ hp=>nomatch hp),(fun _ hp=>nomatch hp)⟩ hd hy)
  rw [h2.2.1]
  exact J s
 | br b t e ih1 ih2=>
  intro g xs fs kn st y h hf hk hd hy
  have h:(brE P T g xs fs st b (fun g xs fs st=>chk P T F t g xs fs ⟨kn.bs++[(b,true)],kn.gs⟩ st) (fun g xs fs st=>chk P T F e g xs fs ⟨kn.bs++[(b,false)],kn.gs⟩ st)).ok:=h
  unfold brE at h
  split at h
  .rename_i ps xs' c A B K st' hs
   obtain⟨fs',h1,h2,h3⟩:=Zwn h hf
   obtain⟨rfl,h4,h5⟩:=h3
   refine Zakx hm hT hs h1 ?_
   show PW P (bif c then A else B) (post P K _) st'
   cases c with
   | true=>exact ih1 (.code A K) xs' fs' _ st' y h4 h2 (hk.br true) hd hy
   | false=>exact ih2 (.code B K) xs' fs' _ st' y h5 h2 (hk.br false) hd hy
  .exact h.elim
 | cs b t e ih1 ih2=>
  intro g xs fs kn st y h hf hk hd hy
  have h:(chk P T F t g xs fs ⟨kn.bs++[(b,true)],kn.gs⟩ st).ok/\(chk P T F e g xs fs ⟨kn.bs++[(b,false)],kn.gs⟩ st).ok:=h
  cases b with
  | true=>exact ih1 g xs fs _ st y h.1 hf (hk.br true) hd hy
  | false=>exact ih2 g xs fs _ st y h.2 hf (hk.br false) hd hy
 | op o X Fs Gs hx k ih=>
  intro g xs fs kn st y h hf hk hd hy
  have h:∀ x,(chk P T F (k x) g (xs++X x) (fs++Fs x) ⟨kn.bs,kn.gs++Gs x⟩ st).ok:=h
  cases o with
  | none=>cases hd
  | some x=>exact ih x g _ _ _ st y (h x) (Zx.2 ⟨hf,(hx x rfl).1⟩) (hk.op (hx x rfl).2) hd hy
 | ev X Fs hx t ih=>
  intro g xs fs kn st y h hf hk hd hy
  exact ih g _ _ kn st y h (Zx.2 ⟨hf,hx⟩) hk hd hy
 | us ns t ih=>
  intro g xs fs kn st y h hf hk hd hy
  have h:E.ok (match Zaky kn.gs ns with | some qs=>chk P T F t g xs (fs++qs) kn st | none => .fail):=h
  split at h
  .rename_i qs hq
   exact ih g _ _ kn st y h (Zx.2 ⟨hf,Zavv hk.g hq⟩) hk hd hy
  .exact h.elim
 | kn ns t ih=>
  intro g xs fs kn st y h hf hk hd hy
  exact Zabm hm hT hk.b (fun g xs fs st h hf=>ih g xs fs kn st y h hf hk hd hy) ns g xs fs st h hf
 | kg n t ih=>
  intro g xs fs kn st y h hf hk hd hy
  have h:E.ok (match kn.bs[n]? with | some (d,v)=>chk P T F t g (xs++[Orc.br v]) (fs++[d=v]) kn st | none => .fail):=h
  split at h
  .rename_i d v hv
   exact ih g _ _ kn st y h (Za62 hf (hk.b _ (List.mem_of_getElem? hv))) hk hd hy
  .exact h.elim
 | no=>
  intro g xs fs kn st y h hf hk hd hy
  cases hd
end
end
end Go.PW
