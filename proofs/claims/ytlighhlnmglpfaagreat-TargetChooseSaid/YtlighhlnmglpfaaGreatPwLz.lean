import Derived.Test.YtlighhlnmglpfaaGreatPwLy
set_option linter.all false
namespace Go.PW
open Go.RowKit
def Z9t:List Nat→Nat→Option Nat
 | [],_=>none
 | L::ls,m=>bif Nat.beq L m then some 0 else (Z9t ls m).map (· + 1)
theorem Z9u:∀ {ls:List Nat} {m i:Nat},Z9t ls m=some i→ls[i]?=some m
 | [],m,i,h=>by cases h
 | L::ls,m,i,h=>by
  simp only [Z9t] at h
  cases hb:Nat.beq L m with
  | true=>
   simp only [hb,cond_true,Option.some.injEq] at h
   subst h
   simp [(Zaq _ _).1 hb]
  | false=>
   simp only [hb,cond_false,Option.map_eq_some_iff] at h
   obtain⟨j,hj,rfl⟩:=h
   simpa using Z9u hj
theorem Zax9:∀ {ls:List Nat} {m:Nat},Z9t ls m=none→∀ (i:Nat),ls[i]?≠some m
 | [],m,_,i,h=>by simp at h
 | L::ls,m,hn,i,h=>by
  simp only [Z9t] at hn
  cases hb:Nat.beq L m with
  | true=>simp [hb] at hn
  | false=>
   simp only [hb,cond_false,Option.map_eq_none_iff] at hn
   cases i with
   | zero=>simp only [List.getElem?_cons_zero,Option.some.injEq] at h;subst h;simp at hb
   | succ i=>exact Zax9 hn i (by simpa using h)
mutual
def Zgk(S:Bool)(ls:List Nat)(σ:List (Nat×Blk)):PV→Option (List Prop×PV)
 | .t x=>some ([],.t x)
 | .nils=>some ([],.t (.sl []))
 | .osl l n=>
  match Z9t ls l with
  | some i=>some ([],.osl i n)
  | none=>
   match S,get σ l with
   | true,some (.row _ es)=>some ([es.length=n],.t (.sl es))
   | _,_=>none
 | .bptr L o=>
  match Z9t ls L with
  | some i=>some ([],.bptr i o)
  | none=>
   match S,get σ L with
   | true,some (.box cs)=>match Zq4 cs with | some ts=>some ([],.vptr (ts.drop o)) | none=>none
   | _,_=>none
 | .rptr _ _ _ _=>none
 | .vptr cs=>some ([],.vptr cs)
 | .agg cs=>match Zhh S ls σ cs with | some (ps,ds)=>some (ps,.agg ds) | none=>none
 | .tup cs=>match Zhh S ls σ cs with | some (ps,ds)=>some (ps,.tup ds) | none=>none
 | .fn f cs=>match Zhh S ls σ cs with | some (ps,ds)=>some (ps,.fn f ds) | none=>none
 | .own l d=>
  match Z9t ls l with
  | some i=>some ([],.own i d)
  | none=>
   match S,d,get σ l with
   | true,.msl n,some (.mat _ _ es)=>some ([es.length=n],.t (.sl es))
   | _,_,_=>none
def Zhh(S:Bool)(ls:List Nat)(σ:List (Nat×Blk)):List PV→Option (List Prop×List PV)
 | []=>some ([],[])
 | c::cs=>
  match Zgk S ls σ c,Zhh S ls σ cs with
  | some (ps,d),some (qs,ds)=>some (ps++qs,d::ds)
  | _,_=>none
end
mutual
theorem Zbcu{S:Bool}{ls:List Nat}{σ σ':List (Nat×Blk)}:∀ (p:PV),(∀ m,p.has m=true→get σ' m=get σ m)→Zgk S ls σ' p=Zgk S ls σ p
 | .t _,_=>by simp only [Zgk]
 | .nils,_=>by simp only [Zgk]
 | .osl l n,h=>by simp only [Zgk];rw [h l (by simp [PV.has])]
 | .bptr l _,h=>by simp only [Zgk];rw [h l (by simp [PV.has])]
 | .rptr _ _ _ _,_=>by simp only [Zgk]
 | .vptr _,_=>by simp only [Zgk]
 | .agg cs,h=>by simp only [Zgk];rw [Zn2 cs (fun m hm=>h m (by simpa [PV.has] using hm))]
 | .tup cs,h=>by simp only [Zgk];rw [Zn2 cs (fun m hm=>h m (by simpa [PV.has] using hm))]
 | .fn _ cs,h=>by simp only [Zgk];rw [Zn2 cs (fun m hm=>h m (by simpa [PV.has] using hm))]
 | .own l d,h=>by simp only [Zgk];rw [h l (by simp [PV.has])]
theorem Zn2{S:Bool}{ls:List Nat}{σ σ':List (Nat×Blk)}:∀ (ps:List PV),(∀ m,PV.hasAny m ps=true→get σ' m=get σ m)→Zhh S ls σ' ps=Zhh S ls σ ps
 | [],_=>by simp only [Zhh]
 | p::ps,h=>by
  simp only [Zhh]
  rw [Zbcu p (fun m hm=>h m (by simp [PV.hasAny,hm])),Zn2 ps (fun m hm=>h m (by simp [PV.hasAny,hm]))]
end
structure ArgC (S:Bool) (ls:List Nat) (σ:List (Nat×Blk)) (c c':Ctx):Prop where
 cσ:c.σ=σ
 I:∀ b,c.I b→c'.I b∧c'.w.heap[b]?=c.w.heap[b]?
 S:S=true→∀ l o,Z9t ls l=none→get σ l=some o→∀ b,Za5 c.β c.w l o b→c'.I b∧c'.w.heap[b]?=c.w.heap[b]?
 blk:∀ l o,get σ l=some o→BR c l o
 box:∀ (i L:Nat) cs,ls[i]?=some L→get c'.σ i=some (.box cs)→get σ L=some (.box cs)∧c'.β i=c.β L
 rowp:∀ (i L:Nat) k es,ls[i]?=some L→get c'.σ i=some (.row k es)→get σ L=some (.row k es)∧c'.β i=c.β L∧∀ b m,Zbp c.w b m→Zbp c'.w b m
 matp:∀ (i L:Nat) k q es,ls[i]?=some L→get c'.σ i=some (.mat k q es)→get σ L=some (.mat k q es)∧c'.β i=c.β L∧(∀ b m,Zbp c.w b m→Zbp c'.w b m)∧∀ a,c'.w.cell? a=c.w.cell? a
theorem ArgC.rstep{S:Bool}{ls:List Nat}{σ:List (Nat×Blk)}{c c':Ctx}(h:ArgC S ls σ c c'){i L:Nat}(hi:ls[i]?=some L):Zaim c c' L i:=
 ⟨fun k es hg=>by obtain⟨h1,h2,h3⟩:=h.rowp i L k es hi hg;exact⟨by rw [h.cσ];exact h1,h2,fun b s _ hr=>h3 b s hr⟩,
  fun cs hg=>by obtain⟨h1,h2⟩:=h.box i L cs hi hg;exact⟨cs,by rw [h.cσ];exact h1,h2⟩,
  fun k q es hg=>by obtain⟨h1,h2,h3,h4⟩:=h.matp i L k q es hi hg;exact⟨by rw [h.cσ];exact h1,h2,fun b _=>⟨h3 b,fun j=>h4 _⟩⟩⟩
mutual
theorem Zbhg{S:Bool}{ls:List Nat}{σ:List (Nat×Blk)}{c c':Ctx}(h:ArgC S ls σ c c'):∀ (p q:PV) (ps:List Prop) (v:Value),Zgk S ls σ p=some (ps,q)→Zbi ps→VR c p v→VR c' q v
 | .t x,q,ps,v,ha,_,hv=>by simp only [Zgk,Option.some.injEq,Prod.mk.injEq] at ha;rw [← ha.2];exact VR.step h.I (.t x) v (fun l hl=>by simp [PV.has] at hl) hv
 | .nils,q,ps,v,ha,_,hv=>by
  simp only [Zgk,Option.some.injEq,Prod.mk.injEq] at ha
  rw [← ha.2]
  simp only [VR] at hv ⊢
  obtain⟨a,rfl⟩:=hv
  simp only [Zam]
  exact⟨a,0,rfl,by simp,by simp [maxLen],.inl trivial⟩
 | .osl l n,q,ps,v,ha,hc,hv=>by
  simp only [Zgk] at ha
  split at ha
  ·rename_i i hi
   cases ha
   simp only [VR] at hv ⊢
   refine⟨fun k es hg=>?_,hv.2⟩
   obtain⟨h1,h2,h3⟩:=h.rowp i l k es (Z9u hi) hg
   obtain⟨g1,g2⟩:=hv.1 k es (by rw [h.cσ];exact h1)
   refine⟨g1,fun hn=>?_⟩
   obtain⟨a,cap,hv',e1,e2,e3⟩:=g2 hn
   refine⟨a,cap,hv',e1,e2,?_⟩
   rcases e3 with ⟨hc,hb⟩ | ⟨b,m,ha,hb,hr,hs⟩
   ·exact .inl ⟨hc,h2.trans hb⟩
   ·exact .inr ⟨b,m,ha,h2.trans hb,h3 b m hr,hs⟩
  rename_i hpn
  split at ha
  ·rename_i k es hg
   cases ha
   have hn:es.length=n:=hc.1
   simp only [VR] at hv ⊢
   obtain⟨a,cap,rfl,hc1,hc2,h3⟩:=(hv.1 k es (by rw [h.cσ];exact hg)).2 hn.symm
   simp only [Zam]
   subst hn
   refine⟨a,cap,rfl,hc1,hc2,?_⟩
   obtain⟨_,_,hb⟩:=h.blk l _ hg
   rcases hb with ⟨_,he⟩ | ⟨b,sz,hb,_,_,hel⟩
   ·exact .inl he
   ·rcases h3 with ⟨_,hb'⟩ | ⟨b',sz',ha,hb',_,_⟩
    ·exact absurd (hb.symm.trans hb') (by simp)
    ·have:b'=b:=by have:=hb'.symm.trans hb;simpa using this
     subst this
     obtain⟨hI,hh⟩:=h.S rfl l _ hpn hg b' (.inl hb)
     exact .inr ⟨b',0,ha,hI,Z7.mono h.I hh es 0 hel⟩
  ·cases ha
 | .bptr L o,q,ps,v,ha,_,hv=>by
  simp only [Zgk] at ha
  split at ha
  ·rename_i i hi
   cases ha
   simp only [VR] at hv ⊢
   refine⟨fun cs hg=>?_,hv.2⟩
   obtain⟨h1,h2⟩:=h.box i L cs (Z9u hi) hg
   obtain⟨b,hb,hv'⟩:=hv.1 cs (by rw [h.cσ];exact h1)
   exact⟨b,h2.trans hb,hv'⟩
  rename_i hpn
  split at ha
  ·rename_i cs hg
   split at ha
   ·rename_i ts hts
    cases ha
    have e:=Zro hts
    subst e
    exact Za2n (h.blk L _ hg) (by rw [h.cσ];exact hg) hv h.I (fun b hb=>h.S rfl L _ hpn hg b (.inl hb))
   ·cases ha
  ·cases ha
 | .rptr _ _ _ _,q,ps,v,ha,_,hv=>by simp [Zgk] at ha
 | .vptr cs,q,ps,v,ha,_,hv=>by simp only [Zgk,Option.some.injEq,Prod.mk.injEq] at ha;rw [← ha.2];exact VR.step h.I (.vptr cs) v (fun l hl=>by simp [PV.has] at hl) hv
 | .agg cs,q,ps,v,ha,hc,hv=>by
  simp only [Zgk] at ha
  split at ha
  ·rename_i ps' ds hd
   cases ha
   simp only [VR] at hv ⊢
   obtain⟨vs,hv,hs⟩:=hv
   exact⟨vs,hv,Z0x h cs ds ps vs hd hc hs⟩
  ·cases ha
 | .tup cs,q,ps,v,ha,hc,hv=>by
  simp only [Zgk] at ha
  split at ha
  ·rename_i ps' ds hd
   cases ha
   simp only [VR] at hv ⊢
   obtain⟨vs,hv,hs⟩:=hv
   exact⟨vs,hv,Z0x h cs ds ps vs hd hc hs⟩
  ·cases ha
 | .fn f cs,q,ps,v,ha,hc,hv=>by
  simp only [Zgk] at ha
  split at ha
  ·rename_i ps' ds hd
   cases ha
   simp only [VR] at hv ⊢
   obtain⟨vs,hv,hs⟩:=hv
   exact⟨vs,hv,Z0x h cs ds ps vs hd hc hs⟩
  ·cases ha
 | .own l d,q,ps,v,ha,hc,hv=>by
  simp only [Zgk] at ha
  split at ha
  ·rename_i i hi
   cases ha
   simp only [VR] at hv ⊢
   exact⟨hv.1.ren (h.rstep (Z9u hi)),hv.2⟩
  rename_i hpn
  split at ha
  ·rename_i n k q0 es hg
   cases ha
   have hn:es.length=n:=hc.1
   simp only [VR] at hv ⊢
   obtain⟨a,cap,rfl,hc1,hc2,h3⟩:=(hv.1 k q0 es (by rw [h.cσ];exact hg)).2 hn.symm
   simp only [Zam]
   subst hn
   refine⟨a,cap,rfl,hc1,hc2,?_⟩
   obtain⟨_,_,hb⟩:=h.blk l _ hg
   rcases hb with ⟨_,he⟩ | ⟨b,sz,hb,_,_,hel,_⟩
   ·exact .inl he
   ·rcases h3 with ⟨_,hb'⟩ | ⟨b',sz',ha,hb',_,_⟩
    ·exact absurd (hb.symm.trans hb') (by simp)
    ·have:b'=b:=by have:=hb'.symm.trans hb;simpa using this
     subst this
     obtain⟨hI,hh⟩:=h.S rfl l _ hpn hg b' (.inl hb)
     refine .inr ⟨b',0,ha,hI,Z7.mono (fun d hd=>?_) hh es 0 hel⟩
     rcases hd with hd | hd
     ·exact h.I d hd
     ·exact h.S rfl l _ hpn hg d (.inr ⟨k,q0,es,b',rfl,hb,hd⟩)
  ·cases ha
theorem Z0x{S:Bool}{ls:List Nat}{σ:List (Nat×Blk)}{c c':Ctx}(h:ArgC S ls σ c c'):∀ (cs qs:List PV) (ps:List Prop) (vs:List Value),Zhh S ls σ cs=some (ps,qs)→Zbi ps→VRs c cs vs→VRs c' qs vs
 | [],qs,ps,vs,ha,_,hv=>by simp only [Zhh,Option.some.injEq,Prod.mk.injEq] at ha;rw [← ha.2];exact hv
 | p::cs,qs,ps,vs,ha,hc,hv=>by
  simp only [Zhh] at ha
  split at ha
  ·rename_i ps1 d ps2 ds h1 h2
   cases ha
   obtain⟨c1,c2⟩:=Zak.1 hc
   simp only [VRs] at hv ⊢
   obtain⟨v,rest,rfl,hv,hr⟩:=hv
   exact⟨v,rest,rfl,Zbhg h p d ps1 v h1 c1 hv,Z0x h cs ds ps2 rest h2 c2 hr⟩
  ·cases ha
end
def Zmb(σ:List (Nat×Blk)):Nat→List Nat→Option (List (Nat×Blk))
 | _,[]=>some []
 | i,L::ls=>
  match get σ L,Zmb σ (i+1) ls with
  | some (.box cs),some r=>bif PV.frees cs then some ((i,.box cs)::r) else none
  | some (.row k es),some r=>some ((i,.row k es)::r)
  | _,_=>none
theorem Z4e{σ:List (Nat×Blk)}:∀ {ls:List Nat} {i:Nat} {σa:List (Nat×Blk)},Zmb σ i ls=some σa →
 (∀ j o,get σa j=some o→∃ m L,j=i+m∧ls[m]?=some L∧get σ L=some o∧∀ cs,o = .box cs→PV.frees cs=true)∧(∀ (m L:Nat),ls[m]?=some L→∃ o,get σa (i+m)=some o)
 | [],i,σa,h=>by
  simp only [Zmb,Option.some.injEq] at h
  subst h
  exact⟨(fun j o h=>nomatch h),(fun m L h=>by simp at h)⟩
 | L0::ls,i,σa,h=>by
  simp only [Zmb] at h
  split at h
  ·rename_i cs r hg hr
   cases hf:PV.frees cs with
   | false=>simp [hf] at h
   | true=>
    simp only [hf,cond_true,Option.some.injEq] at h
    subst h
    obtain⟨h1,h2⟩:=Z4e hr
    refine⟨fun j o ho=>?_,fun m L hm=>?_⟩
    ·simp only [PW.get] at ho
     cases hb:Nat.beq i j with
     | true=>
      simp only [hb,cond_true,Option.some.injEq] at ho
      subst ho
      exact⟨0,L0,((Zaq _ _).1 hb).symm,rfl,hg,fun cs' e=>by cases e;exact hf⟩
     | false=>
      simp only [hb,cond_false] at ho
      obtain⟨m,L,e1,e2,e3⟩:=h1 j o ho
      exact⟨m+1,L,by omega,by simpa using e2,e3⟩
    ·cases m with
     | zero=>exact⟨.box cs,by simp [PW.get]⟩
     | succ m=>
      obtain⟨o,ho⟩:=h2 m L (by simpa using hm)
      refine⟨o,?_⟩
      simp only [PW.get]
      rw [Zg0 (by omega),cond_false,show i+(m+1)=i+1+m by omega]
      exact ho
  ·rename_i k es r hg hr
   simp only [Option.some.injEq] at h
   subst h
   obtain⟨h1,h2⟩:=Z4e hr
   refine⟨fun j o ho=>?_,fun m L hm=>?_⟩
   ·simp only [PW.get] at ho
    cases hb:Nat.beq i j with
    | true=>
     simp only [hb,cond_true,Option.some.injEq] at ho
     subst ho
     exact⟨0,L0,((Zaq _ _).1 hb).symm,rfl,hg,fun cs' e=>by cases e⟩
    | false=>
     simp only [hb,cond_false] at ho
     obtain⟨m,L,e1,e2,e3⟩:=h1 j o ho
     exact⟨m+1,L,by omega,by simpa using e2,e3⟩
   ·cases m with
    | zero=>exact⟨.row k es,by simp [PW.get]⟩
    | succ m=>
     obtain⟨o,ho⟩:=h2 m L (by simpa using hm)
     refine⟨o,?_⟩
     simp only [PW.get]
     rw [Zg0 (by omega),cond_false,show i+(m+1)=i+1+m by omega]
     exact ho
  ·cases h
theorem Z9v{σ σ':List (Nat×Blk)}:∀ {ls:List Nat} {i:Nat},(∀ m,m∈ls→get σ' m=get σ m)→Zmb σ' i ls=Zmb σ i ls
 | [],i,_=>rfl
 | L::ls,i,h=>by
  simp only [Zmb]
  rw [h L (by simp),Z9v (fun m hm=>h m (List.mem_cons_of_mem _ hm))]
section
variable {P:Program} {o:Oper}
structure Za1s (ls:List Nat) (d:Nat) (σa σ1:List (Nat×Blk)) (res:PV):Prop where
 nd:∀ (i j L:Nat),ls[i]?=some L→ls[j]?=some L→i=j
 len:ls.length≤1000
 box:∀ (l:Nat) o,get σ1 l=some o→∀ L,ls[l]?=some L→∃ cs cs0,o = .box cs∧get σa l=some (.box cs0)
 ge:∀ (l:Nat) o,get σ1 l=some o→ls[l]?=none→1000≤l+d
 cl:∀ l,(res.has l=true∨∃ m o,get σ1 m=some o∧o.has l=true)→∃ o,get σ1 l=some o
theorem Zbcv{f:FuncId}{fo:Operand}{xs:Array Operand}{ats:Array TypeId}{caps ps qs:List PV}{res:PV}{σa σ1:List (Nat×Blk)}{ls:List Nat}{d:Nat}{S:Bool}{cs:List Prop}(hfn:FnG P f σa qs σ1 res)(ho:o.op = .call { callee := .value fo,args:=xs,argTypes:=ats })
 {ρ:List (Nat×PV)} (hfo:Z2 ρ fo=some (.fn f caps)) (hps:(xs.toList.mapM (Z2 ρ)).map (· ++ caps)=some ps) {G:Frm} {n:Nat} {tm:List (Nat×PV)} {σ:List (Nat×Blk)} {a:Act} {w:World} {β:Nat→Option Nat} (hr:Zbb G β ⟨n,tm,σ⟩ a w)
 (hag:∀ t q,Operand.tmp t∈o.op.operands→PW.get ρ t=some q→PW.get tm t=some q)
 (hq:Zhh S ls σ ps=some (cs,qs)) (hcs:Zbi cs) (hσa:Zmb σ 0 ls=some σa) (hok:Za1s ls d σa σ1 res) (hfr:∀ (l:Nat) o,get σ1 l=some o→ls[l]?=none→(∀ i q,get tm i=some q→q.has (l+d)=false)∧(∀ m y,get σ m=some y→m≠l+d∧y.has (l+d)=false))
 (hS:S=true→res.sc=true∧∀ l o,get σ1 l=some o→o.SC) {K:Act→World→Prop} {Q:Exit→Act→World→Prop}
 (hK:∀ v w',(∃ b2,Zbb G b2 ⟨n,tm,Zcl (Zcq ls d) σ1++Zcd ls σ⟩ a w'∧VR (ctx G b2 w' (Zcl (Zcq ls d) σ1++Zcd ls σ)) (res.ren (Zcq ls d)) v)→K (a.put o.dst v) w'):o.wp P a w K Q:=by
 obtain⟨p1,p2⟩:=Z4e hσa
 have hbox:∀ (l:Nat) o,get σ1 l=some o→∀ L,ls[l]?=some L→∃ cs cs0,o = .box cs∧get σ L=some (.box cs0):=fun l o h L hL=>by
  obtain⟨cs,cs0,h1,h2⟩:=hok.box l o h L hL
  obtain⟨m,L',e1,e2,e3,_⟩:=p1 l _ h2
  rw [Nat.zero_add] at e1;subst e1
  rw [hL] at e2;cases e2
  exact⟨cs,cs0,h1,e3⟩
 have hC:Zap3 ls d tm σ σa σ1 res:={ nd:=hok.nd,len:=hok.len,sa:=fun i o h=>by obtain⟨m,L,e1,e2,e3⟩:=p1 i o h;rw [Nat.zero_add] at e1;subst e1;exact⟨L,e2,e3⟩,all:=fun i L h=>by simpa using p2 i L h,box:=hbox,fr:=fun l o h hn=>⟨hok.ge l o h hn,hfr l o h hn⟩,cl:=hok.cl }
 have hpass:∀ (i L:Nat),ls[i]?=some L→∃ o,get σ L=some o:=fun i L h=>by
  obtain⟨o,ho⟩:=hC.all i L h
  obtain⟨L',h1,h2,_⟩:=hC.sa i o ho
  rw [h] at h1;cases h1
  exact⟨o,h2⟩
 obtain⟨vals,hv,hrun⟩:=Zamm (P:=P) ho hfo hps hr hag
 let A:Nat→Prop:=fun b=>bif S then b < w.heap.size∧∀ (i L:Nat) (o:Blk),ls[i]?=some L→get σ L=some o→¬ Za5 β w L o b else Imm G β w σ b
 have hAT:∀ b,Imm G β w σ b→A b:=fun b hb=>by
  cases S with
  | true=>exact⟨hb.1,fun i L o hL hg=>hb.2.2 L o hg⟩
  | false=>exact hb
 have hA:∀ b,A b→b < w.heap.size∧∀ (i L:Nat) (o:Blk),ls[i]?=some L→get σ L=some o→¬ Za5 β w L o b:=fun b hb=>by
  cases S with
  | true=>exact hb
  | false=>exact⟨hb.1,fun i L o hL hg=>hb.2.2 L o hg⟩
 have hAc:∀ b,A b→Imm (Zdn (βc β ls) σa A w) (βc β ls) w σa b:=fun b hb=>⟨(hA b hb).1,.inr (.inl hb),fun i o ho hb'=>by
  obtain⟨L,h1,h2,_⟩:=hC.sa i o ho
  exact (hA b hb).2 i L o h1 h2 (hb'.lab (show βc β ls i=β L by simp [βc,h1]))⟩
 have hv2:VRs (ctx (Zdn (βc β ls) σa A w) (βc β ls) w σa) qs vals:=by
  refine Z0x (c:=ctx G β w σ) (c':=ctx (Zdn (βc β ls) σa A w) (βc β ls) w σa) (σ:=σ) ⟨rfl,fun b hb=>⟨hAc b (hAT b hb),rfl⟩,fun hs l o hpn hg b hb=>⟨hAc b ?_,rfl⟩,fun l o hg=>hr.blk l _ hg,fun i L cs hL hg=>?_,fun i L k es hL hg=>?_,fun i L k q es hL hg=>?_⟩ ps qs cs _ hq hcs hv
  ·simp only [A,hs,cond_true]
   refine⟨(hr.sep l _ b hg hb).1,fun i L o' hL hg' hb'=>?_⟩
   have:=hr.inj l L _ _ b hg hg' hb hb'
   subst this
   exact Zax9 hpn i hL
  ·obtain⟨L',h1,h3,_⟩:=hC.sa i _ hg
   rw [hL] at h1;cases h1
   exact⟨h3,by simp [ctx,βc,hL]⟩
  ·obtain⟨L',h1,h3,_⟩:=hC.sa i _ hg
   rw [hL] at h1;cases h1
   exact⟨h3,by simp [ctx,βc,hL],fun _ _ h=>h⟩
  ·obtain⟨L',h1,h3,_⟩:=hC.sa i _ hg
   rw [hL] at h1;cases h1
   exact⟨h3,by simp [ctx,βc,hL],fun _ _ h=>h,fun _=>rfl⟩
 have hlen:vals.length=qs.length:=hv2.length
 have hcall:=callU hfn hr hC (sc:=S) hlen A hA hAT (fun hs b hb=>by simpa only [A,hs,cond_false] using hb) hS hv2
 unfold Oper.wp
 rw [hrun hfn.1,Oper.upon_enter]
 refine hcall.mono ?_
 rintro e w' ⟨v,b2,rfl,h1,h2⟩
 exact hK v w' ⟨b2,h1,h2⟩
theorem Za2v{f:Nat→Nat}{l:Nat}{o:Blk}:∀ {fr:List (Nat×Blk)},get fr l=some o→(f l,o.ren f)∈Zcl f fr
 | [],h=>by cases h
 | (j,b)::r,h=>by
  simp only [PW.get] at h
  cases hb:Nat.beq j l with
  | true=>
   simp only [hb,cond_true,Option.some.injEq] at h
   have:=(Zaq _ _).1 hb
   subst this;subst h
   simp [Zcl]
  | false=>simp only [hb,cond_false] at h;simp only [Zcl];exact List.mem_cons_of_mem _ (Za2v h)
theorem Zbiw{f:FuncId}{fo:Operand}{xs:Array Operand}{ats:Array TypeId}{caps ps qs:List PV}{res:PV}{σa σ1:List (Nat×Blk)}{ls:List Nat}{d:Nat}{S:Bool}{cs:List Prop}{ρ:List (Nat×PV)}{σ:List (Nat×Blk)}{need:List Nat}(hfn:FnG P f σa qs σ1 res)(ho:o.op = .call { callee := .value fo,args:=xs,argTypes:=ats })
 (hfo:Z2 ρ fo=some (.fn f caps)) (hps:(xs.toList.mapM (Z2 ρ)).map (· ++ caps)=some ps) (hq:Zhh S ls σ ps=some (cs,qs)) (hcs:Zbi cs) (hσa:Zmb σ 0 ls=some σa) (hok:Za1s ls d σa σ1 res)
 (hS:S=true→res.sc=true∧∀ l o,get σ1 l=some o→o.SC) (hneed:∀ m,(m∈ls∨PV.hasAny m ps=true)→m∈need) (hnin:∀ (l:Nat) o,get σ1 l=some o→ls[l]?=none→l+d∉ls):OpF P o ρ σ need ls (res.ren (Zcq ls d)) (Zcl (Zcq ls d) σ1):=by
 rintro G n tm σ' a w K Q hag hnd hnews ⟨β,hr⟩ hK
 have hq':Zhh S ls σ' ps=some (cs,qs):=by rw [Zn2 ps (fun m hm=>hnd m (hneed m (.inr hm)))];exact hq
 have hσa':Zmb σ' 0 ls=some σa:=by rw [Z9v (fun m hm=>hnd m (hneed m (.inl hm)))];exact hσa
 refine Zbcv hfn ho hfo hps hr hag hq' hcs hσa' hok (fun l o h hn=>?_) hS hK
 have:=hnews _ _ (Za2v h)
 simp only [Zcq,hn] at this
 exact this (hnin l o h hn)
theorem Zbem{f:FuncId}{fo:Operand}{xs:Array Operand}{ats:Array TypeId}{caps ps qs:List PV}{res:PV}{σa fr:List (Nat×Blk)}{ls:List Nat}{d:Nat}{S:Bool}{cs:List Prop}{ρ:List (Nat×PV)}{σ:List (Nat×Blk)}{need:List Nat}(hfn:FnG P f σa qs (fr++σa) res)(ho:o.op = .call { callee := .value fo,args:=xs,argTypes:=ats })
 (hfo:Z2 ρ fo=some (.fn f caps)) (hps:(xs.toList.mapM (Z2 ρ)).map (· ++ caps)=some ps) (hq:Zhh S ls σ ps=some (cs,qs)) (hcs:Zbi cs) (hσa:Zmb σ 0 ls=some σa) (hok:Za1s ls d σa (fr++σa) res)
 (hS:S=true→res.sc=true∧∀ l o,get (fr++σa) l=some o→o.SC) (hneed:∀ m,(m∈ls∨PV.hasAny m ps=true)→m∈need):Za8 P o ρ σ need (res.ren (Zcq ls d)) (Zcl (Zcq ls d) fr):=by
 intro G n tm σ' a w K Q hag hnd hnews hr hK
 obtain⟨β,hr⟩:=hr
 have hq':Zhh S ls σ' ps=some (cs,qs):=by rw [Zn2 ps (fun m hm=>hnd m (hneed m (.inr hm)))];exact hq
 have hσa':Zmb σ' 0 ls=some σa:=by rw [Z9v (fun m hm=>hnd m (hneed m (.inl hm)))];exact hσa
 obtain⟨p1,p2⟩:=Z4e hσa'
 have hfrget:∀ l o,get (fr++σa) l=some o→ls[l]?=none→∃ o',get fr l=some o':=fun l o h hn=>by
  rw [Zhw] at h
  cases hg:get fr l with
  | some o'=>exact⟨o',rfl⟩
  | none=>
   rw [hg] at h
   obtain⟨m,L,e1,e2,_⟩:=p1 l o h
   rw [Nat.zero_add] at e1;subst e1
   rw [hn] at e2;cases e2
 have hmem:∀ l o,get fr l=some o→(Zcq ls d l,o.ren (Zcq ls d))∈Zcl (Zcq ls d) fr:=fun l o h=>by
  have:∀ (l:Nat) (o:Blk) (fr:List (Nat×Blk)),get fr l=some o→(Zcq ls d l,o.ren (Zcq ls d))∈Zcl (Zcq ls d) fr:=by
   intro l o fr
   induction fr with
   | nil=>intro h;cases h
   | cons x r ih=>
    obtain⟨j,b⟩:=x
    intro h
    simp only [PW.get] at h
    cases hb:Nat.beq j l with
    | true=>
     simp only [hb,cond_true,Option.some.injEq] at h
     have:=(Zaq _ _).1 hb
     subst this;subst h
     simp [Zcl]
    | false=>simp only [hb,cond_false] at h;simp only [Zcl];exact List.mem_cons_of_mem _ (ih h)
  exact this l o fr h
 refine Zbcv hfn ho hfo hps hr hag hq' hcs hσa' hok (fun l o h hn=>?_) hS ?_
 ·obtain⟨o',h'⟩:=hfrget l o h hn
  have:=hnews _ _ (hmem l o' h')
  simpa [Zcq,hn] using this
 ·rintro v w' ⟨b2,h1,h2⟩
  have hsub:∀ l o,get (Zcl (Zcq ls d) fr++σ') l=some o→get (Zcl (Zcq ls d) (fr++σa)++Zcd ls σ') l=some o:=by
   intro m o hm
   rw [Zajt,List.append_assoc,Zhw]
   rw [Zhw] at hm
   cases hg:get (Zcl (Zcq ls d) fr) m with
   | some o'=>rw [hg] at hm;exact hm
   | none=>
    rw [hg] at hm
    simp only at hm ⊢
    rw [Zhw]
    cases hg2:get (Zcl (Zcq ls d) σa) m with
    | some o2=>
     obtain⟨l,o1,_,e2,e3,e4⟩:=Z0v hg2
     obtain⟨i,L,f1,f2,f4,f5⟩:=p1 l o1 e2
     rw [Nat.zero_add] at f1;subst f1
     have:L=m:=by simpa [Zcq,f2] using e4
     subst this
     rw [f4] at hm
     have hoo:o1=o:=Option.some.inj hm
     rw [e3,← hoo]
     cases o1 with
     | box cs=>simp only [Blk.ren,PV.rens_free cs (f5 cs rfl)]
     | row k es=>simp only [Blk.ren]
     | mat k q es=>simp only [Blk.ren]
    | none=>
     simp only
     by_cases hin:m∈ls
     ·obtain⟨i,hi⟩:=List.getElem?_of_mem hin
      obtain⟨o3,ho3⟩:=p2 i m hi
      rw [Nat.zero_add] at ho3
      obtain⟨l',hk⟩:=Z0w (f:=Zcq ls d) ho3
      rw [show Zcq ls d i=m by simp [Zcq,hi]] at hk
      obtain⟨_,_,o4,ho4⟩:=Zrq hk
      rw [hg2] at ho4;cases ho4
     ·rw [Z9o hin];exact hm
  refine hK v w' ⟨b2,h1.sub (Nat.le_refl _) (fun i p hp=>⟨hp,(h1.tm i p hp).1⟩) hsub,?_⟩
  exact VR.step (c:=ctx G b2 w' (Zcl (Zcq ls d) (fr++σa)++Zcd ls σ')) (c':=ctx G b2 w' (Zcl (Zcq ls d) fr++σ')) (fun b hb=>⟨Imm.sub hsub b hb,rfl⟩) _ v (fun l _=>Zbg.sub hsub l) h2
end
theorem FnG.frz{P:Program}{f:FuncId}{σ σ1 σ2:List (Nat×Blk)}{args:List PV}{res q:PV}(h:FnG P f σ args σ1 res)(hσ:Zx4 σ1 σ2)(hq:Frz σ1 σ2 res q):FnG P f σ args σ2 q:=by
 refine⟨h.1,fun A β w vals hl hr=>(h.2 A β w vals hl hr).mono ?_⟩
 rintro e w' ⟨v,β',he,hc⟩
 refine⟨v,β',he,Za2o hc hσ (fun i p hp=>?_)⟩
 simp only [PW.get] at hp ⊢
 cases hb:Nat.beq 0 i with
 | true=>simp only [hb,cond_true,Option.some.injEq] at hp ⊢;subst hp;exact⟨_,rfl,hq⟩
 | false=>simp [hb] at hp
theorem FnG.toFn{P:Program}{f:FuncId}{args:List PV}{σ1:List (Nat×Blk)}{res q:PV}(h:FnG P f [] args σ1 res)(hq:Frz σ1 [] res q):Fn P f args q:=h.frz (Zx4.nil _) hq
theorem Zbix{G:Frm}{β:Nat→Option Nat}{n:Nat}{tm:List (Nat×PV)}{σ:List (Nat×Blk)}{a:Act}{w:World}(h:Zbb G β ⟨n,tm,σ⟩ a w)(l m:Nat)(hm:1000≤m)
 (hf1:∀ i q,get tm i=some q→q.has m=false) (hf2:∀ j y,get σ j=some y→j≠m∧y.has m=false) :
 ∃ β',Zbb G β' ⟨n,tm.map (fun x=>(x.1,x.2.ren (fun j=>bif Nat.beq j l then m else j))),Zcl (fun j=>bif Nat.beq j l then m else j) σ⟩ a w:=by
 let f:Nat→Nat:=fun j=>bif Nat.beq j l then m else j
 have hfl:f l=m:=by simp [f]
 have hfo:∀ j,j≠l→f j=j:=fun j h=>by simp [f,Zg0 h]
 let β':Nat→Option Nat:=fun j=>bif Nat.beq j m then β l else β j
 have hβm:β' m=β l:=by simp [β']
 have hβo:∀ j,j≠m→β' j=β j:=fun j h=>by simp [β',Zg0 h]
 have hget:∀ j o,get (Zcl f σ) j=some o→∃ l0 o0,get σ l0=some o0∧o=o0.ren f∧f l0=j∧β' j=β l0:=by
  intro j o hg
  obtain⟨l0,o0,_,h2,h3,h4⟩:=Z0v hg
  refine⟨l0,o0,h2,h3,h4,?_⟩
  by_cases e:l0=l
  ·subst e;rw [hfl] at h4;subst h4;exact hβm
  ·rw [hfo _ e] at h4;subst h4;exact hβo _ (hf2 _ _ h2).1
 have hI:∀ b,Imm G β w σ b→Imm G β' w (Zcl f σ) b:=fun b hb=>⟨hb.1,hb.2.1,fun j o hj hb'=>by obtain⟨l0,o0,h2,rfl,_,h5⟩:=hget j o hj;exact hb.2.2 l0 o0 h2 (hb'.unren.lab h5)⟩
 have hR:∀ j,j≠m→Zaim (ctx G β w σ) (ctx G β' w (Zcl f σ)) j (f j):=by
  intro j hj
  have key:∀ o,get (Zcl f σ) (f j)=some o→∃ o0,get σ j=some o0∧o=o0.ren f∧β' (f j)=β j:=by
   intro o hg
   obtain⟨l0,o0,h2,h3,h4,h5⟩:=hget _ o hg
   have:l0=j:=by
    by_cases e:l0=l
    ·subst e
     rw [hfl] at h4
     by_cases e2:j=l0
     ·exact e2.symm
     ·rw [hfo _ e2] at h4;exact absurd h4.symm hj
    ·rw [hfo _ e] at h4
     by_cases e2:j=l
     ·subst e2;rw [hfl] at h4;exact absurd h4 (hf2 _ _ h2).1
     ·rw [hfo _ e2] at h4;exact h4
   subst this
   exact⟨o0,h2,h3,h5⟩
  refine⟨fun k es hg=>?_,fun cs hg=>?_,fun k q es hg=>?_⟩
  ·obtain⟨o0,h1,h2,h3⟩:=key _ hg
   cases o0 with
   | box cs=>simp [Blk.ren] at h2
   | mat k0 q0 es0=>simp [Blk.ren] at h2
   | row k0 es0=>simp only [Blk.ren,Blk.row.injEq] at h2;obtain⟨rfl,rfl⟩:=h2;exact⟨h1,h3,fun _ _ _ h=>h⟩
  ·obtain⟨o0,h1,h2,h3⟩:=key _ hg
   cases o0 with
   | box cs0=>exact⟨cs0,h1,h3⟩
   | row k0 es0=>simp [Blk.ren] at h2
   | mat k0 q0 es0=>simp [Blk.ren] at h2
  ·obtain⟨o0,h1,h2,h3⟩:=key _ hg
   cases o0 with
   | box cs=>simp [Blk.ren] at h2
   | row k0 es0=>simp [Blk.ren] at h2
   | mat k0 q0 es0=>simp only [Blk.ren,Blk.mat.injEq] at h2;obtain⟨rfl,rfl,rfl⟩:=h2;exact⟨h1,h3,fun _ _=>⟨fun _ h=>h,fun _=>rfl⟩⟩
 have hV:∀ p v,p.has m=false→VR (ctx G β w σ) p v→VR (ctx G β' w (Zcl f σ)) (p.ren f) v:=fun p v hp hv=>
  VR.ren (c:=ctx G β w σ) (c':=ctx G β' w (Zcl f σ)) (sc:=false) (fun _ b hb=>⟨hI b hb,rfl⟩) p v (fun e=>by cases e) (fun j hj=>hR j (fun e=>by subst e;rw [hp] at hj;cases hj)) hv
 refine⟨β',{ defers:=h.defers,sz:=h.sz,base:=h.base,os:=h.os,tape:=h.tape,output:=h.output,old:=h.old,A:=h.A,gl:=h.gl,inj:=fun j j' o o' b hj hj' hb hb'=>?_,sep:=fun j o b hj hb=>?_,fix:=fun j cs hj hg=>?_,blk:=fun j o hj=>?_,tm:=fun i p hp=>?_ }⟩
 ·obtain⟨l0,o0,h2,h3,h4,h5⟩:=hget j o hj
  obtain⟨l1,o1,h2',h3',h4',h5'⟩:=hget j' o' hj'
  subst h3;subst h3'
  have:=h.inj l0 l1 _ _ b h2 h2' (hb.unren.lab h5) (hb'.unren.lab h5')
  subst this
  exact h4.symm.trans h4'
 ·obtain⟨l0,o0,h2,h3,h4,h5⟩:=hget j o hj
  subst h3
  exact h.sep l0 o0 b h2 (hb.unren.lab h5)
 ·obtain⟨l0,o0,h2,h3,h4,h5⟩:=hget j _ hg
  cases o0 with
  | row k es=>simp [Blk.ren] at h3
  | mat k q es=>simp [Blk.ren] at h3
  | box cs0=>
   by_cases e:l0=l
   ·subst e;rw [hfl] at h4;omega
   ·rw [hfo _ e] at h4;subst h4
    rw [h5];exact h.fix l0 cs0 hj h2
 ·obtain⟨l0,o0,h2,h3,h4,h5⟩:=hget j o hj
  have hb:=h.blk l0 o0 h2
  subst h3
  cases o0 with
  | box cs=>
   obtain⟨b,vs,f1,f2,f3,f4,f5⟩:=hb
   refine⟨b,vs,h5.trans f1,by rw [PV.rens_length];exact f2,f3,?_,by rw [PV.rens_one];exact f5⟩
   have hh:=(hf2 l0 _ h2).2
   exact VRs.ren (c:=ctx G β w σ) (c':=ctx G β' w (Zcl f σ)) (sc:=false) (fun _ b hb=>⟨hI b hb,rfl⟩) cs vs (fun e=>by cases e) (fun j hj2=>hR j (fun e=>by subst e;simp only [Blk.has] at hh;rw [hh] at hj2;cases hj2)) f4
  | row k es=>
   obtain⟨f0,f1,f2⟩:=hb
   refine⟨f0,f1,?_⟩
   rcases f2 with ⟨f2,f3⟩ | ⟨b,s,f2,f3,f4,f5⟩
   ·exact .inl ⟨h5.trans f2,f3⟩
   ·exact .inr ⟨b,s,h5.trans f2,f3,f4,Z7.mono (w:=w) (w':=w) (fun b hb=>⟨hI b hb,rfl⟩) rfl es 0 f5⟩
  | mat k q es=>
   obtain⟨f0,f1,f2⟩:=hb
   refine⟨f0,f1,?_⟩
   rcases f2 with ⟨f2,f3⟩ | ⟨b,s,f2,f3,f4,f5,f6⟩
   ·exact .inl ⟨h5.trans f2,f3⟩
   ·exact .inr ⟨b,s,h5.trans f2,f3,f4,Z7.mono (w:=w) (w':=w) (fun d hd=>⟨hd.imp (hI d) id,rfl⟩) rfl es 0 f5,f6⟩
 ·have hmap:∀ (tm:List (Nat×PV)),get (tm.map (fun x=>(x.1,x.2.ren f))) i=(get tm i).map (·.ren f):=by
   intro tm
   induction tm with
   | nil=>rfl
   | cons x r ih=>
    obtain⟨j,q⟩:=x
    simp only [List.map_cons,PW.get]
    cases Nat.beq j i<;>simp [ih]
  rw [hmap] at hp
  simp only [Option.map_eq_some_iff] at hp
  obtain⟨q,hq,rfl⟩:=hp
  exact⟨(h.tm i q hq).1,hV q _ (hf1 i q hq) (h.tm i q hq).2⟩
end Go.PW
