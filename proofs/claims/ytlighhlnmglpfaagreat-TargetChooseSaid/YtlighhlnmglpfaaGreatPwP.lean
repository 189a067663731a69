import Derived.Test.YtlighhlnmglpfaaGreatPwO
set_option linter.all false
namespace Go.PW
open Go.RowKit
abbrev Es:=Option (List Prop×List Orc×St)
theorem Za21(m:Nat):Nat.beq m m=true:=(Zaq _ _).2 rfl
mutual
def Ziy(mt:Bool)(l:Nat)(es:List (List Zn)):PV→List Prop×PV
 | .t x=>([],.t x)
 | .nils=>([],.nils)
 | .osl m n=>bif !mt&&Nat.beq m l then ([es.length=n],.t (.sl es)) else ([],.osl m n)
 | .bptr m o=>([],.bptr m o)
 | .rptr m n i o=>([],.rptr m n i o)
 | .vptr cs=>([],.vptr cs)
 | .agg cs=>((Zmc mt l es cs).1,.agg (Zmc mt l es cs).2)
 | .tup cs=>((Zmc mt l es cs).1,.tup (Zmc mt l es cs).2)
 | .fn f cs=>((Zmc mt l es cs).1,.fn f (Zmc mt l es cs).2)
 | .own m (.msl n)=>bif mt&&Nat.beq m l then ([es.length=n],.t (.sl es)) else ([],.own m (.msl n))
 | .own m d=>([],.own m d)
def Zmc(mt:Bool)(l:Nat)(es:List (List Zn)):List PV→List Prop×List PV
 | []=>([],[])
 | c::cs=>((Ziy mt l es c).1++(Zmc mt l es cs).1,(Ziy mt l es c).2::(Zmc mt l es cs).2)
end
def Zrr(mt:Bool)(l:Nat)(es:List (List Zn)):List (Nat×PV)→List Prop×List (Nat×PV)
 | []=>([],[])
 | (i,p)::r=>((Ziy mt l es p).1++(Zrr mt l es r).1,(i,(Ziy mt l es p).2)::(Zrr mt l es r).2)
def Ziv(mt:Bool)(l:Nat)(es:List (List Zn)):List (Nat×Blk)→List Prop×List (Nat×Blk)
 | []=>([],[])
 | (m,b)::r=>
  bif Nat.beq m l then Ziv mt l es r else
  match b with
  | .row k es'=>((Ziv mt l es r).1,(m,.row k es')::(Ziv mt l es r).2)
  | .mat k q es'=>((Ziv mt l es r).1,(m,.mat k q es')::(Ziv mt l es r).2)
  | .box cs=>((Zmc mt l es cs).1++(Ziv mt l es r).1,(m,.box (Zmc mt l es cs).2)::(Ziv mt l es r).2)
mutual
theorem Za8v{σ σ':List (Nat×Blk)}{mt:Bool}{l k q0:Nat}{es:List (List Zn)}(hg:get σ l=some (bif mt then .mat k q0 es else .row k es))(h0:get σ' l=none):∀ (p:PV),Zbi (Ziy mt l es p).1→Frz σ σ' p (Ziy mt l es p).2
 | .t _,_=>by simp [Ziy,Frz]
 | .nils,_=>by simp [Ziy,Frz]
 | .osl m n,h=>by
  simp only [Ziy] at h ⊢
  cases hb : !mt&&Nat.beq m l with
  | true=>
   simp only [Bool.and_eq_true,Bool.not_eq_true',Zaq] at hb
   obtain⟨rfl,rfl⟩:=hb
   simp only [Za21,Bool.not_false,Bool.true_and,cond_true] at h ⊢
   simp only [Frz]
   exact .inr ⟨k,es,hg,h.1,h0,rfl⟩
  | false=>simp only [cond_false,Frz];exact .inl trivial
 | .bptr _ _,_=>by simp [Ziy,Frz]
 | .rptr _ _ _ _,_=>by simp [Ziy,Frz]
 | .vptr _,_=>by simp [Ziy,Frz]
 | .agg cs,h=>by simp only [Ziy,Frz] at h ⊢;exact⟨_,rfl,Z0z hg h0 cs h⟩
 | .tup cs,h=>by simp only [Ziy,Frz] at h ⊢;exact⟨_,rfl,Z0z hg h0 cs h⟩
 | .fn _ cs,h=>by simp only [Ziy,Frz] at h ⊢;exact⟨_,rfl,Z0z hg h0 cs h⟩
 | .own m (.msl n),h=>by
  simp only [Ziy] at h ⊢
  cases hb:mt&&Nat.beq m l with
  | true=>
   simp only [Bool.and_eq_true,Zaq] at hb
   obtain⟨rfl,rfl⟩:=hb
   simp only [Za21,Bool.true_and,cond_true] at h ⊢
   simp only [Frz]
   exact .inr ⟨n,k,q0,es,rfl,hg,h.1,h0,rfl⟩
  | false=>simp only [cond_false,Frz];exact .inl trivial
 | .own m (.tail _ _),_=>by simp only [Ziy,Frz];exact .inl trivial
 | .own m (.mpt _ _ _),_=>by simp only [Ziy,Frz];exact .inl trivial
 | .own m (.mrow _ _),_=>by simp only [Ziy,Frz];exact .inl trivial
 | .own m (.mel _ _ _),_=>by simp only [Ziy,Frz];exact .inl trivial
theorem Z0z{σ σ':List (Nat×Blk)}{mt:Bool}{l k q0:Nat}{es:List (List Zn)}(hg:get σ l=some (bif mt then .mat k q0 es else .row k es))(h0:get σ' l=none):∀ (cs:List PV),Zbi (Zmc mt l es cs).1→Zbs σ σ' cs (Zmc mt l es cs).2
 | [],_=>by simp [Zmc,Zbs]
 | c::cs,h=>by
  simp only [Zmc,Zbs] at h ⊢
  obtain⟨h1,h2⟩:=Zak.1 h
  exact⟨_,_,rfl,Za8v hg h0 c h1,Z0z hg h0 cs h2⟩
end
theorem Zaee{σ σ':List (Nat×Blk)}{mt:Bool}{l k q0:Nat}{es:List (List Zn)}(hg:get σ l=some (bif mt then .mat k q0 es else .row k es))(h0:get σ' l=none):∀ (tm:List (Nat×PV)),Zbi (Zrr mt l es tm).1→∀ i q,get (Zrr mt l es tm).2 i=some q→∃ p,get tm i=some p∧Frz σ σ' p q
 | [],_,i,q,hq=>by cases hq
 | (j,p)::r,h,i,q,hq=>by
  simp only [Zrr] at h hq
  obtain⟨h1,h2⟩:=Zak.1 h
  simp only [PW.get] at hq ⊢
  cases hb:Nat.beq j i with
  | true=>simp only [hb,cond_true,Option.some.injEq] at hq ⊢;subst hq;exact⟨p,rfl,Za8v hg h0 p h1⟩
  | false=>simp only [hb,cond_false] at hq ⊢;exact Zaee hg h0 r h2 i q hq
theorem Zrs{mt:Bool}{l:Nat}{es:List (List Zn)}:∀ (σ:List (Nat×Blk)),get (Ziv mt l es σ).2 l=none
 | []=>rfl
 | (m,b)::r=>by
  simp only [Ziv]
  cases hb:Nat.beq m l with
  | true=>simp only [cond_true];exact Zrs r
  | false=>
   simp only [cond_false]
   cases b<;>simp only [PW.get,hb,cond_false]<;>exact Zrs r
theorem Zt9{σ0 σ0':List (Nat×Blk)}{mt:Bool}{l k q0:Nat}{es:List (List Zn)}(hg:get σ0 l=some (bif mt then .mat k q0 es else .row k es))(h0:get σ0' l=none):∀ (σ:List (Nat×Blk)),Zbi (Ziv mt l es σ).1→∀ m o',get (Ziv mt l es σ).2 m=some o'→∃ o,get σ m=some o∧Zhn σ0 σ0' o o'
 | [],_,m,o',ho=>by cases ho
 | (j,b)::r,h,m,o',ho=>by
  simp only [Ziv] at h ho
  cases hb:Nat.beq j l with
  | true=>
   simp only [hb,cond_true] at h ho
   have:j=l:=(Zaq _ _).1 hb
   subst this
   have hjm:j≠m:=fun e=>by subst e;rw [Zrs] at ho;cases ho
   simp only [PW.get,Zg0 hjm,cond_false]
   exact Zt9 hg h0 r h m o' ho
  | false=>
   simp only [hb,cond_false] at h ho
   cases b with
   | row k' es'=>
    simp only [PW.get] at ho ⊢
    cases hm:Nat.beq j m with
    | true=>simp only [hm,cond_true,Option.some.injEq] at ho ⊢;subst ho;exact⟨_,rfl,rfl⟩
    | false=>simp only [hm,cond_false] at ho ⊢;exact Zt9 hg h0 r h m o' ho
   | mat k' q' es'=>
    simp only [PW.get] at ho ⊢
    cases hm:Nat.beq j m with
    | true=>simp only [hm,cond_true,Option.some.injEq] at ho ⊢;subst ho;exact⟨_,rfl,rfl⟩
    | false=>simp only [hm,cond_false] at ho ⊢;exact Zt9 hg h0 r h m o' ho
   | box cs=>
    obtain⟨h1,h2⟩:=Zak.1 h
    simp only [PW.get] at ho ⊢
    cases hm:Nat.beq j m with
    | true=>simp only [hm,cond_true,Option.some.injEq] at ho ⊢;subst ho;exact⟨_,rfl,_,rfl,Z0z hg h0 cs h1⟩
    | false=>simp only [hm,cond_false] at ho ⊢;exact Zt9 hg h0 r h2 m o' ho
def Zka{α:Type}(l:List (Nat×α)):List Nat→Option (List (Nat×α))
 | []=>some []
 | k::ks=>
  match get l k,Zka l ks with
  | some x,some r=>some ((k,x)::r)
  | _,_=>none
theorem Zgs{α:Type}{l:List (Nat×α)}:∀ {ks:List Nat} {r:List (Nat×α)},Zka l ks=some r→∀ i x,get r i=some x→get l i=some x
 | [],r,h,i,x,hx=>by simp only [Zka,Option.some.injEq] at h;subst h;cases hx
 | k::ks,r,h,i,x,hx=>by
  simp only [Zka] at h
  split at h
  ·rename_i y r' hy hr
   cases h
   simp only [PW.get] at hx
   cases hb:Nat.beq k i with
   | true=>have:k=i:=(Zaq _ _).1 hb;subst this;simp only [hb,cond_true,Option.some.injEq] at hx;subst hx;exact hy
   | false=>simp only [hb,cond_false] at hx;exact Zgs hr i x hx
  ·cases h
def Zmp(l:Nat)(tm:List (Nat×PV))(σ:List (Nat×Blk)):Bool:=(tm.all fun q => !q.2.has l)&&σ.all fun q => !Nat.beq q.1 l && !q.2.has l
theorem Zwk{l:Nat}{tm:List (Nat×PV)}{σ:List (Nat×Blk)}(h:Zmp l tm σ=true):(∀ i q,get tm i=some q→q.has l=false)∧(∀ m y,get σ m=some y→m≠l∧y.has l=false):=by
 simp only [Zmp,Bool.and_eq_true,List.all_eq_true] at h
 refine⟨fun i q hq=>?_,fun m y hy=>?_⟩
 ·have:=h.1 _ (Zgx hq);simpa using this
 ·have:=h.2 _ (Zgx hy)
  simp only [Bool.not_eq_true'] at this
  exact⟨fun e=>by subst e;have:=this.1;simp at this,this.2⟩
def Zcj(l n:Nat):List (Nat×PV)→List Prop×List (Nat×PV)
 | []=>([],[])
 | (i,p)::r=>
  match p with
  | .osl m k=>bif Nat.beq m l then ((k=n)::(Zcj l n r).1,(i,.osl m n)::(Zcj l n r).2) else ((Zcj l n r).1,(i,.osl m k)::(Zcj l n r).2)
  | .rptr m k j o=>bif Nat.beq m l then ((k=n)::(Zcj l n r).1,(i,.rptr m n j o)::(Zcj l n r).2) else ((Zcj l n r).1,(i,.rptr m k j o)::(Zcj l n r).2)
  | .own m (.msl k)=>bif Nat.beq m l then ((k=n)::(Zcj l n r).1,(i,.own m (.msl n))::(Zcj l n r).2) else ((Zcj l n r).1,(i,.own m (.msl k))::(Zcj l n r).2)
  | p=>((Zcj l n r).1,(i,p)::(Zcj l n r).2)
theorem Zfo{l n:Nat}:∀ (tm:List (Nat×PV)),Zbi (Zcj l n tm).1→(Zcj l n tm).2=tm
 | [],_=>rfl
 | (i,p)::r,h=>by
  cases p
  case osl m k=>
   simp only [Zcj] at h ⊢
   cases hb:Nat.beq m l with
   | true=>
    simp only [hb,cond_true] at h ⊢
    obtain⟨h1,h2⟩:=h
    subst h1
    rw [Zfo r h2]
   | false=>
    simp only [hb,cond_false] at h ⊢
    rw [Zfo r h]
  case rptr m k j o=>
   simp only [Zcj] at h ⊢
   cases hb:Nat.beq m l with
   | true=>
    simp only [hb,cond_true] at h ⊢
    obtain⟨h1,h2⟩:=h
    subst h1
    rw [Zfo r h2]
   | false=>
    simp only [hb,cond_false] at h ⊢
    rw [Zfo r h]
  case own m d=>
   cases d
   case msl k=>
    simp only [Zcj] at h ⊢
    cases hb:Nat.beq m l with
    | true=>
     simp only [hb,cond_true] at h ⊢
     obtain⟨h1,h2⟩:=h
     subst h1
     rw [Zfo r h2]
    | false=>
     simp only [hb,cond_false] at h ⊢
     rw [Zfo r h]
   all_goals
    simp only [Zcj] at h ⊢
    rw [Zfo r h]
  all_goals
   simp only [Zcj] at h ⊢
   rw [Zfo r h]
def Zht(l n:Nat):List PV→List Prop×List PV
 | []=>([],[])
 | .osl m k::r=>bif Nat.beq m l then ((k=n)::(Zht l n r).1,.osl m n::(Zht l n r).2) else ((Zht l n r).1,.osl m k::(Zht l n r).2)
 | p::r=>((Zht l n r).1,p::(Zht l n r).2)
theorem Zz6{l n:Nat}:∀ (cs:List PV),Zbi (Zht l n cs).1→(Zht l n cs).2=cs
 | [],_=>rfl
 | p::r,h=>by
  cases p
  case osl m k=>
   simp only [Zht] at h ⊢
   cases hb:Nat.beq m l with
   | true=>
    simp only [hb,cond_true] at h ⊢
    obtain⟨h1,h2⟩:=h
    subst h1
    rw [Zz6 r h2]
   | false=>
    simp only [hb,cond_false] at h ⊢
    rw [Zz6 r h]
  all_goals
   simp only [Zht] at h ⊢
   rw [Zz6 r h]
def Zg1(l n:Nat):List (Nat×Blk)→List Prop×List (Nat×Blk)
 | []=>([],[])
 | (m,.box cs)::r=>((Zht l n cs).1++(Zg1 l n r).1,(m,.box (Zht l n cs).2)::(Zg1 l n r).2)
 | (m,.row k es)::r=>((Zg1 l n r).1,(m,.row k es)::(Zg1 l n r).2)
 | (m,.mat k q es)::r=>((Zg1 l n r).1,(m,.mat k q es)::(Zg1 l n r).2)
theorem Zwl{l n:Nat}:∀ (σ:List (Nat×Blk)),Zbi (Zg1 l n σ).1→(Zg1 l n σ).2=σ
 | [],_=>rfl
 | (m,b)::r,h=>by
  cases b with
  | box cs=>
   simp only [Zg1] at h ⊢
   obtain⟨h1,h2⟩:=Zak.1 h
   rw [Zz6 cs h1,Zwl r h2]
  | row k es=>
   simp only [Zg1] at h ⊢
   rw [Zwl r h]
  | mat k q es=>
   simp only [Zg1] at h ⊢
   rw [Zwl r h]
theorem Zaqc{G:Frm}{β:Nat→Option Nat}{n:Nat}{tm tm':List (Nat×PV)}{σ σ':List (Nat×Blk)}{a:Act}{w:World}(h:Zbb G β ⟨n,tm,σ⟩ a w)
 (hσ:∀ l o',get σ' l=some o'→∃ o,get σ l=some o∧(o'=o∨∃ cs cs',o = .box cs∧o' = .box cs'∧cs'.length=cs.length∧cs'.all PV.one=true∧∀ vs,VRs (ctx G β w σ) cs vs→VRs (ctx G β w σ) cs' vs))
 (ht:∀ i q,get tm' i=some q→∃ p,get tm i=some p∧∀ v,VR (ctx G β w σ) p v→VR (ctx G β w σ) q v):Zbb G β ⟨n,tm',σ'⟩ a w:=by
 have hO:∀ l o' o,(o'=o∨∃ cs cs',o = .box cs∧o' = .box cs'∧cs'.length=cs.length∧cs'.all PV.one=true∧∀ vs,VRs (ctx G β w σ) cs vs→VRs (ctx G β w σ) cs' vs)→∀ b,Za5 β w l o' b→Za5 β w l o b:=fun l o' o hr b ho=>by
  rcases hr with rfl | ⟨cs,cs',rfl,rfl,_⟩
  ·exact ho
  ·exact .inl (Za5.flat (o := .box cs') trivial ho)
 have hI:∀ b,(ctx G β w σ).I b→(ctx G β w σ').I b∧(ctx G β w σ').w.heap[b]?=(ctx G β w σ).w.heap[b]?:=fun b hb=>⟨⟨hb.1,hb.2.1,fun l o hl ho=>by obtain⟨o2,ho2,hr2⟩:=hσ l o hl;exact hb.2.2 l o2 ho2 (hO l o o2 hr2 b ho)⟩,rfl⟩
 have hL:∀ l,Zbg (ctx G β w σ) (ctx G β w σ') l:=fun l=>by
  refine⟨fun k es' hg=>?_,fun cs' hg=>?_,fun k q es' hg=>?_⟩
  ·obtain⟨o,ho,h1⟩:=hσ l _ hg
   rcases h1 with rfl | ⟨cs,cs',_,h2,_⟩
   ·exact⟨es',ho,Nat.le_refl _,fun _=>⟨rfl,fun _ _ _ h=>h⟩⟩
   ·cases h2
  ·obtain⟨o,ho,h1⟩:=hσ l _ hg
   rcases h1 with rfl | ⟨cs,cs',rfl,h2,_⟩
   ·exact⟨cs',ho,rfl⟩
   ·exact⟨cs,ho,rfl⟩
  ·obtain⟨o,ho,h1⟩:=hσ l _ hg
   rcases h1 with rfl | ⟨cs,cs',_,h2,_⟩
   ·exact⟨es',ho,Nat.le_refl _,fun _=>⟨rfl,fun _ _=>⟨fun _ h=>h,fun _ _=>rfl⟩⟩⟩
   ·cases h2
 exact { defers := h.defers, sz := h.sz, base := h.base, os := h.os, tape := h.tape, output := h.output, old := h.old, A := h.A, gl := h.gl,
         inj:=fun l l' o o' b hl hl' hb hb'=>by
          obtain⟨o1,h1,r1⟩:=hσ l o hl
          obtain⟨o2,h2,r2⟩:=hσ l' o' hl'
          exact h.inj l l' o1 o2 b h1 h2 (hO l o o1 r1 b hb) (hO l' o' o2 r2 b hb'),
         sep:=fun l o b hl hb=>by obtain⟨o1,h1,r1⟩:=hσ l o hl;exact h.sep l o1 b h1 (hO l o o1 r1 b hb),
         fix:=fun l cs h1 hl=>by
          obtain⟨o,ho,h2⟩:=hσ l _ hl
          rcases h2 with rfl | ⟨cs0,cs',rfl,_⟩
          ·exact h.fix l cs h1 ho
          ·exact h.fix l cs0 h1 ho,
         blk:=fun l o' hl=>by
          obtain⟨o,ho,h2⟩:=hσ l o' hl
          have hb:=h.blk l o ho
          rcases h2 with rfl | ⟨cs,cs',rfl,rfl,h3,h4,h5⟩
          ·exact BR.step hI rfl (fun _ _=>rfl) (fun m _=>hL m) hb
          ·obtain⟨b,vs,f1,f2,f3,f4,f5⟩:=hb
           exact⟨b,vs,f1,by rw [h3];exact f2,f3,VRs.step hI _ _ (fun m _=>hL m) (h5 vs f4),h4⟩,
         tm:=fun i q hq=>by
          obtain⟨p,hp,hf⟩:=ht i q hq
          exact⟨(h.tm i p hp).1,VR.step hI q _ (fun m _=>hL m) (hf _ (h.tm i p hp).2)⟩ }
theorem VRs.set{c:Ctx}{p q:PV}:∀ {cs:List PV} {vs:List Value} {j:Nat},cs[j]?=some p→(∀ v,VR c p v→VR c q v)→VRs c cs vs→VRs c (cs.set j q) vs
 | [],vs,j,h,_,_=>by simp at h
 | x::cs,vs,0,h,hq,hv=>by
  simp only [List.getElem?_cons_zero,Option.some.injEq] at h
  subst h
  simp only [List.set_cons_zero,VRs] at hv ⊢
  obtain⟨v,rest,rfl,hv,hr⟩:=hv
  exact⟨v,rest,rfl,hq v hv,hr⟩
 | x::cs,vs,j+1,h,hq,hv=>by
  simp only [List.set_cons_succ,VRs] at hv ⊢
  obtain⟨v,rest,rfl,hv,hr⟩:=hv
  exact⟨v,rest,rfl,hv,VRs.set (by simpa using h) hq hr⟩
theorem Za8w{q:PV}(hq:q.one=true):∀ {cs:List PV} {j:Nat},cs.all PV.one=true→(cs.set j q).all PV.one=true
 | [],_,h=>h
 | x::cs,0,h=>by simp only [List.set_cons_zero,List.all_cons,Bool.and_eq_true] at h ⊢;exact⟨hq,h.2⟩
 | x::cs,j+1,h=>by simp only [List.set_cons_succ,List.all_cons,Bool.and_eq_true] at h ⊢;exact⟨h.1,Za8w hq h.2⟩
theorem VR.nilt{c:Ctx}(v:Value)(h:VR c .nils v):VR c (.t (.sl [])) v:=by
 simp only [VR] at h ⊢
 obtain⟨a,rfl⟩:=h
 simp only [Zam]
 exact⟨a,0,rfl,by simp,by simp [maxLen],.inl trivial⟩
theorem VR.nilOwn{c:Ctx}{l k:Nat}(hg:get c.σ l=some (.row k []))(hb:c.β l=none)(v:Value)(h:VR c .nils v):VR c (.osl l 0) v:=by
 simp only [VR] at h ⊢
 obtain⟨a,rfl⟩:=h
 refine⟨fun k' es' hg'=>?_,a,0,0,rfl⟩
 rw [hg] at hg'
 cases hg'
 exact⟨Nat.le_refl _,fun _=>⟨a,0,rfl,Nat.le_refl _,by simp [maxLen],.inl ⟨rfl,hb⟩⟩⟩
theorem Zaqd{G:Frm}{β:Nat→Option Nat}{w:World}{tm:List (Nat×PV)}{σ:List (Nat×Blk)}{t:Nat}{p q:PV}(hg:get tm t=some p)(hq:∀ v,VR (ctx G β w σ) p v→VR (ctx G β w σ) q v) :
 ∀ i r,get (put tm t q) i=some r→∃ p,get tm i=some p∧∀ v,VR (ctx G β w σ) p v→VR (ctx G β w σ) r v:=fun i r hr=>by
 by_cases hi:t=i
 ·subst hi
  rw [Zb7] at hr
  cases hr
  exact⟨p,hg,hq⟩
 ·rw [Zb5 _ _ hi] at hr
  exact⟨r,hr,fun _ h=>h⟩
theorem Zaqe{G:Frm}{β:Nat→Option Nat}{w:World}{σ:List (Nat×Blk)}{b j:Nat}{cs:List PV}{p q:PV}(hg:get σ b=some (.box cs))(hj:cs[j]?=some p)(h1:cs.all PV.one=true)(h2:q.one=true)(hq:∀ v,VR (ctx G β w σ) p v→VR (ctx G β w σ) q v) :
 ∀ l o',get (put σ b (.box (cs.set j q))) l=some o'→∃ o,get σ l=some o∧(o'=o∨∃ cs cs',o = .box cs∧o' = .box cs'∧cs'.length=cs.length∧cs'.all PV.one=true∧∀ vs,VRs (ctx G β w σ) cs vs→VRs (ctx G β w σ) cs' vs):=fun l o' ho=>by
 by_cases hi:b=l
 ·subst hi
  rw [Zb7] at ho
  cases ho
  exact⟨_,hg,.inr ⟨cs,_,rfl,rfl,by simp,Za8w h2 h1,fun vs hv=>VRs.set hj hq hv⟩⟩
 ·rw [Zb5 _ _ hi] at ho
  exact⟨o',ho,.inl rfl⟩
def f1(l m:Nat)(j:Nat):Nat:=bif Nat.beq j l then m else j
def Zaqf(f:Nat→Nat):List (Nat×PV)→List (Nat×PV)
 | []=>[]
 | (i,p)::r=>(i,p.ren f)::Zaqf f r
theorem Za22(f:Nat→Nat):∀ tm:List (Nat×PV),Zaqf f tm=tm.map fun x=>(x.1,x.2.ren f)
 | []=>rfl
 | (i,p)::r=>by simp only [Zaqf,List.map_cons,Za22 f r]
theorem Wk.relab{st:St}{l m:Nat}(hm:1000≤m)(hf:Zmp m st.tm st.σ=true):Wk st ⟨st.n,Zaqf (f1 l m) st.tm,Zcl (f1 l m) st.σ⟩:=by
 rintro G a w ⟨β,h⟩
 obtain⟨g1,g2⟩:=Zwk hf
 rw [Za22]
 exact Zbix (n:=st.n) (tm:=st.tm) (σ:=st.σ) h l m hm g1 g2
theorem Wk.slot{st:St}{t:Nat}{p q:PV}(hg:get st.tm t=some p)(hq:∀ c v,VR c p v→VR c q v):Wk st ⟨st.n,put st.tm t q,st.σ⟩:=
 fun _ _ _ ⟨β,h⟩=>⟨β,Zaqc (n:=st.n) (tm:=st.tm) (σ:=st.σ) h (fun _ o ho=>⟨o,ho,.inl rfl⟩) (Zaqd hg (hq _))⟩
theorem Za8x{G:Frm}{st:St}{β:Nat→Option Nat}{a:Act}{w:World}(h:Zbb G β st a w){b:Nat}{cs:List PV}(hg:get st.σ b=some (.box cs)):cs.all PV.one=true:=by
 obtain⟨_,_,_,_,_,_,h⟩:=h.blk b _ hg
 exact h
theorem Wk.cell{st:St}{b j:Nat}{cs:List PV}{p q:PV}(hg:get st.σ b=some (.box cs))(hj:cs[j]?=some p)(h2:q.one=true)(hq:∀ c v,VR c p v→VR c q v):Wk st ⟨st.n,st.tm,put st.σ b (.box (cs.set j q))⟩:=
 fun _ _ _ ⟨β,h⟩=>⟨β,Zaqc (n:=st.n) (tm:=st.tm) (σ:=st.σ) h (Zaqe hg hj (Za8x h hg) h2 (hq _)) (fun _ q hq=>⟨q,hq,fun _ h=>h⟩)⟩
theorem Wk.ownc{st:St}{t j l k:Nat}{cs:List PV}(hg:get st.tm t=some (.agg cs))(hj:cs[j]?=some .nils)(hk:0 < k)(hl:1000≤l)(hf:Zmp l st.tm st.σ=true):Wk st ⟨st.n,put st.tm t (.agg (cs.set j (.osl l 0))),(l,.row k [])::st.σ⟩:=by
 rintro G a w ⟨β,h⟩
 obtain⟨g1,g2⟩:=Zwk hf
 have h':=Zap1 (n:=st.n) (tm:=st.tm) (σ:=st.σ) h l k hk hl g1 g2
 refine⟨Zmn β l,Zaqc h' (fun _ o ho=>⟨o,ho,.inl rfl⟩) (Zaqd hg fun v hv=>?_)⟩
 simp only [VR] at hv ⊢
 obtain⟨vs,hv,hs⟩:=hv
 exact⟨vs,hv,VRs.set hj (VR.nilOwn (l:=l) (k:=k) (by simp [ctx,PW.get]) (by simp [ctx,Zmn])) hs⟩
theorem Wk.ownb{st:St}{b j l k:Nat}{cs:List PV}(hg:get st.σ b=some (.box cs))(hj:cs[j]?=some .nils)(hk:0 < k)(hl:1000≤l)(hf:Zmp l st.tm st.σ=true):Wk st ⟨st.n,st.tm,put ((l,.row k [])::st.σ) b (.box (cs.set j (.osl l 0)))⟩:=by
 rintro G a w ⟨β,h⟩
 obtain⟨g1,g2⟩:=Zwk hf
 have h':=Zap1 (n:=st.n) (tm:=st.tm) (σ:=st.σ) h l k hk hl g1 g2
 have hbl:b≠l:=(g2 b _ hg).1
 exact⟨Zmn β l,Zaqc h' (Zaqe (by simp only [PW.get,Zg0 (Ne.symm hbl),cond_false];exact hg) hj (Za8x h hg) rfl (VR.nilOwn (l:=l) (k:=k) (by simp [ctx,PW.get]) (by simp [ctx,Zmn]))) (fun _ q hq=>⟨q,hq,fun _ h=>h⟩)⟩
def Zcs:List Orc→St→Es
 | .frz l::xs,st=>
  match get st.σ l with
  | some (.row _ es)=>
   match Zcs xs ⟨st.n,(Zrr false l es st.tm).2,(Ziv false l es st.σ).2⟩ with
   | some (ps,xs',st')=>some ((Zrr false l es st.tm).1++((Ziv false l es st.σ).1++ps),xs',st')
   | none=>none
  | some (.mat _ _ es)=>
   match Zcs xs ⟨st.n,(Zrr true l es st.tm).2,(Ziv true l es st.σ).2⟩ with
   | some (ps,xs',st')=>some ((Zrr true l es st.tm).1++((Ziv true l es st.σ).1++ps),xs',st')
   | none=>none
  | _=>none
 | .relen l::xs,st=>
  match get st.σ l with
  | some (.row _ es)=>
   match Zcs xs ⟨st.n,(Zcj l es.length st.tm).2,(Zg1 l es.length st.σ).2⟩ with
   | some (ps,xs',st')=>some ((Zcj l es.length st.tm).1++((Zg1 l es.length st.σ).1++ps),xs',st')
   | none=>none
  | some (.mat _ _ es)=>
   match Zcs xs ⟨st.n,(Zcj l es.length st.tm).2,(Zg1 l es.length st.σ).2⟩ with
   | some (ps,xs',st')=>some ((Zcj l es.length st.tm).1++((Zg1 l es.length st.σ).1++ps),xs',st')
   | none=>none
  | _=>none
 | .pick ks ls::xs,st=>
  match Zka st.tm ks,Zka st.σ ls with
  | some tm,some σ=>Zcs xs ⟨st.n,tm,σ⟩
  | _,_=>none
 | .own t l k::xs,st=>
  match get st.tm t with
  | some .nils=>bif Nat.blt 0 k&&Nat.ble 1000 l&&Zmp l st.tm st.σ&&Nat.blt t st.n then Zcs xs ⟨st.n,put st.tm t (.osl l 0),(l,.row k [])::st.σ⟩ else none
  | _=>none
 | .relab l m::xs,st=>bif Nat.ble 1000 m&&Zmp m st.tm st.σ then Zcs xs ⟨st.n,Zaqf (f1 l m) st.tm,Zcl (f1 l m) st.σ⟩ else none
 | .nilt t::xs,st=>match get st.tm t with | some .nils=>Zcs xs ⟨st.n,put st.tm t (.t (.sl [])),st.σ⟩ | _=>none
 | .niltc t j::xs,st=>
  match get st.tm t with
  | some (.agg cs)=>match cs[j]? with | some .nils=>Zcs xs ⟨st.n,put st.tm t (.agg (cs.set j (.t (.sl [])))),st.σ⟩ | _=>none
  | _=>none
 | .niltb b j::xs,st=>
  match get st.σ b with
  | some (.box cs)=>match cs[j]? with | some .nils=>Zcs xs ⟨st.n,st.tm,put st.σ b (.box (cs.set j (.t (.sl []))))⟩ | _=>none
  | _=>none
 | .ownc t j l k::xs,st=>
  match get st.tm t with
  | some (.agg cs)=>match cs[j]? with | some .nils=>bif Nat.blt 0 k&&Nat.ble 1000 l&&Zmp l st.tm st.σ then Zcs xs ⟨st.n,put st.tm t (.agg (cs.set j (.osl l 0))),(l,.row k [])::st.σ⟩ else none | _=>none
  | _=>none
 | .ownb b j l k::xs,st=>
  match get st.σ b with
  | some (.box cs)=>match cs[j]? with | some .nils=>bif Nat.blt 0 k&&Nat.ble 1000 l&&Zmp l st.tm st.σ then Zcs xs ⟨st.n,st.tm,put ((l,.row k [])::st.σ) b (.box (cs.set j (.osl l 0)))⟩ else none | _=>none
  | _=>none
 | xs,st=>some ([],xs,st)
theorem Wk.pick{st:St}{tm:List (Nat×PV)}{σ:List (Nat×Blk)}{ks ls:List Nat}(h1:Zka st.tm ks=some tm)(h2:Zka st.σ ls=some σ):Wk st ⟨st.n,tm,σ⟩:=
 fun _ _ _ ⟨β,h⟩=>⟨β,h.sub (Nat.le_refl _) (fun i p hp=>⟨Zgs h1 i p hp,(h.tm i p (Zgs h1 i p hp)).1⟩) (fun l o ho=>Zgs h2 l o ho)⟩
theorem Wk.own{st:St}{t l k:Nat}(hg:get st.tm t=some .nils)(hk:0 < k)(hl:1000≤l)(hf:Zmp l st.tm st.σ=true):Wk st ⟨st.n,put st.tm t (.osl l 0),(l,.row k [])::st.σ⟩:=by
 rintro G a w ⟨β,h⟩
 obtain⟨f1,f2⟩:=Zwk hf
 have h':=Zap1 (n:=st.n) (tm:=st.tm) (σ:=st.σ) h l k hk hl f1 f2
 refine⟨Zmn β l,?_⟩
 have hv:=(h.tm t _ hg)
 simp only [VR] at hv
 obtain⟨hlt,a0,hv⟩:=hv
 exact { defers := h'.defers, sz := h'.sz, base := h'.base, os := h'.os, tape := h'.tape, output := h'.output, old := h'.old, A := h'.A, gl := h'.gl, inj := h'.inj, sep := h'.sep, fix := h'.fix, blk := h'.blk,
         tm:=fun i p hp=>by
          by_cases hi:t=i
          ·subst hi
           rw [Zb7] at hp
           cases hp
           refine⟨hlt,?_⟩
           simp only [VR]
           refine⟨fun k' es' hes'=>?_,a0,0,0,hv⟩
           have hgs:get ((l,Blk.row k [])::st.σ) l=some (.row k []):=by simp [PW.get]
           have:some (Blk.row k' es')=some (.row k []):=Eq.trans (Eq.symm hes') hgs
           cases this
           exact⟨Nat.le_refl _,fun _=>⟨a0,0,hv,Nat.le_refl _,by simp [maxLen],.inl ⟨rfl,by simp [ctx,Zmn]⟩⟩⟩
          ·rw [Zb5 _ _ hi] at hp
           exact h'.tm i p hp }
theorem Zdo:∀ (xs:List Orc) (st:St) {ps:List Prop} {xs':List Orc} {st':St},Zcs xs st=some (ps,xs',st')→Zbi ps→Wk st st'
 | [],st,ps,xs',st',h,_=>by simp only [Zcs,Option.some.injEq,Prod.mk.injEq] at h;rw [h.2.2];exact Wk.refl _
 | x::xs,st,ps,xs',st',h,hc=>by
  cases x
  case frz l=>
   simp only [Zcs] at h
   split at h
   ·rename_i k es hg
    split at h
    ·rename_i ps' xs2 st2 h2
     cases h
     obtain⟨h3,h4⟩:=Zak.1 hc
     obtain⟨h4,h5⟩:=Zak.1 h4
     have h0:=Zrs (mt:=false) (l:=l) (es:=es) st.σ
     exact (Wk.frz (Zt9 (mt:=false) (q0:=0) hg h0 st.σ h4) (Zaee (mt:=false) (q0:=0) hg h0 st.tm h3)).trans (Zdo xs _ h2 h5)
    ·cases h
   ·rename_i k q0 es hg
    split at h
    ·rename_i ps' xs2 st2 h2
     cases h
     obtain⟨h3,h4⟩:=Zak.1 hc
     obtain⟨h4,h5⟩:=Zak.1 h4
     have h0:=Zrs (mt:=true) (l:=l) (es:=es) st.σ
     exact (Wk.frz (Zt9 (mt:=true) (k:=k) hg h0 st.σ h4) (Zaee (mt:=true) (k:=k) hg h0 st.tm h3)).trans (Zdo xs _ h2 h5)
    ·cases h
   ·cases h
  case relen l=>
   simp only [Zcs] at h
   split at h
   ·rename_i k es hg
    split at h
    ·rename_i ps' xs2 st2 h2
     cases h
     obtain⟨h3,h4⟩:=Zak.1 hc
     obtain⟨h4,h5⟩:=Zak.1 h4
     have:=Zdo xs _ h2 h5
     rw [Zfo _ h3,Zwl _ h4] at this
     exact this
    ·cases h
   ·rename_i k q0 es hg
    split at h
    ·rename_i ps' xs2 st2 h2
     cases h
     obtain⟨h3,h4⟩:=Zak.1 hc
     obtain⟨h4,h5⟩:=Zak.1 h4
     have:=Zdo xs _ h2 h5
     rw [Zfo _ h3,Zwl _ h4] at this
     exact this
    ·cases h
   ·cases h
  case pick ks ls=>
   simp only [Zcs] at h
   split at h
   ·rename_i tm σ h1 h2
    exact (Wk.pick h1 h2).trans (Zdo xs _ h hc)
   ·cases h
  case own t l k=>
   simp only [Zcs] at h
   split at h
   ·rename_i hg
    obtain⟨hb,h⟩:=Zbf h
    simp only [Bool.and_eq_true,Nat.blt_eq,Zeb] at hb
    exact (Wk.own hg hb.1.1.1 hb.1.1.2 hb.1.2).trans (Zdo xs _ h hc)
   ·cases h
  case relab l m=>
   simp only [Zcs] at h
   obtain⟨hb,h⟩:=Zbf h
   simp only [Bool.and_eq_true,Zeb] at hb
   exact (Wk.relab hb.1 hb.2).trans (Zdo xs _ h hc)
  case nilt t=>
   simp only [Zcs] at h
   split at h
   ·rename_i hg;exact (Wk.slot hg fun _ v hv=>VR.nilt v hv).trans (Zdo xs _ h hc)
   ·cases h
  case niltc t j=>
   simp only [Zcs] at h
   split at h
   ·rename_i cs hg
    split at h
    ·rename_i hj
     refine (Wk.slot hg fun c v hv=>?_).trans (Zdo xs _ h hc)
     simp only [VR] at hv ⊢
     obtain⟨vs,hv,hs⟩:=hv
     exact⟨vs,hv,VRs.set hj VR.nilt hs⟩
    ·cases h
   ·cases h
  case niltb b j=>
   simp only [Zcs] at h
   split at h
   ·rename_i cs hg
    split at h
    ·rename_i hj;exact (Wk.cell hg hj rfl fun _ v hv=>VR.nilt v hv).trans (Zdo xs _ h hc)
    ·cases h
   ·cases h
  case ownc t j l k=>
   simp only [Zcs] at h
   split at h
   ·rename_i cs hg
    split at h
    ·rename_i hj
     obtain⟨hb,h⟩:=Zbf h
     simp only [Bool.and_eq_true,Nat.blt_eq,Zeb] at hb
     exact (Wk.ownc hg hj hb.1.1 hb.1.2 hb.2).trans (Zdo xs _ h hc)
    ·cases h
   ·cases h
  case ownb b j l k=>
   simp only [Zcs] at h
   split at h
   ·rename_i cs hg
    split at h
    ·rename_i hj
     obtain⟨hb,h⟩:=Zbf h
     simp only [Bool.and_eq_true,Nat.blt_eq,Zeb] at hb
     exact (Wk.ownb hg hj hb.1.1 hb.1.2 hb.2).trans (Zdo xs _ h hc)
    ·cases h
   ·cases h
  all_goals
   simp only [Zcs,Option.some.injEq,Prod.mk.injEq] at h
   rw [h.2.2];exact Wk.refl _
def Za23:Es→Es
 | some (ps,.stop::xs,st)=>some (ps,xs,st)
 | r=>r
theorem Zbae{r:Es}{ps:List Prop}{xs:List Orc}{st:St}(h:Za23 r=some (ps,xs,st)):∃ xs',r=some (ps,xs',st):=by
 unfold Za23 at h
 split at h
 ·cases h;exact⟨_,rfl⟩
 ·exact⟨_,h⟩
def evAt(d:Option Nat)(xs:List Orc)(st:St):Es:=
 match xs,d with
 | .ahead i::xs',some j=>bif Nat.beq i j then Za23 (Zcs xs' st) else some ([],xs,st)
 | _,_=>some ([],xs,st)
theorem Za8y{d:Option Nat}{xs:List Orc}{st:St}{ps:List Prop}{xs':List Orc}{st':St}(h:evAt d xs st=some (ps,xs',st'))(hc:Zbi ps):Wk st st':=by
 have triv:∀ ys:List Orc,(some ([],ys,st):Es)=some (ps,xs',st')→Wk st st':=fun ys h=>by cases h;exact Wk.refl _
 unfold evAt at h
 split at h
 ·rename_i i xs2 j
  cases hb:Nat.beq i j with
  | true=>
   simp only [hb,cond_true] at h
   obtain⟨ys,h⟩:=Zbae h
   exact Zdo _ _ h hc
  | false=>simp only [hb,cond_false] at h;exact triv _ h
 ·exact triv _ h
def Zbag(T:TS)(o:Oper)(st:St)(xs:List Orc):Es:=
 match o.op with
 | .store t x y=>
  match o.dst,get T t,Z2 st.tm x,Z2 st.tm y with
  | none,some i,some (.bptr l q),some p=>
   match get st.σ l,xs with
   | some (.box cs),.sp cs'::xs=>bif Nat.beq (Zax p).length i.size&&(Zax p).all PV.one then some ([q+i.size≤cs.length,splice cs q (Zax p)=cs'],xs,⟨st.n,st.tm,put st.σ l (.box cs')⟩) else none
   | some (.box cs),xs=>bif Nat.beq (Zax p).length i.size&&(Zax p).all PV.one&&Nat.ble (q+i.size) cs.length then some ([],xs,⟨st.n,st.tm,put st.σ l (.box (splice cs q (Zax p)))⟩) else none
   | _,_=>none
  | none,some i,some (.rptr l m j q),some p=>
   match get st.σ l,xs,Zem (Zax p) with
   | some (.row k es),.cs e :: .es es'::xs,some ts=>
    bif Nat.beq ts.length i.size&&Nat.ble (q+i.size) k then some ([es.length=m,es[j]?=some e,es.set j (splice e q ts)=es'],xs,⟨st.n,st.tm,put st.σ l (.row k es')⟩) else none
   | _,_,_=>none
  | _,_,_,_=>none
 | .convert s t x=>
  match Zc6 T t,Z2 st.tm x,o.dst with
  | some (_,⟨_,_,_,_,.int .u8,_⟩),some (.osl l m),some d=>
   match get st.σ l with
   | some (.row _ es)=>bif Nat.beq s t&&Nat.blt d st.n then some ([es.length=m,es≠[]],xs,⟨st.n,put st.tm d (.osl l m),st.σ⟩) else none
   | _=>none
  | _,_,_=>none
 | _=>none
def Zbah(T:TS)(o:Oper)(st:St)(xs:List Orc):Es:=
 match o.op with
 | .call c=>
  match c.callee,Ziu st.tm c.args.toList,c.argTypes.toList,o.dst,xs with
  | .builtin .clear,some [.own l (.tail m i)],[t],none,.es es'::xs=>
   match Zc6 T t,get st.σ l with
   | some (_,⟨_,k,bytes,some z,_,_⟩),some (.row k' es)=>
    match Zem z with
    | some zs=>bif Nat.blt 0 k&&Nat.beq z.length k&&Nat.beq k k' then some ([es.length=m,i≤m,es.take i++List.replicate (m - i) zs=es'],xs,⟨st.n,st.tm,put st.σ l (.row k es')⟩) else none
    | none=>none
   | _,_=>none
  | _,_,_,_,_=>none
 | .slice t x none (some y) none=>
  match Zc6 T t,Z2 st.tm x,Z2 st.tm y,o.dst,xs with
  | some (_,j),some (.osl l m),some (.t (.int _ i)),some d,.nat q :: .es es'::xs=>
   match get st.σ l with
   | some (.row k es)=>bif Nat.beq j.size k&&Nat.blt d st.n&&(st.σ.all fun q => !q.2.has l)&&Zap5 st.tm then some ([es.length=m,0≤i,i≤m,i.toNat=q,es.take i.toNat=es'],xs,⟨st.n,put (Z9w l st.tm) d (.osl l q),put st.σ l (.row k es')⟩) else none
   | _=>none
  | _,_,_,_,_=>none
 | .store t x y=>
  match o.dst,get T t,Z2 st.tm x,Z2 st.tm y,xs with
  | none,some i,some (.own l (.mel m j q)),some (.t z),.es inner :: .es es'::xs=>
   match get st.σ l with
   | some (.mat 1 0 es)=>bif !i.agg&&Nat.beq i.size 1&&z.scal then some ([es.length=m,es[j]?=some [.sl inner],q < inner.length,es.set j [.sl (inner.set q [z])]=es'],xs,⟨st.n,st.tm,put st.σ l (.mat 1 0 es')⟩) else none
   | _=>none
  | _,_,_,_,_=>none
 | _=>none
def evUp(T:TS)(o:Oper)(st:St)(xs:List Orc):Es:=
 match Zbag T o st xs with
 | some r=>some r
 | none=>Zbah T o st xs
section
variable {P:Program} {T:TS} {o:Oper} {xs xs':List Orc} {ps:List Prop}
theorem Zbe1(hT:TOK P T){st st':St}(h:Zbag T o st xs=some (ps,xs',st'))(hc:Zbi ps):Z0r P o st st':=by
 obtain⟨n,tm,σ⟩:=st
 unfold Zbag at h
 split at h
 ·rename_i t x y ho
  split at h
  ·rename_i i l q p hd hi hx hy
   split at h
   ·rename_i cs cs' xs2 hg
    have hbh:=Zbf h;clear h;obtain⟨hb,h⟩:=hbh
    simp only [Bool.and_eq_true,Zaq] at hb
    cases h
    obtain⟨h1,h2,_⟩:=hc
    subst h2
    exact Zax7 ho hd (hT _ _ hi).ty hx hy hg hb.1 hb.2 h1
   ·rename_i cs hg _
    have hbh:=Zbf h;clear h;obtain⟨hb,h⟩:=hbh
    simp only [Bool.and_eq_true,Zaq,Zeb] at hb
    cases h
    exact Zax7 ho hd (hT _ _ hi).ty hx hy hg hb.1.1 hb.1.2 hb.2
   ·cases h
  ·rename_i i l m j q p hd hi hx hy
   split at h
   ·rename_i k es e es' xs2 ts hg hts
    have hbh:=Zbf h;clear h;obtain⟨hb,h⟩:=hbh
    simp only [Bool.and_eq_true,Zaq,Zeb] at hb
    cases h
    obtain⟨h1,h2,h3,_⟩:=hc
    subst h3
    exact Zbcq ho hd (hT _ _ hi).ty hx hy hg h1 h2 hts hb.1 hb.2
   ·cases h
  ·cases h
 ·rename_i s t x ho
  split at h
  ·rename_i e agg sz by_ z fl l m d he hx hd
   split at h
   ·rename_i k es hg
    have hbh:=Zbf h;clear h;obtain⟨hb,h⟩:=hbh
    simp only [Bool.and_eq_true,Zaq,Nat.blt_eq] at hb
    obtain⟨rfl,hb2⟩:=hb
    cases h
    obtain⟨i,hi,hk,hj⟩:=Zca he
    have hu:=(hT _ _ hi).k
    rw [hk] at hu
    have hu2:P.underlying e=some (.int .u8):=(hT _ _ hj).k
    exact Zbej ho hd hb2 hu hu2 hx hg hc.1 hc.2.1
   ·cases h
  ·cases h
 ·cases h
theorem Zbe2(hT:TOK P T){st st':St}(h:Zbah T o st xs=some (ps,xs',st'))(hc:Zbi ps):Z0r P o st st':=by
 obtain⟨n,tm,σ⟩:=st
 unfold Zbah at h
 split at h
 ·rename_i c ho
  split at h
  ·rename_i l m i t es' xs2 hce hps hat hd
   obtain⟨x,hax,hx⟩:=Zaed hps
   have hceq:=Zlu hce hax hat
   rw [hceq] at ho
   split at h
   ·rename_i e agg k bytes z kk fl k' es he hg
    split at h
    ·rename_i zs hzs
     have hbh:=Zbf h;clear h;obtain⟨hb,h⟩:=hbh
     simp only [Bool.and_eq_true,Zaq] at hb
     obtain⟨⟨hb1,hb2⟩,hb3⟩:=hb
     subst hb3
     cases h
     obtain⟨h1,h2,h3,_⟩:=hc
     subst h3
     exact Zben ho hd (Zz5 (z:=z) hT he rfl hb1 ((Zaq _ _).2 hb2)) hzs hx hg h1 h2
    ·cases h
   ·cases h
  ·cases h
 ·rename_i t x y ho
  split at h
  ·rename_i e j l m ki i d q es' xs2 he hx hy hd
   split at h
   ·rename_i k es hg
    have hbh:=Zbf h;clear h;obtain⟨hb,h⟩:=hbh
    simp only [Bool.and_eq_true,Zaq,Nat.blt_eq] at hb
    obtain⟨⟨⟨hb1,hb2⟩,hb3⟩,hb4⟩:=hb
    cases h
    obtain⟨h1,h2,h3,h4,h5,_⟩:=hc
    subst h4
    subst h5
    obtain⟨i0,hi0,hk0,hj⟩:=Zca he
    exact Zbeo ho hd hb2 (hb1▸hT.slInfo hi0 hk0 hj) hx hy hg h1 h2 h3 hb3 hb4
   ·cases h
  ·cases h
 ·rename_i t x y ho
  split at h
  ·rename_i i l m j q z inner es' xs2 hd hi hx hy
   split at h
   ·rename_i es hg
    have hbh:=Zbf h;clear h;obtain⟨hb,h⟩:=hbh
    simp only [Bool.and_eq_true,Bool.not_eq_true',Zaq] at hb
    cases h
    obtain⟨h1,h2,h3,h4,_⟩:=hc
    subst h4
    have hty:=(hT t i hi).ty
    rw [hb.1.1,hb.1.2] at hty
    exact Za7k ho hd hty hx hy rfl hb.2 hg h1 h2 h3
   ·cases h
  ·cases h
 ·cases h
theorem Zbhk(hT:TOK P T){st st':St}(h:evUp T o st xs=some (ps,xs',st'))(hc:Zbi ps):Z0r P o st st':=by
 unfold evUp at h
 split at h
 ·rename_i h0;cases h;exact Zbe1 hT h0 hc
 ·exact Zbe2 hT h hc
def Zait(ops:Array Oper)(tm:List (Nat×PV))(o:Oper)(xs:List Orc):Option (List Prop×List Orc×Bool):=
 match o.guard with
 | none=>some ([],xs,true)
 | some (g,want)=>
  match (ops[g]?).bind (·.dst) with
  | none=>none
  | some d=>
   match get tm d,xs with
   | some (.t (.bool e)),.br b::xs=>some ([e=b],xs,b==want)
   | some (.tup []),xs=>some ([],xs,false)
   | _,_=>none
theorem Zkb{ops:Array Oper}{tm:List (Nat×PV)}{r:Bool}(h:Zait ops tm o xs=some (ps,xs',r))(hc:Zbi ps):Zix ops tm o=some r:=by
 unfold Zait at h
 unfold Zix
 split at h
 ·rename_i hg;cases h;rw [hg]
 ·rename_i g want hg
  rw [hg]
  simp only
  split at h
  ·cases h
  ·rename_i d hd
   simp only [hd]
   split at h
   ·rename_i e b xs2 he
    cases h
    have:=hc.1
    subst this
    simp [he]
   ·rename_i he;cases h;simp [he]
   ·cases h
def Zwm(rm:List Nat)(tm:List (Nat×PV))(σ:List (Nat×Blk)):List (Nat×Blk)→Bool
 | []=>true
 | (l,_)::r=>(Z0p rm l||Zmp l tm σ)&&Zwm rm tm σ r
theorem Z00{rm:List Nat}{tm:List (Nat×PV)}{σ:List (Nat×Blk)}:∀ {news:List (Nat×Blk)},Zwm rm tm σ news=true→∀ l x,(l,x)∈news→l∉rm→(∀ i q,get tm i=some q→q.has l=false)∧(∀ m y,get σ m=some y→m≠l∧y.has l=false)
 | [],_,l,x,hm,_=>by cases hm
 | (m,y)::r,h,l,x,hm,hr=>by
  simp only [Zwm,Bool.and_eq_true,Bool.or_eq_true] at h
  rcases List.mem_cons.1 hm with hm | hm
  ·cases hm
   rcases h.1 with h1 | h1
   ·exact absurd (Z9p.1 h1) hr
   ·exact Zwk h1
  ·exact Z00 h.2 l x hm hr
def dstN(o:Oper):Nat:=match o.dst with | some d=>d | none=>1000000
def Za24(P:Program)(T:TS)(ops:Array Oper)(o:Oper)(xs:List Orc)(st:St):Es:=
 match evAt (some (dstN o)) xs st with
 | some (ps0,xs0,st0)=>
  match Zait ops st0.tm o xs0 with
  | some (ps1,xs1,true)=>
   match Za1u P T o st0.tm st0.σ xs1 with
   | some (ps2,xs2,x)=>
    match o.dst with
    | some d=>bif Nat.blt d st0.n&&Zwm x.rm st0.tm st0.σ x.s.news then some (ps0++(ps1++ps2),xs2,⟨st0.n,put st0.tm d x.s.p,x.s.news++Zcd x.rm st0.σ⟩) else none
    | none=>bif Zwm x.rm st0.tm st0.σ x.s.news then some (ps0++(ps1++ps2),xs2,⟨st0.n,st0.tm,x.s.news++Zcd x.rm st0.σ⟩) else none
   | none=>
    match evUp T o st0 xs1 with
    | some (ps2,xs2,st2)=>some (ps0++(ps1++ps2),xs2,st2)
    | none=>none
  | some (ps1,xs1,false)=>
   match o.dst with
   | some d=>bif Nat.blt d st0.n then some (ps0++ps1,xs1,⟨st0.n,put st0.tm d (.tup []),st0.σ⟩) else none
   | none=>some (ps0++ps1,xs1,st0)
  | none=>none
 | none=>none
theorem Zbc3(hT:TOK P T){ops:Array Oper}{R:St→Prop}{l:List Oper}{st st':St}(h:Za24 P T ops o xs st=some (ps,xs',st'))(hc:Zbi ps)(hk:Zck P ops R l st'):Zck P ops R (o::l) st:=by
 unfold Za24 at h
 split at h
 ·rename_i ps0 xs0 st0 h0
  suffices hs:Zbi ps0∧Zck P ops R (o::l) st0 from Zck.weaken (Za8y h0 hs.1) hs.2
  split at h
  ·rename_i ps1 xs1 h1
   split at h
   ·rename_i ps2 xs2 s h2
    split at h
    ·rename_i d hd
     have hbh:=Zbf h;clear h;obtain⟨hb,h⟩:=hbh
     simp only [Bool.and_eq_true,Nat.blt_eq] at hb
     cases h
     obtain⟨c0,c1⟩:=Zak.1 hc
     obtain⟨c1,c2⟩:=Zak.1 c1
     refine⟨c0,Zck.step (Zkb h1 c1) ?_ hk⟩
     intro G a w K Q hr hK
     refine Zamq hT h2 c2 G st0.n st0.tm st0.σ a w K Q (fun _ _ _ h=>h) (fun _ _=>rfl) (Z00 hb.2) hr ?_
     rintro v w' ⟨β,hβ,hv⟩
     exact hK _ _ ⟨β,by rw [hd];exact hβ.put hb.1 hv⟩
    ·rename_i hd
     have hbh:=Zbf h;clear h;obtain⟨hb,h⟩:=hbh
     cases h
     obtain⟨c0,c1⟩:=Zak.1 hc
     obtain⟨c1,c2⟩:=Zak.1 c1
     refine⟨c0,Zck.step (Zkb h1 c1) ?_ hk⟩
     intro G a w K Q hr hK
     refine Zamq hT h2 c2 G st0.n st0.tm st0.σ a w K Q (fun _ _ _ h=>h) (fun _ _=>rfl) (Z00 hb) hr ?_
     rintro v w' ⟨β,hβ,hv⟩
     exact hK _ _ ⟨β,by rw [hd];exact hβ⟩
   ·split at h
    ·rename_i ps2 xs2 st2 h2
     cases h
     obtain⟨c0,c1⟩:=Zak.1 hc
     obtain⟨c1,c2⟩:=Zak.1 c1
     exact⟨c0,Zck.step (Zkb h1 c1) (Zbhk hT h2 c2) hk⟩
    ·cases h
  ·rename_i ps1 xs1 h1
   split at h
   ·rename_i d hd
    have hbh:=Zbf h;clear h;obtain⟨hb,h⟩:=hbh
    simp only [Nat.blt_eq] at hb
    cases h
    obtain⟨c0,c1⟩:=Zak.1 hc
    exact⟨c0,Zck.skip hd hb (Zkb h1 c1) hk⟩
   ·rename_i hd
    cases h
    obtain⟨c0,c1⟩:=Zak.1 hc
    exact⟨c0,Zck.skipNone hd (Zkb h1 c1) hk⟩
  ·cases h
 ·cases h
def Zaiu(P:Program)(T:TS)(ops:Array Oper):List Oper→List Orc→St→Es
 | [],xs,st=>some ([],xs,st)
 | o::l,xs,st=>
  match Za24 P T ops o xs st with
  | some (ps,xs1,st1)=>
   match Zaiu P T ops l xs1 st1 with
   | some (qs,xs2,st2)=>some (ps++qs,xs2,st2)
   | none=>none
  | none=>none
theorem Zamr(hT:TOK P T){ops:Array Oper}{R:St→Prop}:∀ (l:List Oper) {xs xs':List Orc} {st st':St} {ps:List Prop},Zaiu P T ops l xs st=some (ps,xs',st')→Zbi ps→R st'→Zck P ops R l st
 | [],xs,xs',st,st',ps,h,_,hr=>by
  simp only [Zaiu,Option.some.injEq,Prod.mk.injEq] at h
  rw [← h.2.2] at hr
  exact Zck.nil hr
 | o::l,xs,xs',st,st',ps,h,hc,hr=>by
  simp only [Zaiu] at h
  split at h
  ·rename_i ps1 xs1 st1 h1
   split at h
   ·rename_i qs xs2 st2 h2
    cases h
    obtain⟨c1,c2⟩:=Zak.1 hc
    exact Zbc3 hT h1 c1 (Zamr hT l h2 c2 hr)
   ·cases h
  ·cases h
structure Zbai where
 ps:List Prop
 xs:List Orc
 plan:List (Option Stm)
 rest:List Oper
 tm:List (Nat×PV)
 σ:List (Nat×Blk)
def Za1v(n:Nat):Option Nat→Bool
 | some d=>Nat.blt d n
 | none=>true
theorem Zbe3{n:Nat}{d:Option Nat}(h:Za1v n d=true):∀ e,d=some e→e < n:=by
 rintro e rfl
 simpa only [Za1v,Nat.blt_eq] using h
def Zmq(P:Program)(T:TS)(ops:Array Oper)(n:Nat):List Oper→List Orc→List (Nat×PV)→List (Nat×Blk)→Zbai
 | [],xs,tm,σ=>⟨[],xs,[],[],tm,σ⟩
 | o::l,xs,tm,σ=>
  bif Za1v n o.dst then
   match Zait ops tm o xs with
   | some (ps1,xs1,true)=>
    match Za1u P T o tm σ xs1 with
    | some (ps2,xs2,x)=>
     match Zmq P T ops n l xs2 (Zx2 tm o.dst x.s.p) (x.s.news++Zcd x.rm σ) with
     | ⟨ps,xs,plan,rest,tm,σ⟩=>⟨ps1++(ps2++ps),xs,some x::plan,rest,tm,σ⟩
    | none=>⟨[],xs,[],o::l,tm,σ⟩
   | some (ps1,xs1,false)=>
    match Zmq P T ops n l xs1 (Zx2 tm o.dst (.tup [])) σ with
    | ⟨ps,xs,plan,rest,tm,σ⟩=>⟨ps1++ps,xs,none::plan,rest,tm,σ⟩
   | none=>⟨[],xs,[],o::l,tm,σ⟩
  else ⟨[],xs,[],o::l,tm,σ⟩
theorem Zaef(hT:TOK P T){ops:Array Oper}{n:Nat}:∀ (l:List Oper) (xs:List Orc) (tm:List (Nat×PV)) (σ:List (Nat×Blk)),Zbi (Zmq P T ops n l xs tm σ).ps →
 ∃ pre,l=pre++(Zmq P T ops n l xs tm σ).rest∧Zd0 P ops n pre (Zmq P T ops n l xs tm σ).plan tm σ ∧
  Zfg pre (Zmq P T ops n l xs tm σ).plan tm=(Zmq P T ops n l xs tm σ).tm∧Zj6 (Zmq P T ops n l xs tm σ).plan σ=(Zmq P T ops n l xs tm σ).σ
 | [],xs,tm,σ,_=>⟨[],rfl,trivial,rfl,rfl⟩
 | o::l,xs,tm,σ,hc=>by
  have triv:∀ r:Zbai,r=⟨[],xs,[],o::l,tm,σ⟩→∃ pre,o::l=pre++r.rest∧Zd0 P ops n pre r.plan tm σ∧Zfg pre r.plan tm=r.tm∧Zj6 r.plan σ=r.σ:=by
   rintro r rfl
   exact⟨[],rfl,trivial,rfl,rfl⟩
  rw [Zmq] at hc ⊢
  cases hd:Za1v n o.dst with
  | false=>exact triv _ rfl
  | true=>
   have hdn:=Zbe3 hd
   simp only [hd,cond_true] at hc ⊢
   split at hc
   ·rename_i ps1 xs1 hg
    split at hc
    ·rename_i ps2 xs2 s h2
     obtain⟨c1,c2⟩:=Zak.1 hc
     obtain⟨c2,c3⟩:=Zak.1 c2
     obtain⟨pre,h1,h3,h4,h5⟩:=Zaef hT l xs2 (Zx2 tm o.dst s.s.p) (s.s.news++Zcd s.rm σ) c3
     refine⟨o::pre,by rw [List.cons_append,← h1],?_,?_,?_⟩
     ·simp only [Zd0]
      exact⟨hdn,Zkb hg c1,fun s' hs'=>by cases hs';exact Zamq hT h2 c2,h3⟩
     ·simp only [Zfg];exact h4
     ·simp only [Zj6];exact h5
    ·exact triv _ rfl
   ·rename_i ps1 xs1 hg
    obtain⟨c1,c3⟩:=Zak.1 hc
    obtain⟨pre,h1,h3,h4,h5⟩:=Zaef hT l xs1 (Zx2 tm o.dst (.tup [])) σ c3
    refine⟨o::pre,by rw [List.cons_append,← h1],?_,?_,?_⟩
    ·simp only [Zd0]
     exact⟨hdn,Zkb hg c1,(fun s' hs'=>by cases hs'),h3⟩
    ·simp only [Zfg];exact h4
    ·simp only [Zj6];exact h5
   ·exact triv _ rfl
def Zbc4(P:Program)(T:TS)(ops:Array Oper)(st:St)(r:Zbai):Es:=
 bif Zwi ops r.plan st.tm st.σ then
  match Zaiu P T ops r.rest r.xs ⟨st.n,r.tm,r.σ⟩ with
  | some (qs,xs2,st2)=>some (r.ps++qs,xs2,st2)
  | none=>none
 else none
def Zams(P:Program)(T:TS)(id:Nat)(ops:Array Oper)(draw:Bool)(xs:List Orc)(st:St):Es:=
 bif draw then
  match evAt (some id) xs st with
  | some (ps0,xs0,st0)=>
   match Zbc4 P T ops st0 (Zmq P T ops st0.n ops.toList xs0 st0.tm st0.σ) with
   | some (ps,xs,st)=>some (ps0++ps,xs,st)
   | none=>none
  | none=>none
 else Zaiu P T ops ops.toList xs st
theorem Za7m(hm:P.follows .mixedOrders=true)(hT:TOK P T){ops:Array Oper}{draw:Bool}{id:Nat}{Q:Exit→St→Prop}{st st':St}(h:Zams P T id ops draw xs st=some (ps,xs',st'))(hc:Zbi ps)(hq:Q .normal st') :
 PW P (.region id ops draw) Q st:=by
 unfold Zams at h
 cases draw with
 | false=>
  simp only [cond_false] at h
  exact PW.region (Zamr hT _ h hc hq)
 | true=>
  simp only [cond_true] at h
  split at h
  ·rename_i ps0 xs0 st0 h0
   split at h
   ·rename_i ps1 xs1 st1 h1
    cases h
    obtain⟨c0,c1⟩:=Zak.1 hc
    refine PW.weaken (Za8y h0 c0) ?_
    unfold Zbc4 at h1
    have hbh:=Zbf h1;clear h1;obtain⟨hb,h1⟩:=hbh
    split at h1
    ·rename_i qs xs2 st2 h2
     cases h1
     obtain⟨c1,c2⟩:=Zak.1 c1
     obtain⟨pre,e1,e2,e3,e4⟩:=Zaef hT ops.toList xs0 st0.tm st0.σ c1
     exact PW.region_draw hm _ pre _ e1 e2 hb (by rw [e3,e4];exact Zamr hT _ h2 c2 hq)
    ·cases h1
   ·cases h
  ·cases h
end
end Go.PW
