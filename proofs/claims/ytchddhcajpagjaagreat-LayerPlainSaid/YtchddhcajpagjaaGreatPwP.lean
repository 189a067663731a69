import Derived.Test.YtchddhcajpagjaaGreatPwO
set_option linter.all false
namespace Go.PW
open Go.RowKit
abbrev Es:=Option (List Prop×List Orc×St)
theorem Zavu(m:Nat):Nat.beq m m=true:=(Z3 _ _).2 rfl
mutual
def Zjd(mt:Bool)(l:Nat)(es:List (List Zh)):PV->List Prop×PV
 | .t x=>([],.t x)
 | .nils=>([],.nils)
 | .osl m n=>bif !mt&&Nat.beq m l then ([es.length=n],.t (.sl es)) else ([],.osl m n)
 | .bptr m o=>([],.bptr m o)
 | .rptr m n i o=>([],.rptr m n i o)
 | .vptr cs=>([],.vptr cs)
 | .agg cs=>((Zld mt l es cs).1,.agg (Zld mt l es cs).2)
 | .tup cs=>((Zld mt l es cs).1,.tup (Zld mt l es cs).2)
 | .fn f cs=>((Zld mt l es cs).1,.fn f (Zld mt l es cs).2)
 | .own m (.msl n)=>bif mt&&Nat.beq m l then ([es.length=n],.t (.sl es)) else ([],.own m (.msl n))
 | .own m d=>([],.own m d)
def Zld(mt:Bool)(l:Nat)(es:List (List Zh)):List PV->List Prop×List PV
 | []=>([],[])
 | c::cs=>((Zjd mt l es c).1++(Zld mt l es cs).1,(Zjd mt l es c).2::(Zld mt l es cs).2)
end
def Zs9(mt:Bool)(l:Nat)(es:List (List Zh)):List (Nat×PV)->List Prop×List (Nat×PV)
 | []=>([],[])
 | (i,p)::r=>((Zjd mt l es p).1++(Zs9 mt l es r).1,(i,(Zjd mt l es p).2)::(Zs9 mt l es r).2)
def Zh1(mt:Bool)(l:Nat)(es:List (List Zh)):List (Nat×Blk)->List Prop×List (Nat×Blk)
 | []=>([],[])
 | (m,b)::r=>
  bif Nat.beq m l then Zh1 mt l es r else
  match b with
  | .row k es'=>((Zh1 mt l es r).1,(m,.row k es')::(Zh1 mt l es r).2)
  | .mat k q es'=>((Zh1 mt l es r).1,(m,.mat k q es')::(Zh1 mt l es r).2)
  | .map ag es'=>((Zh1 mt l es r).1,(m,.map ag es')::(Zh1 mt l es r).2)
  | .prow k i es' cs=>((Zld mt l es cs).1++(Zh1 mt l es r).1,(m,.prow k i es' (Zld mt l es cs).2)::(Zh1 mt l es r).2)
  | .box cs=>((Zld mt l es cs).1++(Zh1 mt l es r).1,(m,.box (Zld mt l es cs).2)::(Zh1 mt l es r).2)
mutual
theorem Za1p{σ σ':List (Nat×Blk)}{mt:Bool}{l k q0:Nat}{es:List (List Zh)}(hg:get σ l=some (bif mt then .mat k q0 es else .row k es))(h0:get σ' l=none):∀ (p:PV),Zak (Zjd mt l es p).1->Frz σ σ' p (Zjd mt l es p).2
 | .t _,_=>by simp [Zjd,Frz]
 | .nils,_=>by simp [Zjd,Frz]
 | .osl m n,h=>by
  simp only [Zjd] at h ⊢
  cases hb : !mt&&Nat.beq m l with
  | true=>
   simp only [Bool.and_eq_true,Bool.not_eq_true',Z3] at hb
   obtain⟨rfl,rfl⟩:=hb
   simp only [Zavu,Bool.not_false,Bool.true_and,cond_true] at h ⊢
   simp only [Frz]
   exact .inr ⟨k,es,hg,h.1,h0,rfl⟩
  | false=>simp only [cond_false,Frz];exact .inl trivial
 | .bptr _ _,_=>by simp [Zjd,Frz]
 | .rptr _ _ _ _,_=>by simp [Zjd,Frz]
 | .vptr _,_=>by simp [Zjd,Frz]
 | .agg cs,h=>by simp only [Zjd,Frz] at h ⊢;exact⟨_,rfl,Zu0 hg h0 cs h⟩
 | .tup cs,h=>by simp only [Zjd,Frz] at h ⊢;exact⟨_,rfl,Zu0 hg h0 cs h⟩
 | .fn _ cs,h=>by simp only [Zjd,Frz] at h ⊢;exact⟨_,rfl,Zu0 hg h0 cs h⟩
 | .own m (.msl n),h=>by
  simp only [Zjd] at h ⊢
  cases hb:mt&&Nat.beq m l with
  | true=>
   simp only [Bool.and_eq_true,Z3] at hb
   obtain⟨rfl,rfl⟩:=hb
   simp only [Zavu,Bool.true_and,cond_true] at h ⊢
   simp only [Frz]
   exact .inr ⟨n,k,q0,es,rfl,hg,h.1,h0,rfl⟩
  | false=>simp only [cond_false,Frz];exact .inl trivial
 | .own m (.tail _ _),_=>by simp only [Zjd,Frz];exact .inl trivial
 | .own m (.mpt _ _ _),_=>by simp only [Zjd,Frz];exact .inl trivial
 | .own m (.mrow _ _),_=>by simp only [Zjd,Frz];exact .inl trivial
 | .own m (.mel _ _ _),_=>by simp only [Zjd,Frz];exact .inl trivial
 | .own m .map,_=>by simp only [Zjd,Frz];exact .inl trivial
 | .own m (.pw _),_=>by simp only [Zjd,Frz];exact .inl trivial
 | .own m (.pp _ _),_=>by simp only [Zjd,Frz];exact .inl trivial
theorem Zu0{σ σ':List (Nat×Blk)}{mt:Bool}{l k q0:Nat}{es:List (List Zh)}(hg:get σ l=some (bif mt then .mat k q0 es else .row k es))(h0:get σ' l=none):∀ (cs:List PV),Zak (Zld mt l es cs).1->Zav σ σ' cs (Zld mt l es cs).2
 | [],_=>by simp [Zld,Zav]
 | c::cs,h=>by
  simp only [Zld,Zav] at h ⊢
  obtain⟨h1,h2⟩:=Zz.1 h
  exact⟨_,_,rfl,Za1p hg h0 c h1,Zu0 hg h0 cs h2⟩
end
theorem Zabj{σ σ':List (Nat×Blk)}{mt:Bool}{l k q0:Nat}{es:List (List Zh)}(hg:get σ l=some (bif mt then .mat k q0 es else .row k es))(h0:get σ' l=none):∀ (tm:List (Nat×PV)),Zak (Zs9 mt l es tm).1->∀ i q,get (Zs9 mt l es tm).2 i=some q->∃ p,get tm i=some p/\Frz σ σ' p q
 | [],_,i,q,hq=>by cases hq
 | (j,p)::r,h,i,q,hq=>by
  simp only [Zs9] at h hq
  obtain⟨h1,h2⟩:=Zz.1 h
  simp only [PW.get] at hq ⊢
  cases hb:Nat.beq j i with
  | true=>simp only [hb,cond_true,Option.some.injEq] at hq ⊢;subst hq;exact⟨p,rfl,Za1p hg h0 p h1⟩
  | false=>simp only [hb,cond_false] at hq ⊢;exact Zabj hg h0 r h2 i q hq
theorem Zta{mt:Bool}{l:Nat}{es:List (List Zh)}:∀ (σ:List (Nat×Blk)),get (Zh1 mt l es σ).2 l=none
 | []=>rfl
 | (m,b)::r=>by
  simp only [Zh1]
  cases hb:Nat.beq m l with
  | true=>simp only [cond_true];exact Zta r
  | false=>
   simp only [cond_false]
   cases b<;>simp only [PW.get,hb,cond_false]<;>exact Zta r
theorem Zom{σ0 σ0':List (Nat×Blk)}{mt:Bool}{l k q0:Nat}{es:List (List Zh)}(hg:get σ0 l=some (bif mt then .mat k q0 es else .row k es))(h0:get σ0' l=none):∀ (σ:List (Nat×Blk)),Zak (Zh1 mt l es σ).1->∀ m o',get (Zh1 mt l es σ).2 m=some o'->∃ o,get σ m=some o/\Zct σ0 σ0' o o'
 | [],_,m,o',ho=>by cases ho
 | (j,b)::r,h,m,o',ho=>by
  simp only [Zh1] at h ho
  cases hb:Nat.beq j l with
  | true=>
   simp only [hb,cond_true] at h ho
   have:j=l:=(Z3 _ _).1 hb
   subst this
   have hjm:j≠m:=fun e=>by subst e;rw [Zta] at ho;cases ho
   simp only [PW.get,Zgd hjm,cond_false]
   exact Zom hg h0 r h m o' ho
  | false=>
   simp only [hb,cond_false] at h ho
   cases b with
   | row k' es'=>
    simp only [PW.get] at ho ⊢
    cases hm:Nat.beq j m with
    | true=>simp only [hm,cond_true,Option.some.injEq] at ho ⊢;subst ho;exact⟨_,rfl,rfl⟩
    | false=>simp only [hm,cond_false] at ho ⊢;exact Zom hg h0 r h m o' ho
   | mat k' q' es'=>
    simp only [PW.get] at ho ⊢
    cases hm:Nat.beq j m with
    | true=>simp only [hm,cond_true,Option.some.injEq] at ho ⊢;subst ho;exact⟨_,rfl,rfl⟩
    | false=>simp only [hm,cond_false] at ho ⊢;exact Zom hg h0 r h m o' ho
   | map k' es'=>
    simp only [PW.get] at ho ⊢
    cases hm:Nat.beq j m with
    | true=>simp only [hm,cond_true,Option.some.injEq] at ho ⊢;subst ho;exact⟨_,rfl,rfl⟩
    | false=>simp only [hm,cond_false] at ho ⊢;exact Zom hg h0 r h m o' ho
   | prow k' i' es' cs=>
    obtain⟨h1,h2⟩:=Zz.1 h
    simp only [PW.get] at ho ⊢
    cases hm:Nat.beq j m with
    | true=>simp only [hm,cond_true,Option.some.injEq] at ho ⊢;subst ho;exact⟨_,rfl,_,rfl,Zu0 hg h0 cs h1⟩
    | false=>simp only [hm,cond_false] at ho ⊢;exact Zom hg h0 r h2 m o' ho
   | box cs=>
    obtain⟨h1,h2⟩:=Zz.1 h
    simp only [PW.get] at ho ⊢
    cases hm:Nat.beq j m with
    | true=>simp only [hm,cond_true,Option.some.injEq] at ho ⊢;subst ho;exact⟨_,rfl,_,rfl,Zu0 hg h0 cs h1⟩
    | false=>simp only [hm,cond_false] at ho ⊢;exact Zom hg h0 r h2 m o' ho
mutual
def vbx(l:Nat)(ts:List Zh):PV->PV
 | .bptr m o=>bif Nat.beq m l then .vptr (ts.drop o) else .bptr m o
 | .agg cs => .agg (Z70 l ts cs)
 | .tup cs => .tup (Z70 l ts cs)
 | .fn f cs => .fn f (Z70 l ts cs)
 | .t x => .t x
 | .nils => .nils
 | .osl m n => .osl m n
 | .rptr m n i o => .rptr m n i o
 | .vptr cs => .vptr cs
 | .own m d => .own m d
def Z70(l:Nat)(ts:List Zh):List PV->List PV
 | []=>[]
 | c::cs=>vbx l ts c::Z70 l ts cs
end
def Zauf(l:Nat)(ts:List Zh):List (Nat×PV)->List (Nat×PV)
 | []=>[]
 | (i,p)::r=>(i,vbx l ts p)::Zauf l ts r
def Z71(l:Nat)(ts:List Zh):List (Nat×Blk)->List (Nat×Blk)
 | []=>[]
 | (m,b)::r=>
  bif Nat.beq m l then Z71 l ts r else
  match b with
  | .box cs=>(m,.box (Z70 l ts cs))::Z71 l ts r
  | .prow k i es cs=>(m,.prow k i es (Z70 l ts cs))::Z71 l ts r
  | b=>(m,b)::Z71 l ts r
mutual
theorem Za63{σ σ':List (Nat×Blk)}{l:Nat}{ts:List Zh}(hg:get σ l=some (.box (ts.map .t)))(h0:get σ' l=none):∀ (p:PV),Frz σ σ' p (vbx l ts p)
 | .t _=>by simp [vbx,Frz]
 | .nils=>by simp [vbx,Frz]
 | .osl _ _=>by simp [vbx,Frz]
 | .bptr m o=>by
  simp only [vbx]
  cases hb:Nat.beq m l with
  | true=>
   have:m=l:=(Z3 _ _).1 hb
   subst this
   simp only [cond_true,Frz]
   exact .inr ⟨ts,hg,h0,rfl⟩
  | false=>simp only [cond_false,Frz];exact .inl trivial
 | .rptr _ _ _ _=>by simp [vbx,Frz]
 | .vptr _=>by simp [vbx,Frz]
 | .agg cs=>by simp only [vbx,Frz];exact⟨_,rfl,Zz4 hg h0 cs⟩
 | .tup cs=>by simp only [vbx,Frz];exact⟨_,rfl,Zz4 hg h0 cs⟩
 | .fn _ cs=>by simp only [vbx,Frz];exact⟨_,rfl,Zz4 hg h0 cs⟩
 | .own _ _=>by simp only [vbx,Frz];exact .inl trivial
theorem Zz4{σ σ':List (Nat×Blk)}{l:Nat}{ts:List Zh}(hg:get σ l=some (.box (ts.map .t)))(h0:get σ' l=none):∀ (cs:List PV),Zav σ σ' cs (Z70 l ts cs)
 | []=>by simp [Z70,Zav]
 | c::cs=>by simp only [Z70,Zav];exact⟨_,_,rfl,Za63 hg h0 c,Zz4 hg h0 cs⟩
end
theorem Zavv{σ σ':List (Nat×Blk)}{l:Nat}{ts:List Zh}(hg:get σ l=some (.box (ts.map .t)))(h0:get σ' l=none):∀ (tm:List (Nat×PV)) (i:Nat) (q:PV),get (Zauf l ts tm) i=some q->∃ p,get tm i=some p/\Frz σ σ' p q
 | [],i,q,hq=>by cases hq
 | (j,p)::r,i,q,hq=>by
  simp only [Zauf,PW.get] at hq ⊢
  cases hb:Nat.beq j i with
  | true=>simp only [hb,cond_true,Option.some.injEq] at hq ⊢;subst hq;exact⟨p,rfl,Za63 hg h0 p⟩
  | false=>simp only [hb,cond_false] at hq ⊢;exact Zavv hg h0 r i q hq
theorem Z2p{l:Nat}{ts:List Zh}:∀ (σ:List (Nat×Blk)),get (Z71 l ts σ) l=none
 | []=>rfl
 | (m,b)::r=>by
  simp only [Z71]
  cases hb:Nat.beq m l with
  | true=>simp only [cond_true];exact Z2p r
  | false=>
   simp only [cond_false]
   cases b<;>simp only [PW.get,hb,cond_false]<;>exact Z2p r
theorem Zao1{σ0 σ0':List (Nat×Blk)}{l:Nat}{ts:List Zh}(hg:get σ0 l=some (.box (ts.map .t)))(h0:get σ0' l=none):∀ (σ:List (Nat×Blk)) (m:Nat) (o':Blk),get (Z71 l ts σ) m=some o'->∃ o,get σ m=some o/\Zct σ0 σ0' o o'
 | [],m,o',ho=>by cases ho
 | (j,b)::r,m,o',ho=>by
  simp only [Z71] at ho
  cases hb:Nat.beq j l with
  | true=>
   simp only [hb,cond_true] at ho
   have:j=l:=(Z3 _ _).1 hb
   subst this
   have hjm:j≠m:=fun e=>by subst e;rw [Z2p] at ho;cases ho
   simp only [PW.get,Zgd hjm,cond_false]
   exact Zao1 hg h0 r m o' ho
  | false=>
   simp only [hb,cond_false] at ho
   simp only [PW.get]
   cases hm:Nat.beq j m with
   | true=>
    cases b with
    | box cs=>simp only [PW.get,hm,cond_true,Option.some.injEq] at ho ⊢;subst ho;exact⟨_,rfl,_,rfl,Zz4 hg h0 cs⟩
    | row k es=>simp only [PW.get,hm,cond_true,Option.some.injEq] at ho ⊢;subst ho;exact⟨_,rfl,rfl⟩
    | mat k q es=>simp only [PW.get,hm,cond_true,Option.some.injEq] at ho ⊢;subst ho;exact⟨_,rfl,rfl⟩
    | map ag es=>simp only [PW.get,hm,cond_true,Option.some.injEq] at ho ⊢;subst ho;exact⟨_,rfl,rfl⟩
    | prow k i es cs=>simp only [PW.get,hm,cond_true,Option.some.injEq] at ho ⊢;subst ho;exact⟨_,rfl,_,rfl,Zz4 hg h0 cs⟩
   | false=>
    simp only [cond_false]
    refine Zao1 hg h0 r m o' ?_
    cases b<;>simpa only [PW.get,hm,cond_false] using ho
def Zms{α:Type}(l:List (Nat×α)):List Nat->Option (List (Nat×α))
 | []=>some []
 | k::ks=>
  match get l k,Zms l ks with
  | some x,some r=>some ((k,x)::r)
  | _,_=>none
theorem Zi4{α:Type}{l:List (Nat×α)}:∀ {ks:List Nat} {r:List (Nat×α)},Zms l ks=some r->∀ i x,get r i=some x->get l i=some x
 | [],r,h,i,x,hx=>by simp only [Zms,Option.some.injEq] at h;subst h;cases hx
 | k::ks,r,h,i,x,hx=>by
  simp only [Zms] at h
  split at h
  .rename_i y r' hy hr
   cases h
   simp only [PW.get] at hx
   cases hb:Nat.beq k i with
   | true=>have:k=i:=(Z3 _ _).1 hb;subst this;simp only [hb,cond_true,Option.some.injEq] at hx;subst hx;exact hy
   | false=>simp only [hb,cond_false] at hx;exact Zi4 hr i x hx
  .cases h
def Zon(l:Nat)(tm:List (Nat×PV))(σ:List (Nat×Blk)):Bool:=(tm.all fun q => !q.2.has l)&&σ.all fun q => !Nat.beq q.1 l && !q.2.has l
theorem Zwj{l:Nat}{tm:List (Nat×PV)}{σ:List (Nat×Blk)}(h:Zon l tm σ=true):(∀ i q,get tm i=some q->q.has l=false)/\(∀ m y,get σ m=some y->m≠l/\y.has l=false):=by
 simp only [Zon,Bool.and_eq_true,List.all_eq_true] at h
 refine⟨fun i q hq=>?_,fun m y hy=>?_⟩
 .have:=h.1 _ (Zfg hq);simpa using this
 .have:=h.2 _ (Zfg hy)
  simp only [Bool.not_eq_true'] at this
  exact⟨fun e=>by subst e;have:=this.1;simp at this,this.2⟩
def Zcx(l n:Nat):List (Nat×PV)->List Prop×List (Nat×PV)
 | []=>([],[])
 | (i,p)::r=>
  match p with
  | .osl m k=>bif Nat.beq m l then ((k=n)::(Zcx l n r).1,(i,.osl m n)::(Zcx l n r).2) else ((Zcx l n r).1,(i,.osl m k)::(Zcx l n r).2)
  | .rptr m k j o=>bif Nat.beq m l then ((k=n)::(Zcx l n r).1,(i,.rptr m n j o)::(Zcx l n r).2) else ((Zcx l n r).1,(i,.rptr m k j o)::(Zcx l n r).2)
  | .own m (.msl k)=>bif Nat.beq m l then ((k=n)::(Zcx l n r).1,(i,.own m (.msl n))::(Zcx l n r).2) else ((Zcx l n r).1,(i,.own m (.msl k))::(Zcx l n r).2)
  | p=>((Zcx l n r).1,(i,p)::(Zcx l n r).2)
theorem Zhf{l n:Nat}:∀ (tm:List (Nat×PV)),Zak (Zcx l n tm).1->(Zcx l n tm).2=tm
 | [],_=>rfl
 | (i,p)::r,h=>by
  cases p
  case osl m k=>
   simp only [Zcx] at h ⊢
   cases hb:Nat.beq m l with
   | true=>
    simp only [hb,cond_true] at h ⊢
    obtain⟨h1,h2⟩:=h
    subst h1
    rw [Zhf r h2]
   | false=>
    simp only [hb,cond_false] at h ⊢
    rw [Zhf r h]
  case rptr m k j o=>
   simp only [Zcx] at h ⊢
   cases hb:Nat.beq m l with
   | true=>
    simp only [hb,cond_true] at h ⊢
    obtain⟨h1,h2⟩:=h
    subst h1
    rw [Zhf r h2]
   | false=>
    simp only [hb,cond_false] at h ⊢
    rw [Zhf r h]
  case own m d=>
   cases d
   case msl k=>
    simp only [Zcx] at h ⊢
    cases hb:Nat.beq m l with
    | true=>
     simp only [hb,cond_true] at h ⊢
     obtain⟨h1,h2⟩:=h
     subst h1
     rw [Zhf r h2]
    | false=>
     simp only [hb,cond_false] at h ⊢
     rw [Zhf r h]
   all_goals
    simp only [Zcx] at h ⊢
    rw [Zhf r h]
  all_goals
   simp only [Zcx] at h ⊢
   rw [Zhf r h]
def Zeh(l n:Nat):List PV->List Prop×List PV
 | []=>([],[])
 | .osl m k::r=>bif Nat.beq m l then ((k=n)::(Zeh l n r).1,.osl m n::(Zeh l n r).2) else ((Zeh l n r).1,.osl m k::(Zeh l n r).2)
 | .own m (.msl k)::r=>bif Nat.beq m l then ((k=n)::(Zeh l n r).1,.own m (.msl n)::(Zeh l n r).2) else ((Zeh l n r).1,.own m (.msl k)::(Zeh l n r).2)
 | p::r=>((Zeh l n r).1,p::(Zeh l n r).2)
theorem Zkd{l n:Nat}:∀ (cs:List PV),Zak (Zeh l n cs).1->(Zeh l n cs).2=cs
 | [],_=>rfl
 | p::r,h=>by
  cases p
  case osl m k=>
   simp only [Zeh] at h ⊢
   cases hb:Nat.beq m l with
   | true=>
    simp only [hb,cond_true] at h ⊢
    obtain⟨h1,h2⟩:=h
    subst h1
    rw [Zkd r h2]
   | false=>
    simp only [hb,cond_false] at h ⊢
    rw [Zkd r h]
  case own m d=>
   cases d
   case msl k=>
    simp only [Zeh] at h ⊢
    cases hb:Nat.beq m l with
    | true=>
     simp only [hb,cond_true] at h ⊢
     obtain⟨h1,h2⟩:=h
     subst h1
     rw [Zkd r h2]
    | false=>
     simp only [hb,cond_false] at h ⊢
     rw [Zkd r h]
   all_goals (simp only [Zeh] at h ⊢;rw [Zkd r h])
  all_goals
   simp only [Zeh] at h ⊢
   rw [Zkd r h]
def Zfj(l n:Nat):List (Nat×Blk)->List Prop×List (Nat×Blk)
 | []=>([],[])
 | (m,.box cs)::r=>((Zeh l n cs).1++(Zfj l n r).1,(m,.box (Zeh l n cs).2)::(Zfj l n r).2)
 | (m,.row k es)::r=>((Zfj l n r).1,(m,.row k es)::(Zfj l n r).2)
 | (m,.mat k q es)::r=>((Zfj l n r).1,(m,.mat k q es)::(Zfj l n r).2)
 | (m,.map ag es)::r=>((Zfj l n r).1,(m,.map ag es)::(Zfj l n r).2)
 | (m,.prow k i es cs)::r=>((Zeh l n cs).1++(Zfj l n r).1,(m,.prow k i es (Zeh l n cs).2)::(Zfj l n r).2)
theorem Zoo{l n:Nat}:∀ (σ:List (Nat×Blk)),Zak (Zfj l n σ).1->(Zfj l n σ).2=σ
 | [],_=>rfl
 | (m,b)::r,h=>by
  cases b with
  | box cs=>
   simp only [Zfj] at h ⊢
   obtain⟨h1,h2⟩:=Zz.1 h
   rw [Zkd cs h1,Zoo r h2]
  | row k es=>
   simp only [Zfj] at h ⊢
   rw [Zoo r h]
  | mat k q es=>
   simp only [Zfj] at h ⊢
   rw [Zoo r h]
  | map ag es=>
   simp only [Zfj] at h ⊢
   rw [Zoo r h]
  | prow k i es cs=>
   simp only [Zfj] at h ⊢
   obtain⟨h1,h2⟩:=Zz.1 h
   rw [Zkd cs h1,Zoo r h2]
theorem Zakw{G:Frm}{β:Nat->Option Nat}{n:Nat}{tm tm':List (Nat×PV)}{σ σ':List (Nat×Blk)}{a:Act}{w:World}(h:Zam G β ⟨n,tm,σ⟩ a w)
 (hσ:∀ l o',get σ' l=some o'->∃ o,get σ l=some o/\(o'=o\/∃ cs cs',o = .box cs/\o' = .box cs'/\cs'.length=cs.length/\cs'.all PV.one=true/\∀ vs,VRs (ctx G β w σ) cs vs->VRs (ctx G β w σ) cs' vs))
 (ht:∀ i q,get tm' i=some q->∃ p,get tm i=some p/\∀ v,VR (ctx G β w σ) p v->VR (ctx G β w σ) q v):Zam G β ⟨n,tm',σ'⟩ a w:=by
 have hO:∀ l o' o,(o'=o\/∃ cs cs',o = .box cs/\o' = .box cs'/\cs'.length=cs.length/\cs'.all PV.one=true/\∀ vs,VRs (ctx G β w σ) cs vs->VRs (ctx G β w σ) cs' vs)->∀ b,Zag β w l o' b->Zag β w l o b:=fun l o' o hr b ho=>by
  rcases hr with rfl | ⟨cs,cs',rfl,rfl,_⟩
  .exact ho
  .exact .inl (Zag.flat (o := .box cs') trivial ho)
 have hI:∀ b,(ctx G β w σ).I b->(ctx G β w σ').I b/\(ctx G β w σ').w.heap[b]?=(ctx G β w σ).w.heap[b]?:=fun b hb=>⟨⟨hb.1,hb.2.1,fun l o hl ho=>by obtain⟨o2,ho2,hr2⟩:=hσ l o hl;exact hb.2.2 l o2 ho2 (hO l o o2 hr2 b ho)⟩,rfl⟩
 have hL:∀ l,Zal (ctx G β w σ) (ctx G β w σ') l:=fun l=>by
  refine⟨fun k es' hg=>?_,fun cs' hg=>?_,fun k q es' hg=>?_,fun k es' hg=>?_,fun k i es' cs' hg=>?_⟩
  .obtain⟨o,ho,h1⟩:=hσ l _ hg
   rcases h1 with rfl | ⟨cs,cs',_,h2,_⟩
   .exact⟨es',ho,Nat.le_refl _,fun _=>⟨rfl,fun _ _ _ h=>h⟩⟩
   .cases h2
  .obtain⟨o,ho,h1⟩:=hσ l _ hg
   rcases h1 with rfl | ⟨cs,cs',rfl,h2,_⟩
   .exact⟨cs',ho,rfl⟩
   .exact⟨cs,ho,rfl⟩
  .obtain⟨o,ho,h1⟩:=hσ l _ hg
   rcases h1 with rfl | ⟨cs,cs',_,h2,_⟩
   .exact⟨es',ho,Nat.le_refl _,fun _=>⟨rfl,fun _ _=>⟨fun _ h=>h,fun _ _=>rfl⟩⟩⟩
   .cases h2
  .obtain⟨o,ho,h1⟩:=hσ l _ hg
   rcases h1 with rfl | ⟨cs,cs',_,h2,_⟩
   .exact⟨es',ho,rfl⟩
   .cases h2
  .obtain⟨o,ho,h1⟩:=hσ l _ hg
   rcases h1 with rfl | ⟨cs,cs'',_,h2,_⟩
   .exact⟨es',cs',ho,rfl,rfl,fun _ _ _ h=>h⟩
   .cases h2
 exact { defers := h.defers, sz := h.sz, base := h.base, os := h.os, tape := h.tape, output := h.output, old := h.old, A := h.A, gl := h.gl,
         inj:=fun l l' o o' b hl hl' hb hb'=>by
          obtain⟨o1,h1,r1⟩:=hσ l o hl
          obtain⟨o2,h2,r2⟩:=hσ l' o' hl'
          exact h.inj l l' o1 o2 b h1 h2 (hO l o o1 r1 b hb) (hO l' o' o2 r2 b hb'),
         sep:=fun l o b hl hb=>by obtain⟨o1,h1,r1⟩:=hσ l o hl;exact h.sep l o1 b h1 (hO l o o1 r1 b hb),
         fix:=fun l cs h1 hl=>by
          obtain⟨o,ho,h2⟩:=hσ l _ hl
          rcases h2 with rfl | ⟨cs0,cs',rfl,_⟩
          .exact h.fix l cs h1 ho
          .exact h.fix l cs0 h1 ho,
         row0:=h.row0.step (fun m _=>hL m),
         blk:=fun l o' hl=>by
          obtain⟨o,ho,h2⟩:=hσ l o' hl
          have hb:=h.blk l o ho
          rcases h2 with rfl | ⟨cs,cs',rfl,rfl,h3,h4,h5⟩
          .exact BR.step hI rfl (fun _ _=>rfl) (fun m _=>hL m) hb
          .obtain⟨b,vs,f1,f2,f3,f4,f5⟩:=hb
           exact⟨b,vs,f1,by rw [h3];exact f2,f3,VRs.step hI _ _ (fun m _=>hL m) (h5 vs f4),h4⟩,
         tm:=fun i q hq=>by
          obtain⟨p,hp,hf⟩:=ht i q hq
          exact⟨(h.tm i p hp).1,VR.step hI q _ (fun m _=>hL m) (hf _ (h.tm i p hp).2)⟩ }
theorem VRs.set{c:Ctx}{p q:PV}:∀ {cs:List PV} {vs:List Value} {j:Nat},cs[j]?=some p->(∀ v,VR c p v->VR c q v)->VRs c cs vs->VRs c (cs.set j q) vs
 | [],vs,j,h,_,_=>by simp at h
 | x::cs,vs,0,h,hq,hv=>by
  simp only [List.getElem?_cons_zero,Option.some.injEq] at h
  subst h
  simp only [List.set_cons_zero,VRs] at hv ⊢
  obtain⟨v,rest,rfl,hv,hr⟩:=hv
  exact⟨v,rest,rfl,hq v hv,hr⟩
 | x::cs,vs,j+1,h,hq,hv=>by
  simp only [List.set_cons_succ,VRs] at hv ⊢
  obtain⟨v,rest,rfl,hv,hr⟩:=hv
  exact⟨v,rest,rfl,hv,VRs.set (by simpa using h) hq hr⟩
theorem Za1q{q:PV}(hq:q.one=true):∀ {cs:List PV} {j:Nat},cs.all PV.one=true->(cs.set j q).all PV.one=true
 | [],_,h=>h
 | x::cs,0,h=>by simp only [List.set_cons_zero,List.all_cons,Bool.and_eq_true] at h ⊢;exact⟨hq,h.2⟩
 | x::cs,j+1,h=>by simp only [List.set_cons_succ,List.all_cons,Bool.and_eq_true] at h ⊢;exact⟨h.1,Za1q hq h.2⟩
theorem VR.nilt{c:Ctx}(v:Value)(h:VR c .nils v):VR c (.t (.sl [])) v:=by
 simp only [VR] at h ⊢
 obtain⟨a,rfl⟩:=h
 simp only [Z2]
 exact⟨a,0,rfl,by simp,by simp [maxLen],.inl trivial⟩
theorem VR.nilOwn{c:Ctx}{l k:Nat}(hg:get c.σ l=some (.row k []))(hb:c.β l=none)(v:Value)(h:VR c .nils v):VR c (.osl l 0) v:=by
 simp only [VR] at h ⊢
 obtain⟨a,rfl⟩:=h
 refine⟨fun k' es' hg'=>?_,a,0,0,rfl⟩
 rw [hg] at hg'
 cases hg'
 exact⟨Nat.le_refl _,fun _=>⟨a,0,rfl,Nat.le_refl _,by simp [maxLen],.inl ⟨rfl,hb⟩⟩⟩
theorem Zakx{G:Frm}{β:Nat->Option Nat}{w:World}{tm:List (Nat×PV)}{σ:List (Nat×Blk)}{t:Nat}{p q:PV}(hg:get tm t=some p)(hq:∀ v,VR (ctx G β w σ) p v->VR (ctx G β w σ) q v) :
 ∀ i r,get (put tm t q) i=some r->∃ p,get tm i=some p/\∀ v,VR (ctx G β w σ) p v->VR (ctx G β w σ) r v:=fun i r hr=>by
 by_cases hi:t=i
 .subst hi
  rw [Zb8] at hr
  cases hr
  exact⟨p,hg,hq⟩
 .rw [Zb4 _ _ hi] at hr
  exact⟨r,hr,fun _ h=>h⟩
theorem Zaky{G:Frm}{β:Nat->Option Nat}{w:World}{σ:List (Nat×Blk)}{b j:Nat}{cs:List PV}{p q:PV}(hg:get σ b=some (.box cs))(hj:cs[j]?=some p)(h1:cs.all PV.one=true)(h2:q.one=true)(hq:∀ v,VR (ctx G β w σ) p v->VR (ctx G β w σ) q v) :
 ∀ l o',get (put σ b (.box (cs.set j q))) l=some o'->∃ o,get σ l=some o/\(o'=o\/∃ cs cs',o = .box cs/\o' = .box cs'/\cs'.length=cs.length/\cs'.all PV.one=true/\∀ vs,VRs (ctx G β w σ) cs vs->VRs (ctx G β w σ) cs' vs):=fun l o' ho=>by
 by_cases hi:b=l
 .subst hi
  rw [Zb8] at ho
  cases ho
  exact⟨_,hg,.inr ⟨cs,_,rfl,rfl,by simp,Za1q h2 h1,fun vs hv=>VRs.set hj hq hv⟩⟩
 .rw [Zb4 _ _ hi] at ho
  exact⟨o',ho,.inl rfl⟩
def f1(l m:Nat)(j:Nat):Nat:=bif Nat.beq j l then m else j
def Zakz(f:Nat->Nat):List (Nat×PV)->List (Nat×PV)
 | []=>[]
 | (i,p)::r=>(i,p.ren f)::Zakz f r
theorem Zavw(f:Nat->Nat):∀ tm:List (Nat×PV),Zakz f tm=tm.map fun x=>(x.1,x.2.ren f)
 | []=>rfl
 | (i,p)::r=>by simp only [Zakz,List.map_cons,Zavw f r]
theorem Wk.relab{st:St}{l m:Nat}(hm:1000<=m)(hf:Zon m st.tm st.σ=true):Wk st ⟨st.n,Zakz (f1 l m) st.tm,Zcp (f1 l m) st.σ⟩:=by
 rintro G a w ⟨β,h⟩
 obtain⟨g1,g2⟩:=Zwj hf
 rw [Zavw]
 exact Zbgl (n:=st.n) (tm:=st.tm) (σ:=st.σ) h l m hm g1 g2
theorem Wk.slot{st:St}{t:Nat}{p q:PV}(hg:get st.tm t=some p)(hq:∀ c v,VR c p v->VR c q v):Wk st ⟨st.n,put st.tm t q,st.σ⟩:=
 fun _ _ _ ⟨β,h⟩=>⟨β,Zakw (n:=st.n) (tm:=st.tm) (σ:=st.σ) h (fun _ o ho=>⟨o,ho,.inl rfl⟩) (Zakx hg (hq _))⟩
theorem Za1r{G:Frm}{st:St}{β:Nat->Option Nat}{a:Act}{w:World}(h:Zam G β st a w){b:Nat}{cs:List PV}(hg:get st.σ b=some (.box cs)):cs.all PV.one=true:=by
 obtain⟨_,_,_,_,_,_,h⟩:=h.blk b _ hg
 exact h
theorem Wk.cell{st:St}{b j:Nat}{cs:List PV}{p q:PV}(hg:get st.σ b=some (.box cs))(hj:cs[j]?=some p)(h2:q.one=true)(hq:∀ c v,VR c p v->VR c q v):Wk st ⟨st.n,st.tm,put st.σ b (.box (cs.set j q))⟩:=
 fun _ _ _ ⟨β,h⟩=>⟨β,Zakw (n:=st.n) (tm:=st.tm) (σ:=st.σ) h (Zaky hg hj (Za1r h hg) h2 (hq _)) (fun _ q hq=>⟨q,hq,fun _ h=>h⟩)⟩
theorem Wk.ownc{st:St}{t j l k:Nat}{cs:List PV}(hg:get st.tm t=some (.agg cs))(hj:cs[j]?=some .nils)(hk:0 < k)(hl:1000<=l)(hf:Zon l st.tm st.σ=true):Wk st ⟨st.n,put st.tm t (.agg (cs.set j (.osl l 0))),(l,.row k [])::st.σ⟩:=by
 rintro G a w ⟨β,h⟩
 obtain⟨g1,g2⟩:=Zwj hf
 have h':=Zakh (n:=st.n) (tm:=st.tm) (σ:=st.σ) h l k hk hl g1 g2
 refine⟨Zoj β l,Zakw h' (fun _ o ho=>⟨o,ho,.inl rfl⟩) (Zakx hg fun v hv=>?_)⟩
 simp only [VR] at hv ⊢
 obtain⟨vs,hv,hs⟩:=hv
 exact⟨vs,hv,VRs.set hj (VR.nilOwn (l:=l) (k:=k) (by simp [ctx,PW.get]) (by simp [ctx,Zoj])) hs⟩
theorem Wk.ownb{st:St}{b j l k:Nat}{cs:List PV}(hg:get st.σ b=some (.box cs))(hj:cs[j]?=some .nils)(hk:0 < k)(hl:1000<=l)(hf:Zon l st.tm st.σ=true):Wk st ⟨st.n,st.tm,put ((l,.row k [])::st.σ) b (.box (cs.set j (.osl l 0)))⟩:=by
 rintro G a w ⟨β,h⟩
 obtain⟨g1,g2⟩:=Zwj hf
 have h':=Zakh (n:=st.n) (tm:=st.tm) (σ:=st.σ) h l k hk hl g1 g2
 have hbl:b≠l:=(g2 b _ hg).1
 exact⟨Zoj β l,Zakw h' (Zaky (by simp only [PW.get,Zgd (Ne.symm hbl),cond_false];exact hg) hj (Za1r h hg) rfl (VR.nilOwn (l:=l) (k:=k) (by simp [ctx,PW.get]) (by simp [ctx,Zoj]))) (fun _ q hq=>⟨q,hq,fun _ h=>h⟩)⟩
def Zbt:List Orc->St->Es
 | .frz l::xs,st=>
  match get st.σ l with
  | some (.row _ es)=>
   match Zbt xs ⟨st.n,(Zs9 false l es st.tm).2,(Zh1 false l es st.σ).2⟩ with
   | some (ps,xs',st')=>some ((Zs9 false l es st.tm).1++((Zh1 false l es st.σ).1++ps),xs',st')
   | none=>none
  | some (.mat _ _ es)=>
   match Zbt xs ⟨st.n,(Zs9 true l es st.tm).2,(Zh1 true l es st.σ).2⟩ with
   | some (ps,xs',st')=>some ((Zs9 true l es st.tm).1++((Zh1 true l es st.σ).1++ps),xs',st')
   | none=>none
  | some (.box cs)=>match Znw cs with | some ts=>Zbt xs ⟨st.n,Zauf l ts st.tm,Z71 l ts st.σ⟩ | none=>none
  | _=>none
 | .relen l::xs,st=>
  match get st.σ l with
  | some (.row _ es)=>
   match Zbt xs ⟨st.n,(Zcx l es.length st.tm).2,(Zfj l es.length st.σ).2⟩ with
   | some (ps,xs',st')=>some ((Zcx l es.length st.tm).1++((Zfj l es.length st.σ).1++ps),xs',st')
   | none=>none
  | some (.mat _ _ es)=>
   match Zbt xs ⟨st.n,(Zcx l es.length st.tm).2,(Zfj l es.length st.σ).2⟩ with
   | some (ps,xs',st')=>some ((Zcx l es.length st.tm).1++((Zfj l es.length st.σ).1++ps),xs',st')
   | none=>none
  | _=>none
 | .opn l i e::xs,st=>
  match get st.σ l with
  | some (.row k es)=>
   bif Nat.ble 1000 l then
    match Zzq (opnV l i) st.tm,Z7z l (.prow k i es (e.map .t)) (opnV l i) st.σ with
    | some (q1,tm),some (q2,σ)=>
     match Zbt xs ⟨st.n,tm,σ⟩ with
     | some (ps,xs',st')=>some ((es[i]?=some e)::(q1++(q2++ps)),xs',st')
     | none=>none
    | _,_=>none
   else none
  | _=>none
 | .cls l es'::xs,st=>
  match get st.σ l with
  | some (.prow k i es cs)=>
   match Znw cs with
   | some ts=>
    bif Nat.ble 1000 l then
     match Zzq (clsV l i es.length) st.tm,Z7z l (.row k es') (clsV l i es.length) st.σ with
     | some (q1,tm),some (q2,σ)=>
      match Zbt xs ⟨st.n,tm,σ⟩ with
      | some (ps,xs',st')=>some ((es.set i ts=es')::(q1++(q2++ps)),xs',st')
      | none=>none
     | _,_=>none
    else none
   | none=>none
  | _=>none
 | .tomat l::xs,st=>
  match get st.σ l with
  | some (.row 1 es)=>
   bif (st.σ.all fun q => !q.2.has l)&&Zzp st.tm then
    match Zbt xs ⟨st.n,toM l st.tm,put st.σ l (.mat 1 0 es)⟩ with
    | some (ps,xs',st')=>some ((∀ e,e∈es->e=[Zh.sl []])::ps,xs',st')
    | none=>none
   else none
  | _=>none
 | .pick ks ls::xs,st=>
  match Zms st.tm ks,Zms st.σ ls with
  | some tm,some σ=>Zbt xs ⟨st.n,tm,σ⟩
  | _,_=>none
 | .own t l k::xs,st=>
  match get st.tm t with
  | some .nils=>bif Nat.blt 0 k&&Nat.ble 1000 l&&Zon l st.tm st.σ&&Nat.blt t st.n then Zbt xs ⟨st.n,put st.tm t (.osl l 0),(l,.row k [])::st.σ⟩ else none
  | _=>none
 | .relab l m::xs,st=>bif Nat.ble 1000 m&&Zon m st.tm st.σ then Zbt xs ⟨st.n,Zakz (f1 l m) st.tm,Zcp (f1 l m) st.σ⟩ else none
 | .nilt t::xs,st=>match get st.tm t with | some .nils=>Zbt xs ⟨st.n,put st.tm t (.t (.sl [])),st.σ⟩ | _=>none
 | .niltc t j::xs,st=>
  match get st.tm t with
  | some (.agg cs)=>match cs[j]? with | some .nils=>Zbt xs ⟨st.n,put st.tm t (.agg (cs.set j (.t (.sl [])))),st.σ⟩ | _=>none
  | _=>none
 | .niltb b j::xs,st=>
  match get st.σ b with
  | some (.box cs)=>match cs[j]? with | some .nils=>Zbt xs ⟨st.n,st.tm,put st.σ b (.box (cs.set j (.t (.sl []))))⟩ | _=>none
  | _=>none
 | .ownc t j l k::xs,st=>
  match get st.tm t with
  | some (.agg cs)=>match cs[j]? with | some .nils=>bif Nat.blt 0 k&&Nat.ble 1000 l&&Zon l st.tm st.σ then Zbt xs ⟨st.n,put st.tm t (.agg (cs.set j (.osl l 0))),(l,.row k [])::st.σ⟩ else none | _=>none
  | _=>none
 | .ownb b j l k::xs,st=>
  match get st.σ b with
  | some (.box cs)=>match cs[j]? with | some .nils=>bif Nat.blt 0 k&&Nat.ble 1000 l&&Zon l st.tm st.σ then Zbt xs ⟨st.n,st.tm,put ((l,.row k [])::st.σ) b (.box (cs.set j (.osl l 0)))⟩ else none | _=>none
  | _=>none
 | xs,st=>some ([],xs,st)
theorem Wk.pick{st:St}{tm:List (Nat×PV)}{σ:List (Nat×Blk)}{ks ls:List Nat}(h1:Zms st.tm ks=some tm)(h2:Zms st.σ ls=some σ):Wk st ⟨st.n,tm,σ⟩:=
 fun _ _ _ ⟨β,h⟩=>⟨β,h.sub (Nat.le_refl _) (fun i p hp=>⟨Zi4 h1 i p hp,(h.tm i p (Zi4 h1 i p hp)).1⟩) (fun l o ho=>Zi4 h2 l o ho)⟩
theorem Wk.own{st:St}{t l k:Nat}(hg:get st.tm t=some .nils)(hk:0 < k)(hl:1000<=l)(hf:Zon l st.tm st.σ=true):Wk st ⟨st.n,put st.tm t (.osl l 0),(l,.row k [])::st.σ⟩:=by
 rintro G a w ⟨β,h⟩
 obtain⟨f1,f2⟩:=Zwj hf
 have h':=Zakh (n:=st.n) (tm:=st.tm) (σ:=st.σ) h l k hk hl f1 f2
 refine⟨Zoj β l,?_⟩
 have hv:=(h.tm t _ hg)
 simp only [VR] at hv
 obtain⟨hlt,a0,hv⟩:=hv
 exact { defers := h'.defers, sz := h'.sz, base := h'.base, os := h'.os, tape := h'.tape, output := h'.output, old := h'.old, A := h'.A, gl := h'.gl, inj := h'.inj, sep := h'.sep, fix := h'.fix, row0 := h'.row0, blk := h'.blk,
         tm:=fun i p hp=>by
          by_cases hi:t=i
          .subst hi
           rw [Zb8] at hp
           cases hp
           refine⟨hlt,?_⟩
           simp only [VR]
           refine⟨fun k' es' hes'=>?_,a0,0,0,hv⟩
           have hgs:get ((l,Blk.row k [])::st.σ) l=some (.row k []):=by simp [PW.get]
           have:some (Blk.row k' es')=some (.row k []):=Eq.trans (Eq.symm hes') hgs
           cases this
           exact⟨Nat.le_refl _,fun _=>⟨a0,0,hv,Nat.le_refl _,by simp [maxLen],.inl ⟨rfl,by simp [ctx,Zoj]⟩⟩⟩
          .rw [Zb4 _ _ hi] at hp
           exact h'.tm i p hp }
theorem Zcz:∀ (xs:List Orc) (st:St) {ps:List Prop} {xs':List Orc} {st':St},Zbt xs st=some (ps,xs',st')->Zak ps->Wk st st'
 | [],st,ps,xs',st',h,_=>by simp only [Zbt,Option.some.injEq,Prod.mk.injEq] at h;rw [h.2.2];exact Wk.refl _
 | x::xs,st,ps,xs',st',h,hc=>by
  cases x
  case frz l=>
   simp only [Zbt] at h
   split at h
   .rename_i k es hg
    split at h
    .rename_i ps' xs2 st2 h2
     cases h
     obtain⟨h3,h4⟩:=Zz.1 hc
     obtain⟨h4,h5⟩:=Zz.1 h4
     have h0:=Zta (mt:=false) (l:=l) (es:=es) st.σ
     exact (Wk.frz (Zom (mt:=false) (q0:=0) hg h0 st.σ h4) (Zabj (mt:=false) (q0:=0) hg h0 st.tm h3)).trans (Zcz xs _ h2 h5)
    .cases h
   .rename_i k q0 es hg
    split at h
    .rename_i ps' xs2 st2 h2
     cases h
     obtain⟨h3,h4⟩:=Zz.1 hc
     obtain⟨h4,h5⟩:=Zz.1 h4
     have h0:=Zta (mt:=true) (l:=l) (es:=es) st.σ
     exact (Wk.frz (Zom (mt:=true) (k:=k) hg h0 st.σ h4) (Zabj (mt:=true) (k:=k) hg h0 st.tm h3)).trans (Zcz xs _ h2 h5)
    .cases h
   .rename_i cs hg
    split at h
    .rename_i ts hts
     have e:=Zpr hts
     subst e
     have h0:=Z2p (l:=l) (ts:=ts) st.σ
     exact (Wk.frz (Zao1 hg h0 st.σ) (Zavv hg h0 st.tm)).trans (Zcz xs _ h hc)
    .cases h
   .cases h
  case relen l=>
   simp only [Zbt] at h
   split at h
   .rename_i k es hg
    split at h
    .rename_i ps' xs2 st2 h2
     cases h
     obtain⟨h3,h4⟩:=Zz.1 hc
     obtain⟨h4,h5⟩:=Zz.1 h4
     have:=Zcz xs _ h2 h5
     rw [Zhf _ h3,Zoo _ h4] at this
     exact this
    .cases h
   .rename_i k q0 es hg
    split at h
    .rename_i ps' xs2 st2 h2
     cases h
     obtain⟨h3,h4⟩:=Zz.1 hc
     obtain⟨h4,h5⟩:=Zz.1 h4
     have:=Zcz xs _ h2 h5
     rw [Zhf _ h3,Zoo _ h4] at this
     exact this
    .cases h
   .cases h
  case opn l i e=>
   simp only [Zbt] at h
   split at h
   .rename_i k es hg
    have hbh:=Zaj h;clear h;obtain⟨hb,h⟩:=hbh
    split at h
    .rename_i q1 tm q2 σ h1 h2
     split at h
     .rename_i ps' xs2 st2 h3
      cases h
      obtain⟨c1,c2⟩:=hc
      obtain⟨c2,c3⟩:=Zz.1 c2
      obtain⟨c3,c4⟩:=Zz.1 c3
      exact (Wk.opn (Nat.le_of_ble_eq_true hb) hg c1 h1 h2 c2 c3).trans (Zcz xs _ h3 c4)
     .cases h
    .cases h
   .cases h
  case cls l es'=>
   simp only [Zbt] at h
   split at h
   .rename_i k i es cs hg
    split at h
    .rename_i ts ht
     have hbh:=Zaj h;clear h;obtain⟨hb,h⟩:=hbh
     split at h
     .rename_i q1 tm q2 σ h1 h2
      split at h
      .rename_i ps' xs2 st2 h3
       cases h
       obtain⟨c1,c2⟩:=hc
       obtain⟨c2,c3⟩:=Zz.1 c2
       obtain⟨c3,c4⟩:=Zz.1 c3
       exact (Wk.cls (Nat.le_of_ble_eq_true hb) hg ht c1 h1 h2 c2 c3).trans (Zcz xs _ h3 c4)
      .cases h
     .cases h
    .cases h
   .cases h
  case tomat l=>
   simp only [Zbt] at h
   split at h
   .rename_i es hg
    have hbh:=Zaj h;clear h;obtain⟨hb,h⟩:=hbh
    simp only [Bool.and_eq_true] at hb
    split at h
    .rename_i ps' xs2 st2 h2
     cases h
     exact (Wk.tomat hg hc.1 hb.1 hb.2).trans (Zcz xs _ h2 hc.2)
    .cases h
   .cases h
  case pick ks ls=>
   simp only [Zbt] at h
   split at h
   .rename_i tm σ h1 h2
    exact (Wk.pick h1 h2).trans (Zcz xs _ h hc)
   .cases h
  case own t l k=>
   simp only [Zbt] at h
   split at h
   .rename_i hg
    obtain⟨hb,h⟩:=Zaj h
    simp only [Bool.and_eq_true,Nat.blt_eq,Zd8] at hb
    exact (Wk.own hg hb.1.1.1 hb.1.1.2 hb.1.2).trans (Zcz xs _ h hc)
   .cases h
  case relab l m=>
   simp only [Zbt] at h
   obtain⟨hb,h⟩:=Zaj h
   simp only [Bool.and_eq_true,Zd8] at hb
   exact (Wk.relab hb.1 hb.2).trans (Zcz xs _ h hc)
  case nilt t=>
   simp only [Zbt] at h
   split at h
   .rename_i hg;exact (Wk.slot hg fun _ v hv=>VR.nilt v hv).trans (Zcz xs _ h hc)
   .cases h
  case niltc t j=>
   simp only [Zbt] at h
   split at h
   .rename_i cs hg
    split at h
    .rename_i hj
     refine (Wk.slot hg fun c v hv=>?_).trans (Zcz xs _ h hc)
     simp only [VR] at hv ⊢
     obtain⟨vs,hv,hs⟩:=hv
     exact⟨vs,hv,VRs.set hj VR.nilt hs⟩
    .cases h
   .cases h
  case niltb b j=>
   simp only [Zbt] at h
   split at h
   .rename_i cs hg
    split at h
    .rename_i hj;exact (Wk.cell hg hj rfl fun _ v hv=>VR.nilt v hv).trans (Zcz xs _ h hc)
    .cases h
   .cases h
  case ownc t j l k=>
   simp only [Zbt] at h
   split at h
   .rename_i cs hg
    split at h
    .rename_i hj
     obtain⟨hb,h⟩:=Zaj h
     simp only [Bool.and_eq_true,Nat.blt_eq,Zd8] at hb
     exact (Wk.ownc hg hj hb.1.1 hb.1.2 hb.2).trans (Zcz xs _ h hc)
    .cases h
   .cases h
  case ownb b j l k=>
   simp only [Zbt] at h
   split at h
   .rename_i cs hg
    split at h
    .rename_i hj
     obtain⟨hb,h⟩:=Zaj h
     simp only [Bool.and_eq_true,Nat.blt_eq,Zd8] at hb
     exact (Wk.ownb hg hj hb.1.1 hb.1.2 hb.2).trans (Zcz xs _ h hc)
    .cases h
   .cases h
  all_goals
   simp only [Zbt,Option.some.injEq,Prod.mk.injEq] at h
   rw [h.2.2];exact Wk.refl _
def Zavx:Es->Es
 | some (ps,.stop::xs,st)=>some (ps,xs,st)
 | r=>r
theorem Za3n{r:Es}{ps:List Prop}{xs:List Orc}{st:St}(h:Zavx r=some (ps,xs,st)):∃ xs',r=some (ps,xs',st):=by
 unfold Zavx at h
 split at h
 .cases h;exact⟨_,rfl⟩
 .exact⟨_,h⟩
def evAt(d:Option Nat)(xs:List Orc)(st:St):Es:=
 match xs,d with
 | .ahead i::xs',some j=>bif Nat.beq i j then Zavx (Zbt xs' st) else some ([],xs,st)
 | _,_=>some ([],xs,st)
theorem Za1s{d:Option Nat}{xs:List Orc}{st:St}{ps:List Prop}{xs':List Orc}{st':St}(h:evAt d xs st=some (ps,xs',st'))(hc:Zak ps):Wk st st':=by
 have triv:∀ ys:List Orc,(some ([],ys,st):Es)=some (ps,xs',st')->Wk st st':=fun ys h=>by cases h;exact Wk.refl _
 unfold evAt at h
 split at h
 .rename_i i xs2 j
  cases hb:Nat.beq i j with
  | true=>
   simp only [hb,cond_true] at h
   obtain⟨ys,h⟩:=Za3n h
   exact Zcz _ _ h hc
  | false=>simp only [hb,cond_false] at h;exact triv _ h
 .exact triv _ h
def Za3p(T:TS)(o:Oper)(st:St)(xs:List Orc):Es:=
 match o.op with
 | .store t x y=>
  match o.dst,get T t,Zp st.tm x,Zp st.tm y with
  | none,some i,some (.bptr l q),some p=>
   match get st.σ l,xs with
   | some (.box cs),.sp cs'::xs=>bif Nat.beq (Z8 p).length i.size&&(Z8 p).all PV.one then some ([q+i.size<=cs.length,splice cs q (Z8 p)=cs'],xs,⟨st.n,st.tm,put st.σ l (.box cs')⟩) else none
   | some (.box cs),xs=>bif Nat.beq (Z8 p).length i.size&&(Z8 p).all PV.one&&Nat.ble (q+i.size) cs.length then some ([],xs,⟨st.n,st.tm,put st.σ l (.box (splice cs q (Z8 p)))⟩) else none
   | _,_=>none
  | none,some i,some (.rptr l m j q),some p=>
   match get st.σ l,xs,Zeb (Z8 p) with
   | some (.row k es),.cs e :: .es es'::xs,some ts=>
    bif Nat.beq ts.length i.size&&Nat.ble (q+i.size) k then some ([es.length=m,es[j]?=some e,es.set j (splice e q ts)=es'],xs,⟨st.n,st.tm,put st.σ l (.row k es')⟩) else none
   | _,_,_=>none
  | _,_,_,_=>none
 | .convert s t x=>
  match Zdz T t,Zp st.tm x,o.dst with
  | some (_,⟨_,_,_,_,.int .u8,_⟩),some (.osl l m),some d=>
   match get st.σ l with
   | some (.row _ es)=>bif Nat.beq s t&&Nat.blt d st.n then some ([False],xs,⟨st.n,put st.tm d (.osl l m),st.σ⟩) else none
   | _=>none
  | _,_,_=>none
 | _=>none
def Za3q(T:TS)(o:Oper)(st:St)(xs:List Orc):Es:=
 match o.op with
 | .call c=>
  match c.callee,Zkb st.tm c.args.toList,c.argTypes.toList,o.dst,xs with
  | .builtin .clear,some [.own l (.tail m i)],[t],none,.es es'::xs=>
   match Zdz T t,get st.σ l with
   | some (_,⟨_,k,bytes,some z,_,_⟩),some (.row k' es)=>
    match Zeb z with
    | some zs=>bif Nat.blt 0 k&&Nat.beq z.length k&&Nat.beq k k' then some ([es.length=m,i<=m,es.take i++List.replicate (m - i) zs=es'],xs,⟨st.n,st.tm,put st.σ l (.row k es')⟩) else none
    | none=>none
   | _,_=>none
  | _,_,_,_,_=>none
 | .slice t x none (some y) none=>
  match Zdz T t,Zp st.tm x,Zp st.tm y,o.dst,xs with
  | some (_,j),some (.osl l m),some (.t (.int _ i)),some d,.nat q :: .es es'::xs=>
   match get st.σ l with
   | some (.row k es)=>bif Nat.beq j.size k&&Nat.blt d st.n&&(st.σ.all fun q => !q.2.has l)&&Zzp st.tm&&Nat.ble 1000 l then some ([es.length=m,0<=i,i<=m,i.toNat=q,es.take i.toNat=es'],xs,⟨st.n,put (Z7w l st.tm) d (.osl l q),put st.σ l (.row k es')⟩) else none
   | _=>none
  | _,_,_,_,_=>none
 | .store t x y=>
  match o.dst,get T t,Zp st.tm x,Zp st.tm y,xs with
  | none,some i,some (.own l (.mel m j q)),some (.t z),.es inner :: .es es'::xs=>
   match get st.σ l with
   | some (.mat 1 0 es)=>bif !i.agg&&Nat.beq i.size 1&&z.scal then some ([es.length=m,es[j]?=some [.sl inner],q < inner.length,es.set j [.sl (inner.set q [z])]=es'],xs,⟨st.n,st.tm,put st.σ l (.mat 1 0 es')⟩) else none
   | _=>none
  | none,some i,some (.own l (.mpt m j 0)),some (.osl l2 n2),.es es'::xs=>
   match get st.σ l,get st.σ l2 with
   | some (.mat 1 0 es),some (.row 1 es2)=>bif (!i.agg&&Nat.beq i.size 1)&&(!Nat.beq l l2&&((st.σ.all fun q=>q.2.mo l)&&Zzp st.tm)) then some ([es.length=m,j < m,es2.length=n2,SC1 es2,es.set j [.sl es2]=es'],xs,⟨st.n,Z2k l st.tm,(l,.mat 1 0 es')::Zbm [l,l2] st.σ⟩) else none
   | _,_=>none
  | _,_,_,_,_=>none
 | .mapUpdate t x y z=>
  match o.dst,(get T t).map (·.k),Zp st.tm x,Zp st.tm y,Zp st.tm z,xs with
  | none,some (TK.map k _),some (.own l .map),some (.t (.int .i64 i)),some p,.cs ts :: .mp es'::xs=>
   match get st.σ l,(get T k).map (·.k) with
   | some (.map ag es),some (TK.int .i64)=>some ([p=mvP ag ts,Zho es i ts=es'],xs,⟨st.n,st.tm,put st.σ l (.map ag es')⟩)
   | _,_=>none
  | _,_,_,_,_,_=>none
 | _=>none
def evUp(T:TS)(o:Oper)(st:St)(xs:List Orc):Es:=
 match Za3p T o st xs with
 | some r=>some r
 | none=>Za3q T o st xs
section
variable {P:Program} {T:TS} {o:Oper} {xs xs':List Orc} {ps:List Prop}
theorem Zbam(hT:TOK P T){st st':St}(h:Za3p T o st xs=some (ps,xs',st'))(hc:Zak ps):Zxy P o st st':=by
 obtain⟨n,tm,σ⟩:=st
 unfold Za3p at h
 split at h
 .rename_i t x y ho
  split at h
  .rename_i i l q p hd hi hx hy
   split at h
   .rename_i cs cs' xs2 hg
    have hbh:=Zaj h;clear h;obtain⟨hb,h⟩:=hbh
    simp only [Bool.and_eq_true,Z3] at hb
    cases h
    obtain⟨h1,h2,_⟩:=hc
    subst h2
    exact Zaqy ho hd (hT _ _ hi).ty hx hy hg hb.1 hb.2 h1
   .rename_i cs hg _
    have hbh:=Zaj h;clear h;obtain⟨hb,h⟩:=hbh
    simp only [Bool.and_eq_true,Z3,Zd8] at hb
    cases h
    exact Zaqy ho hd (hT _ _ hi).ty hx hy hg hb.1.1 hb.1.2 hb.2
   .cases h
  .rename_i i l m j q p hd hi hx hy
   split at h
   .rename_i k es e es' xs2 ts hg hts
    have hbh:=Zaj h;clear h;obtain⟨hb,h⟩:=hbh
    simp only [Bool.and_eq_true,Z3,Zd8] at hb
    cases h
    obtain⟨h1,h2,h3,_⟩:=hc
    subst h3
    exact Za6k ho hd (hT _ _ hi).ty hx hy hg h1 h2 hts hb.1 hb.2
   .cases h
  .cases h
 .rename_i s t x ho
  split at h
  .rename_i e agg sz by_ z fl l m d he hx hd
   split at h
   .rename_i k es hg
    have hbh:=Zaj h;clear h;obtain⟨hb,h⟩:=hbh
    simp only [Bool.and_eq_true,Z3,Nat.blt_eq] at hb
    obtain⟨rfl,hb2⟩:=hb
    cases h
    obtain⟨i,hi,hk,hj⟩:=Zcl he
    have hu:=(hT _ _ hi).k
    rw [hk] at hu
    have hu2:P.underlying e=some (.int .u8):=(hT _ _ hj).k
    exact hc.1.elim
   .cases h
  .cases h
 .cases h
theorem Zban(hT:TOK P T){st st':St}(h:Za3q T o st xs=some (ps,xs',st'))(hc:Zak ps):Zxy P o st st':=by
 obtain⟨n,tm,σ⟩:=st
 unfold Za3q at h
 split at h
 .rename_i c ho
  split at h
  .rename_i l m i t es' xs2 hce hps hat hd
   obtain⟨x,hax,hx⟩:=Z2o hps
   have hceq:=Zj2 hce hax hat
   rw [hceq] at ho
   split at h
   .rename_i e agg k bytes z kk fl k' es he hg
    split at h
    .rename_i zs hzs
     have hbh:=Zaj h;clear h;obtain⟨hb,h⟩:=hbh
     simp only [Bool.and_eq_true,Z3] at hb
     obtain⟨⟨hb1,hb2⟩,hb3⟩:=hb
     subst hb3
     cases h
     obtain⟨h1,h2,h3,_⟩:=hc
     subst h3
     exact Za9x ho hd (Zzr (z:=z) hT he rfl hb1 ((Z3 _ _).2 hb2)) hzs hx hg h1 h2
    .cases h
   .cases h
  .cases h
 .rename_i t x y ho
  split at h
  .rename_i e j l m ki i d q es' xs2 he hx hy hd
   split at h
   .rename_i k es hg
    have hbh:=Zaj h;clear h;obtain⟨hb,h⟩:=hbh
    simp only [Bool.and_eq_true,Z3,Nat.blt_eq] at hb
    obtain⟨⟨⟨⟨hb1,hb2⟩,hb3⟩,hb4⟩,hb5⟩:=hb
    cases h
    obtain⟨h1,h2,h3,h4,h5,_⟩:=hc
    subst h4
    subst h5
    obtain⟨i0,hi0,hk0,hj⟩:=Zcl he
    exact Za9y ho hd hb2 (hb1▸hT.slInfo hi0 hk0 hj) hx hy hg h1 h2 h3 (Nat.le_of_ble_eq_true hb5) hb3 hb4
   .cases h
  .cases h
 .rename_i t x y ho
  split at h
  .rename_i i l m j q z inner es' xs2 hd hi hx hy
   split at h
   .rename_i es hg
    have hbh:=Zaj h;clear h;obtain⟨hb,h⟩:=hbh
    simp only [Bool.and_eq_true,Bool.not_eq_true',Z3] at hb
    cases h
    obtain⟨h1,h2,h3,h4,_⟩:=hc
    subst h4
    have hty:=(hT t i hi).ty
    rw [hb.1.1,hb.1.2] at hty
    exact Za0d ho hd hty hx hy rfl hb.2 hg h1 h2 h3
   .cases h
  .rename_i i l m j l2 n2 es' xs2 hd hi hx hy
   split at h
   .rename_i es es2 hg hg2
    have hbh:=Zaj h;clear h;obtain⟨hb,h⟩:=hbh
    simp only [Bool.and_eq_true,Bool.not_eq_true',Z3] at hb
    cases h
    obtain⟨h1,h2,h3,h4,h5,_⟩:=hc
    subst h5
    have hty:=(hT t i hi).ty
    rw [hb.1.1,hb.1.2] at hty
    exact Za0e ho hd hty hx hy hg h1 h2 hg2 h3 h4 (Z55 (by rw [hb.2.1];rfl)) hb.2.2.1 hb.2.2.2
   .cases h
  .cases h
 .rename_i t x y z ho
  split at h
  .rename_i k e l i p ts es' xs2 hd hk hx hy hz
   split at h
   .rename_i ag es hg hi
    cases h
    obtain⟨h1,h2,_⟩:=hc
    subst h2
    exact Zavh ho hd (mapK (hT:=hT) hk) (intK (hT:=hT) hi) hx hy hz h1 hg
   .cases h
  .cases h
 .cases h
theorem Zbeq(hT:TOK P T){st st':St}(h:evUp T o st xs=some (ps,xs',st'))(hc:Zak ps):Zxy P o st st':=by
 unfold evUp at h
 split at h
 .rename_i h0;cases h;exact Zbam hT h0 hc
 .exact Zban hT h hc
def Zaep(ops:Array Oper)(tm:List (Nat×PV))(o:Oper)(xs:List Orc):Option (List Prop×List Orc×Bool):=
 match o.guard with
 | none=>some ([],xs,true)
 | some (g,want)=>
  match (ops[g]?).bind (·.dst) with
  | none=>none
  | some d=>
   match get tm d,xs with
   | some (.t (.bool e)),.br b::xs=>some ([e=b],xs,b==want)
   | some (.tup []),xs=>some ([],xs,false)
   | _,_=>none
theorem Zmt{ops:Array Oper}{tm:List (Nat×PV)}{r:Bool}(h:Zaep ops tm o xs=some (ps,xs',r))(hc:Zak ps):Zlh ops tm o=some r:=by
 unfold Zaep at h
 unfold Zlh
 split at h
 .rename_i hg;cases h;rw [hg]
 .rename_i g want hg
  rw [hg]
  simp only
  split at h
  .cases h
  .rename_i d hd
   simp only [hd]
   split at h
   .rename_i e b xs2 he
    cases h
    have:=hc.1
    subst this
    simp [he]
   .rename_i he;cases h;simp [he]
   .cases h
def Zwk(rm:List Nat)(tm:List (Nat×PV))(σ:List (Nat×Blk)):List (Nat×Blk)->Bool
 | []=>true
 | (l,_)::r=>(Zz5 rm l||Zon l tm σ)&&Zwk rm tm σ r
theorem Z0f{rm:List Nat}{tm:List (Nat×PV)}{σ:List (Nat×Blk)}:∀ {news:List (Nat×Blk)},Zwk rm tm σ news=true->∀ l x,(l,x)∈news->l∉rm->(∀ i q,get tm i=some q->q.has l=false)/\(∀ m y,get σ m=some y->m≠l/\y.has l=false)
 | [],_,l,x,hm,_=>by cases hm
 | (m,y)::r,h,l,x,hm,hr=>by
  simp only [Zwk,Bool.and_eq_true,Bool.or_eq_true] at h
  rcases List.mem_cons.1 hm with hm | hm
  .cases hm
   rcases h.1 with h1 | h1
   .exact absurd (Z7p.1 h1) hr
   .exact Zwj h1
  .exact Z0f h.2 l x hm hr
def dstN(o:Oper):Nat:=match o.dst with | some d=>d | none=>1000000
def Zavy(P:Program)(T:TS)(ops:Array Oper)(o:Oper)(xs:List Orc)(st:St):Es:=
 match evAt (some (dstN o)) xs st with
 | some (ps0,xs0,st0)=>
  match Zaep ops st0.tm o xs0 with
  | some (ps1,xs1,true)=>
   match Zaue P T o st0.tm st0.σ xs1 with
   | some (ps2,xs2,x)=>
    match o.dst with
    | some d=>bif Nat.blt d st0.n&&Zwk x.rm st0.tm st0.σ x.s.news then some (ps0++(ps1++ps2),xs2,⟨st0.n,put st0.tm d x.s.p,x.s.news++Zbm x.rm st0.σ⟩) else none
    | none=>bif Zwk x.rm st0.tm st0.σ x.s.news then some (ps0++(ps1++ps2),xs2,⟨st0.n,st0.tm,x.s.news++Zbm x.rm st0.σ⟩) else none
   | none=>
    match evUp T o st0 xs1 with
    | some (ps2,xs2,st2)=>some (ps0++(ps1++ps2),xs2,st2)
    | none=>none
  | some (ps1,xs1,false)=>
   match o.dst with
   | some d=>bif Nat.blt d st0.n then some (ps0++ps1,xs1,⟨st0.n,put st0.tm d (.tup []),st0.σ⟩) else none
   | none=>some (ps0++ps1,xs1,st0)
  | none=>none
 | none=>none
theorem Za64(hT:TOK P T){ops:Array Oper}{R:St->Prop}{l:List Oper}{st st':St}(h:Zavy P T ops o xs st=some (ps,xs',st'))(hc:Zak ps)(hk:Zcy P ops R l st'):Zcy P ops R (o::l) st:=by
 unfold Zavy at h
 split at h
 .rename_i ps0 xs0 st0 h0
  suffices hs:Zak ps0/\Zcy P ops R (o::l) st0 from Zcy.weaken (Za1s h0 hs.1) hs.2
  split at h
  .rename_i ps1 xs1 h1
   split at h
   .rename_i ps2 xs2 s h2
    split at h
    .rename_i d hd
     have hbh:=Zaj h;clear h;obtain⟨hb,h⟩:=hbh
     simp only [Bool.and_eq_true,Nat.blt_eq] at hb
     cases h
     obtain⟨c0,c1⟩:=Zz.1 hc
     obtain⟨c1,c2⟩:=Zz.1 c1
     refine⟨c0,Zcy.step (Zmt h1 c1) ?_ hk⟩
     intro G a w K Q hr hK
     refine Zaig hT h2 c2 G st0.n st0.tm st0.σ a w K Q (fun _ _ _ h=>h) (fun _ _=>rfl) (Z0f hb.2) hr ?_
     rintro v w' ⟨β,hβ,hv⟩
     exact hK _ _ ⟨β,by rw [hd];exact hβ.put hb.1 hv⟩
    .rename_i hd
     have hbh:=Zaj h;clear h;obtain⟨hb,h⟩:=hbh
     cases h
     obtain⟨c0,c1⟩:=Zz.1 hc
     obtain⟨c1,c2⟩:=Zz.1 c1
     refine⟨c0,Zcy.step (Zmt h1 c1) ?_ hk⟩
     intro G a w K Q hr hK
     refine Zaig hT h2 c2 G st0.n st0.tm st0.σ a w K Q (fun _ _ _ h=>h) (fun _ _=>rfl) (Z0f hb) hr ?_
     rintro v w' ⟨β,hβ,hv⟩
     exact hK _ _ ⟨β,by rw [hd];exact hβ⟩
   .split at h
    .rename_i ps2 xs2 st2 h2
     cases h
     obtain⟨c0,c1⟩:=Zz.1 hc
     obtain⟨c1,c2⟩:=Zz.1 c1
     exact⟨c0,Zcy.step (Zmt h1 c1) (Zbeq hT h2 c2) hk⟩
    .cases h
  .rename_i ps1 xs1 h1
   split at h
   .rename_i d hd
    have hbh:=Zaj h;clear h;obtain⟨hb,h⟩:=hbh
    simp only [Nat.blt_eq] at hb
    cases h
    obtain⟨c0,c1⟩:=Zz.1 hc
    exact⟨c0,Zcy.skip hd hb (Zmt h1 c1) hk⟩
   .rename_i hd
    cases h
    obtain⟨c0,c1⟩:=Zz.1 hc
    exact⟨c0,Zcy.skipNone hd (Zmt h1 c1) hk⟩
  .cases h
 .cases h
def Zaeq(P:Program)(T:TS)(ops:Array Oper):List Oper->List Orc->St->Es
 | [],xs,st=>some ([],xs,st)
 | o::l,xs,st=>
  match Zavy P T ops o xs st with
  | some (ps,xs1,st1)=>
   match Zaeq P T ops l xs1 st1 with
   | some (qs,xs2,st2)=>some (ps++qs,xs2,st2)
   | none=>none
  | none=>none
theorem Zaih(hT:TOK P T){ops:Array Oper}{R:St->Prop}:∀ (l:List Oper) {xs xs':List Orc} {st st':St} {ps:List Prop},Zaeq P T ops l xs st=some (ps,xs',st')->Zak ps->R st'->Zcy P ops R l st
 | [],xs,xs',st,st',ps,h,_,hr=>by
  simp only [Zaeq,Option.some.injEq,Prod.mk.injEq] at h
  rw [<- h.2.2] at hr
  exact Zcy.nil hr
 | o::l,xs,xs',st,st',ps,h,hc,hr=>by
  simp only [Zaeq] at h
  split at h
  .rename_i ps1 xs1 st1 h1
   split at h
   .rename_i qs xs2 st2 h2
    cases h
    obtain⟨c1,c2⟩:=Zz.1 hc
    exact Za64 hT h1 c1 (Zaih hT l h2 c2 hr)
   .cases h
  .cases h
structure Za3r where
 ps:List Prop
 xs:List Orc
 plan:List (Option Stm)
 rest:List Oper
 tm:List (Nat×PV)
 σ:List (Nat×Blk)
def Zaug(n:Nat):Option Nat->Bool
 | some d=>Nat.blt d n
 | none=>true
theorem Zbao{n:Nat}{d:Option Nat}(h:Zaug n d=true):∀ e,d=some e->e < n:=by
 rintro e rfl
 simpa only [Zaug,Nat.blt_eq] using h
def Zop(P:Program)(T:TS)(ops:Array Oper)(n:Nat):List Oper->List Orc->List (Nat×PV)->List (Nat×Blk)->Za3r
 | [],xs,tm,σ=>⟨[],xs,[],[],tm,σ⟩
 | o::l,xs,tm,σ=>
  bif Zaug n o.dst then
   match Zaep ops tm o xs with
   | some (ps1,xs1,true)=>
    match Zaue P T o tm σ xs1 with
    | some (ps2,xs2,x)=>
     match Zop P T ops n l xs2 (Zxz tm o.dst x.s.p) (x.s.news++Zbm x.rm σ) with
     | ⟨ps,xs,plan,rest,tm,σ⟩=>⟨ps1++(ps2++ps),xs,some x::plan,rest,tm,σ⟩
    | none=>⟨[],xs,[],o::l,tm,σ⟩
   | some (ps1,xs1,false)=>
    match Zop P T ops n l xs1 (Zxz tm o.dst (.tup [])) σ with
    | ⟨ps,xs,plan,rest,tm,σ⟩=>⟨ps1++ps,xs,none::plan,rest,tm,σ⟩
   | none=>⟨[],xs,[],o::l,tm,σ⟩
  else ⟨[],xs,[],o::l,tm,σ⟩
theorem Zabk(hT:TOK P T){ops:Array Oper}{n:Nat}:∀ (l:List Oper) (xs:List Orc) (tm:List (Nat×PV)) (σ:List (Nat×Blk)),Zak (Zop P T ops n l xs tm σ).ps ->
 ∃ pre,l=pre++(Zop P T ops n l xs tm σ).rest/\Zez P ops n pre (Zop P T ops n l xs tm σ).plan tm σ /\
  Zgw pre (Zop P T ops n l xs tm σ).plan tm=(Zop P T ops n l xs tm σ).tm/\Zmp (Zop P T ops n l xs tm σ).plan σ=(Zop P T ops n l xs tm σ).σ
 | [],xs,tm,σ,_=>⟨[],rfl,trivial,rfl,rfl⟩
 | o::l,xs,tm,σ,hc=>by
  have triv:∀ r:Za3r,r=⟨[],xs,[],o::l,tm,σ⟩->∃ pre,o::l=pre++r.rest/\Zez P ops n pre r.plan tm σ/\Zgw pre r.plan tm=r.tm/\Zmp r.plan σ=r.σ:=by
   rintro r rfl
   exact⟨[],rfl,trivial,rfl,rfl⟩
  rw [Zop] at hc ⊢
  cases hd:Zaug n o.dst with
  | false=>exact triv _ rfl
  | true=>
   have hdn:=Zbao hd
   simp only [hd,cond_true] at hc ⊢
   split at hc
   .rename_i ps1 xs1 hg
    split at hc
    .rename_i ps2 xs2 s h2
     obtain⟨c1,c2⟩:=Zz.1 hc
     obtain⟨c2,c3⟩:=Zz.1 c2
     obtain⟨pre,h1,h3,h4,h5⟩:=Zabk hT l xs2 (Zxz tm o.dst s.s.p) (s.s.news++Zbm s.rm σ) c3
     refine⟨o::pre,by rw [List.cons_append,<- h1],?_,?_,?_⟩
     .simp only [Zez]
      exact⟨hdn,Zmt hg c1,fun s' hs'=>by cases hs';exact Zaig hT h2 c2,h3⟩
     .simp only [Zgw];exact h4
     .simp only [Zmp];exact h5
    .exact triv _ rfl
   .rename_i ps1 xs1 hg
    obtain⟨c1,c3⟩:=Zz.1 hc
    obtain⟨pre,h1,h3,h4,h5⟩:=Zabk hT l xs1 (Zxz tm o.dst (.tup [])) σ c3
    refine⟨o::pre,by rw [List.cons_append,<- h1],?_,?_,?_⟩
    .simp only [Zez]
     exact⟨hdn,Zmt hg c1,(fun s' hs'=>by cases hs'),h3⟩
    .simp only [Zgw];exact h4
    .simp only [Zmp];exact h5
   .exact triv _ rfl
def Za65(P:Program)(T:TS)(ops:Array Oper)(st:St)(r:Za3r):Es:=
 bif Zwd ops r.plan st.tm st.σ then
  match Zaeq P T ops r.rest r.xs ⟨st.n,r.tm,r.σ⟩ with
  | some (qs,xs2,st2)=>some (r.ps++qs,xs2,st2)
  | none=>none
 else none
def Zaii(P:Program)(T:TS)(id:Nat)(ops:Array Oper)(draw:Bool)(xs:List Orc)(st:St):Es:=
 bif draw then
  match evAt (some id) xs st with
  | some (ps0,xs0,st0)=>
   match Za65 P T ops st0 (Zop P T ops st0.n ops.toList xs0 st0.tm st0.σ) with
   | some (ps,xs,st)=>some (ps0++ps,xs,st)
   | none=>none
  | none=>none
 else Zaeq P T ops ops.toList xs st
theorem Za0h(hm:P.follows .mixedOrders=true)(hT:TOK P T){ops:Array Oper}{draw:Bool}{id:Nat}{Q:Exit->St->Prop}{st st':St}(h:Zaii P T id ops draw xs st=some (ps,xs',st'))(hc:Zak ps)(hq:Q .normal st') :
 PW P (.region id ops draw) Q st:=by
 unfold Zaii at h
 cases draw with
 | false=>
  simp only [cond_false] at h
  exact PW.region (Zaih hT _ h hc hq)
 | true=>
  simp only [cond_true] at h
  split at h
  .rename_i ps0 xs0 st0 h0
   split at h
   .rename_i ps1 xs1 st1 h1
    cases h
    obtain⟨c0,c1⟩:=Zz.1 hc
    refine PW.weaken (Za1s h0 c0) ?_
    unfold Za65 at h1
    have hbh:=Zaj h1;clear h1;obtain⟨hb,h1⟩:=hbh
    split at h1
    .rename_i qs xs2 st2 h2
     cases h1
     obtain⟨c1,c2⟩:=Zz.1 c1
     obtain⟨pre,e1,e2,e3,e4⟩:=Zabk hT ops.toList xs0 st0.tm st0.σ c1
     exact PW.region_draw hm _ pre _ e1 e2 hb (by rw [e3,e4];exact Zaih hT _ h2 c2 hq)
    .cases h1
   .cases h
  .cases h
end
end Go.PW
