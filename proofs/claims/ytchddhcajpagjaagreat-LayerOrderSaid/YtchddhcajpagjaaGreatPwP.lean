import Derived.Test.YtchddhcajpagjaaGreatPwO
set_option linter.all false
namespace Go.PW
open Go.RowKit
abbrev Es:=Option (List Prop×List Orc×St)
theorem Zavi(m:Nat):Nat.beq m m=true:=(Z1 _ _).2 rfl
mutual
def Zja(mt:Bool)(l:Nat)(es:List (List Zf)):PV->List Prop×PV
 | .t x=>([],.t x)
 | .nils=>([],.nils)
 | .osl m n=>bif !mt&&Nat.beq m l then ([es.length=n],.t (.sl es)) else ([],.osl m n)
 | .bptr m o=>([],.bptr m o)
 | .rptr m n i o=>([],.rptr m n i o)
 | .vptr cs=>([],.vptr cs)
 | .agg cs=>((Zlc mt l es cs).1,.agg (Zlc mt l es cs).2)
 | .tup cs=>((Zlc mt l es cs).1,.tup (Zlc mt l es cs).2)
 | .fn f cs=>((Zlc mt l es cs).1,.fn f (Zlc mt l es cs).2)
 | .own m (.msl n)=>bif mt&&Nat.beq m l then ([es.length=n],.t (.sl es)) else ([],.own m (.msl n))
 | .own m d=>([],.own m d)
def Zlc(mt:Bool)(l:Nat)(es:List (List Zf)):List PV->List Prop×List PV
 | []=>([],[])
 | c::cs=>((Zja mt l es c).1++(Zlc mt l es cs).1,(Zja mt l es c).2::(Zlc mt l es cs).2)
end
def Zs5(mt:Bool)(l:Nat)(es:List (List Zf)):List (Nat×PV)->List Prop×List (Nat×PV)
 | []=>([],[])
 | (i,p)::r=>((Zja mt l es p).1++(Zs5 mt l es r).1,(i,(Zja mt l es p).2)::(Zs5 mt l es r).2)
def Zhz(mt:Bool)(l:Nat)(es:List (List Zf)):List (Nat×Blk)->List Prop×List (Nat×Blk)
 | []=>([],[])
 | (m,b)::r=>
  bif Nat.beq m l then Zhz mt l es r else
  match b with
  | .row k es'=>((Zhz mt l es r).1,(m,.row k es')::(Zhz mt l es r).2)
  | .mat k q es'=>((Zhz mt l es r).1,(m,.mat k q es')::(Zhz mt l es r).2)
  | .map ag es'=>((Zhz mt l es r).1,(m,.map ag es')::(Zhz mt l es r).2)
  | .prow k i es' cs=>((Zlc mt l es cs).1++(Zhz mt l es r).1,(m,.prow k i es' (Zlc mt l es cs).2)::(Zhz mt l es r).2)
  | .box cs=>((Zlc mt l es cs).1++(Zhz mt l es r).1,(m,.box (Zlc mt l es cs).2)::(Zhz mt l es r).2)
mutual
theorem Za1e{Z Z':List (Nat×Blk)}{mt:Bool}{l k q0:Nat}{es:List (List Zf)}(hg:get Z l=some (bif mt then .mat k q0 es else .row k es))(h0:get Z' l=none):∀ (p:PV),Zak (Zja mt l es p).1->Frz Z Z' p (Zja mt l es p).2
 | .t _,_=>by simp [Zja,Frz]
 | .nils,_=>by simp [Zja,Frz]
 | .osl m n,h=>by
  simp only [Zja] at h ⊢
  cases hb : !mt&&Nat.beq m l with
  | true=>
   simp only [Bool.and_eq_true,Bool.not_eq_true',Z1] at hb
   obtain⟨rfl,rfl⟩:=hb
   simp only [Zavi,Bool.not_false,Bool.true_and,cond_true] at h ⊢
   simp only [Frz]
   exact .inr ⟨k,es,hg,h.1,h0,rfl⟩
  | false=>simp only [cond_false,Frz];exact .inl trivial
 | .bptr _ _,_=>by simp [Zja,Frz]
 | .rptr _ _ _ _,_=>by simp [Zja,Frz]
 | .vptr _,_=>by simp [Zja,Frz]
 | .agg cs,h=>by simp only [Zja,Frz] at h ⊢;exact⟨_,rfl,Zux hg h0 cs h⟩
 | .tup cs,h=>by simp only [Zja,Frz] at h ⊢;exact⟨_,rfl,Zux hg h0 cs h⟩
 | .fn _ cs,h=>by simp only [Zja,Frz] at h ⊢;exact⟨_,rfl,Zux hg h0 cs h⟩
 | .own m (.msl n),h=>by
  simp only [Zja] at h ⊢
  cases hb:mt&&Nat.beq m l with
  | true=>
   simp only [Bool.and_eq_true,Z1] at hb
   obtain⟨rfl,rfl⟩:=hb
   simp only [Zavi,Bool.true_and,cond_true] at h ⊢
   simp only [Frz]
   exact .inr ⟨n,k,q0,es,rfl,hg,h.1,h0,rfl⟩
  | false=>simp only [cond_false,Frz];exact .inl trivial
 | .own m (.tail _ _),_=>by simp only [Zja,Frz];exact .inl trivial
 | .own m (.mpt _ _ _),_=>by simp only [Zja,Frz];exact .inl trivial
 | .own m (.mrow _ _),_=>by simp only [Zja,Frz];exact .inl trivial
 | .own m (.mel _ _ _),_=>by simp only [Zja,Frz];exact .inl trivial
 | .own m .map,_=>by simp only [Zja,Frz];exact .inl trivial
 | .own m (.pw _),_=>by simp only [Zja,Frz];exact .inl trivial
 | .own m (.pp _ _),_=>by simp only [Zja,Frz];exact .inl trivial
theorem Zux{Z Z':List (Nat×Blk)}{mt:Bool}{l k q0:Nat}{es:List (List Zf)}(hg:get Z l=some (bif mt then .mat k q0 es else .row k es))(h0:get Z' l=none):∀ (cs:List PV),Zak (Zlc mt l es cs).1->Zaw Z Z' cs (Zlc mt l es cs).2
 | [],_=>by simp [Zlc,Zaw]
 | c::cs,h=>by
  simp only [Zlc,Zaw] at h ⊢
  obtain⟨h1,h2⟩:=Zx.1 h
  exact⟨_,_,rfl,Za1e hg h0 c h1,Zux hg h0 cs h2⟩
end
theorem Zabc{Z Z':List (Nat×Blk)}{mt:Bool}{l k q0:Nat}{es:List (List Zf)}(hg:get Z l=some (bif mt then .mat k q0 es else .row k es))(h0:get Z' l=none):∀ (tm:List (Nat×PV)),Zak (Zs5 mt l es tm).1->∀ i q,get (Zs5 mt l es tm).2 i=some q->∃ p,get tm i=some p/\Frz Z Z' p q
 | [],_,i,q,hq=>by cases hq
 | (j,p)::r,h,i,q,hq=>by
  simp only [Zs5] at h hq
  obtain⟨h1,h2⟩:=Zx.1 h
  simp only [PW.get] at hq ⊢
  cases hb:Nat.beq j i with
  | true=>simp only [hb,cond_true,Option.some.injEq] at hq ⊢;subst hq;exact⟨p,rfl,Za1e hg h0 p h1⟩
  | false=>simp only [hb,cond_false] at hq ⊢;exact Zabc hg h0 r h2 i q hq
theorem Zs6{mt:Bool}{l:Nat}{es:List (List Zf)}:∀ (Z:List (Nat×Blk)),get (Zhz mt l es Z).2 l=none
 | []=>rfl
 | (m,b)::r=>by
  simp only [Zhz]
  cases hb:Nat.beq m l with
  | true=>simp only [cond_true];exact Zs6 r
  | false=>
   simp only [cond_false]
   cases b<;>simp only [PW.get,hb,cond_false]<;>exact Zs6 r
theorem Zon{σ0 σ0':List (Nat×Blk)}{mt:Bool}{l k q0:Nat}{es:List (List Zf)}(hg:get σ0 l=some (bif mt then .mat k q0 es else .row k es))(h0:get σ0' l=none):∀ (Z:List (Nat×Blk)),Zak (Zhz mt l es Z).1->∀ m o',get (Zhz mt l es Z).2 m=some o'->∃ o,get Z m=some o/\Zcw σ0 σ0' o o'
 | [],_,m,o',ho=>by cases ho
 | (j,b)::r,h,m,o',ho=>by
  simp only [Zhz] at h ho
  cases hb:Nat.beq j l with
  | true=>
   simp only [hb,cond_true] at h ho
   have:j=l:=(Z1 _ _).1 hb
   subst this
   have hjm:j≠m:=fun e=>by subst e;rw [Zs6] at ho;cases ho
   simp only [PW.get,Zgf hjm,cond_false]
   exact Zon hg h0 r h m o' ho
  | false=>
   simp only [hb,cond_false] at h ho
   cases b with
   | row k' es'=>
    simp only [PW.get] at ho ⊢
    cases hm:Nat.beq j m with
    | true=>simp only [hm,cond_true,Option.some.injEq] at ho ⊢;subst ho;exact⟨_,rfl,rfl⟩
    | false=>simp only [hm,cond_false] at ho ⊢;exact Zon hg h0 r h m o' ho
   | mat k' q' es'=>
    simp only [PW.get] at ho ⊢
    cases hm:Nat.beq j m with
    | true=>simp only [hm,cond_true,Option.some.injEq] at ho ⊢;subst ho;exact⟨_,rfl,rfl⟩
    | false=>simp only [hm,cond_false] at ho ⊢;exact Zon hg h0 r h m o' ho
   | map k' es'=>
    simp only [PW.get] at ho ⊢
    cases hm:Nat.beq j m with
    | true=>simp only [hm,cond_true,Option.some.injEq] at ho ⊢;subst ho;exact⟨_,rfl,rfl⟩
    | false=>simp only [hm,cond_false] at ho ⊢;exact Zon hg h0 r h m o' ho
   | prow k' i' es' cs=>
    obtain⟨h1,h2⟩:=Zx.1 h
    simp only [PW.get] at ho ⊢
    cases hm:Nat.beq j m with
    | true=>simp only [hm,cond_true,Option.some.injEq] at ho ⊢;subst ho;exact⟨_,rfl,_,rfl,Zux hg h0 cs h1⟩
    | false=>simp only [hm,cond_false] at ho ⊢;exact Zon hg h0 r h2 m o' ho
   | box cs=>
    obtain⟨h1,h2⟩:=Zx.1 h
    simp only [PW.get] at ho ⊢
    cases hm:Nat.beq j m with
    | true=>simp only [hm,cond_true,Option.some.injEq] at ho ⊢;subst ho;exact⟨_,rfl,_,rfl,Zux hg h0 cs h1⟩
    | false=>simp only [hm,cond_false] at ho ⊢;exact Zon hg h0 r h2 m o' ho
mutual
def vbx(l:Nat)(ts:List Zf):PV->PV
 | .bptr m o=>bif Nat.beq m l then .vptr (ts.drop o) else .bptr m o
 | .agg cs => .agg (Z7u l ts cs)
 | .tup cs => .tup (Z7u l ts cs)
 | .fn f cs => .fn f (Z7u l ts cs)
 | .t x => .t x
 | .nils => .nils
 | .osl m n => .osl m n
 | .rptr m n i o => .rptr m n i o
 | .vptr cs => .vptr cs
 | .own m d => .own m d
def Z7u(l:Nat)(ts:List Zf):List PV->List PV
 | []=>[]
 | c::cs=>vbx l ts c::Z7u l ts cs
end
def Zat5(l:Nat)(ts:List Zf):List (Nat×PV)->List (Nat×PV)
 | []=>[]
 | (i,p)::r=>(i,vbx l ts p)::Zat5 l ts r
def Z7v(l:Nat)(ts:List Zf):List (Nat×Blk)->List (Nat×Blk)
 | []=>[]
 | (m,b)::r=>
  bif Nat.beq m l then Z7v l ts r else
  match b with
  | .box cs=>(m,.box (Z7u l ts cs))::Z7v l ts r
  | .prow k i es cs=>(m,.prow k i es (Z7u l ts cs))::Z7v l ts r
  | b=>(m,b)::Z7v l ts r
mutual
theorem Za6q{Z Z':List (Nat×Blk)}{l:Nat}{ts:List Zf}(hg:get Z l=some (.box (ts.map .t)))(h0:get Z' l=none):∀ (p:PV),Frz Z Z' p (vbx l ts p)
 | .t _=>by simp [vbx,Frz]
 | .nils=>by simp [vbx,Frz]
 | .osl _ _=>by simp [vbx,Frz]
 | .bptr m o=>by
  simp only [vbx]
  cases hb:Nat.beq m l with
  | true=>
   have:m=l:=(Z1 _ _).1 hb
   subst this
   simp only [cond_true,Frz]
   exact .inr ⟨ts,hg,h0,rfl⟩
  | false=>simp only [cond_false,Frz];exact .inl trivial
 | .rptr _ _ _ _=>by simp [vbx,Frz]
 | .vptr _=>by simp [vbx,Frz]
 | .agg cs=>by simp only [vbx,Frz];exact⟨_,rfl,Zzz hg h0 cs⟩
 | .tup cs=>by simp only [vbx,Frz];exact⟨_,rfl,Zzz hg h0 cs⟩
 | .fn _ cs=>by simp only [vbx,Frz];exact⟨_,rfl,Zzz hg h0 cs⟩
 | .own _ _=>by simp only [vbx,Frz];exact .inl trivial
theorem Zzz{Z Z':List (Nat×Blk)}{l:Nat}{ts:List Zf}(hg:get Z l=some (.box (ts.map .t)))(h0:get Z' l=none):∀ (cs:List PV),Zaw Z Z' cs (Z7u l ts cs)
 | []=>by simp [Z7u,Zaw]
 | c::cs=>by simp only [Z7u,Zaw];exact⟨_,_,rfl,Za6q hg h0 c,Zzz hg h0 cs⟩
end
theorem Zavj{Z Z':List (Nat×Blk)}{l:Nat}{ts:List Zf}(hg:get Z l=some (.box (ts.map .t)))(h0:get Z' l=none):∀ (tm:List (Nat×PV)) (i:Nat) (q:PV),get (Zat5 l ts tm) i=some q->∃ p,get tm i=some p/\Frz Z Z' p q
 | [],i,q,hq=>by cases hq
 | (j,p)::r,i,q,hq=>by
  simp only [Zat5,PW.get] at hq ⊢
  cases hb:Nat.beq j i with
  | true=>simp only [hb,cond_true,Option.some.injEq] at hq ⊢;subst hq;exact⟨p,rfl,Za6q hg h0 p⟩
  | false=>simp only [hb,cond_false] at hq ⊢;exact Zavj hg h0 r i q hq
theorem Z2l{l:Nat}{ts:List Zf}:∀ (Z:List (Nat×Blk)),get (Z7v l ts Z) l=none
 | []=>rfl
 | (m,b)::r=>by
  simp only [Z7v]
  cases hb:Nat.beq m l with
  | true=>simp only [cond_true];exact Z2l r
  | false=>
   simp only [cond_false]
   cases b<;>simp only [PW.get,hb,cond_false]<;>exact Z2l r
theorem Zaow{σ0 σ0':List (Nat×Blk)}{l:Nat}{ts:List Zf}(hg:get σ0 l=some (.box (ts.map .t)))(h0:get σ0' l=none):∀ (Z:List (Nat×Blk)) (m:Nat) (o':Blk),get (Z7v l ts Z) m=some o'->∃ o,get Z m=some o/\Zcw σ0 σ0' o o'
 | [],m,o',ho=>by cases ho
 | (j,b)::r,m,o',ho=>by
  simp only [Z7v] at ho
  cases hb:Nat.beq j l with
  | true=>
   simp only [hb,cond_true] at ho
   have:j=l:=(Z1 _ _).1 hb
   subst this
   have hjm:j≠m:=fun e=>by subst e;rw [Z2l] at ho;cases ho
   simp only [PW.get,Zgf hjm,cond_false]
   exact Zaow hg h0 r m o' ho
  | false=>
   simp only [hb,cond_false] at ho
   simp only [PW.get]
   cases hm:Nat.beq j m with
   | true=>
    cases b with
    | box cs=>simp only [PW.get,hm,cond_true,Option.some.injEq] at ho ⊢;subst ho;exact⟨_,rfl,_,rfl,Zzz hg h0 cs⟩
    | row k es=>simp only [PW.get,hm,cond_true,Option.some.injEq] at ho ⊢;subst ho;exact⟨_,rfl,rfl⟩
    | mat k q es=>simp only [PW.get,hm,cond_true,Option.some.injEq] at ho ⊢;subst ho;exact⟨_,rfl,rfl⟩
    | map ag es=>simp only [PW.get,hm,cond_true,Option.some.injEq] at ho ⊢;subst ho;exact⟨_,rfl,rfl⟩
    | prow k i es cs=>simp only [PW.get,hm,cond_true,Option.some.injEq] at ho ⊢;subst ho;exact⟨_,rfl,_,rfl,Zzz hg h0 cs⟩
   | false=>
    simp only [cond_false]
    refine Zaow hg h0 r m o' ?_
    cases b<;>simpa only [PW.get,hm,cond_false] using ho
def Zmt{α:Type}(l:List (Nat×α)):List Nat->Option (List (Nat×α))
 | []=>some []
 | k::ks=>
  match get l k,Zmt l ks with
  | some x,some r=>some ((k,x)::r)
  | _,_=>none
theorem Zi1{α:Type}{l:List (Nat×α)}:∀ {ks:List Nat} {r:List (Nat×α)},Zmt l ks=some r->∀ i x,get r i=some x->get l i=some x
 | [],r,h,i,x,hx=>by simp only [Zmt,Option.some.injEq] at h;subst h;cases hx
 | k::ks,r,h,i,x,hx=>by
  simp only [Zmt] at h
  split at h
  .rename_i y r' hy hr
   cases h
   simp only [PW.get] at hx
   cases hb:Nat.beq k i with
   | true=>have:k=i:=(Z1 _ _).1 hb;subst this;simp only [hb,cond_true,Option.some.injEq] at hx;subst hx;exact hy
   | false=>simp only [hb,cond_false] at hx;exact Zi1 hr i x hx
  .cases h
def Zoo(l:Nat)(tm:List (Nat×PV))(Z:List (Nat×Blk)):Bool:=(tm.all fun q => !q.2.has l)&&Z.all fun q => !Nat.beq q.1 l && !q.2.has l
theorem Zwf{l:Nat}{tm:List (Nat×PV)}{Z:List (Nat×Blk)}(h:Zoo l tm Z=true):(∀ i q,get tm i=some q->q.has l=false)/\(∀ m y,get Z m=some y->m≠l/\y.has l=false):=by
 simp only [Zoo,Bool.and_eq_true,List.all_eq_true] at h
 refine⟨fun i q hq=>?_,fun m y hy=>?_⟩
 .have:=h.1 _ (Zff hq);simpa using this
 .have:=h.2 _ (Zff hy)
  simp only [Bool.not_eq_true'] at this
  exact⟨fun e=>by subst e;have:=this.1;simp at this,this.2⟩
def Zc0(l n:Nat):List (Nat×PV)->List Prop×List (Nat×PV)
 | []=>([],[])
 | (i,p)::r=>
  match p with
  | .osl m k=>bif Nat.beq m l then ((k=n)::(Zc0 l n r).1,(i,.osl m n)::(Zc0 l n r).2) else ((Zc0 l n r).1,(i,.osl m k)::(Zc0 l n r).2)
  | .rptr m k j o=>bif Nat.beq m l then ((k=n)::(Zc0 l n r).1,(i,.rptr m n j o)::(Zc0 l n r).2) else ((Zc0 l n r).1,(i,.rptr m k j o)::(Zc0 l n r).2)
  | .own m (.msl k)=>bif Nat.beq m l then ((k=n)::(Zc0 l n r).1,(i,.own m (.msl n))::(Zc0 l n r).2) else ((Zc0 l n r).1,(i,.own m (.msl k))::(Zc0 l n r).2)
  | p=>((Zc0 l n r).1,(i,p)::(Zc0 l n r).2)
theorem Zhc{l n:Nat}:∀ (tm:List (Nat×PV)),Zak (Zc0 l n tm).1->(Zc0 l n tm).2=tm
 | [],_=>rfl
 | (i,p)::r,h=>by
  cases p
  case osl m k=>
   simp only [Zc0] at h ⊢
   cases hb:Nat.beq m l with
   | true=>
    simp only [hb,cond_true] at h ⊢
    obtain⟨h1,h2⟩:=h
    subst h1
    rw [Zhc r h2]
   | false=>
    simp only [hb,cond_false] at h ⊢
    rw [Zhc r h]
  case rptr m k j o=>
   simp only [Zc0] at h ⊢
   cases hb:Nat.beq m l with
   | true=>
    simp only [hb,cond_true] at h ⊢
    obtain⟨h1,h2⟩:=h
    subst h1
    rw [Zhc r h2]
   | false=>
    simp only [hb,cond_false] at h ⊢
    rw [Zhc r h]
  case own m d=>
   cases d
   case msl k=>
    simp only [Zc0] at h ⊢
    cases hb:Nat.beq m l with
    | true=>
     simp only [hb,cond_true] at h ⊢
     obtain⟨h1,h2⟩:=h
     subst h1
     rw [Zhc r h2]
    | false=>
     simp only [hb,cond_false] at h ⊢
     rw [Zhc r h]
   all_goals
    simp only [Zc0] at h ⊢
    rw [Zhc r h]
  all_goals
   simp only [Zc0] at h ⊢
   rw [Zhc r h]
def Zeh(l n:Nat):List PV->List Prop×List PV
 | []=>([],[])
 | .osl m k::r=>bif Nat.beq m l then ((k=n)::(Zeh l n r).1,.osl m n::(Zeh l n r).2) else ((Zeh l n r).1,.osl m k::(Zeh l n r).2)
 | .own m (.msl k)::r=>bif Nat.beq m l then ((k=n)::(Zeh l n r).1,.own m (.msl n)::(Zeh l n r).2) else ((Zeh l n r).1,.own m (.msl k)::(Zeh l n r).2)
 | p::r=>((Zeh l n r).1,p::(Zeh l n r).2)
theorem Zkc{l n:Nat}:∀ (cs:List PV),Zak (Zeh l n cs).1->(Zeh l n cs).2=cs
 | [],_=>rfl
 | p::r,h=>by
  cases p
  case osl m k=>
   simp only [Zeh] at h ⊢
   cases hb:Nat.beq m l with
   | true=>
    simp only [hb,cond_true] at h ⊢
    obtain⟨h1,h2⟩:=h
    subst h1
    rw [Zkc r h2]
   | false=>
    simp only [hb,cond_false] at h ⊢
    rw [Zkc r h]
  case own m d=>
   cases d
   case msl k=>
    simp only [Zeh] at h ⊢
    cases hb:Nat.beq m l with
    | true=>
     simp only [hb,cond_true] at h ⊢
     obtain⟨h1,h2⟩:=h
     subst h1
     rw [Zkc r h2]
    | false=>
     simp only [hb,cond_false] at h ⊢
     rw [Zkc r h]
   all_goals (simp only [Zeh] at h ⊢;rw [Zkc r h])
  all_goals
   simp only [Zeh] at h ⊢
   rw [Zkc r h]
def Zfi(l n:Nat):List (Nat×Blk)->List Prop×List (Nat×Blk)
 | []=>([],[])
 | (m,.box cs)::r=>((Zeh l n cs).1++(Zfi l n r).1,(m,.box (Zeh l n cs).2)::(Zfi l n r).2)
 | (m,.row k es)::r=>((Zfi l n r).1,(m,.row k es)::(Zfi l n r).2)
 | (m,.mat k q es)::r=>((Zfi l n r).1,(m,.mat k q es)::(Zfi l n r).2)
 | (m,.map ag es)::r=>((Zfi l n r).1,(m,.map ag es)::(Zfi l n r).2)
 | (m,.prow k i es cs)::r=>((Zeh l n cs).1++(Zfi l n r).1,(m,.prow k i es (Zeh l n cs).2)::(Zfi l n r).2)
theorem Zop{l n:Nat}:∀ (Z:List (Nat×Blk)),Zak (Zfi l n Z).1->(Zfi l n Z).2=Z
 | [],_=>rfl
 | (m,b)::r,h=>by
  cases b with
  | box cs=>
   simp only [Zfi] at h ⊢
   obtain⟨h1,h2⟩:=Zx.1 h
   rw [Zkc cs h1,Zop r h2]
  | row k es=>
   simp only [Zfi] at h ⊢
   rw [Zop r h]
  | mat k q es=>
   simp only [Zfi] at h ⊢
   rw [Zop r h]
  | map ag es=>
   simp only [Zfi] at h ⊢
   rw [Zop r h]
  | prow k i es cs=>
   simp only [Zfi] at h ⊢
   obtain⟨h1,h2⟩:=Zx.1 h
   rw [Zkc cs h1,Zop r h2]
theorem Zakp{G:Frm}{β:Nat->Option Nat}{n:Nat}{tm tm':List (Nat×PV)}{Z Z':List (Nat×Blk)}{a:Act}{w:World}(h:Zan G β ⟨n,tm,Z⟩ a w)
 (hσ:∀ l o',get Z' l=some o'->∃ o,get Z l=some o/\(o'=o\/∃ cs cs',o = .box cs/\o' = .box cs'/\cs'.length=cs.length/\cs'.all PV.one=true/\∀ vs,VRs (ctx G β w Z) cs vs->VRs (ctx G β w Z) cs' vs))
 (ht:∀ i q,get tm' i=some q->∃ p,get tm i=some p/\∀ v,VR (ctx G β w Z) p v->VR (ctx G β w Z) q v):Zan G β ⟨n,tm',Z'⟩ a w:=by
 have hO:∀ l o' o,(o'=o\/∃ cs cs',o = .box cs/\o' = .box cs'/\cs'.length=cs.length/\cs'.all PV.one=true/\∀ vs,VRs (ctx G β w Z) cs vs->VRs (ctx G β w Z) cs' vs)->∀ b,Zae β w l o' b->Zae β w l o b:=fun l o' o hr b ho=>by
  rcases hr with rfl | ⟨cs,cs',rfl,rfl,_⟩
  .exact ho
  .exact .inl (Zae.flat (o := .box cs') trivial ho)
 have hI:∀ b,(ctx G β w Z).I b->(ctx G β w Z').I b/\(ctx G β w Z').w.heap[b]?=(ctx G β w Z).w.heap[b]?:=fun b hb=>⟨⟨hb.1,hb.2.1,fun l o hl ho=>by obtain⟨o2,ho2,hr2⟩:=hσ l o hl;exact hb.2.2 l o2 ho2 (hO l o o2 hr2 b ho)⟩,rfl⟩
 have hL:∀ l,Zal (ctx G β w Z) (ctx G β w Z') l:=fun l=>by
  refine⟨fun k es' hg=>?_,fun cs' hg=>?_,fun k q es' hg=>?_,fun k es' hg=>?_,fun k i es' cs' hg=>?_⟩
  .obtain⟨o,ho,h1⟩:=hσ l _ hg
   rcases h1 with rfl | ⟨cs,cs',_,h2,_⟩
   .exact⟨es',ho,Nat.le_refl _,fun _=>⟨rfl,fun _ _ _ h=>h⟩⟩
   .cases h2
  .obtain⟨o,ho,h1⟩:=hσ l _ hg
   rcases h1 with rfl | ⟨cs,cs',rfl,h2,_⟩
   .exact⟨cs',ho,rfl⟩
   .exact⟨cs,ho,rfl⟩
  .obtain⟨o,ho,h1⟩:=hσ l _ hg
   rcases h1 with rfl | ⟨cs,cs',_,h2,_⟩
   .exact⟨es',ho,Nat.le_refl _,fun _=>⟨rfl,fun _ _=>⟨fun _ h=>h,fun _ _=>rfl⟩⟩⟩
   .cases h2
  .obtain⟨o,ho,h1⟩:=hσ l _ hg
   rcases h1 with rfl | ⟨cs,cs',_,h2,_⟩
   .exact⟨es',ho,rfl⟩
   .cases h2
  .obtain⟨o,ho,h1⟩:=hσ l _ hg
   rcases h1 with rfl | ⟨cs,cs'',_,h2,_⟩
   .exact⟨es',cs',ho,rfl,rfl,fun _ _ _ h=>h⟩
   .cases h2
 exact { defers := h.defers, sz := h.sz, base := h.base, os := h.os, tape := h.tape, output := h.output, old := h.old, A := h.A, gl := h.gl,
         inj:=fun l l' o o' b hl hl' hb hb'=>by
          obtain⟨o1,h1,r1⟩:=hσ l o hl
          obtain⟨o2,h2,r2⟩:=hσ l' o' hl'
          exact h.inj l l' o1 o2 b h1 h2 (hO l o o1 r1 b hb) (hO l' o' o2 r2 b hb'),
         sep:=fun l o b hl hb=>by obtain⟨o1,h1,r1⟩:=hσ l o hl;exact h.sep l o1 b h1 (hO l o o1 r1 b hb),
         fix:=fun l cs h1 hl=>by
          obtain⟨o,ho,h2⟩:=hσ l _ hl
          rcases h2 with rfl | ⟨cs0,cs',rfl,_⟩
          .exact h.fix l cs h1 ho
          .exact h.fix l cs0 h1 ho,
         row0:=h.row0.step (fun m _=>hL m),
         blk:=fun l o' hl=>by
          obtain⟨o,ho,h2⟩:=hσ l o' hl
          have hb:=h.blk l o ho
          rcases h2 with rfl | ⟨cs,cs',rfl,rfl,h3,h4,h5⟩
          .exact BR.step hI rfl (fun _ _=>rfl) (fun m _=>hL m) hb
          .obtain⟨b,vs,f1,f2,f3,f4,f5⟩:=hb
           exact⟨b,vs,f1,by rw [h3];exact f2,f3,VRs.step hI _ _ (fun m _=>hL m) (h5 vs f4),h4⟩,
         tm:=fun i q hq=>by
          obtain⟨p,hp,hf⟩:=ht i q hq
          exact⟨(h.tm i p hp).1,VR.step hI q _ (fun m _=>hL m) (hf _ (h.tm i p hp).2)⟩ }
theorem VRs.set{c:Ctx}{p q:PV}:∀ {cs:List PV} {vs:List Value} {j:Nat},cs[j]?=some p->(∀ v,VR c p v->VR c q v)->VRs c cs vs->VRs c (cs.set j q) vs
 | [],vs,j,h,_,_=>by simp at h
 | x::cs,vs,0,h,hq,hv=>by
  simp only [List.getElem?_cons_zero,Option.some.injEq] at h
  subst h
  simp only [List.set_cons_zero,VRs] at hv ⊢
  obtain⟨v,rest,rfl,hv,hr⟩:=hv
  exact⟨v,rest,rfl,hq v hv,hr⟩
 | x::cs,vs,j+1,h,hq,hv=>by
  simp only [List.set_cons_succ,VRs] at hv ⊢
  obtain⟨v,rest,rfl,hv,hr⟩:=hv
  exact⟨v,rest,rfl,hv,VRs.set (by simpa using h) hq hr⟩
theorem Za1f{q:PV}(hq:q.one=true):∀ {cs:List PV} {j:Nat},cs.all PV.one=true->(cs.set j q).all PV.one=true
 | [],_,h=>h
 | x::cs,0,h=>by simp only [List.set_cons_zero,List.all_cons,Bool.and_eq_true] at h ⊢;exact⟨hq,h.2⟩
 | x::cs,j+1,h=>by simp only [List.set_cons_succ,List.all_cons,Bool.and_eq_true] at h ⊢;exact⟨h.1,Za1f hq h.2⟩
theorem VR.nilt{c:Ctx}(v:Value)(h:VR c .nils v):VR c (.t (.sl [])) v:=by
 simp only [VR] at h ⊢
 obtain⟨a,rfl⟩:=h
 simp only [Z0]
 exact⟨a,0,rfl,by simp,by simp [maxLen],.inl trivial⟩
theorem VR.nilOwn{c:Ctx}{l k:Nat}(hg:get c.Z l=some (.row k []))(hb:c.β l=none)(v:Value)(h:VR c .nils v):VR c (.osl l 0) v:=by
 simp only [VR] at h ⊢
 obtain⟨a,rfl⟩:=h
 refine⟨fun k' es' hg'=>?_,a,0,0,rfl⟩
 rw [hg] at hg'
 cases hg'
 exact⟨Nat.le_refl _,fun _=>⟨a,0,rfl,Nat.le_refl _,by simp [maxLen],.inl ⟨rfl,hb⟩⟩⟩
theorem Zakq{G:Frm}{β:Nat->Option Nat}{w:World}{tm:List (Nat×PV)}{Z:List (Nat×Blk)}{t:Nat}{p q:PV}(hg:get tm t=some p)(hq:∀ v,VR (ctx G β w Z) p v->VR (ctx G β w Z) q v) :
 ∀ i r,get (put tm t q) i=some r->∃ p,get tm i=some p/\∀ v,VR (ctx G β w Z) p v->VR (ctx G β w Z) r v:=fun i r hr=>by
 by_cases hi:t=i
 .subst hi
  rw [Zca] at hr
  cases hr
  exact⟨p,hg,hq⟩
 .rw [Zb5 _ _ hi] at hr
  exact⟨r,hr,fun _ h=>h⟩
theorem Zakr{G:Frm}{β:Nat->Option Nat}{w:World}{Z:List (Nat×Blk)}{b j:Nat}{cs:List PV}{p q:PV}(hg:get Z b=some (.box cs))(hj:cs[j]?=some p)(h1:cs.all PV.one=true)(h2:q.one=true)(hq:∀ v,VR (ctx G β w Z) p v->VR (ctx G β w Z) q v) :
 ∀ l o',get (put Z b (.box (cs.set j q))) l=some o'->∃ o,get Z l=some o/\(o'=o\/∃ cs cs',o = .box cs/\o' = .box cs'/\cs'.length=cs.length/\cs'.all PV.one=true/\∀ vs,VRs (ctx G β w Z) cs vs->VRs (ctx G β w Z) cs' vs):=fun l o' ho=>by
 by_cases hi:b=l
 .subst hi
  rw [Zca] at ho
  cases ho
  exact⟨_,hg,.inr ⟨cs,_,rfl,rfl,by simp,Za1f h2 h1,fun vs hv=>VRs.set hj hq hv⟩⟩
 .rw [Zb5 _ _ hi] at ho
  exact⟨o',ho,.inl rfl⟩
def f1(l m:Nat)(j:Nat):Nat:=bif Nat.beq j l then m else j
def Zaks(f:Nat->Nat):List (Nat×PV)->List (Nat×PV)
 | []=>[]
 | (i,p)::r=>(i,p.ren f)::Zaks f r
theorem Zavk(f:Nat->Nat):∀ tm:List (Nat×PV),Zaks f tm=tm.map fun x=>(x.1,x.2.ren f)
 | []=>rfl
 | (i,p)::r=>by simp only [Zaks,List.map_cons,Zavk f r]
theorem Wk.relab{st:St}{l m:Nat}(hm:1000<=m)(hf:Zoo m st.tm st.Z=true):Wk st ⟨st.n,Zaks (f1 l m) st.tm,Zcr (f1 l m) st.Z⟩:=by
 rintro G a w ⟨β,h⟩
 obtain⟨g1,g2⟩:=Zwf hf
 rw [Zavk]
 exact Zbga (n:=st.n) (tm:=st.tm) (Z:=st.Z) h l m hm g1 g2
theorem Wk.slot{st:St}{t:Nat}{p q:PV}(hg:get st.tm t=some p)(hq:∀ c v,VR c p v->VR c q v):Wk st ⟨st.n,put st.tm t q,st.Z⟩:=
 fun _ _ _ ⟨β,h⟩=>⟨β,Zakp (n:=st.n) (tm:=st.tm) (Z:=st.Z) h (fun _ o ho=>⟨o,ho,.inl rfl⟩) (Zakq hg (hq _))⟩
theorem Za1g{G:Frm}{st:St}{β:Nat->Option Nat}{a:Act}{w:World}(h:Zan G β st a w){b:Nat}{cs:List PV}(hg:get st.Z b=some (.box cs)):cs.all PV.one=true:=by
 obtain⟨_,_,_,_,_,_,h⟩:=h.blk b _ hg
 exact h
theorem Wk.cell{st:St}{b j:Nat}{cs:List PV}{p q:PV}(hg:get st.Z b=some (.box cs))(hj:cs[j]?=some p)(h2:q.one=true)(hq:∀ c v,VR c p v->VR c q v):Wk st ⟨st.n,st.tm,put st.Z b (.box (cs.set j q))⟩:=
 fun _ _ _ ⟨β,h⟩=>⟨β,Zakp (n:=st.n) (tm:=st.tm) (Z:=st.Z) h (Zakr hg hj (Za1g h hg) h2 (hq _)) (fun _ q hq=>⟨q,hq,fun _ h=>h⟩)⟩
theorem Wk.ownc{st:St}{t j l k:Nat}{cs:List PV}(hg:get st.tm t=some (.agg cs))(hj:cs[j]?=some .nils)(hk:0 < k)(hl:1000<=l)(hf:Zoo l st.tm st.Z=true):Wk st ⟨st.n,put st.tm t (.agg (cs.set j (.osl l 0))),(l,.row k [])::st.Z⟩:=by
 rintro G a w ⟨β,h⟩
 obtain⟨g1,g2⟩:=Zwf hf
 have h':=Zaka (n:=st.n) (tm:=st.tm) (Z:=st.Z) h l k hk hl g1 g2
 refine⟨Zok β l,Zakp h' (fun _ o ho=>⟨o,ho,.inl rfl⟩) (Zakq hg fun v hv=>?_)⟩
 simp only [VR] at hv ⊢
 obtain⟨vs,hv,hs⟩:=hv
 exact⟨vs,hv,VRs.set hj (VR.nilOwn (l:=l) (k:=k) (by simp [ctx,PW.get]) (by simp [ctx,Zok])) hs⟩
theorem Wk.ownb{st:St}{b j l k:Nat}{cs:List PV}(hg:get st.Z b=some (.box cs))(hj:cs[j]?=some .nils)(hk:0 < k)(hl:1000<=l)(hf:Zoo l st.tm st.Z=true):Wk st ⟨st.n,st.tm,put ((l,.row k [])::st.Z) b (.box (cs.set j (.osl l 0)))⟩:=by
 rintro G a w ⟨β,h⟩
 obtain⟨g1,g2⟩:=Zwf hf
 have h':=Zaka (n:=st.n) (tm:=st.tm) (Z:=st.Z) h l k hk hl g1 g2
 have hbl:b≠l:=(g2 b _ hg).1
 exact⟨Zok β l,Zakp h' (Zakr (by simp only [PW.get,Zgf (Ne.symm hbl),cond_false];exact hg) hj (Za1g h hg) rfl (VR.nilOwn (l:=l) (k:=k) (by simp [ctx,PW.get]) (by simp [ctx,Zok]))) (fun _ q hq=>⟨q,hq,fun _ h=>h⟩)⟩
def Zbv:List Orc->St->Es
 | .frz l::xs,st=>
  match get st.Z l with
  | some (.row _ es)=>
   match Zbv xs ⟨st.n,(Zs5 false l es st.tm).2,(Zhz false l es st.Z).2⟩ with
   | some (ps,xs',st')=>some ((Zs5 false l es st.tm).1++((Zhz false l es st.Z).1++ps),xs',st')
   | none=>none
  | some (.mat _ _ es)=>
   match Zbv xs ⟨st.n,(Zs5 true l es st.tm).2,(Zhz true l es st.Z).2⟩ with
   | some (ps,xs',st')=>some ((Zs5 true l es st.tm).1++((Zhz true l es st.Z).1++ps),xs',st')
   | none=>none
  | some (.box cs)=>match Znx cs with | some ts=>Zbv xs ⟨st.n,Zat5 l ts st.tm,Z7v l ts st.Z⟩ | none=>none
  | _=>none
 | .relen l::xs,st=>
  match get st.Z l with
  | some (.row _ es)=>
   match Zbv xs ⟨st.n,(Zc0 l es.length st.tm).2,(Zfi l es.length st.Z).2⟩ with
   | some (ps,xs',st')=>some ((Zc0 l es.length st.tm).1++((Zfi l es.length st.Z).1++ps),xs',st')
   | none=>none
  | some (.mat _ _ es)=>
   match Zbv xs ⟨st.n,(Zc0 l es.length st.tm).2,(Zfi l es.length st.Z).2⟩ with
   | some (ps,xs',st')=>some ((Zc0 l es.length st.tm).1++((Zfi l es.length st.Z).1++ps),xs',st')
   | none=>none
  | _=>none
 | .opn l i e::xs,st=>
  match get st.Z l with
  | some (.row k es)=>
   bif Nat.ble 1000 l then
    match Zzi (opnV l i) st.tm,Z7t l (.prow k i es (e.map .t)) (opnV l i) st.Z with
    | some (q1,tm),some (q2,Z)=>
     match Zbv xs ⟨st.n,tm,Z⟩ with
     | some (ps,xs',st')=>some ((es[i]?=some e)::(q1++(q2++ps)),xs',st')
     | none=>none
    | _,_=>none
   else none
  | _=>none
 | .cls l es'::xs,st=>
  match get st.Z l with
  | some (.prow k i es cs)=>
   match Znx cs with
   | some ts=>
    bif Nat.ble 1000 l then
     match Zzi (clsV l i es.length) st.tm,Z7t l (.row k es') (clsV l i es.length) st.Z with
     | some (q1,tm),some (q2,Z)=>
      match Zbv xs ⟨st.n,tm,Z⟩ with
      | some (ps,xs',st')=>some ((es.set i ts=es')::(q1++(q2++ps)),xs',st')
      | none=>none
     | _,_=>none
    else none
   | none=>none
  | _=>none
 | .tomat l::xs,st=>
  match get st.Z l with
  | some (.row 1 es)=>
   bif (st.Z.all fun q => !q.2.has l)&&Zzh st.tm then
    match Zbv xs ⟨st.n,toM l st.tm,put st.Z l (.mat 1 0 es)⟩ with
    | some (ps,xs',st')=>some ((∀ e,e∈es->e=[Zf.sl []])::ps,xs',st')
    | none=>none
   else none
  | _=>none
 | .pick ks ls::xs,st=>
  match Zmt st.tm ks,Zmt st.Z ls with
  | some tm,some Z=>Zbv xs ⟨st.n,tm,Z⟩
  | _,_=>none
 | .own t l k::xs,st=>
  match get st.tm t with
  | some .nils=>bif Nat.blt 0 k&&Nat.ble 1000 l&&Zoo l st.tm st.Z&&Nat.blt t st.n then Zbv xs ⟨st.n,put st.tm t (.osl l 0),(l,.row k [])::st.Z⟩ else none
  | _=>none
 | .relab l m::xs,st=>bif Nat.ble 1000 m&&Zoo m st.tm st.Z then Zbv xs ⟨st.n,Zaks (f1 l m) st.tm,Zcr (f1 l m) st.Z⟩ else none
 | .nilt t::xs,st=>match get st.tm t with | some .nils=>Zbv xs ⟨st.n,put st.tm t (.t (.sl [])),st.Z⟩ | _=>none
 | .niltc t j::xs,st=>
  match get st.tm t with
  | some (.agg cs)=>match cs[j]? with | some .nils=>Zbv xs ⟨st.n,put st.tm t (.agg (cs.set j (.t (.sl [])))),st.Z⟩ | _=>none
  | _=>none
 | .niltb b j::xs,st=>
  match get st.Z b with
  | some (.box cs)=>match cs[j]? with | some .nils=>Zbv xs ⟨st.n,st.tm,put st.Z b (.box (cs.set j (.t (.sl []))))⟩ | _=>none
  | _=>none
 | .ownc t j l k::xs,st=>
  match get st.tm t with
  | some (.agg cs)=>match cs[j]? with | some .nils=>bif Nat.blt 0 k&&Nat.ble 1000 l&&Zoo l st.tm st.Z then Zbv xs ⟨st.n,put st.tm t (.agg (cs.set j (.osl l 0))),(l,.row k [])::st.Z⟩ else none | _=>none
  | _=>none
 | .ownb b j l k::xs,st=>
  match get st.Z b with
  | some (.box cs)=>match cs[j]? with | some .nils=>bif Nat.blt 0 k&&Nat.ble 1000 l&&Zoo l st.tm st.Z then Zbv xs ⟨st.n,st.tm,put ((l,.row k [])::st.Z) b (.box (cs.set j (.osl l 0)))⟩ else none | _=>none
  | _=>none
 | xs,st=>some ([],xs,st)
theorem Wk.pick{st:St}{tm:List (Nat×PV)}{Z:List (Nat×Blk)}{ks ls:List Nat}(h1:Zmt st.tm ks=some tm)(h2:Zmt st.Z ls=some Z):Wk st ⟨st.n,tm,Z⟩:=
 fun _ _ _ ⟨β,h⟩=>⟨β,h.sub (Nat.le_refl _) (fun i p hp=>⟨Zi1 h1 i p hp,(h.tm i p (Zi1 h1 i p hp)).1⟩) (fun l o ho=>Zi1 h2 l o ho)⟩
theorem Wk.own{st:St}{t l k:Nat}(hg:get st.tm t=some .nils)(hk:0 < k)(hl:1000<=l)(hf:Zoo l st.tm st.Z=true):Wk st ⟨st.n,put st.tm t (.osl l 0),(l,.row k [])::st.Z⟩:=by
 rintro G a w ⟨β,h⟩
 obtain⟨f1,f2⟩:=Zwf hf
 have h':=Zaka (n:=st.n) (tm:=st.tm) (Z:=st.Z) h l k hk hl f1 f2
 refine⟨Zok β l,?_⟩
 have hv:=(h.tm t _ hg)
 simp only [VR] at hv
 obtain⟨hlt,a0,hv⟩:=hv
 exact { defers := h'.defers, sz := h'.sz, base := h'.base, os := h'.os, tape := h'.tape, output := h'.output, old := h'.old, A := h'.A, gl := h'.gl, inj := h'.inj, sep := h'.sep, fix := h'.fix, row0 := h'.row0, blk := h'.blk,
         tm:=fun i p hp=>by
          by_cases hi:t=i
          .subst hi
           rw [Zca] at hp
           cases hp
           refine⟨hlt,?_⟩
           simp only [VR]
           refine⟨fun k' es' hes'=>?_,a0,0,0,hv⟩
           have hgs:get ((l,Blk.row k [])::st.Z) l=some (.row k []):=by simp [PW.get]
           have:some (Blk.row k' es')=some (.row k []):=Eq.trans (Eq.symm hes') hgs
           cases this
           exact⟨Nat.le_refl _,fun _=>⟨a0,0,hv,Nat.le_refl _,by simp [maxLen],.inl ⟨rfl,by simp [ctx,Zok]⟩⟩⟩
          .rw [Zb5 _ _ hi] at hp
           exact h'.tm i p hp }
theorem Zc2:∀ (xs:List Orc) (st:St) {ps:List Prop} {xs':List Orc} {st':St},Zbv xs st=some (ps,xs',st')->Zak ps->Wk st st'
 | [],st,ps,xs',st',h,_=>by simp only [Zbv,Option.some.injEq,Prod.mk.injEq] at h;rw [h.2.2];exact Wk.refl _
 | x::xs,st,ps,xs',st',h,hc=>by
  cases x
  case frz l=>
   simp only [Zbv] at h
   split at h
   .rename_i k es hg
    split at h
    .rename_i ps' xs2 st2 h2
     cases h
     obtain⟨h3,h4⟩:=Zx.1 hc
     obtain⟨h4,h5⟩:=Zx.1 h4
     have h0:=Zs6 (mt:=false) (l:=l) (es:=es) st.Z
     exact (Wk.frz (Zon (mt:=false) (q0:=0) hg h0 st.Z h4) (Zabc (mt:=false) (q0:=0) hg h0 st.tm h3)).trans (Zc2 xs _ h2 h5)
    .cases h
   .rename_i k q0 es hg
    split at h
    .rename_i ps' xs2 st2 h2
     cases h
     obtain⟨h3,h4⟩:=Zx.1 hc
     obtain⟨h4,h5⟩:=Zx.1 h4
     have h0:=Zs6 (mt:=true) (l:=l) (es:=es) st.Z
     exact (Wk.frz (Zon (mt:=true) (k:=k) hg h0 st.Z h4) (Zabc (mt:=true) (k:=k) hg h0 st.tm h3)).trans (Zc2 xs _ h2 h5)
    .cases h
   .rename_i cs hg
    split at h
    .rename_i ts hts
     have e:=Zpp hts
     subst e
     have h0:=Z2l (l:=l) (ts:=ts) st.Z
     exact (Wk.frz (Zaow hg h0 st.Z) (Zavj hg h0 st.tm)).trans (Zc2 xs _ h hc)
    .cases h
   .cases h
  case relen l=>
   simp only [Zbv] at h
   split at h
   .rename_i k es hg
    split at h
    .rename_i ps' xs2 st2 h2
     cases h
     obtain⟨h3,h4⟩:=Zx.1 hc
     obtain⟨h4,h5⟩:=Zx.1 h4
     have:=Zc2 xs _ h2 h5
     rw [Zhc _ h3,Zop _ h4] at this
     exact this
    .cases h
   .rename_i k q0 es hg
    split at h
    .rename_i ps' xs2 st2 h2
     cases h
     obtain⟨h3,h4⟩:=Zx.1 hc
     obtain⟨h4,h5⟩:=Zx.1 h4
     have:=Zc2 xs _ h2 h5
     rw [Zhc _ h3,Zop _ h4] at this
     exact this
    .cases h
   .cases h
  case opn l i e=>
   simp only [Zbv] at h
   split at h
   .rename_i k es hg
    have hbh:=Zaj h;clear h;obtain⟨hb,h⟩:=hbh
    split at h
    .rename_i q1 tm q2 Z h1 h2
     split at h
     .rename_i ps' xs2 st2 h3
      cases h
      obtain⟨c1,c2⟩:=hc
      obtain⟨c2,c3⟩:=Zx.1 c2
      obtain⟨c3,c4⟩:=Zx.1 c3
      exact (Wk.opn (Nat.le_of_ble_eq_true hb) hg c1 h1 h2 c2 c3).trans (Zc2 xs _ h3 c4)
     .cases h
    .cases h
   .cases h
  case cls l es'=>
   simp only [Zbv] at h
   split at h
   .rename_i k i es cs hg
    split at h
    .rename_i ts ht
     have hbh:=Zaj h;clear h;obtain⟨hb,h⟩:=hbh
     split at h
     .rename_i q1 tm q2 Z h1 h2
      split at h
      .rename_i ps' xs2 st2 h3
       cases h
       obtain⟨c1,c2⟩:=hc
       obtain⟨c2,c3⟩:=Zx.1 c2
       obtain⟨c3,c4⟩:=Zx.1 c3
       exact (Wk.cls (Nat.le_of_ble_eq_true hb) hg ht c1 h1 h2 c2 c3).trans (Zc2 xs _ h3 c4)
      .cases h
     .cases h
    .cases h
   .cases h
  case tomat l=>
   simp only [Zbv] at h
   split at h
   .rename_i es hg
    have hbh:=Zaj h;clear h;obtain⟨hb,h⟩:=hbh
    simp only [Bool.and_eq_true] at hb
    split at h
    .rename_i ps' xs2 st2 h2
     cases h
     exact (Wk.tomat hg hc.1 hb.1 hb.2).trans (Zc2 xs _ h2 hc.2)
    .cases h
   .cases h
  case pick ks ls=>
   simp only [Zbv] at h
   split at h
   .rename_i tm Z h1 h2
    exact (Wk.pick h1 h2).trans (Zc2 xs _ h hc)
   .cases h
  case own t l k=>
   simp only [Zbv] at h
   split at h
   .rename_i hg
    obtain⟨hb,h⟩:=Zaj h
    simp only [Bool.and_eq_true,Nat.blt_eq,Zd8] at hb
    exact (Wk.own hg hb.1.1.1 hb.1.1.2 hb.1.2).trans (Zc2 xs _ h hc)
   .cases h
  case relab l m=>
   simp only [Zbv] at h
   obtain⟨hb,h⟩:=Zaj h
   simp only [Bool.and_eq_true,Zd8] at hb
   exact (Wk.relab hb.1 hb.2).trans (Zc2 xs _ h hc)
  case nilt t=>
   simp only [Zbv] at h
   split at h
   .rename_i hg;exact (Wk.slot hg fun _ v hv=>VR.nilt v hv).trans (Zc2 xs _ h hc)
   .cases h
  case niltc t j=>
   simp only [Zbv] at h
   split at h
   .rename_i cs hg
    split at h
    .rename_i hj
     refine (Wk.slot hg fun c v hv=>?_).trans (Zc2 xs _ h hc)
     simp only [VR] at hv ⊢
     obtain⟨vs,hv,hs⟩:=hv
     exact⟨vs,hv,VRs.set hj VR.nilt hs⟩
    .cases h
   .cases h
  case niltb b j=>
   simp only [Zbv] at h
   split at h
   .rename_i cs hg
    split at h
    .rename_i hj;exact (Wk.cell hg hj rfl fun _ v hv=>VR.nilt v hv).trans (Zc2 xs _ h hc)
    .cases h
   .cases h
  case ownc t j l k=>
   simp only [Zbv] at h
   split at h
   .rename_i cs hg
    split at h
    .rename_i hj
     obtain⟨hb,h⟩:=Zaj h
     simp only [Bool.and_eq_true,Nat.blt_eq,Zd8] at hb
     exact (Wk.ownc hg hj hb.1.1 hb.1.2 hb.2).trans (Zc2 xs _ h hc)
    .cases h
   .cases h
  case ownb b j l k=>
   simp only [Zbv] at h
   split at h
   .rename_i cs hg
    split at h
    .rename_i hj
     obtain⟨hb,h⟩:=Zaj h
     simp only [Bool.and_eq_true,Nat.blt_eq,Zd8] at hb
     exact (Wk.ownb hg hj hb.1.1 hb.1.2 hb.2).trans (Zc2 xs _ h hc)
    .cases h
   .cases h
  all_goals
   simp only [Zbv,Option.some.injEq,Prod.mk.injEq] at h
   rw [h.2.2];exact Wk.refl _
def Zavl:Es->Es
 | some (ps,.stop::xs,st)=>some (ps,xs,st)
 | r=>r
theorem Za3g{r:Es}{ps:List Prop}{xs:List Orc}{st:St}(h:Zavl r=some (ps,xs,st)):∃ xs',r=some (ps,xs',st):=by
 unfold Zavl at h
 split at h
 .cases h;exact⟨_,rfl⟩
 .exact⟨_,h⟩
def evAt(d:Option Nat)(xs:List Orc)(st:St):Es:=
 match xs,d with
 | .ahead i::xs',some j=>bif Nat.beq i j then Zavl (Zbv xs' st) else some ([],xs,st)
 | _,_=>some ([],xs,st)
theorem Za1h{d:Option Nat}{xs:List Orc}{st:St}{ps:List Prop}{xs':List Orc}{st':St}(h:evAt d xs st=some (ps,xs',st'))(hc:Zak ps):Wk st st':=by
 have triv:∀ ys:List Orc,(some ([],ys,st):Es)=some (ps,xs',st')->Wk st st':=fun ys h=>by cases h;exact Wk.refl _
 unfold evAt at h
 split at h
 .rename_i i xs2 j
  cases hb:Nat.beq i j with
  | true=>
   simp only [hb,cond_true] at h
   obtain⟨ys,h⟩:=Za3g h
   exact Zc2 _ _ h hc
  | false=>simp only [hb,cond_false] at h;exact triv _ h
 .exact triv _ h
def Za3i(T:TS)(o:Oper)(st:St)(xs:List Orc):Es:=
 match o.op with
 | .store t x y=>
  match o.dst,get T t,Zp st.tm x,Zp st.tm y with
  | none,some i,some (.bptr l q),some p=>
   match get st.Z l,xs with
   | some (.box cs),.sp cs'::xs=>bif Nat.beq (Z7 p).length i.size&&(Z7 p).all PV.one then some ([q+i.size<=cs.length,splice cs q (Z7 p)=cs'],xs,⟨st.n,st.tm,put st.Z l (.box cs')⟩) else none
   | some (.box cs),xs=>bif Nat.beq (Z7 p).length i.size&&(Z7 p).all PV.one&&Nat.ble (q+i.size) cs.length then some ([],xs,⟨st.n,st.tm,put st.Z l (.box (splice cs q (Z7 p)))⟩) else none
   | _,_=>none
  | none,some i,some (.rptr l m j q),some p=>
   match get st.Z l,xs,Zeb (Z7 p) with
   | some (.row k es),.cs e :: .es es'::xs,some ts=>
    bif Nat.beq ts.length i.size&&Nat.ble (q+i.size) k then some ([es.length=m,es[j]?=some e,es.set j (splice e q ts)=es'],xs,⟨st.n,st.tm,put st.Z l (.row k es')⟩) else none
   | _,_,_=>none
  | _,_,_,_=>none
 | .convert s t x=>
  match Zdz T t,Zp st.tm x,o.dst with
  | some (_,⟨_,_,_,_,.int .u8,_⟩),some (.osl l m),some d=>
   match get st.Z l with
   | some (.row _ es)=>bif Nat.beq s t&&Nat.blt d st.n then some ([False],xs,⟨st.n,put st.tm d (.osl l m),st.Z⟩) else none
   | _=>none
  | _,_,_=>none
 | _=>none
def Za3j(T:TS)(o:Oper)(st:St)(xs:List Orc):Es:=
 match o.op with
 | .call c=>
  match c.callee,Zka st.tm c.args.toList,c.argTypes.toList,o.dst,xs with
  | .builtin .clear,some [.own l (.tail m i)],[t],none,.es es'::xs=>
   match Zdz T t,get st.Z l with
   | some (_,⟨_,k,bytes,some z,_,_⟩),some (.row k' es)=>
    match Zeb z with
    | some zs=>bif Nat.blt 0 k&&Nat.beq z.length k&&Nat.beq k k' then some ([es.length=m,i<=m,es.take i++List.replicate (m - i) zs=es'],xs,⟨st.n,st.tm,put st.Z l (.row k es')⟩) else none
    | none=>none
   | _,_=>none
  | _,_,_,_,_=>none
 | .slice t x none (some y) none=>
  match Zdz T t,Zp st.tm x,Zp st.tm y,o.dst,xs with
  | some (_,j),some (.osl l m),some (.t (.int _ i)),some d,.nat q :: .es es'::xs=>
   match get st.Z l with
   | some (.row k es)=>bif Nat.beq j.size k&&Nat.blt d st.n&&(st.Z.all fun q => !q.2.has l)&&Zzh st.tm&&Nat.ble 1000 l then some ([es.length=m,0<=i,i<=m,i.toNat=q,es.take i.toNat=es'],xs,⟨st.n,put (Z7q l st.tm) d (.osl l q),put st.Z l (.row k es')⟩) else none
   | _=>none
  | _,_,_,_,_=>none
 | .store t x y=>
  match o.dst,get T t,Zp st.tm x,Zp st.tm y,xs with
  | none,some i,some (.own l (.mel m j q)),some (.t z),.es inner :: .es es'::xs=>
   match get st.Z l with
   | some (.mat 1 0 es)=>bif !i.agg&&Nat.beq i.size 1&&z.scal then some ([es.length=m,es[j]?=some [.sl inner],q < inner.length,es.set j [.sl (inner.set q [z])]=es'],xs,⟨st.n,st.tm,put st.Z l (.mat 1 0 es')⟩) else none
   | _=>none
  | none,some i,some (.own l (.mpt m j 0)),some (.osl l2 n2),.es es'::xs=>
   match get st.Z l,get st.Z l2 with
   | some (.mat 1 0 es),some (.row 1 es2)=>bif (!i.agg&&Nat.beq i.size 1)&&(!Nat.beq l l2&&((st.Z.all fun q=>q.2.mo l)&&Zzh st.tm)) then some ([es.length=m,j < m,es2.length=n2,SC1 es2,es.set j [.sl es2]=es'],xs,⟨st.n,Z2g l st.tm,(l,.mat 1 0 es')::Zbo [l,l2] st.Z⟩) else none
   | _,_=>none
  | _,_,_,_,_=>none
 | .mapUpdate t x y z=>
  match o.dst,(get T t).map (·.k),Zp st.tm x,Zp st.tm y,Zp st.tm z,xs with
  | none,some (TK.map k _),some (.own l .map),some (.t (.int .i64 i)),some p,.cs ts :: .mp es'::xs=>
   match get st.Z l,(get T k).map (·.k) with
   | some (.map ag es),some (TK.int .i64)=>some ([p=mvP ag ts,Zhl es i ts=es'],xs,⟨st.n,st.tm,put st.Z l (.map ag es')⟩)
   | _,_=>none
  | _,_,_,_,_,_=>none
 | _=>none
def evUp(T:TS)(o:Oper)(st:St)(xs:List Orc):Es:=
 match Za3i T o st xs with
 | some r=>some r
 | none=>Za3j T o st xs
section
variable {P:Program} {T:TS} {o:Oper} {xs xs':List Orc} {ps:List Prop}
theorem Zbad(hT:TOK P T){st st':St}(h:Za3i T o st xs=some (ps,xs',st'))(hc:Zak ps):Zxt P o st st':=by
 obtain⟨n,tm,Z⟩:=st
 unfold Za3i at h
 split at h
 .rename_i t x y ho
  split at h
  .rename_i i l q p hd hi hx hy
   split at h
   .rename_i cs cs' xs2 hg
    have hbh:=Zaj h;clear h;obtain⟨hb,h⟩:=hbh
    simp only [Bool.and_eq_true,Z1] at hb
    cases h
    obtain⟨h1,h2,_⟩:=hc
    subst h2
    exact Zaqu ho hd (hT _ _ hi).ty hx hy hg hb.1 hb.2 h1
   .rename_i cs hg _
    have hbh:=Zaj h;clear h;obtain⟨hb,h⟩:=hbh
    simp only [Bool.and_eq_true,Z1,Zd8] at hb
    cases h
    exact Zaqu ho hd (hT _ _ hi).ty hx hy hg hb.1.1 hb.1.2 hb.2
   .cases h
  .rename_i i l m j q p hd hi hx hy
   split at h
   .rename_i k es e es' xs2 ts hg hts
    have hbh:=Zaj h;clear h;obtain⟨hb,h⟩:=hbh
    simp only [Bool.and_eq_true,Z1,Zd8] at hb
    cases h
    obtain⟨h1,h2,h3,_⟩:=hc
    subst h3
    exact Za57 ho hd (hT _ _ hi).ty hx hy hg h1 h2 hts hb.1 hb.2
   .cases h
  .cases h
 .rename_i s t x ho
  split at h
  .rename_i e agg sz by_ z fl l m d he hx hd
   split at h
   .rename_i k es hg
    have hbh:=Zaj h;clear h;obtain⟨hb,h⟩:=hbh
    simp only [Bool.and_eq_true,Z1,Nat.blt_eq] at hb
    obtain⟨rfl,hb2⟩:=hb
    cases h
    obtain⟨i,hi,hk,hj⟩:=Zcn he
    have hu:=(hT _ _ hi).k
    rw [hk] at hu
    have hu2:P.underlying e=some (.int .u8):=(hT _ _ hj).k
    exact hc.1.elim
   .cases h
  .cases h
 .cases h
theorem Zbae(hT:TOK P T){st st':St}(h:Za3j T o st xs=some (ps,xs',st'))(hc:Zak ps):Zxt P o st st':=by
 obtain⟨n,tm,Z⟩:=st
 unfold Za3j at h
 split at h
 .rename_i c ho
  split at h
  .rename_i l m i t es' xs2 hce hps hat hd
   obtain⟨x,hax,hx⟩:=Z2k hps
   have hceq:=Zjz hce hax hat
   rw [hceq] at ho
   split at h
   .rename_i e agg k bytes z kk fl k' es he hg
    split at h
    .rename_i zs hzs
     have hbh:=Zaj h;clear h;obtain⟨hb,h⟩:=hbh
     simp only [Bool.and_eq_true,Z1] at hb
     obtain⟨⟨hb1,hb2⟩,hb3⟩:=hb
     subst hb3
     cases h
     obtain⟨h1,h2,h3,_⟩:=hc
     subst h3
     exact Za9o ho hd (Zzj (z:=z) hT he rfl hb1 ((Z1 _ _).2 hb2)) hzs hx hg h1 h2
    .cases h
   .cases h
  .cases h
 .rename_i t x y ho
  split at h
  .rename_i e j l m ki i d q es' xs2 he hx hy hd
   split at h
   .rename_i k es hg
    have hbh:=Zaj h;clear h;obtain⟨hb,h⟩:=hbh
    simp only [Bool.and_eq_true,Z1,Nat.blt_eq] at hb
    obtain⟨⟨⟨⟨hb1,hb2⟩,hb3⟩,hb4⟩,hb5⟩:=hb
    cases h
    obtain⟨h1,h2,h3,h4,h5,_⟩:=hc
    subst h4
    subst h5
    obtain⟨i0,hi0,hk0,hj⟩:=Zcn he
    exact Za9p ho hd hb2 (hb1▸hT.slInfo hi0 hk0 hj) hx hy hg h1 h2 h3 (Nat.le_of_ble_eq_true hb5) hb3 hb4
   .cases h
  .cases h
 .rename_i t x y ho
  split at h
  .rename_i i l m j q z inner es' xs2 hd hi hx hy
   split at h
   .rename_i es hg
    have hbh:=Zaj h;clear h;obtain⟨hb,h⟩:=hbh
    simp only [Bool.and_eq_true,Bool.not_eq_true',Z1] at hb
    cases h
    obtain⟨h1,h2,h3,h4,_⟩:=hc
    subst h4
    have hty:=(hT t i hi).ty
    rw [hb.1.1,hb.1.2] at hty
    exact Zaz1 ho hd hty hx hy rfl hb.2 hg h1 h2 h3
   .cases h
  .rename_i i l m j l2 n2 es' xs2 hd hi hx hy
   split at h
   .rename_i es es2 hg hg2
    have hbh:=Zaj h;clear h;obtain⟨hb,h⟩:=hbh
    simp only [Bool.and_eq_true,Bool.not_eq_true',Z1] at hb
    cases h
    obtain⟨h1,h2,h3,h4,h5,_⟩:=hc
    subst h5
    have hty:=(hT t i hi).ty
    rw [hb.1.1,hb.1.2] at hty
    exact Zaz2 ho hd hty hx hy hg h1 h2 hg2 h3 h4 (Z50 (by rw [hb.2.1];rfl)) hb.2.2.1 hb.2.2.2
   .cases h
  .cases h
 .rename_i t x y z ho
  split at h
  .rename_i k e l i p ts es' xs2 hd hk hx hy hz
   split at h
   .rename_i ag es hg hi
    cases h
    obtain⟨h1,h2,_⟩:=hc
    subst h2
    exact Zau5 ho hd (mapK (hT:=hT) hk) (intK (hT:=hT) hi) hx hy hz h1 hg
   .cases h
  .cases h
 .cases h
theorem Zbec(hT:TOK P T){st st':St}(h:evUp T o st xs=some (ps,xs',st'))(hc:Zak ps):Zxt P o st st':=by
 unfold evUp at h
 split at h
 .rename_i h0;cases h;exact Zbad hT h0 hc
 .exact Zbae hT h hc
def Zaei(ops:Array Oper)(tm:List (Nat×PV))(o:Oper)(xs:List Orc):Option (List Prop×List Orc×Bool):=
 match o.guard with
 | none=>some ([],xs,true)
 | some (g,want)=>
  match (ops[g]?).bind (·.dst) with
  | none=>none
  | some d=>
   match get tm d,xs with
   | some (.t (.bool e)),.br b::xs=>some ([e=b],xs,b==want)
   | some (.tup []),xs=>some ([],xs,false)
   | _,_=>none
theorem Zmu{ops:Array Oper}{tm:List (Nat×PV)}{r:Bool}(h:Zaei ops tm o xs=some (ps,xs',r))(hc:Zak ps):Zlf ops tm o=some r:=by
 unfold Zaei at h
 unfold Zlf
 split at h
 .rename_i hg;cases h;rw [hg]
 .rename_i g want hg
  rw [hg]
  simp only
  split at h
  .cases h
  .rename_i d hd
   simp only [hd]
   split at h
   .rename_i e b xs2 he
    cases h
    have:=hc.1
    subst this
    simp [he]
   .rename_i he;cases h;simp [he]
   .cases h
def Zwg(rm:List Nat)(tm:List (Nat×PV))(Z:List (Nat×Blk)):List (Nat×Blk)->Bool
 | []=>true
 | (l,_)::r=>(Zz0 rm l||Zoo l tm Z)&&Zwg rm tm Z r
theorem Zz9{rm:List Nat}{tm:List (Nat×PV)}{Z:List (Nat×Blk)}:∀ {news:List (Nat×Blk)},Zwg rm tm Z news=true->∀ l x,(l,x)∈news->l∉rm->(∀ i q,get tm i=some q->q.has l=false)/\(∀ m y,get Z m=some y->m≠l/\y.has l=false)
 | [],_,l,x,hm,_=>by cases hm
 | (m,y)::r,h,l,x,hm,hr=>by
  simp only [Zwg,Bool.and_eq_true,Bool.or_eq_true] at h
  rcases List.mem_cons.1 hm with hm | hm
  .cases hm
   rcases h.1 with h1 | h1
   .exact absurd (Z7k.1 h1) hr
   .exact Zwf h1
  .exact Zz9 h.2 l x hm hr
def dstN(o:Oper):Nat:=match o.dst with | some d=>d | none=>1000000
def Zavm(P:Program)(T:TS)(ops:Array Oper)(o:Oper)(xs:List Orc)(st:St):Es:=
 match evAt (some (dstN o)) xs st with
 | some (ps0,xs0,st0)=>
  match Zaei ops st0.tm o xs0 with
  | some (ps1,xs1,true)=>
   match Zat4 P T o st0.tm st0.Z xs1 with
   | some (ps2,xs2,x)=>
    match o.dst with
    | some d=>bif Nat.blt d st0.n&&Zwg x.rm st0.tm st0.Z x.s.news then some (ps0++(ps1++ps2),xs2,⟨st0.n,put st0.tm d x.s.p,x.s.news++Zbo x.rm st0.Z⟩) else none
    | none=>bif Zwg x.rm st0.tm st0.Z x.s.news then some (ps0++(ps1++ps2),xs2,⟨st0.n,st0.tm,x.s.news++Zbo x.rm st0.Z⟩) else none
   | none=>
    match evUp T o st0 xs1 with
    | some (ps2,xs2,st2)=>some (ps0++(ps1++ps2),xs2,st2)
    | none=>none
  | some (ps1,xs1,false)=>
   match o.dst with
   | some d=>bif Nat.blt d st0.n then some (ps0++ps1,xs1,⟨st0.n,put st0.tm d (.tup []),st0.Z⟩) else none
   | none=>some (ps0++ps1,xs1,st0)
  | none=>none
 | none=>none
theorem Za6r(hT:TOK P T){ops:Array Oper}{R:St->Prop}{l:List Oper}{st st':St}(h:Zavm P T ops o xs st=some (ps,xs',st'))(hc:Zak ps)(hk:Zc1 P ops R l st'):Zc1 P ops R (o::l) st:=by
 unfold Zavm at h
 split at h
 .rename_i ps0 xs0 st0 h0
  suffices hs:Zak ps0/\Zc1 P ops R (o::l) st0 from Zc1.weaken (Za1h h0 hs.1) hs.2
  split at h
  .rename_i ps1 xs1 h1
   split at h
   .rename_i ps2 xs2 s h2
    split at h
    .rename_i d hd
     have hbh:=Zaj h;clear h;obtain⟨hb,h⟩:=hbh
     simp only [Bool.and_eq_true,Nat.blt_eq] at hb
     cases h
     obtain⟨c0,c1⟩:=Zx.1 hc
     obtain⟨c1,c2⟩:=Zx.1 c1
     refine⟨c0,Zc1.step (Zmu h1 c1) ?_ hk⟩
     intro G a w K Q hr hK
     refine Zah9 hT h2 c2 G st0.n st0.tm st0.Z a w K Q (fun _ _ _ h=>h) (fun _ _=>rfl) (Zz9 hb.2) hr ?_
     rintro v w' ⟨β,hβ,hv⟩
     exact hK _ _ ⟨β,by rw [hd];exact hβ.put hb.1 hv⟩
    .rename_i hd
     have hbh:=Zaj h;clear h;obtain⟨hb,h⟩:=hbh
     cases h
     obtain⟨c0,c1⟩:=Zx.1 hc
     obtain⟨c1,c2⟩:=Zx.1 c1
     refine⟨c0,Zc1.step (Zmu h1 c1) ?_ hk⟩
     intro G a w K Q hr hK
     refine Zah9 hT h2 c2 G st0.n st0.tm st0.Z a w K Q (fun _ _ _ h=>h) (fun _ _=>rfl) (Zz9 hb) hr ?_
     rintro v w' ⟨β,hβ,hv⟩
     exact hK _ _ ⟨β,by rw [hd];exact hβ⟩
   .split at h
    .rename_i ps2 xs2 st2 h2
     cases h
     obtain⟨c0,c1⟩:=Zx.1 hc
     obtain⟨c1,c2⟩:=Zx.1 c1
     exact⟨c0,Zc1.step (Zmu h1 c1) (Zbec hT h2 c2) hk⟩
    .cases h
  .rename_i ps1 xs1 h1
   split at h
   .rename_i d hd
    have hbh:=Zaj h;clear h;obtain⟨hb,h⟩:=hbh
    simp only [Nat.blt_eq] at hb
    cases h
    obtain⟨c0,c1⟩:=Zx.1 hc
    exact⟨c0,Zc1.skip hd hb (Zmu h1 c1) hk⟩
   .rename_i hd
    cases h
    obtain⟨c0,c1⟩:=Zx.1 hc
    exact⟨c0,Zc1.skipNone hd (Zmu h1 c1) hk⟩
  .cases h
 .cases h
def Zaej(P:Program)(T:TS)(ops:Array Oper):List Oper->List Orc->St->Es
 | [],xs,st=>some ([],xs,st)
 | o::l,xs,st=>
  match Zavm P T ops o xs st with
  | some (ps,xs1,st1)=>
   match Zaej P T ops l xs1 st1 with
   | some (qs,xs2,st2)=>some (ps++qs,xs2,st2)
   | none=>none
  | none=>none
theorem Zaia(hT:TOK P T){ops:Array Oper}{R:St->Prop}:∀ (l:List Oper) {xs xs':List Orc} {st st':St} {ps:List Prop},Zaej P T ops l xs st=some (ps,xs',st')->Zak ps->R st'->Zc1 P ops R l st
 | [],xs,xs',st,st',ps,h,_,hr=>by
  simp only [Zaej,Option.some.injEq,Prod.mk.injEq] at h
  rw [<- h.2.2] at hr
  exact Zc1.nil hr
 | o::l,xs,xs',st,st',ps,h,hc,hr=>by
  simp only [Zaej] at h
  split at h
  .rename_i ps1 xs1 st1 h1
   split at h
   .rename_i qs xs2 st2 h2
    cases h
    obtain⟨c1,c2⟩:=Zx.1 hc
    exact Za6r hT h1 c1 (Zaia hT l h2 c2 hr)
   .cases h
  .cases h
structure Za3k where
 ps:List Prop
 xs:List Orc
 plan:List (Option Stm)
 rest:List Oper
 tm:List (Nat×PV)
 Z:List (Nat×Blk)
def Zat6(n:Nat):Option Nat->Bool
 | some d=>Nat.blt d n
 | none=>true
theorem Zbaf{n:Nat}{d:Option Nat}(h:Zat6 n d=true):∀ e,d=some e->e < n:=by
 rintro e rfl
 simpa only [Zat6,Nat.blt_eq] using h
def Zoq(P:Program)(T:TS)(ops:Array Oper)(n:Nat):List Oper->List Orc->List (Nat×PV)->List (Nat×Blk)->Za3k
 | [],xs,tm,Z=>⟨[],xs,[],[],tm,Z⟩
 | o::l,xs,tm,Z=>
  bif Zat6 n o.dst then
   match Zaei ops tm o xs with
   | some (ps1,xs1,true)=>
    match Zat4 P T o tm Z xs1 with
    | some (ps2,xs2,x)=>
     match Zoq P T ops n l xs2 (Zxu tm o.dst x.s.p) (x.s.news++Zbo x.rm Z) with
     | ⟨ps,xs,plan,rest,tm,Z⟩=>⟨ps1++(ps2++ps),xs,some x::plan,rest,tm,Z⟩
    | none=>⟨[],xs,[],o::l,tm,Z⟩
   | some (ps1,xs1,false)=>
    match Zoq P T ops n l xs1 (Zxu tm o.dst (.tup [])) Z with
    | ⟨ps,xs,plan,rest,tm,Z⟩=>⟨ps1++ps,xs,none::plan,rest,tm,Z⟩
   | none=>⟨[],xs,[],o::l,tm,Z⟩
  else ⟨[],xs,[],o::l,tm,Z⟩
theorem Zabd(hT:TOK P T){ops:Array Oper}{n:Nat}:∀ (l:List Oper) (xs:List Orc) (tm:List (Nat×PV)) (Z:List (Nat×Blk)),Zak (Zoq P T ops n l xs tm Z).ps ->
 ∃ pre,l=pre++(Zoq P T ops n l xs tm Z).rest/\Zey P ops n pre (Zoq P T ops n l xs tm Z).plan tm Z /\
  Zgu pre (Zoq P T ops n l xs tm Z).plan tm=(Zoq P T ops n l xs tm Z).tm/\Zmq (Zoq P T ops n l xs tm Z).plan Z=(Zoq P T ops n l xs tm Z).Z
 | [],xs,tm,Z,_=>⟨[],rfl,trivial,rfl,rfl⟩
 | o::l,xs,tm,Z,hc=>by
  have triv:∀ r:Za3k,r=⟨[],xs,[],o::l,tm,Z⟩->∃ pre,o::l=pre++r.rest/\Zey P ops n pre r.plan tm Z/\Zgu pre r.plan tm=r.tm/\Zmq r.plan Z=r.Z:=by
   rintro r rfl
   exact⟨[],rfl,trivial,rfl,rfl⟩
  rw [Zoq] at hc ⊢
  cases hd:Zat6 n o.dst with
  | false=>exact triv _ rfl
  | true=>
   have hdn:=Zbaf hd
   simp only [hd,cond_true] at hc ⊢
   split at hc
   .rename_i ps1 xs1 hg
    split at hc
    .rename_i ps2 xs2 s h2
     obtain⟨c1,c2⟩:=Zx.1 hc
     obtain⟨c2,c3⟩:=Zx.1 c2
     obtain⟨pre,h1,h3,h4,h5⟩:=Zabd hT l xs2 (Zxu tm o.dst s.s.p) (s.s.news++Zbo s.rm Z) c3
     refine⟨o::pre,by rw [List.cons_append,<- h1],?_,?_,?_⟩
     .simp only [Zey]
      exact⟨hdn,Zmu hg c1,fun s' hs'=>by cases hs';exact Zah9 hT h2 c2,h3⟩
     .simp only [Zgu];exact h4
     .simp only [Zmq];exact h5
    .exact triv _ rfl
   .rename_i ps1 xs1 hg
    obtain⟨c1,c3⟩:=Zx.1 hc
    obtain⟨pre,h1,h3,h4,h5⟩:=Zabd hT l xs1 (Zxu tm o.dst (.tup [])) Z c3
    refine⟨o::pre,by rw [List.cons_append,<- h1],?_,?_,?_⟩
    .simp only [Zey]
     exact⟨hdn,Zmu hg c1,(fun s' hs'=>by cases hs'),h3⟩
    .simp only [Zgu];exact h4
    .simp only [Zmq];exact h5
   .exact triv _ rfl
def Za6s(P:Program)(T:TS)(ops:Array Oper)(st:St)(r:Za3k):Es:=
 bif Zv9 ops r.plan st.tm st.Z then
  match Zaej P T ops r.rest r.xs ⟨st.n,r.tm,r.Z⟩ with
  | some (qs,xs2,st2)=>some (r.ps++qs,xs2,st2)
  | none=>none
 else none
def Zaib(P:Program)(T:TS)(id:Nat)(ops:Array Oper)(draw:Bool)(xs:List Orc)(st:St):Es:=
 bif draw then
  match evAt (some id) xs st with
  | some (ps0,xs0,st0)=>
   match Za6s P T ops st0 (Zoq P T ops st0.n ops.toList xs0 st0.tm st0.Z) with
   | some (ps,xs,st)=>some (ps0++ps,xs,st)
   | none=>none
  | none=>none
 else Zaej P T ops ops.toList xs st
theorem Zaz5(hm:P.follows .mixedOrders=true)(hT:TOK P T){ops:Array Oper}{draw:Bool}{id:Nat}{Q:Exit->St->Prop}{st st':St}(h:Zaib P T id ops draw xs st=some (ps,xs',st'))(hc:Zak ps)(hq:Q .normal st') :
 PW P (.region id ops draw) Q st:=by
 unfold Zaib at h
 cases draw with
 | false=>
  simp only [cond_false] at h
  exact PW.region (Zaia hT _ h hc hq)
 | true=>
  simp only [cond_true] at h
  split at h
  .rename_i ps0 xs0 st0 h0
   split at h
   .rename_i ps1 xs1 st1 h1
    cases h
    obtain⟨c0,c1⟩:=Zx.1 hc
    refine PW.weaken (Za1h h0 c0) ?_
    unfold Za6s at h1
    have hbh:=Zaj h1;clear h1;obtain⟨hb,h1⟩:=hbh
    split at h1
    .rename_i qs xs2 st2 h2
     cases h1
     obtain⟨c1,c2⟩:=Zx.1 c1
     obtain⟨pre,e1,e2,e3,e4⟩:=Zabd hT ops.toList xs0 st0.tm st0.Z c1
     exact PW.region_draw hm _ pre _ e1 e2 hb (by rw [e3,e4];exact Zaia hT _ h2 c2 hq)
    .cases h1
   .cases h
  .cases h
end
end Go.PW
