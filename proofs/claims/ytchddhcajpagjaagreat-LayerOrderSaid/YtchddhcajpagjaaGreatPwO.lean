import Derived.Test.YtchddhcajpagjaaGreatPwN
set_option linter.all false
namespace Go.PW
open Go.RowKit
section
variable {P:Program} {T:TS} {o:Oper} {tm:List (Nat×PV)} {Z:List (Nat×Blk)} {xs xs':List Orc} {ps:List Prop} {s:Stp}
theorem Zgw{qs:List Prop}{need:List Nat}{p:PV}(h:ev2 qs xs need p=some (ps,xs',s)):ps=qs/\xs'=xs/\s=⟨need,p,[]⟩:=by
 simp only [ev2,Option.some.injEq,Prod.mk.injEq] at h
 exact⟨h.1.symm,h.2.1.symm,h.2.2.symm⟩
theorem Zaeh{qs:List Prop}{p:PV}{l:Nat}{b:Blk}(h:ev3 qs xs p l b=some (ps,xs',s)):ps=qs/\xs'=xs/\s=⟨[],p,[(l,b)]⟩:=by
 simp only [ev3,Option.some.injEq,Prod.mk.injEq] at h
 exact⟨h.1.symm,h.2.1.symm,h.2.2.symm⟩
theorem Zd8(a b:Nat):Nat.ble a b=true↔a<=b:=by rw [Nat.ble_eq]
theorem Zaj{α:Type}{b:Bool}{x:Option α}{y:α}(h:(bif b then x else none)=some y):b=true/\x=some y:=by cases b<;>simp_all
theorem condNone'{α:Type}{b:Bool}{x:Option α}{y:α}(h:(bif b then none else x)=some y):b=false/\x=some y:=by cases b<;>simp_all
theorem Zako(hT:TOK P T){t:Nat}{i:Zqf}{fs:List (Nat×Nat)}(h:get T t=some i)(hk:i.k = .struct fs){pl:List (Nat×Nat)}(hp:Zz8 T fs=some pl):Zsy P t=some pl:=by
 have:=(hT t i h).k
 rw [hk] at this
 obtain⟨fs',hu,rfl⟩:=this
 simp only [Zsy,hu]
 generalize fs'.toList=l at hp
 clear hu hk h i
 induction l generalizing pl with
 | nil=>simp only [List.map_nil,Zz8,Option.some.injEq] at hp;subst hp;rfl
 | cons f l ih=>
  simp only [List.map_cons,Zz8] at hp
  split at hp
  .rename_i i ps hi hps
   cases hp
   obtain⟨inf,hinf,hs⟩:=hT.size hi
   rw [List.mapM_cons,ih hps,hinf]
   simp [hs]
  .cases hp
theorem Za28(hT:TOK P T){t:Nat}{parts:Array (Nat×Operand)}{qs:List (Nat×PV)}(ho:o.op = .build t parts)(hp:Zgv tm parts.toList=some qs)(h:Zaop T t qs xs=some (ps,xs',s)):Zas P o tm Z s.need s.p s.news:=by
 unfold Zaop at h
 split at h
 .rename_i z fs _ hi
  split at h
  .rename_i pl hpl
   split at h
   .rename_i out hf
    obtain⟨rfl,rfl,rfl⟩:=Zce h
    exact Zaul ho ⟨.inl (Zako hT hi rfl hpl),(hT t _ hi).z z rfl⟩ hp hf
   .cases h
  .cases h
 .rename_i z n e _ hi
  split at h
  .rename_i j hj
   split at h
   .rename_i out hf
    obtain⟨rfl,rfl,rfl⟩:=Zce h
    refine Zaul ho ⟨.inr ?_,(hT t _ hi).z z rfl⟩ hp hf
    have hu:P.underlying t=some (.array n e):=(hT t _ hi).k
    obtain⟨inf,hinf,hs⟩:=hT.size hj
    simp [Zaa6,hu,hinf,hs]
   .cases h
  .cases h
 .cases h
theorem Za96(hT:TOK P T){t len:Nat}{parts:Array (Nat×Operand)}{qs:List (Nat×PV)}(ho:o.op = .buildSlice t len parts)(hp:Zgv tm parts.toList=some qs)(h:Za23 T t len qs xs=some (ps,xs',s)):Zas P o tm Z s.need s.p s.news:=by
 unfold Za23 at h
 split at h
 .rename_i e agg k by_ z kk fl he
  have hbh:=Zaj h;clear h;obtain⟨hb,h⟩:=hbh
  simp only [Bool.and_eq_true] at hb
  have hE:=Zzj (z:=z) hT he rfl hb.1.1 hb.1.2
  have hsm:=(Zd8 _ _).1 hb.2
  split at h
  .rename_i out hf
   split at h
   .rename_i ts xs2 hts
    obtain⟨rfl,rfl,rfl⟩:=Zce h
    exact Zbd1 ho hE hp hsm hf hts
   .rename_i ts l xs2 hts
    have hbh:=Zaj h;clear h;obtain⟨hb2,h⟩:=hbh
    simp only [Bool.and_eq_true] at hb2
    obtain⟨rfl,rfl,rfl⟩:=Zaeh h
    exact Zbf5 l ((Zd8 _ _).1 hb2.1) ho hE hp hsm hf hts ((Z1 _ _).1 hb2.2)
   .cases h
  .cases h
 .cases h
theorem Za6l(hT:TOK P T){t:Nat}{x y:Operand}{px py:PV}(ho:o.op = .makeSlice t x y)(hx:Zp tm x=some px)(hy:Zp tm y=some py)(h:Zave T t px py xs=some (ps,xs',s))(hc:Zak ps):Zas P o tm Z s.need s.p s.news:=by
 unfold Zave at h
 split at h
 .rename_i e agg k bytes z kk fl _ m _ c l n es xs2 he
  have hbh:=Zaj h;clear h;obtain⟨hb,h⟩:=hbh
  simp only [Bool.and_eq_true] at hb
  have hE:=Zzj (z:=z) hT he rfl hb.1.1 hb.1.2
  split at h
  .rename_i zs hzs
   obtain⟨rfl,rfl,rfl⟩:=Zaeh h
   obtain⟨h1,h2,h3,h4,h5,h6,_⟩:=hc
   subst h5
   subst h6
   exact Zbd2 l ((Zd8 _ _).1 hb.2) ho hE hzs hx hy h1 h2 h3 h4
  .cases h
 .cases h
theorem Zaou(hT:TOK P T){t i:Nat}{x:Operand}{px:PV}(ho:o.op = .fieldAddr t x i)(hx:Zp tm x=some px)(h:Z4r T Z t i px xs=some (ps,xs',s))(hc:Zak ps):Zas P o tm Z s.need s.p s.news:=by
 unfold Z4r at h
 split at h
 .rename_i q j hf
  have hbh:=condNone' h;clear h;obtain⟨hb,h⟩:=hbh
  have hs:j.size≠0:=fun e=>by rw [e] at hb;cases hb
  obtain⟨i0,fs,fT,hi0,hk0,hfs,hj⟩:=Z4q hf
  have hfi:=hT.fieldInfo hi0 hk0 hfs hj
  split at h
  .split at h
   .rename_i hg
    obtain⟨rfl,rfl,rfl⟩:=Zgw h
    exact Za51 ho hfi hs hx hg
   .cases h
  .split at h
   .rename_i hg
    obtain⟨rfl,rfl,rfl⟩:=Zgw h
    exact Za52 ho hfi hs hx hg hc.1
   .cases h
  .obtain⟨rfl,rfl,rfl⟩:=Zce h
   exact Za53 ho hfi hs hx
  .cases h
 .cases h
theorem Zaov(hT:TOK P T){t:Nat}{x y:Operand}{px py:PV}(ho:o.op = .indexAddr t x y)(hx:Zp tm x=some px)(hy:Zp tm y=some py)(h:Z4s T Z t px py xs=some (ps,xs',s))(hc:Zak ps):Zas P o tm Z s.need s.p s.news:=by
 unfold Z4s at h
 split at h
 .split at h
  .split at h
   .rename_i e j c xs2 he
    obtain⟨rfl,rfl,rfl⟩:=Zd7 h
    obtain⟨i0,hi0,hk0,hj⟩:=Zcn he
    exact Za55 ho (hT.slInfo hi0 hk0 hj) hx hy hc.1 hc.2.1 hc.2.2.1
   .cases h
  .split at h
   .rename_i e j k es n xs2 he hg
    have hbh:=Zaj h;clear h;obtain⟨hb,h⟩:=hbh
    have hb:=(Z1 _ _).1 hb
    obtain⟨rfl,rfl,rfl⟩:=Zgw h
    obtain⟨i0,hi0,hk0,hj⟩:=Zcn he
    obtain⟨h1,h2,h3,h4,_⟩:=hc
    subst h4
    exact Za56 ho (hT.slInfo hi0 hk0 hj) hx hy (by rw [hb];exact hg) h1 h2 h3
   .cases h
  .split at h
   .rename_i len e j cs n xs2 he hg
    obtain⟨rfl,rfl,rfl⟩:=Zgw h
    obtain⟨i0,hi0,hk0,hj⟩:=Z2j he
    obtain⟨h2,h3,h4,_⟩:=hc
    subst h4
    exact Za54 ho (hT.arrInfo hi0 hk0 hj) hx hy hg h2 h3
   .cases h
  .split at h
   .rename_i len e j k els n xs2 he hg
    obtain⟨rfl,rfl,rfl⟩:=Zgw h
    obtain⟨i0,hi0,hk0,hj⟩:=Z2j he
    obtain⟨h1,h2,h3,h4,_⟩:=hc
    subst h4
    exact Za2s ho (hT.arrInfo hi0 hk0 hj) hx hy hg h1 h2 h3
   .cases h
  .split at h
   .rename_i len e j n xs2 he
    obtain⟨rfl,rfl,rfl⟩:=Zd7 h
    obtain⟨i0,hi0,hk0,hj⟩:=Z2j he
    obtain⟨h2,h3,h4,_⟩:=hc
    subst h4
    exact Za2t ho (hT.arrInfo hi0 hk0 hj) hx hy h2 h3
   .cases h
  .cases h
 .cases h
theorem Za29(hT:TOK P T){t:Nat}{x y:Operand}{px py:PV}(ho:o.op = .index t x y)(hx:Zp tm x=some px)(hy:Zp tm y=some py)(h:Zaoq T t px py xs=some (ps,xs',s))(hc:Zak ps):Zas P o tm Z s.need s.p s.news:=by
 unfold Zaoq at h
 split at h
 .split at h
  .split at h
   .rename_i hk
    obtain⟨rfl,rfl,rfl⟩:=Zd7 h
    simp only [Option.map_eq_some_iff] at hk
    obtain⟨i0,hi0,hk⟩:=hk
    have hu:=(hT _ _ hi0).k
    rw [hk] at hu
    exact Zazu ho hu hx hy hc.1 hc.2.1
   .cases h
  .split at h
   .rename_i len e j c xs2 he
    obtain⟨rfl,rfl,rfl⟩:=Zd7 h
    obtain⟨i0,hi0,hk0,hj⟩:=Z2j he
    have hu:=(hT _ _ hi0).k
    rw [hk0] at hu
    exact Zazt ho hu (hT _ _ hj).ty hx hy hc.1 hc.2.1 hc.2.2.1
   .cases h
  .cases h
 .cases h
theorem Zaq3(hT:TOK P T){t:Nat}{x:Operand}{px:PV}(ho:o.op = .load t x)(hx:Zp tm x=some px)(h:Zakk T Z t px xs=some (ps,xs',s))(hc:Zak ps):Zas P o tm Z s.need s.p s.news:=by
 unfold Zakk at h
 split at h
 .rename_i i hi
  have hty:=(hT t i hi).ty
  split at h
  .split at h
   .rename_i hg
    split at h
    .rename_i p hp
     obtain⟨rfl,rfl,rfl⟩:=Zgw h
     exact Zaun ho hty hx hg hp
    .cases h
   .cases h
  .split at h
   .rename_i hg
    split at h
    .rename_i p hp
     obtain⟨rfl,rfl,rfl⟩:=Zgw h
     exact Za89 ho hty hx hg hc.1 hc.2.1 hp
    .cases h
   .cases h
  .split at h
   .rename_i p hp
    obtain⟨rfl,rfl,rfl⟩:=Zce h
    exact Zauo ho hty hx hp
   .cases h
  .cases h
 .cases h
theorem Zaz4(hT:TOK P T){t:Nat}{x:Operand}{px:PV}{c:List Zf}(ho:o.op = .load t x)(hx:Zp tm x=some px)(h:Zah7 T Z t px c xs=some (ps,xs',s))(hc:Zak ps):Zas P o tm Z s.need s.p s.news:=by
 unfold Zah7 at h
 split at h
 .rename_i i l q hi
  split at h
  .rename_i cs hg
   obtain⟨rfl,rfl,rfl⟩:=Zgw h
   exact Zaun ho (hT t i hi).ty hx hg hc.1
  .cases h
 .rename_i i cs hi
  obtain⟨rfl,rfl,rfl⟩:=Zd7 h
  exact Zauo ho (hT t i hi).ty hx hc.1
 .cases h
theorem Zjz{c:Call}{ce:Callee}{as:List Operand}{ts:List Nat}(hc:c.callee=ce)(ha:c.args.toList=as)(ht:c.argTypes.toList=ts):c={ callee:=ce,args:=as.toArray,argTypes:=ts.toArray }:=by
 cases c
 subst hc ha ht
 simp
theorem Z2k{tm:List (Nat×PV)}{l:List Operand}{p:PV}(h:Zka tm l=some [p]):∃ x,l=[x]/\Zp tm x=some p:=by
 match l,h with
 | [x],h=>
  simp only [Zka] at h
  split at h
  .rename_i q qs hq hqs
   cases h
   cases hqs
   exact⟨x,rfl,hq⟩
  .cases h
 | x::y::l,h=>
  simp only [Zka] at h
  split at h
  .rename_i q qs hq hqs
   cases h
   split at hqs
   .cases hqs
   .cases hqs
  .cases h
theorem Zsf{tm:List (Nat×PV)}{l:List Operand}{p q:PV}(h:Zka tm l=some [p,q]):∃ x y,l=[x,y]/\Zp tm x=some p/\Zp tm y=some q:=by
 match l,h with
 | x::l,h=>
  simp only [Zka] at h
  split at h
  .rename_i r rs hr hrs
   cases h
   obtain⟨y,rfl,hy⟩:=Z2k hrs
   exact⟨x,y,rfl,hr,hy⟩
  .cases h
theorem Zah8{p:PV}{cs:List Prop}{es:List (List Zf)}{ls:List Nat}(h:Zakl Z p=some (cs,es,ls))(hc:Zak cs):Zsz Z p es/\∀ m,p.has m=true->m∈ls:=by
 unfold Zakl at h
 split at h
 .cases h;exact⟨.tree _,fun m hm=>by simp [PV.has] at hm⟩
 .cases h;exact⟨.nils,fun m hm=>by simp [PV.has] at hm⟩
 .cases h;exact⟨.con _ _,fun m hm=>by simp [PV.has] at hm⟩
 .split at h
  .rename_i hg
   cases h
   exact⟨.own _ _ _ _ hg hc.1,fun m hm=>by simp only [PV.has,Z1] at hm;subst hm;simp⟩
  .cases h
 .cases h
theorem Zaq4:∀ {ls:List Nat},Zakm ls=true->∀ (i j L:Nat),ls[i]?=some L->ls[j]?=some L->i=j
 | [],_,i,j,L,h,_=>by simp at h
 | l::r,h,i,j,L,h1,h2=>by
  simp only [Zakm,Bool.and_eq_true,Bool.not_eq_true'] at h
  have hmem:∀ {r:List Nat} {L:Nat},L∈r->Zz0 r L=true:=by
   intro r L
   induction r with
   | nil=>intro h;cases h
   | cons x r ih=>
    intro h
    simp only [Zz0]
    cases hb:Nat.beq x L with
    | true=>rfl
    | false=>
     rcases List.mem_cons.1 h with e | e
     .subst e;simp at hb
     .exact ih e
  cases i with
  | zero=>
   cases j with
   | zero=>rfl
   | succ j=>
    simp only [List.getElem?_cons_zero,Option.some.injEq] at h1
    subst h1
    have:=hmem (List.mem_of_getElem? (by simpa using h2:r[j]?=some l))
    rw [h.1] at this;cases this
  | succ i=>
   cases j with
   | zero=>
    simp only [List.getElem?_cons_zero,Option.some.injEq] at h2
    subst h2
    have:=hmem (List.mem_of_getElem? (by simpa using h1:r[i]?=some l))
    rw [h.1] at this;cases this
   | succ j=>rw [Zaq4 h.2 i j L (by simpa using h1) (by simpa using h2)]
theorem Zavh{m l:Nat}{o:Blk}:∀ {Z:List (Nat×Blk)},get Z m=some o->o.has l=true->l∈Zat3 Z
 | [],h,_=>by cases h
 | (j,b)::r,h,hl=>by
  simp only [Zat3,List.mem_append]
  simp only [PW.get] at h
  cases hb:Nat.beq j m with
  | true=>
   simp only [hb,cond_true,Option.some.injEq] at h
   subst h
   cases b with
   | box cs=>exact .inl (Zi0 cs hl)
   | row k es=>simp [Blk.has] at hl
   | mat k q es=>simp [Blk.has] at hl
   | map ag es=>simp [Blk.has] at hl
   | prow k i es cs=>exact .inl (Zi0 cs hl)
  | false=>simp only [hb,cond_false] at h;exact .inr (Zavh h hl)
theorem Zaq5{ls:List Nat}{d:Nat}{σa σ1:List (Nat×Blk)}{res:PV}(h:Zakn ls d σa σ1 res=true):Zat2 ls d σa σ1 res:=by
 simp only [Zakn,Bool.and_eq_true,List.all_eq_true] at h
 obtain⟨⟨⟨h1,h2⟩,h3⟩,h4⟩:=h
 refine { nd:=Zaq4 h1,len:=(Zd8 _ _).1 h2,box:=fun l o hg L hL=>?_,ge:=fun l o hg hn=>?_,cl:=fun l hl=>?_ }
 .have:=h3 _ (Zff hg)
  simp only [hL] at this
  unfold Za6k at this
  split at this
  .rename_i cs cs0 hc0
   exact .inl ⟨_,cs0,rfl,hc0⟩
  .rename_i k es k' es0 hc0
   obtain rfl:=(Z1 _ _).1 this
   exact .inr ⟨_,_,es0,rfl,hc0⟩
  .cases this
 .have:=h3 _ (Zff hg)
  simp only [hn] at this
  exact (Zd8 _ _).1 this
 .have hk:hasK σ1 l=true:=by
   rcases hl with hl | ⟨m,o,hg,hl⟩
   .exact h4 l (List.mem_append.2 (.inl (Zavd res hl)))
   .exact h4 l (List.mem_append.2 (.inr (Zavh hg hl)))
  unfold hasK at hk
  split at hk
  .exact⟨_,by assumption⟩
  .cases hk
theorem Za6m:∀ {σ1:List (Nat×Blk)},Zak (scB σ1)->∀ l o,get σ1 l=some o->o.SC
 | [],_,l,o,h=>by cases h
 | (j,b)::r,hc,l,o,h=>by
  simp only [PW.get] at h
  cases hb:Nat.beq j l with
  | true=>
   simp only [hb,cond_true,Option.some.injEq] at h
   subst h
   cases b<;>exact hc.1
  | false=>
   simp only [hb,cond_false] at h
   cases b<;>exact Za6m hc.2 l o h
theorem Za6n{S:Bool}{σ1:List (Nat×Blk)}{res:PV}(hc:Zak (scC S σ1 res)):S=true->res.sc=true/\∀ l o,get σ1 l=some o->o.SC:=by
 rintro rfl
 exact⟨hc.1,Za6m hc.2⟩
theorem Za6o(hT:TOK P T){c:Call}{qs:List PV}(ho:o.op = .call c)(hq:Zka tm c.args.toList=some qs)(h:Zavf T P tm Z c.callee qs c.argTypes.toList xs=some (ps,xs',s))(hc:Zak ps):Zas P o tm Z s.need s.p s.news:=by
 unfold Zavf at h
 split at h
 .rename_i fo hce
  have hceq:=Zjz hce rfl rfl
  rw [hceq] at ho
  split at h
  .rename_i f caps res xs2 hfo
   split at h
   .rename_i cs fs hfz
    have hbh:=Zaj h;clear h;obtain⟨hb,h⟩:=hbh
    obtain⟨rfl,rfl,rfl⟩:=Zd7 h
    refine Za9f hc.1 ho hfo (by rw [Zps hq];rfl) (Zrt (fun _=>rfl) hfz ?_) hb
    have:∀ {qs fs:List PV} {cs:List Prop},Zji [] qs=some (cs,fs)->Zak cs:=by
     have hv:(∀ p:PV,∀ {q:PV} {cs:List Prop},Zec [] p=some (cs,q)->cs=[])/\(∀ qs:List PV,∀ {fs:List PV} {cs:List Prop},Zji [] qs=some (cs,fs)->cs=[]):=by
      constructor
      .intro p
       refine PV.rec (motive_1:=fun p=>∀ {q:PV} {cs:List Prop},Zec [] p=some (cs,q)->cs=[]) (motive_2:=fun qs=>∀ {fs:List PV} {cs:List Prop},Zji [] qs=some (cs,fs)->cs=[]) ?_ ?_ ?_ ?_ ?_ ?_ ?_ ?_ ?_ ?_ ?_ ?_ p
       .intro x q cs h;simp only [Zec,Option.some.injEq,Prod.mk.injEq] at h;exact h.1.symm
       .intro q cs h;simp only [Zec,Option.some.injEq,Prod.mk.injEq] at h;exact h.1.symm
       .intro l n q cs h;simp [Zec,PW.get] at h
       .intro l n q cs h;simp [Zec,PW.get] at h
       .intro l n i j q cs h;simp [Zec] at h
       .intro ts q cs h;simp only [Zec,Option.some.injEq,Prod.mk.injEq] at h;exact h.1.symm
       .intro cs ih q ps h;simp only [Zec] at h;split at h
        .rename_i h2;cases h;exact ih h2
        .cases h
       .intro cs ih q ps h;simp only [Zec] at h;split at h
        .rename_i h2;cases h;exact ih h2
        .cases h
       .intro f cs ih q ps h;simp only [Zec] at h;split at h
        .rename_i h2;cases h;exact ih h2
        .cases h
       .intro l d q cs h;simp [Zec,PW.get] at h
       .intro fs cs h;simp only [Zji,Option.some.injEq,Prod.mk.injEq] at h;exact h.1.symm
       .intro p ps ih1 ih2 fs cs h;simp only [Zji] at h;split at h
        .rename_i h1 h2;cases h;rw [ih1 h1,ih2 h2];rfl
        .cases h
      .intro qs
       refine PV.rec_1 (motive_1:=fun p=>∀ {q:PV} {cs:List Prop},Zec [] p=some (cs,q)->cs=[]) (motive_2:=fun qs=>∀ {fs:List PV} {cs:List Prop},Zji [] qs=some (cs,fs)->cs=[]) ?_ ?_ ?_ ?_ ?_ ?_ ?_ ?_ ?_ ?_ ?_ ?_ qs
       .intro x q cs h;simp only [Zec,Option.some.injEq,Prod.mk.injEq] at h;exact h.1.symm
       .intro q cs h;simp only [Zec,Option.some.injEq,Prod.mk.injEq] at h;exact h.1.symm
       .intro l n q cs h;simp [Zec,PW.get] at h
       .intro l n q cs h;simp [Zec,PW.get] at h
       .intro l n i j q cs h;simp [Zec] at h
       .intro ts q cs h;simp only [Zec,Option.some.injEq,Prod.mk.injEq] at h;exact h.1.symm
       .intro cs ih q ps h;simp only [Zec] at h;split at h
        .rename_i h2;cases h;exact ih h2
        .cases h
       .intro cs ih q ps h;simp only [Zec] at h;split at h
        .rename_i h2;cases h;exact ih h2
        .cases h
       .intro f cs ih q ps h;simp only [Zec] at h;split at h
        .rename_i h2;cases h;exact ih h2
        .cases h
       .intro l d q cs h;simp [Zec,PW.get] at h
       .intro fs cs h;simp only [Zji,Option.some.injEq,Prod.mk.injEq] at h;exact h.1.symm
       .intro p ps ih1 ih2 fs cs h;simp only [Zji] at h;split at h
        .rename_i h1 h2;cases h;rw [ih1 h1,ih2 h2];rfl
        .cases h
     intro qs fs cs h
     rw [hv.2 qs h];trivial
    exact this hfz
   .split at h
    .rename_i cs fs hfz
     have hbh:=Zaj h;clear h;obtain⟨hb,h⟩:=hbh
     obtain⟨rfl,rfl,rfl⟩:=Zgw h
     obtain⟨hc1,hc2⟩:=Zx.1 hc
     exact Za9e hc2.1 ho hfo (by rw [Zps hq];rfl) (Zrt (fun _=>rfl) hfz hc1) (fun m hm=>Zi0 _ hm) hb
    .cases h
  .rename_i f caps S ls d fr res xs2 hfo
   split at h
   .rename_i cs qs' σa hav hpa
    have hbh:=Zaj h;clear h;obtain⟨hb,h⟩:=hbh
    cases h
    obtain⟨c1,c2⟩:=Zx.1 hc
    obtain⟨c2,c3⟩:=Zx.1 c2
    exact Za9n c3.1 ho hfo (by rw [Zps hq];rfl) hav c1 hpa (Zaq5 hb) (Za6n c2) (fun m hm=>by
     rcases hm with hm | hm | hm
     .exact List.mem_append.2 (.inl hm)
     .exact List.mem_append.2 (.inr (List.mem_append.2 (.inl (Zi0 _ hm))))
     .exact List.mem_append.2 (.inr (List.mem_append.2 (.inr (Zse _ hm)))))
   .cases h
  .cases h
 .rename_i hce
  split at h
  .rename_i p t n xs2 hat
   obtain⟨x,hax,hx⟩:=Z2k hq
   have hceq:=Zjz hce hax hat
   rw [hceq] at ho
   split at h
   .rename_i e es hk
    obtain⟨rfl,rfl,rfl⟩:=Zd7 h
    simp only [Option.map_eq_some_iff] at hk
    obtain⟨i0,hi0,hk⟩:=hk
    have hu:=(hT _ _ hi0).k
    rw [hk] at hu
    have:=Zbf3 (Z:=Z) ho hu hx
    rw [hc.1] at this
    exact this
   .rename_i e hk
    obtain⟨rfl,rfl,rfl⟩:=Zd7 h
    simp only [Option.map_eq_some_iff] at hk
    obtain⟨i0,hi0,hk⟩:=hk
    have hu:=(hT _ _ hi0).k
    rw [hk] at hu
    have:=Za5y (Z:=Z) ho hu hx
    rw [hc.1] at this
    exact this
   .rename_i e l m hk
    split at h
    .rename_i k es hg
     obtain⟨rfl,rfl,rfl⟩:=Zgw h
     simp only [Option.map_eq_some_iff] at hk
     obtain⟨i0,hi0,hk⟩:=hk
     have hu:=(hT _ _ hi0).k
     rw [hk] at hu
     have:=Za5z ho hu hx hg hc.1
     rw [hc.2.1] at this
     exact this
    .cases h
   .rename_i e l m hk
    split at h
    .rename_i k q es hg
     obtain⟨rfl,rfl,rfl⟩:=Zgw h
     simp only [Option.map_eq_some_iff] at hk
     obtain⟨i0,hi0,hk⟩:=hk
     have hu:=(hT _ _ hi0).k
     rw [hk] at hu
     have:=Za6i ho hu hx hg hc.1
     rw [hc.2.1] at this
     exact this
    .cases h
   .rename_i st hk
    obtain⟨rfl,rfl,rfl⟩:=Zd7 h
    simp only [Option.map_eq_some_iff] at hk
    obtain⟨i0,hi0,hk⟩:=hk
    have hu:=(hT _ _ hi0).k
    rw [hk] at hu
    have:=Za50 (Z:=Z) ho hu hx
    rw [hc.1] at this
    exact this
   .cases h
  .cases h
 .rename_i hce
  split at h
  .rename_i k a k' b
   obtain⟨x,y',hax,hx,hy⟩:=Zsf hq
   have hceq:=Zjz hce hax rfl
   rw [hceq] at ho
   obtain⟨rfl,rfl,rfl⟩:=Zce h
   exact Zbf7 ho hx hy
  .cases h
 .rename_i hce
  split at h
  .rename_i k a k' b
   obtain⟨x,y',hax,hx,hy⟩:=Zsf hq
   have hceq:=Zjz hce hax rfl
   rw [hceq] at ho
   obtain⟨rfl,rfl,rfl⟩:=Zce h
   exact Zbf8 ho hx hy
  .cases h
 .rename_i hce
  split at h
  .rename_i y t tx l es xs2 hat
   obtain⟨x,y',hax,hx,hy⟩:=Zsf hq
   have hceq:=Zjz hce hax hat
   rw [hceq] at ho
   split at h
   .rename_i e k bytes z kk fl ex cs ys ls he hex hsrc
    have hbh:=Zaj h;clear h;obtain⟨hb,h⟩:=hbh
    simp only [Bool.and_eq_true] at hb
    have hE:=Zzj (z:=z) hT he rfl hb.1.1 hb.1.2
    simp only [Option.some.injEq,Prod.mk.injEq] at h
    obtain⟨rfl,rfl,rfl⟩:=h
    obtain⟨hc1,hc2⟩:=Zx.1 hc
    obtain⟨h1,h2,h3,h4,_⟩:=hc2
    subst h1
    obtain⟨hs,hn⟩:=Zah8 hsrc hc1
    obtain⟨i1,hi1,hk1,_⟩:=Zcn hex
    have hu1:=(hT _ _ hi1).k
    rw [hk1] at hu1
    exact Zauq l ((Zd8 _ _).1 hb.2) ho hE ⟨_,hu1⟩ hx hy hs hn h2 h3 h4
   .cases h
  .cases h
 .cases h
theorem Za3a{y:Operand}(h:Zaef y=true):y = .const (.slice none 0 0):=by
 unfold Zaef at h
 split at h
 .rfl
 .cases h
theorem Za97(hT:TOK P T){op:BinOp}{t:Nat}{x:Operand}{px:PV}{yT:TypeId}(ho:o.op = .binOp op t x (.const (.slice none 0 0)) yT)(hx:Zp tm x=some px)(h:Za24 T op t px xs=some (ps,xs',s))(hc:Zak ps):Zas P o tm Z s.need s.p s.news:=by
 unfold Za24 at h
 split at h
 .rename_i e he
  obtain⟨rfl,rfl,rfl⟩:=Zd7 h
  obtain⟨i,hi,hk,hj⟩:=Zcn he
  have hu:=(hT _ _ hi).k
  rw [hk] at hu
  exact Za1a hu ho (.inl rfl) hx hc.1
 .rename_i e he
  obtain⟨rfl,rfl,rfl⟩:=Zd7 h
  obtain⟨i,hi,hk,hj⟩:=Zcn he
  have hu:=(hT _ _ hi).k
  rw [hk] at hu
  exact Za1a hu ho (.inr rfl) hx hc.1
 .rename_i e he
  obtain⟨rfl,rfl,rfl⟩:=Zce h
  obtain⟨i,hi,hk,hj⟩:=Zcn he
  have hu:=(hT _ _ hi).k
  rw [hk] at hu
  exact Za1b hu ho (.inl rfl) hx
 .rename_i e he
  obtain⟨rfl,rfl,rfl⟩:=Zce h
  obtain⟨i,hi,hk,hj⟩:=Zcn he
  have hu:=(hT _ _ hi).k
  rw [hk] at hu
  exact Za1b hu ho (.inr rfl) hx
 .cases h
theorem Za3b{y:Operand}(h:Zaeg y=true):y = .const (.pointer none):=by
 unfold Zaeg at h
 split at h
 .rfl
 .cases h
theorem Za6p{op:BinOp}{t:Nat}{x:Operand}{px:PV}{yT:TypeId}(hu:P.underlying t=some (.pointer (P.pointee t)))(ho:o.op = .binOp op t x (.const (.pointer none)) yT)(hx:Zp tm x=some px)(h:Zavg Z op px xs=some (ps,xs',s)):Zas P o tm Z s.need s.p s.news:=by
 unfold Zavg at h
 split at h
 .obtain⟨rfl,rfl,rfl⟩:=Zce h;exact Zauv hu ho (.inl rfl) hx
 .obtain⟨rfl,rfl,rfl⟩:=Zce h;exact Zauv hu ho (.inr rfl) hx
 .split at h
  .rename_i hg;obtain⟨rfl,rfl,rfl⟩:=Zgw h;exact Zauw hu ho (.inl rfl) hx hg
  .cases h
 .split at h
  .rename_i hg;obtain⟨rfl,rfl,rfl⟩:=Zgw h;exact Zauw hu ho (.inr rfl) hx hg
  .cases h
 .cases h
theorem Za3c(hT:TOK P T){t:Nat}{x:Operand}{lo hi:Option Operand}{px:PV}(ho:o.op = .slice t x lo hi none)(hx:Zp tm x=some px)(h:Zaor T tm t px lo hi xs=some (ps,xs',s))(hc:Zak ps):Zas P o tm Z s.need s.p s.news:=by
 unfold Zaor at h
 split at h
 .rename_i sv z xs2 he
  split at h
  .rename_i l hh h3 h1 h2
   obtain⟨rfl,rfl,rfl⟩:=Zd7 h
   simp only [Option.map_eq_some_iff] at h3
   obtain⟨i3,hi3,hk3⟩:=h3
   have hu3:=(hT _ _ hi3).k
   rw [hk3] at hu3
   obtain⟨c1,c2,c3,c4,_⟩:=hc
   subst c4
   exact Za6a ho hu3 hx h1 h2 c1 c2 c3
  .cases h
 .rename_i e j es es' xs2 he
  split at h
  .rename_i l hh h1 h2
   obtain⟨rfl,rfl,rfl⟩:=Zd7 h
   obtain⟨i,hi,hk,hj⟩:=Zcn he
   obtain⟨c1,c2,c3,c4,c5,_⟩:=hc
   subst c5
   exact Za59 ho (hT.slInfo hi hk hj) hx h1 h2 c1 c2 c3 c4
  .cases h
 .cases h
theorem Zbea(hT:TOK P T)(h:evOp P T o tm Z xs=some (ps,xs',s))(hc:Zak ps):Zas P o tm Z s.need s.p s.news:=by
 unfold evOp at h
 split at h
 .rename_i x ho
  split at h
  .rename_i p hp;obtain⟨rfl,rfl,rfl⟩:=Zce h;exact Zbdz ho hp
  .cases h
 .rename_i x ho
  split at h
  .rename_i p hp;obtain⟨rfl,rfl,rfl⟩:=Zce h;exact Za5w ho hp
  .cases h
 .rename_i c x y ho
  split at h
  .rename_i e b xs2 he
   split at h
   .rename_i p hp
    obtain⟨rfl,rfl,rfl⟩:=Zd7 h
    have:=hc.1
    subst this
    exact Zbd0 ho he hp
   .cases h
  .cases h
 .rename_i op xT x y yT ho
  cases hn:Zaef y with
  | true=>
   rw [Za3a hn] at ho
   simp only [hn,cond_true] at h
   split at h
   .rename_i px hx;exact Za97 hT ho hx h hc
   .cases h
  | false=>
   simp only [hn,cond_false] at h
   cases hn2:Zaeg y with
   | true=>
    rw [Za3b hn2] at ho
    simp only [hn2,cond_true] at h
    split at h
    .rename_i px hx hk
     simp only [Option.map_eq_some_iff] at hk
     obtain⟨i0,hi0,hk⟩:=hk
     have hu:=(hT _ _ hi0).k
     rw [hk] at hu
     exact Za6p hu ho hx h
    .cases h
   | false=>
    simp only [hn2,cond_false] at h
    split at h
    .rename_i px py hx hy;exact Za91 hT ho hx hy h hc
    .cases h
 .rename_i op t x ho
  split at h
  .rename_i b hb;obtain⟨rfl,rfl,rfl⟩:=Zce h;exact Zbf1 ho hb
  .rename_i k a hb;obtain⟨rfl,rfl,rfl⟩:=Zce h;exact Zbf2 ho hb
  .rename_i k a hb;obtain⟨rfl,rfl,rfl⟩:=Zce h;exact Za86 ho hb
  .cases h
 .rename_i sT dT x ho
  split at h
  .rename_i k k' k2 a h1 h2 hx
   obtain⟨rfl,rfl,rfl⟩:=Zce h
   simp only [Option.map_eq_some_iff] at h1 h2
   obtain⟨i1,hi1,hk1⟩:=h1
   obtain⟨i2,hi2,hk2⟩:=h2
   have hu1:=(hT _ _ hi1).k
   have hu2:=(hT _ _ hi2).k
   rw [hk1] at hu1
   rw [hk2] at hu2
   exact Za2p ho ⟨_,hu1⟩ hu2 hx
  .rename_i a h1 h2 hx
   obtain⟨rfl,rfl,rfl⟩:=Zce h
   simp only [Option.map_eq_some_iff] at h1 h2
   obtain⟨i1,hi1,hk1⟩:=h1
   obtain⟨i2,hi2,hk2⟩:=h2
   have hu1:=(hT _ _ hi1).k
   have hu2:=(hT _ _ hi2).k
   rw [hk1] at hu1
   rw [hk2] at hu2
   exact Za2q ho hu1 hu2 hx
  .rename_i e a h1 h2 hx
   split at h
   .rename_i es xs2 h3
    obtain⟨rfl,rfl,rfl⟩:=Zd7 h
    simp only [Option.map_eq_some_iff] at h1 h2 h3
    obtain⟨i1,hi1,hk1⟩:=h1
    obtain⟨i2,hi2,hk2⟩:=h2
    obtain⟨i3,hi3,hk3⟩:=h3
    have hu1:=(hT _ _ hi1).k
    have hu2:=(hT _ _ hi2).k
    have hu3:=(hT _ _ hi3).k
    rw [hk1] at hu1
    rw [hk2] at hu2
    rw [hk3] at hu3
    obtain⟨rfl,hl,_⟩:=hc
    exact Za9h ho hu1 hu2 hu3 hx hl
   .cases h
  .rename_i e es h1 h2 hx
   split at h
   .rename_i s xs2 h3
    obtain⟨rfl,rfl,rfl⟩:=Zd7 h
    simp only [Option.map_eq_some_iff] at h1 h2 h3
    obtain⟨i1,hi1,hk1⟩:=h1
    obtain⟨i2,hi2,hk2⟩:=h2
    obtain⟨i3,hi3,hk3⟩:=h3
    have hu1:=(hT _ _ hi1).k
    have hu2:=(hT _ _ hi2).k
    have hu3:=(hT _ _ hi3).k
    rw [hk1] at hu1
    rw [hk2] at hu2
    rw [hk3] at hu3
    obtain⟨rfl,hl,_⟩:=hc
    exact Za9i ho hu1 hu2 hu3 hx hl
   .cases h
  .cases h
 .rename_i xT x i ho
  split at h
  .rename_i q j cs hf hx
   split at h
   .rename_i p hp
    obtain⟨rfl,rfl,rfl⟩:=Zce h
    obtain⟨i0,fs,fT,hi0,hk0,hfs,hj⟩:=Z4q hf
    have hu:=(hT _ _ hi0).k
    rw [hk0] at hu
    obtain⟨fs',hu,rfl⟩:=hu
    simp only [List.getElem?_map,Option.map_eq_some_iff] at hfs
    obtain⟨fl,hfl,he⟩:=hfs
    cases he
    exact Za87 fs' fl ho hu (by simpa using hfl) rfl rfl (hT _ _ hj).ty hx hp
   .cases h
  .cases h
 .rename_i x i ho
  split at h
  .rename_i cs hx
   split at h
   .rename_i p hp;obtain⟨rfl,rfl,rfl⟩:=Zce h;exact Za2r ho hx hp
   .cases h
  .cases h
 .rename_i x ho
  split at h
  .rename_i cs hx;obtain⟨rfl,rfl,rfl⟩:=Zce h;exact Zazq ho hx trivial
  .rename_i l q hx
   split at h
   .rename_i hg;obtain⟨rfl,rfl,rfl⟩:=Zgw h;exact Zaux ho hx hg
   .cases h
  .rename_i l m i q hx
   split at h
   .rename_i hg;obtain⟨rfl,rfl,rfl⟩:=Zgw h;exact Zauy ho hx hg hc.1
   .cases h
  .cases h
 .rename_i f first caps ho
  have hbh:=Zaj h;clear h;obtain⟨hb,h⟩:=hbh
  have hb:=(Z1 _ _).1 hb
  have:first = #[]:=Array.size_eq_zero_iff.1 hb
  subst this
  split at h
  .rename_i qs hq;obtain⟨rfl,rfl,rfl⟩:=Zce h;exact Zazr (t:=0) ho (Zps hq)
  .cases h
 .rename_i t parts ho
  split at h
  .rename_i qs hq;exact Za28 hT ho hq h
  .cases h
 .rename_i t len parts ho
  split at h
  .rename_i qs hq;exact Za96 hT ho hq h
  .cases h
 .rename_i t x ho
  split at h
  .rename_i p l xs2 hx
   have hbh:=Zaj h;clear h;obtain⟨hb,h⟩:=hbh
   simp only [Bool.and_eq_true] at hb
   obtain⟨rfl,rfl,rfl⟩:=Zaeh h
   exact Zbf4 l ((Zd8 _ _).1 hb.2) ho hx hb.1
  .cases h
 .rename_i t ho
  split at h
  .rename_i z l xs2 hz
   have hbh:=Zaj h;clear h;obtain⟨hb,h⟩:=hbh
   obtain⟨rfl,rfl,rfl⟩:=Zaeh h
   simp only [Option.bind_eq_some_iff] at hz
   obtain⟨i0,hi0,hz⟩:=hz
   exact Za88 l ((Zd8 _ _).1 hb) ho ((hT _ _ hi0).z z hz)
  .cases h
 .rename_i t x y ho
  split at h
  .rename_i px py hx hy;exact Za6l hT ho hx hy h hc
  .cases h
 .rename_i t x i ho
  split at h
  .rename_i px hx;exact Zaou hT ho hx h hc
  .cases h
 .rename_i t x y ho
  split at h
  .rename_i px py hx hy;exact Zaov hT ho hx hy h hc
  .cases h
 .rename_i t x y ho
  split at h
  .rename_i px py hx hy;exact Za29 hT ho hx hy h hc
  .cases h
 .rename_i t x ho
  split at h
  .rename_i px hx
   split at h
   .rename_i d c xs2 d' hd
    cases hb:Nat.beq d d' with
    | true=>simp only [hb,cond_true] at h;exact Zaz4 hT ho hx h hc
    | false=>simp only [hb,cond_false] at h;exact Zaq3 hT ho hx h hc
   .exact Zaq3 hT ho hx h hc
  .cases h
 .rename_i t x y z ho
  split at h
  .rename_i ej px k1 k2 he hx hy hz
   obtain⟨hp,h⟩:=Zaj h
   obtain⟨rfl,rfl,rfl⟩:=Zce h
   obtain⟨i,hi,hk,hj⟩:=Zcn he
   exact Za2w ho (hT.slInfo hi hk hj) hx hp hy hz
  .cases h
 .rename_i t x lo hi ho
  split at h
  .rename_i px hx;exact Za3c hT ho hx h hc
  .cases h
 .rename_i c ho
  split at h
  .rename_i qs hq;exact Za6o hT ho hq h hc
  .cases h
 .cases h
theorem Za3d{x:Stm}{c:Call}{fo:Operand}(hce:c.callee = .value fo)(ho:o.op = .call c)(h:Zaos P tm Z fo c.args.toList xs=some (ps,xs',x))(hc:Zak ps):OpF P o tm Z x.s.need x.rm x.s.p x.s.news:=by
 have hceq:=Zjz hce rfl rfl
 rw [hceq] at ho
 unfold Zaos at h
 split at h
 .rename_i f caps qs0 S ls d σ1 res xs2 hfo hps
  split at h
  .rename_i cs qs σa hav hpa
   have hbh:=Zaj h;clear h;obtain⟨hb,h⟩:=hbh
   simp only [Bool.and_eq_true] at hb
   cases h
   obtain⟨c1,c2⟩:=Zx.1 hc
   obtain⟨c2,c3⟩:=Zx.1 c2
   refine Zbf9 c3.1 ho hfo (by rw [Zps hps];rfl) hav c1 hpa (Zaq5 hb.1) (Za6n c2) (fun m hm=>?_) (fun l o hg hn hmem=>?_)
   .rcases hm with hm | hm | hm
    .exact List.mem_append.2 (.inl hm)
    .exact List.mem_append.2 (.inr (List.mem_append.2 (.inl (Zi0 _ hm))))
    .exact List.mem_append.2 (.inr (List.mem_append.2 (.inr (Zse _ hm))))
   .have:=List.all_eq_true.1 hb.2 _ (Zff hg)
    simp only [hn,Bool.not_eq_true'] at this
    rw [Z7k.2 hmem] at this;cases this
  .cases h
 .cases h
theorem Za3e{x:Stm}{c:Call}{fo:Operand}(hce:c.callee = .value fo)(ho:o.op = .call c)(h:Zaot P tm Z fo c.args.toList xs=some (ps,xs',x))(hc:Zak ps):OpF P o tm Z x.s.need x.rm x.s.p x.s.news:=by
 unfold Zaot at h
 split at h
 .rename_i f y L b xs2 hfo hax
  have hceq:=Zjz hce hax rfl
  rw [hceq] at ho
  split at h
  .rename_i l m hy
   split at h
   .rename_i k es hg
    have hbh:=Zaj h;clear h;obtain⟨hb,h⟩:=hbh
    simp only [Bool.and_eq_true,Zd8] at hb
    cases h
    obtain⟨h1,h2,h3,_⟩:=hc
    exact Zbd8 h2 ho hfo hy hg h1 h3 (Z50 hb.2) hb.1
   .cases h
  .cases h
 .cases h
theorem Za98(hT:TOK P T){x:Stm}(h:Za25 P T o tm Z xs=some (ps,xs',x))(hc:Zak ps):OpF P o tm Z x.s.need x.rm x.s.p x.s.news:=by
 unfold Za25 at h
 split at h
 .rename_i c ho
  split at h
  .rename_i fo xs2 hce
   split at h
   .rename_i h0;cases h;exact Za3d hce ho h0 hc
   .exact Za3e hce ho h hc
  .rename_i l m y t tx es xs2 hce hps hat
   obtain⟨x,y',hax,hx,hy⟩:=Zsf hps
   have hceq:=Zjz hce hax hat
   rw [hceq] at ho
   split at h
   .rename_i e agg k bytes z kk fl ex cs ys ls k' es0 he hex hsrc hg
    have hbh:=Zaj h;clear h;obtain⟨hb,h⟩:=hbh
    simp only [Bool.and_eq_true,Z1] at hb
    obtain⟨⟨hb1,hb2⟩,hb3⟩:=hb
    subst hb3
    have hE:=Zzj (z:=z) hT he rfl hb1 ((Z1 _ _).2 hb2)
    cases h
    obtain⟨hc1,hc2⟩:=Zx.1 hc
    obtain⟨h1,h2,h3,h4,h5,_⟩:=hc2
    obtain⟨hs,hn⟩:=Zah8 hsrc hc1
    obtain⟨i1,hi1,hk1,_⟩:=Zcn hex
    have hu1:=(hT _ _ hi1).k
    rw [hk1] at hu1
    subst h2
    have hl:(es0++ys).length=m+ys.length:=by rw [List.length_append,h1]
    rw [hl] at h4 h5
    show OpF P o tm Z (l::ls) [l] (.osl l (es0++ys).length) [(l,.row k (es0++ys))]
    rw [hl]
    refine Za9b ho hE ⟨_,hu1⟩ hx hg h1 hy hs (fun q hq=>?_) h3 h4 h5
    rcases hq with rfl | hq
    .exact List.mem_cons_self ..
    .exact List.mem_cons_of_mem _ (hn q hq)
   .cases h
  .rename_i l m y t tx q es xs2 hce hps hat
   obtain⟨x,y',hax,hx,hy⟩:=Zsf hps
   have hceq:=Zjz hce hax hat
   rw [hceq] at ho
   split at h
   .rename_i e agg k bytes z kk fl ex cs ys ls k' es0 he hex hsrc hg
    have hbh:=Zaj h;clear h;obtain⟨hb,h⟩:=hbh
    simp only [Bool.and_eq_true,Z1] at hb
    obtain⟨⟨hb1,hb2⟩,hb3⟩:=hb
    subst hb3
    have hE:=Zzj (z:=z) hT he rfl hb1 ((Z1 _ _).2 hb2)
    cases h
    obtain⟨hc1,hc2⟩:=Zx.1 hc
    obtain⟨h1,h2,h3,h4,h5,_⟩:=hc2
    obtain⟨hs,hn⟩:=Zah8 hsrc hc1
    obtain⟨i1,hi1,hk1,_⟩:=Zcn hex
    have hu1:=(hT _ _ hi1).k
    rw [hk1] at hu1
    subst h5
    rw [<- h2]
    refine Zbf6 ho hE ⟨_,hu1⟩ hx hg h1 hy hs (fun q hq=>?_) h4 h3
    rcases hq with rfl | hq
    .exact List.mem_cons_self ..
    .exact List.mem_cons_of_mem _ (hn q hq)
   .cases h
  .cases h
 .rename_i t x y ho
  split at h
  .rename_i i l q p hd hi hx hy
   split at h
   .rename_i cs cs' xs2 hg
    have hbh:=Zaj h;clear h;obtain⟨hb,h⟩:=hbh
    simp only [Bool.and_eq_true,Z1] at hb
    cases h
    obtain⟨h1,h2,_⟩:=hc
    subst h2
    exact Zaup ho hd (hT _ _ hi).ty hx hy hg hb.1 hb.2 h1
   .rename_i cs hg _
    have hbh:=Zaj h;clear h;obtain⟨hb,h⟩:=hbh
    simp only [Bool.and_eq_true,Z1,Zd8] at hb
    cases h
    exact Zaup ho hd (hT _ _ hi).ty hx hy hg hb.1.1 hb.1.2 hb.2
   .cases h
  .rename_i i l m j q p hd hi hx hy
   split at h
   .rename_i k es e es' xs2 ts hg hts
    have hbh:=Zaj h;clear h;obtain⟨hb,h⟩:=hbh
    simp only [Bool.and_eq_true,Z1,Zd8] at hb
    cases h
    obtain⟨h1,h2,h3,_⟩:=hc
    subst h3
    exact Za9a ho hd (hT _ _ hi).ty hx hy hg h1 h2 hts hb.1 hb.2
   .cases h
  .cases h
 .cases h
theorem Za99(hT:TOK P T){x:Stm}(h:Za26 T o tm Z xs=some (ps,xs',x))(hc:Zak ps):OpF P o tm Z x.s.need x.rm x.s.p x.s.news:=by
 unfold Za26 at h
 split at h
 .rename_i t x y ho
  split at h
  .rename_i e j l m ki i n xs2 he hx hy
   split at h
   .rename_i k es hg
    have hbh:=Zaj h;clear h;obtain⟨hb,h⟩:=hbh
    rw [Z1] at hb
    cases h
    obtain⟨h1,h2,h3,h4,_⟩:=hc
    subst h4
    obtain⟨i0,hi0,hk0,hj⟩:=Zcn he
    exact (Zbd5 ho (hb▸hT.slInfo hi0 hk0 hj) hx hy hg h1 h2 h3).toF
   .cases h
  .cases h
 .rename_i t x y ho
  split at h
  .rename_i e j l m ki i n xs2 he hx hy
   split at h
   .rename_i es hg
    have hbh:=Zaj h;clear h;obtain⟨hb,h⟩:=hbh
    rw [Z1] at hb
    cases h
    obtain⟨h1,h2,h3,h4,_⟩:=hc
    subst h4
    obtain⟨i0,hi0,hk0,hj⟩:=Zcn he
    exact (Za6e ho (hb▸hT.slInfo hi0 hk0 hj) hx hy hg h1 h2 h3).toF
   .cases h
  .rename_i e j l m jj ki i inner n xs2 he hx hy
   split at h
   .rename_i es hg
    have hbh:=Zaj h;clear h;obtain⟨hb,h⟩:=hbh
    rw [Z1] at hb
    cases h
    obtain⟨h1,h2,h3,h4,h5,_⟩:=hc
    subst h5
    obtain⟨i0,hi0,hk0,hj⟩:=Zcn he
    exact (Za2y ho (hb▸hT.slInfo hi0 hk0 hj) hx hy hg h1 h2 h3 h4).toF
   .cases h
  .cases h
 .rename_i t x ho
  split at h
  .rename_i i l m j hi hx
   split at h
   .rename_i es hg
    have hbh:=Zaj h;clear h;obtain⟨hb,h⟩:=hbh
    simp only [Bool.and_eq_true,Bool.not_eq_true',Z1] at hb
    cases h
    have hty:=(hT t i hi).ty
    rw [hb.1,hb.2] at hty
    exact (Za9q ho hty hx hg hc.1 hc.2.1).toF
   .cases h
  .rename_i i l m j q hi hx
   split at h
   .rename_i es inner z xs2 hg
    have hbh:=Zaj h;clear h;obtain⟨hb,h⟩:=hbh
    simp only [Bool.and_eq_true,Bool.not_eq_true',Z1] at hb
    cases h
    have hty:=(hT t i hi).ty
    rw [hb.1.1,hb.1.2] at hty
    exact (Za2z ho hty hx hg hc.1 hc.2.1 hc.2.2.1 hb.2).toF
   .cases h
  .cases h
 .rename_i t parts ho
  split at h
  .rename_i e agg by_ z kk fl l2 n2 L xs2 he hp
   split at h
   .rename_i es2 out hg hf
    have hbh:=Zaj h;clear h;obtain⟨hb,h⟩:=hbh
    simp only [Bool.and_eq_true,Bool.not_eq_true',Zd8] at hb
    cases h
    obtain⟨h1,h2,h3,_⟩:=hc
    subst h1
    exact Zbd6 L hb.1.2 ho (Zzj (z:=z) hT he rfl rfl hb.1.1) hp hf hg h2 h3 (fun e=>by subst e;simp at hb)
   .cases h
  .cases h
 .rename_i t parts ho
  split at h
  .rename_i e agg by_ z kk fl L xs2 he hp
   have hbh:=Zaj h;clear h;obtain⟨hb,h⟩:=hbh
   cases h
   exact Za9r L ho (Zzj (z:=z) hT he rfl rfl hb) hp
  .cases h
 .rename_i c ho
  split at h
  .rename_i l m l3 m3 t tx es xs2 hce hps hat
   obtain⟨x,y',hax,hx,hy⟩:=Zsf hps
   have hceq:=Zjz hce hax hat
   rw [hceq] at ho
   split at h
   .rename_i e agg bytes z kk fl ex es0 es3 he hex hg hg3
    have hbh:=Zaj h;clear h;obtain⟨hb,h⟩:=hbh
    simp only [Bool.and_eq_true,Bool.not_eq_true',Nat.blt_eq] at hb
    cases h
    obtain⟨h1,h2,h3,h4,h5,_⟩:=hc
    subst h3
    obtain⟨i1,hi1,hk1,_⟩:=Zcn hex
    have hu1:=(hT _ _ hi1).k
    rw [hk1] at hu1
    show OpF P o tm Z [l,l3] [l,l3] (.own l (.msl (es0++es3).length)) [(l,.mat 1 0 (es0++es3))]
    rw [List.length_append,h1,h2]
    exact Zbgb ho (Zzj (z:=z) hT he rfl rfl hb.1.1) ⟨_,hu1⟩ hx hg h1 hy hg3 h2 hb.1.2 (fun e=>by subst e;simp at hb) h4 h5
   .cases h
  .cases h
 .cases h
theorem mapK{hT:TOK P T}{t k e:Nat}(h:(get T t).map (·.k)=some (.map k e)):P.underlying t=some (.map k e):=by
 obtain⟨i,h1,h2⟩:=Option.map_eq_some_iff.1 h
 have:=(hT _ _ h1).k
 rw [h2] at this
 exact this
theorem intK{hT:TOK P T}{t:Nat}{q:IntKind}(h:(get T t).map (·.k)=some (.int q)):P.underlying t=some (.int q):=by
 obtain⟨i,h1,h2⟩:=Option.map_eq_some_iff.1 h
 have:=(hT _ _ h1).k
 rw [h2] at this
 exact this
theorem Zbab(hT:TOK P T){x:Stm}(h:Za27 P T o tm Z xs=some (ps,xs',x))(hc:Zak ps):OpF P o tm Z x.s.need x.rm x.s.p x.s.news:=by
 unfold Za27 at h
 split at h
 .rename_i t ho
  split at h
  .split at h
   .cases h;exact Za6f _ _ ho
   .cases h
  .cases h
 .rename_i t y z ok ho
  split at h
  .rename_i k e l n ts xs2 hk hx hy
   split at h
   .rename_i ag es hg hi
    split at h
    .rename_i zs b xs3 hz
     cases h
     have:=Za6g ho (mapK (hT:=hT) hk) (intK (hT:=hT) hi) hz hx hy hg
     rw [hc.1] at this
     exact this
    .rename_i zs xs3 hz
     cases h
     have:=Za6h ho (mapK (hT:=hT) hk) (intK (hT:=hT) hi) hz hx hy hg
     rw [hc.1] at this
     exact this
    .cases h
   .cases h
  .cases h
 .rename_i c ho
  split at h
  .rename_i l t n xs2 hce hps hat
   obtain⟨x,hax,hx⟩:=Z2k hps
   have hceq:=Zjz hce hax hat
   rw [hceq] at ho
   split at h
   .rename_i k e ag es hk hg
    cases h
    have:=Zbgc ho (mapK (hT:=hT) hk) hx hg
    rw [hc.1] at this
    exact this
   .cases h
  .cases h
 .cases h
theorem Zbeb(hT:TOK P T){x:Stm}(h:evPr T o tm Z xs=some (ps,xs',x))(hc:Zak ps):OpF P o tm Z x.s.need x.rm x.s.p x.s.news:=by
 unfold evPr at h
 split at h
 .rename_i y ho
  split at h
  .rename_i l m q hx
   split at h
   .rename_i hg;cases h;exact (Zau8 ho hx hg hc.1).toF
   .cases h
  .cases h
 .rename_i s y f ho
  split at h
  .rename_i q0 j l m q hf hx
   split at h
   .rename_i hg
    have hbh:=Zaj h;clear h;obtain⟨hb,h⟩:=hbh
    cases h
    have hs:j.size≠0:=fun e=>by rw [e] at hb;cases hb
    obtain⟨i0,fs,fT,hi0,hk0,hfs,hj⟩:=Z4q hf
    exact (Za6j ho (hT.fieldInfo hi0 hk0 hfs hj) hs hx hg hc.1).toF
   .cases h
  .cases h
 .rename_i t y ho
  split at h
  .rename_i i l m q hi hx
   split at h
   .rename_i hg
    split at h
    .rename_i p hp;cases h;exact (Za9v ho (hT _ _ hi).ty hx hg hc.1 hp).toF
    .cases h
   .cases h
  .cases h
 .rename_i t y z ho
  split at h
  .rename_i i l m q p hd hi hx hy
   split at h
   .rename_i hg
    have hbh:=Zaj h;clear h;obtain⟨hb,h⟩:=hbh
    simp only [Bool.and_eq_true,Z1,Zd8] at hb
    cases h
    exact Za9w ho hd (hT _ _ hi).ty hx hy hg hc.1 hb.1.1 hb.1.2 hb.2
   .cases h
  .cases h
 .cases h
theorem Zah9(hT:TOK P T){x:Stm}(h:Zat4 P T o tm Z xs=some (ps,xs',x))(hc:Zak ps):OpF P o tm Z x.s.need x.rm x.s.p x.s.news:=by
 unfold Zat4 at h
 split at h
 .rename_i he
  cases h
  exact (Zbea hT he hc).toF
 .split at h
  .rename_i hm;cases h;exact Za98 hT hm hc
  .split at h
   .rename_i hm;cases h;exact Za99 hT hm hc
   .split at h
    .rename_i hm;cases h;exact Zbab hT hm hc
    .exact Zbeb hT h hc
end
end Go.PW
