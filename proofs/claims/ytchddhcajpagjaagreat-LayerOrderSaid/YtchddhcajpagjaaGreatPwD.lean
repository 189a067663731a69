import Derived.Test.YtchddhcajpagjaaGreatPwB
set_option linter.all false
namespace Go.PW
open Go.RowKit
def Zc1(P:Program)(ops:Array Oper)(R:St->Prop):List Oper->St->Prop
 | [],st=>∃ st',Wk st st'/\R st'
 | o::l,st=>∀ G a w,Rel G st a w->∀ (K:Act->World->Prop) (Q:Exit->Act->World->Prop),(∀ a' w' st',Zc1 P ops R l st'->Rel G st' a' w'->K a' w') ->
  if Region.wanted o (yielded ops a.tmps) then o.wp P a w K Q else K (a.put o.dst undef) w
def Zlf(ops:Array Oper)(tm:List (Nat×PV))(o:Oper):Option Bool:=
 match o.guard with
 | none=>some true
 | some (g,want)=>
  match (ops[g]?).bind (·.dst) with
  | none=>none
  | some d=>
   match get tm d with
   | some (.t (.bool b))=>some (b==want)
   | some (.tup [])=>some false
   | _=>none
section
variable {P:Program} {ops:Array Oper} {R:St->Prop} {st:St} {o:Oper} {l:List Oper}
theorem Zvx{G:Frm}{β:Nat->Option Nat}{n:Nat}{tm:List (Nat×PV)}{Z:List (Nat×Blk)}{a:Act}{w:World}(h:Zan G β ⟨n,tm,Z⟩ a w){r:Bool}(hg:Zlf ops tm o=some r) :
 Region.wanted o (yielded ops a.tmps)=r:=by
 unfold Zlf at hg
 unfold Region.wanted
 cases hgu:o.guard with
 | none=>simp [hgu] at hg;simp [hg]
 | some gw=>
  obtain⟨g,want⟩:=gw
  simp only [hgu] at hg ⊢
  unfold yielded
  cases hd:(ops[g]?).bind (·.dst) with
  | none=>simp [hd] at hg
  | some d=>
   simp only [hd] at hg
   simp only [Option.bind_some]
   cases hq:get tm d with
   | none=>simp [hq] at hg
   | some q=>
    obtain⟨hlt,hv⟩:=h.tm d q hq
    have hsz:d < a.tmps.size:=Nat.lt_of_lt_of_le hlt h.sz
    have hgd:a.tmps[d]?=some (a.tmps.getD d undef):=by simp [hsz]
    rw [hgd]
    simp only [hq] at hg
    split at hg
    .rename_i b heq
     cases heq
     simp only [VR,Z0] at hv
     rw [hv]
     cases hg
     rfl
    .rename_i heq
     cases heq
     simp only [VR,VRs] at hv
     obtain⟨vs,hv,rfl⟩:=hv
     rw [hv]
     cases hg
     rfl
    .cases hg
theorem Zc1.wpList{Q:Exit->St->Prop}:∀ (l:List Oper) (st:St),Zc1 P ops (Q .normal) l st->∀ G a w,Rel G st a w ->
 Go.wpList P ops (fun e a' w'=>∃ st',Q e st'/\Rel G st' a' w') l a w
 | [],st,h,G,a,w,hr=>by obtain⟨st',hw,h⟩:=h;exact⟨st',h,hw G a w hr⟩
 | o::l,st,h,G,a,w,hr=>by
  have:=h G a w hr (Go.wpList P ops (fun e a' w'=>∃ st',Q e st'/\Rel G st' a' w') l) (fun e a' w'=>∃ st',Q e st'/\Rel G st' a' w')
   (fun a' w' st' hs hr'=>Zc1.wpList l st' hs G a' w' hr')
  unfold Go.wpList
  split
  .rename_i hw;simp only [hw,if_true] at this;exact .inl this
  .rename_i hw;simpa [hw] using this
theorem PW.region{Q:Exit->St->Prop}{id:Nat}(h:Zc1 P ops (Q .normal) ops.toList st):PW P (.region id ops false) Q st:=
 fun G a w hr=>wp_region_list (Zc1.wpList ops.toList st h G a w hr)
theorem Zc1.nil(h:R st):Zc1 P ops R [] st:=⟨st,Wk.refl st,h⟩
theorem Zc1.weaken{st':St}(hw:Wk st st')(h:Zc1 P ops R l st'):Zc1 P ops R l st:=by
 cases l with
 | nil=>obtain⟨s,hs,h⟩:=h;exact⟨s,hw.trans hs,h⟩
 | cons o l=>exact fun G a w hr=>h G a w (hw G a w hr)
theorem Zc1.step{st':St}(hg:Zlf ops st.tm o=some true)(hu:Zxt P o st st')(h:Zc1 P ops R l st'):Zc1 P ops R (o::l) st:=by
 intro G a w hr K Q hK
 obtain⟨β,hrr⟩:=hr
 rw [Zvx hrr hg]
 simp only [if_true]
 exact hu G a w K Q ⟨β,hrr⟩ (fun a' w' hr'=>hK a' w' st' h hr')
theorem Zc1.skip{d:Nat}(hd:o.dst=some d)(hn:d < st.n)(hg:Zlf ops st.tm o=some false)(h:Zc1 P ops R l ⟨st.n,put st.tm d (.tup []),st.Z⟩):Zc1 P ops R (o::l) st:=by
 intro G a w hr K Q hK
 obtain⟨β,hrr⟩:=hr
 rw [Zvx hrr hg]
 simp only [if_false,Bool.false_eq_true]
 refine hK _ _ _ h ⟨β,?_⟩
 rw [hd]
 exact hrr.put hn (by simp only [VR,VRs];exact⟨[],rfl,rfl⟩)
theorem Zc1.skipNone(hd:o.dst=none)(hg:Zlf ops st.tm o=some false)(h:Zc1 P ops R l st):Zc1 P ops R (o::l) st:=by
 intro G a w hr K Q hK
 obtain⟨β,hrr⟩:=hr
 rw [Zvx hrr hg]
 simp only [if_false,Bool.false_eq_true]
 refine hK _ _ _ h ⟨β,?_⟩
 rw [hd]
 exact hrr
end
structure Stp where
 need:List Nat
 p:PV
 news:List (Nat×Blk)
structure Stm where
 s:Stp
 rm:List Nat
def Z4k:Option Stm->PV
 | some x=>x.s.p
 | none => .tup []
def Zin:Option Stm->List (Nat×Blk)
 | some x=>x.s.news
 | none=>[]
def Zuv:Option Stm->List Nat
 | some x=>x.rm
 | none=>[]
def resQ:Option Stm->List Nat
 | some x=>x.s.need
 | none=>[]
def Zxu(tm:List (Nat×PV))(d:Option Nat)(p:PV):List (Nat×PV):=match d with | some d=>put tm d p | none=>tm
def Zey(P:Program)(ops:Array Oper)(n:Nat):List Oper->List (Option Stm)->List (Nat×PV)->List (Nat×Blk)->Prop
 | [],[],_,_=>True
 | o::os,x::xs,tm,Z=>((∀ d,o.dst=some d->d < n)/\Zlf ops tm o=some x.isSome/\(∀ s,x=some s->OpF P o tm Z s.s.need s.rm s.s.p s.s.news) /\
  Zey P ops n os xs (Zxu tm o.dst (Z4k x)) (Zin x++Zbo (Zuv x) Z))
 | _,_,_,_=>False
def Zgu:List Oper->List (Option Stm)->List (Nat×PV)->List (Nat×PV)
 | o::os,x::xs,tm=>Zgu os xs (Zxu tm o.dst (Z4k x))
 | _,_,tm=>tm
def Zmq:List (Option Stm)->List (Nat×Blk)->List (Nat×Blk)
 | x::xs,Z=>Zmq xs (Zin x++Zbo (Zuv x) Z)
 | [],Z=>Z
end Go.PW
namespace Go.PW
open Go.RowKit
def Zpn(ops:Array Oper)(i j:Nat):Bool:=
 match ops[i]? with
 | some o=>o.after.toList.any fun e=>Region.binds .any e&&Nat.beq e.on j
 | none=>false
def Zfh(ops:Array Oper):Nat->Nat->Nat->Bool
 | 0,_,_=>false
 | f+1,i,j=>
  match ops[i]? with
  | some o=>o.after.toList.any fun e=>Region.binds .any e&&(Nat.beq e.on j||Zfh ops f e.on j)
  | none=>false
def Zaa2(o:Oper)(t:Nat):Bool:=o.op.operands.toList.any fun x=>match x with | .tmp u=>Nat.beq u t | _=>false
def Zbcg(o:Oper)(t:Nat):Bool:=match o.dst with | some d=>Nat.beq d t | none=>false
def Zog(o:Oper)(i:Nat):Bool:=o.after.toList.all fun e => !Region.binds .any e||Nat.blt e.on i
def wrB(x:Option Stm)(l:Nat):Bool:=((Zin x).any fun p=>Nat.beq p.1 l)||Zz0 (Zuv x) l
def Zaty(xs:List (Option Stm))(j l:Nat):Bool:=match xs[j]? with | some x=>wrB x l | none=>false
def ordB(ops:Array Oper)(i j:Nat):Bool:=bif Nat.blt j i then Zfh ops ops.size i j else Zfh ops ops.size j i
def Z5w(ops:Array Oper)(xs:List (Option Stm))(tm:List (Nat×PV))(Z:List (Nat×Blk))(m:Nat)(i:Nat)(o:Oper)(x:Option Stm):Bool:=
 Zog o i &&
 (match o.dst with
  | none=>true
  | some d => !Zaa2 o d&&(List.range m).all fun j=>Nat.beq j i||match ops[j]? with
   | some oj => !Zbcg oj d&&(!Zaa2 oj d||(bif Nat.blt i j then Zpn ops j i else Zpn ops i j))
   | none=>true) &&
 (match o.guard with | none=>true | some (g,_)=>Nat.blt g i&&Zpn ops i g) &&
 ((resQ x).all fun l=>(List.range m).all fun j=>Nat.beq j i || !Zaty xs j l||ordB ops i j) &&
 (((Zin x).map (·.1)++Zuv x).all fun l=>(List.range m).all fun j=>Nat.beq j i || !Zaty xs j l||ordB ops i j) &&
 ((Zin x).all fun p=>Zz0 (Zuv x) p.1||((tm.all fun q => !q.2.has p.1)&&(Z.all fun q => !Nat.beq q.1 p.1 && !q.2.has p.1) &&
  (List.range m).all fun j=>Nat.beq j i||(match xs[j]? with
   | some y=>((!(Z4k y).has p.1 && !wrB y p.1&&(Zin y).all fun q => !q.2.has p.1)||Zfh ops ops.size j i)
   | none=>true)))
def Zv9(ops:Array Oper)(xs:List (Option Stm))(tm:List (Nat×PV))(Z:List (Nat×Blk)):Bool:=
 ((List.range xs.length).all fun i=>match ops[i]?,xs[i]? with
  | some o,some x=>Z5w ops xs tm Z xs.length i o x
  | _,_=>false) &&
 ((List.range ops.size).all fun j=>Nat.blt j xs.length||(match ops[j]? with
  | some o=>Zog o j&&(List.range j).all fun i=>Zfh ops ops.size j i
  | none=>false))
theorem Zsd(a b:Nat):Nat.blt a b=true↔a < b:=by rw [Nat.blt_eq]
section
variable {P:Program} {ops:Array Oper}
theorem Zaa3{i j:Nat}(h:Zpn ops i j=true):∃ o,ops[i]?=some o/\∃ e∈o.after,Region.binds .any e=true/\e.on=j:=by
 unfold Zpn at h
 split at h
 .rename_i o ho
  obtain⟨e,he,hb⟩:=List.any_eq_true.1 h
  simp only [Bool.and_eq_true,Z1] at hb
  exact⟨o,ho,e,by simpa using he,hb.1,hb.2⟩
 .cases h
def Zaj5(ops:Array Oper)(L:Nat->Prop):Prop:=∀ i o,L i->ops[i]?=some o->∀ e∈o.after,Region.binds .any e=true->L e.on
theorem Zsw{L:Nat->Prop}(hL:Zaj5 ops L):∀ (f i j:Nat),(∀ o,ops[i]?=some o->∀ e∈o.after,Region.binds .any e=true->L e.on)->Zfh ops f i j=true->L j
 | 0,_,_,_,h=>by simp [Zfh] at h
 | f+1,i,j,hi,h=>by
  simp only [Zfh] at h
  split at h
  .rename_i o ho
   obtain⟨e,he,hb⟩:=List.any_eq_true.1 h
   simp only [Bool.and_eq_true,Bool.or_eq_true,Z1] at hb
   have hon:L e.on:=hi o ho e (by simpa using he) hb.1
   rcases hb.2 with h | h
   .subst h;exact hon
   .exact Zsw hL f e.on j (fun o' ho' e' he' hb'=>hL e.on o' hon ho' e' he' hb') h
  .cases h
theorem Za2o{o:Oper}{t:Nat}(h:Operand.tmp t∈o.op.operands):Zaa2 o t=true:=by
 unfold Zaa2
 exact List.any_eq_true.2 ⟨.tmp t,by simpa using h,by simp⟩
theorem Zj5{α:Type}(a b:List (Nat×α))(i:Nat):get (a++b) i=match get a i with | some x=>some x | none=>get b i:=by
 induction a with
 | nil=>rfl
 | cons p a ih=>
  obtain⟨j,x⟩:=p
  simp only [List.cons_append,get]
  cases Nat.beq j i with
  | true=>rfl
  | false=>simpa using ih
theorem Zff{α:Type}:∀ {l:List (Nat×α)} {i:Nat} {x:α},get l i=some x->(i,x)∈l
 | (j,y)::l,i,x,h=>by
  simp only [get] at h
  cases hb:Nat.beq j i with
  | true=>
   simp only [hb,cond_true,Option.some.injEq] at h
   rw [(Z1 _ _).1 hb,h]
   exact List.mem_cons_self ..
  | false=>simp only [hb,cond_false] at h;exact List.mem_cons_of_mem _ (Zff h)
theorem Zsx:∀ (l:List Oper) (xs:List (Option Stm)) (tm:List (Nat×PV)) (t:Nat) (q:PV),l.length=xs.length->get (Zgu l xs tm) t=some q ->
 (∃ j:Nat,∃ o x,l[j]?=some o/\xs[j]?=some x/\o.dst=some t/\q=Z4k x)\/(get tm t=some q/\∀ (j:Nat) o,l[j]?=some o->o.dst≠some t)
 | [],[],tm,t,q,_,h => .inr ⟨by simpa [Zgu] using h,by simp⟩
 | [],_::_,_,_,_,hl,_=>by simp at hl
 | _::_,[],_,_,_,hl,_=>by simp at hl
 | o::l,x::xs,tm,t,q,hl,h=>by
  simp only [Zgu] at h
  rcases Zsx l xs _ t q (by simpa using hl) h with ⟨j,oj,xj,h1,h2,h3,h4⟩ | ⟨h1,h2⟩
  .exact .inl ⟨j+1,oj,xj,by simpa using h1,by simpa using h2,h3,h4⟩
  .cases hd:o.dst with
   | none=>
    simp only [hd,Zxu] at h1
    refine .inr ⟨h1,fun j oj hj=>?_⟩
    cases j with
    | zero=>simp at hj;subst hj;simp [hd]
    | succ j=>exact h2 j oj (by simpa using hj)
   | some d=>
    simp only [hd,Zxu] at h1
    by_cases hdt:d=t
    .subst hdt
     rw [Zca] at h1
     exact .inl ⟨0,o,x,rfl,rfl,hd,by simpa using h1.symm⟩
    .rw [Zb5 _ _ hdt] at h1
     refine .inr ⟨h1,fun j oj hj=>?_⟩
     cases j with
     | zero=>simp at hj;subst hj;simp [hd,hdt]
     | succ j=>exact h2 j oj (by simpa using hj)
theorem Z7k{ls:List Nat}{l:Nat}:Zz0 ls l=true↔l∈ls:=by
 induction ls with
 | nil=>simp [Zz0]
 | cons x r ih=>
  simp only [Zz0]
  cases hb:Nat.beq x l with
  | true=>simp [(Z1 _ _).1 hb]
  | false=>
   have:x≠l:=fun e=>by subst e;simp at hb
   simp [ih,Ne.symm this]
theorem Zaj6(x:Option Stm):∀ (xs:List (Option Stm)) (Z:List (Nat×Blk)),Zmq (xs++[x]) Z=Zin x++Zbo (Zuv x) (Zmq xs Z)
 | [],Z=>rfl
 | y::xs,Z=>by simp only [List.cons_append,Zmq];exact Zaj6 x xs _
def Wr(x:Option Stm)(l:Nat):Prop:=get (Zin x) l≠none\/l∈Zuv x
theorem Za08{x:Option Stm}{l:Nat}:wrB x l=true↔Wr x l:=by
 unfold wrB Wr
 rw [Bool.or_eq_true,Z7k]
 refine or_congr ?_ Iff.rfl
 constructor
 .intro h hn
  obtain⟨p,hp,hb⟩:=List.any_eq_true.1 h
  have hb:=(Z1 _ _).1 hb
  obtain⟨k,y⟩:=p
  simp only at hb;subst hb
  have:∀ (L:List (Nat×Blk)),(k,y)∈L->get L k≠none:=by
   intro L
   induction L with
   | nil=>intro h;cases h
   | cons q L ih=>
    obtain⟨m,z⟩:=q
    intro h
    simp only [get]
    cases hm:Nat.beq m k with
    | true=>simp
    | false=>
     simp only [cond_false]
     rcases List.mem_cons.1 h with h | h
     .cases h;simp at hm
     .exact ih h
  exact this _ hp hn
 .intro h
  cases hg:get (Zin x) l with
  | none=>exact absurd hg h
  | some y=>exact List.any_eq_true.2 ⟨(l,y),Zff hg,by simp⟩
def Val(xs:List (Option Stm))(σ0:List (Nat×Blk))(L:Nat->Prop)(Z:List (Nat×Blk)):Prop:=∀ l,
 (∃ (j:Nat) (x:Option Stm),L j/\xs[j]?=some x/\Wr x l/\(∀ (k:Nat) (y:Option Stm),L k->xs[k]?=some y->Wr y l->k<=j)/\get Z l=get (Zin x) l) \/
 ((∀ (j:Nat) (x:Option Stm),L j->xs[j]?=some x->¬ Wr x l)/\get Z l=get σ0 l)
theorem Val.next{xs:List (Option Stm)}{σ0 Z:List (Nat×Blk)}{L:Nat->Prop}(h:Val xs σ0 L Z){i:Nat}{x:Option Stm}(hx:xs[i]?=some x)(hR:∀ l,Wr x l->∀ (j:Nat) z,L j->xs[j]?=some z->Wr z l->j<=i) :
 Val xs σ0 (fun j=>L j\/j=i) (Zin x++Zbo (Zuv x) Z):=by
 intro l
 by_cases hw:Wr x l
 .refine .inl ⟨i,x,.inr rfl,hx,hw,fun k y hk hy hyw=>?_,?_⟩
  .rcases hk with hk | hk
   .exact hR l hw k y hk hy hyw
   .exact Nat.le_of_eq hk
  .rw [Zj5]
   cases hg:get (Zin x) l with
   | some y=>rfl
   | none=>
    rcases hw with hw | hw
    .exact absurd hg hw
    .cases hd:get (Zbo (Zuv x) Z) l with
     | none=>rfl
     | some y=>exact absurd hw (Zz2 hd).1
 .have hg:get (Zin x) l=none:=by
   cases hg:get (Zin x) l with
   | none=>rfl
   | some y=>exact absurd (.inl (by rw [hg];simp)) hw
  have hl:l∉Zuv x:=fun hl=>hw (.inr hl)
  have he:get (Zin x++Zbo (Zuv x) Z) l=get Z l:=by rw [Zj5,hg,Z7j hl]
  rw [he]
  rcases h l with ⟨j,z,h1,h2,h3,h4,h5⟩ | ⟨h1,h2⟩
  .refine .inl ⟨j,z,.inl h1,h2,h3,fun k y hk hy hyw=>?_,h5⟩
   rcases hk with hk | hk
   .exact h4 k y hk hy hyw
   .subst hk;rw [hx] at hy;cases hy;exact absurd hyw hw
  .refine .inr ⟨fun j z hj hz hzw=>?_,h2⟩
   rcases hj with hj | hj
   .exact h1 j z hj hz hzw
   .subst hj;rw [hx] at hz;cases hz;exact hw hzw
theorem Val.congr{xs:List (Option Stm)}{σ0 Z:List (Nat×Blk)}{L L':Nat->Prop}(h:Val xs σ0 L Z)(hL:∀ j,L j↔L' j):Val xs σ0 L' Z:=by
 have:L=L':=funext fun j=>propext (hL j)
 subst this;exact h
theorem Val.agree{xs:List (Option Stm)}{σ0 Z Z':List (Nat×Blk)}{L L':Nat->Prop}(h:Val xs σ0 L Z)(h':Val xs σ0 L' Z')(l:Nat)
 (ht:∀ (j:Nat) x,xs[j]?=some x->Wr x l->(L j↔L' j)):get Z l=get Z' l:=by
 rcases h l with ⟨j,z,h1,h2,h3,h4,h5⟩ | ⟨h1,h2⟩<;>rcases h' l with ⟨j',z',h1',h2',h3',h4',h5'⟩ | ⟨h1',h2'⟩
 .have e1:=h4 j' z' ((ht j' z' h2' h3').2 h1') h2' h3'
  have e2:=h4' j z ((ht j z h2 h3).1 h1) h2 h3
  have:j=j':=by omega
  subst this
  rw [h2] at h2';cases h2'
  rw [h5,h5']
 .exact absurd h3 (h1' j z ((ht j z h2 h3).1 h1) h2)
 .exact absurd h3' (h1 j' z' ((ht j' z' h2' h3').2 h1') h2')
 .rw [h2,h2']
theorem Val.get{xs:List (Option Stm)}{σ0 Z:List (Nat×Blk)}{L:Nat->Prop}(h:Val xs σ0 L Z){m:Nat}{z:Blk}(hg:PW.get Z m=some z):PW.get σ0 m=some z\/∃ (j:Nat) (x:Option Stm),L j/\xs[j]?=some x/\PW.get (Zin x) m=some z:=by
 rcases h m with ⟨j,x,h1,h2,h3,h4,h5⟩ | ⟨_,h3⟩
 .rw [hg] at h5;exact .inr ⟨j,x,h1,h2,h5.symm⟩
 .exact .inl (h3.symm.trans hg)
theorem Zey.at_{n:Nat}:∀ (l:List Oper) (xs:List (Option Stm)) (tm:List (Nat×PV)) (Z:List (Nat×Blk)),Zey P ops n l xs tm Z->∀ (i:Nat) o x,l[i]?=some o->xs[i]?=some x ->
 (∀ d,o.dst=some d->d < n)/\Zlf ops (Zgu (l.take i) (xs.take i) tm) o=some x.isSome /\
  (∀ s,x=some s->OpF P o (Zgu (l.take i) (xs.take i) tm) (Zmq (xs.take i) Z) s.s.need s.rm s.s.p s.s.news)
 | [],_,_,_,_,i,o,x,h,_=>by simp at h
 | _::_,[],_,_,hp,_,_,_,_,_=>by simp [Zey] at hp
 | o::l,x::xs,tm,Z,hp,i,o',x',ho,hx=>by
  simp only [Zey] at hp
  obtain⟨hdn,hg,hop,hrest⟩:=hp
  cases i with
  | zero=>
   simp at ho hx
   subst ho;subst hx
   exact⟨hdn,by simpa [Zgu] using hg,by simpa [Zgu,Zmq] using hop⟩
  | succ i=>
   have:=Zey.at_ l xs _ _ hrest i o' x' (by simpa using ho) (by simpa using hx)
   simpa [Zgu,Zmq] using this
theorem Zey.length{n:Nat}:∀ (l:List Oper) (xs:List (Option Stm)) (tm:List (Nat×PV)) (Z:List (Nat×Blk)),Zey P ops n l xs tm Z->l.length=xs.length
 | [],[],_,_,_=>rfl
 | [],_::_,_,_,h=>by simp [Zey] at h
 | _::_,[],_,_,h=>by simp [Zey] at h
 | o::l,x::xs,tm,Z,hp=>by
  simp only [Zey] at hp
  obtain⟨_,_,_,hrest⟩:=hp
  simpa using Zey.length l xs _ _ hrest
structure Mid (ops:Array Oper) (xs:List (Option Stm)) (tm0:List (Nat×PV)) (σ0:List (Nat×Blk)) (L:Nat->Prop) (tm:List (Nat×PV)) (Z:List (Nat×Blk)):Prop where
 closed:Zaj5 ops L
 T1:∀ (j:Nat) o x d,L j->ops[j]?=some o->xs[j]?=some x->o.dst=some d->get tm d=some (Z4k x)
 T2:∀ t q,(∀ (j:Nat) o,L j->ops[j]?=some o->o.dst≠some t)->get tm0 t=some q->get tm t=some q
 T3:∀ t q,get tm t=some q->get tm0 t=some q\/∃ j:Nat,∃ x,L j/\xs[j]?=some x/\q=Z4k x
 S:Val xs σ0 L Z
structure Zad3 (ops:Array Oper) (xs:List (Option Stm)) (tm0:List (Nat×PV)) (σ0:List (Nat×Blk)) (i:Nat) (o:Oper) (x:Option Stm):Prop where
 all:∀ d,o.dst=some d->∀ (j:Nat) oj,j≠i->j < xs.length->ops[j]?=some oj->oj.dst≠some d/\(Zaa2 oj d=true->(i < j->Zpn ops j i=true)/\(¬ i < j->Zpn ops i j=true))
 need:∀ l,l∈resQ x->∀ (j:Nat) z,xs[j]?=some z->j≠i->Wr z l->(j < i->Zfh ops ops.size i j=true)/\(¬ j < i->Zfh ops ops.size j i=true)
 ord:∀ l,Wr x l->∀ (j:Nat) z,xs[j]?=some z->j≠i->Wr z l->(j < i->Zfh ops ops.size i j=true)/\(¬ j < i->Zfh ops ops.size j i=true)
 fresh:∀ p,p∈Zin x->p.1∉Zuv x->(∀ q,q∈tm0->q.2.has p.1=false)/\(∀ q,q∈σ0->q.1≠p.1/\q.2.has p.1=false) /\
  ∀ (j:Nat) y,j < xs.length->j≠i->xs[j]?=some y->((Z4k y).has p.1=false/\¬ Wr y p.1/\∀ q,q∈Zin y->q.2.has p.1=false)\/Zfh ops ops.size j i=true
theorem Zaqr{a b:Nat}(h:¬ a < b):Nat.blt a b=false:=by
 cases hb:Nat.blt a b with
 | false=>rfl
 | true=>exact absurd ((Zsd _ _).1 hb) h
theorem Z2a{xs:List (Option Stm)}{tm0:List (Nat×PV)}{σ0:List (Nat×Blk)}(hs:Zv9 ops xs tm0 σ0=true){i:Nat}{x:Option Stm}(hx:xs[i]?=some x) :
 ∃ o,ops[i]?=some o/\Z5w ops xs tm0 σ0 xs.length i o x=true:=by
 simp only [Zv9,Bool.and_eq_true] at hs
 have him:i < xs.length:=(List.getElem?_eq_some_iff.1 hx).1
 have hat:=List.all_eq_true.1 hs.1 i (by simpa using him)
 cases ho:ops[i]? with
 | none=>simp [ho] at hat
 | some o=>
  simp only [ho,hx] at hat
  exact⟨o,rfl,hat⟩
theorem Za5u{i j:Nat}(h:ordB ops i j=true):(j < i->Zfh ops ops.size i j=true)/\(¬ j < i->Zfh ops ops.size j i=true):=by
 unfold ordB at h
 refine⟨fun hij=>?_,fun hij=>?_⟩
 .rw [(Zsd j i).2 hij] at h;simpa using h
 .rw [Zaqr hij] at h;simpa using h
theorem Za5v{x:Option Stm}{l:Nat}{y:Blk}(h:get (Zin x) l=some y):Wr x l := .inl (by rw [h];simp)
theorem Zad3.of{xs:List (Option Stm)}{tm0:List (Nat×PV)}{σ0:List (Nat×Blk)}{i:Nat}{o:Oper}{x:Option Stm}(h:Z5w ops xs tm0 σ0 xs.length i o x=true):Zad3 ops xs tm0 σ0 i o x:=by
 simp only [Z5w,Bool.and_eq_true] at h
 obtain⟨⟨⟨⟨⟨_,hall⟩,_⟩,hneed⟩,hord⟩,hnews⟩:=h
 have key:∀ {l:Nat},((List.range xs.length).all fun j=>Nat.beq j i || !Zaty xs j l||ordB ops i j)=true->∀ (j:Nat) z,xs[j]?=some z->j≠i->Wr z l->(j < i->Zfh ops ops.size i j=true)/\(¬ j < i->Zfh ops ops.size j i=true):=by
  intro l h j z hz hji hw
  have hj:=(List.getElem?_eq_some_iff.1 hz).1
  have:=List.all_eq_true.1 h j (by simpa using hj)
  simp only [Bool.or_eq_true,Z1,hji,false_or,Zaty,hz,Bool.not_eq_true',Za08.2 hw,Bool.true_eq_false] at this
  exact Za5u this
 refine { all:=fun d hd j oj hji hj hoj=>?_,need:=fun l hl=>key (List.all_eq_true.1 hneed l hl),ord:=fun l hw=>key (List.all_eq_true.1 hord l ?_),fresh:=fun p hp hnr=>?_ }
 .simp only [hd,Bool.and_eq_true] at hall
  have:=List.all_eq_true.1 hall.2 j (by simpa using hj)
  simp only [Bool.or_eq_true,Z1,hji,false_or,hoj,Bool.and_eq_true,Bool.not_eq_true'] at this
  obtain⟨h1,h2⟩:=this
  refine⟨fun e=>by simp [Zbcg,e] at h1,fun hrd=>?_⟩
  rcases h2 with h2 | h2
  .rw [hrd] at h2;cases h2
  .refine⟨fun hij=>?_,fun hij=>?_⟩
   .rw [(Zsd i j).2 hij] at h2;simpa using h2
   .rw [Zaqr hij] at h2;simpa using h2
 .rcases hw with hw | hw
  .cases hg:get (Zin x) l with
   | none=>exact absurd hg hw
   | some y=>exact List.mem_append.2 (.inl (List.mem_map.2 ⟨(l,y),Zff hg,rfl⟩))
  .exact List.mem_append.2 (.inr hw)
 .have:=List.all_eq_true.1 hnews p hp
  simp only [Bool.or_eq_true,Bool.and_eq_true] at this
  rcases this with h | h
  .exact absurd (Z7k.1 h) hnr
  .obtain⟨⟨h1,h2⟩,h3⟩:=h
   refine⟨fun q hq=>by simpa using List.all_eq_true.1 h1 q hq,fun q hq=>?_,fun j y hj hji hy=>?_⟩
   .have:=List.all_eq_true.1 h2 q hq
    simp only [Bool.and_eq_true,Bool.not_eq_true'] at this
    exact⟨fun e=>by rw [e] at this;simp at this,this.2⟩
   .have:=List.all_eq_true.1 h3 j (by simpa using hj)
    simp only [Bool.or_eq_true,Z1,hji,false_or,hy,Bool.and_eq_true,Bool.not_eq_true'] at this
    rcases this with h | h
    .exact .inl ⟨h.1.1,fun hw=>by rw [Za08.2 hw] at h;exact absurd h.1.2 (by simp),fun q hq=>by simpa using List.all_eq_true.1 h.2 q hq⟩
    .exact .inr h
theorem Zad4{xs:List (Option Stm)}{σ0:List (Nat×Blk)}:∀ (k:Nat),k<=xs.length->Val xs σ0 (fun j=>j < k) (Zmq (xs.take k) σ0)
 | 0,_=>fun l => .inr ⟨fun j _ h=>absurd h (Nat.not_lt_zero j),rfl⟩
 | k+1,hk=>by
  have hx:xs[k]?=some (xs[k]'(by omega)):=List.getElem?_eq_getElem O
  have:=(Zad4 (σ0:=σ0) k O).next hx (fun l _ j z hj _ _=>Nat.le_of_lt hj)
  rw [List.take_add_one,hx,Option.toList_some,Zaj6]
  exact this.congr (fun j=>by omega)
theorem Mid.next{xs:List (Option Stm)}{tm0:List (Nat×PV)}{σ0:List (Nat×Blk)}{L:Nat->Prop}{tm:List (Nat×PV)}{Z:List (Nat×Blk)}{n:Nat}{pre:List Oper}{suf:List Oper}
 (hops:ops.toList=pre++suf) (hplan:Zey P ops n pre xs tm0 σ0) (hs0:Zv9 ops xs tm0 σ0=true) (hm:Mid ops xs tm0 σ0 L tm Z)
 {i:Nat} {o:Oper} {x:Option Stm} (ho:ops[i]?=some o) (hx:xs[i]?=some x) (hi:¬ L i) (hLm:∀ j,L j->j < xs.length) (hready:∀ e∈o.after,Region.binds .any e=true->L e.on)
 {G:Frm} {a:Act} {w:World} (hr:Rel G ⟨n,tm,Z⟩ a w) {K:Act->World->Prop} {Q:Exit->Act->World->Prop}
 (hK:∀ a' w' tm' Z',Mid ops xs tm0 σ0 (fun j=>L j\/j=i) tm' Z'->Rel G ⟨n,tm',Z'⟩ a' w'->K a' w'):wpOp P ops Q i K a w:=by
 have hlen:=Zey.length _ _ _ _ hplan
 have him:i < xs.length:=(List.getElem?_eq_some_iff.1 hx).1
 have hpre:∀ (j:Nat),j < xs.length->ops[j]?=pre[j]?:=fun j hj=>by
  rw [<- Array.getElem?_toList,hops,List.getElem?_append_left O]
 obtain⟨hdn,hgd,hop⟩:=hplan.at_ _ _ _ _ i o x (by rw [<- hpre i him];exact ho) hx
 obtain⟨o1,ho1,hat⟩:=Z2a hs0 hx
 rw [ho] at ho1;cases ho1
 have hF:=Zad3.of hat
 have hguard:(match o.guard with | none=>true | some (g,_)=>Nat.blt g i&&Zpn ops i g)=true:=by
  simp only [Z5w,Bool.and_eq_true] at hat
  exact hat.1.1.1.2
 have hdir:∀ j,Zpn ops i j=true->L j:=by
  intro j hj
  obtain⟨o',ho',e,he,hb,hon⟩:=Zaa3 hj
  rw [ho] at ho';cases ho'
  rw [<- hon];exact hready e he hb
 have hreach:∀ f j,Zfh ops f i j=true->L j:=fun f j h=>Zsw hm.closed f i j (fun o' ho' e he hb=>by rw [ho] at ho';cases ho';exact hready e he hb) h
 have hnreach:∀ f j,Zfh ops f j i=true->¬ L j:=fun f j h hLj=>hi (Zsw hm.closed f j i (fun o' ho' e he hb=>hm.closed j o' hLj ho' e he hb) h)
 have hopnd:∀ t q,Operand.tmp t∈o.op.operands->get (Zgu (pre.take i) (xs.take i) tm0) t=some q->get tm t=some q:=by
  intro t q ht hq
  have hrd:=Za2o ht
  rcases Zsx _ _ _ t q (by simp;omega) hq with ⟨j,oj,xj,h1,h2,h3,h4⟩ | ⟨h1,h2⟩
  .have hji:j < i:=by
    have:=(List.getElem?_eq_some_iff.1 h1).1
    simp at this;omega
   have hoj:ops[j]?=some oj:=by rw [hpre j O];rw [List.getElem?_take,if_pos hji] at h1;exact h1
   have hxj:xs[j]?=some xj:=by rw [List.getElem?_take,if_pos hji] at h2;exact h2
   obtain⟨o2,ho2,hatj⟩:=Z2a hs0 hxj
   rw [hoj] at ho2;cases ho2
   have hallj:=((Zad3.of hatj).all t h3 i o (Nat.ne_of_lt hji).symm him ho).2 hrd
   subst h4
   exact hm.T1 j oj xj t (hdir j (hallj.1 hji)) hoj hxj h3
  .refine hm.T2 t q (fun j oj hLj hoj hdst=>?_) h1
   have hjm:=hLm j hLj
   have hji:j≠i:=fun e=>hi (e▸hLj)
   rcases Nat.lt_or_ge j i with hlt | hge
   .exact h2 j oj (by rw [List.getElem?_take,if_pos hlt,<- hpre j hjm];exact hoj) hdst
   ·-- a later writer must wait for i
    have hxj:xs[j]?=some xs[j]:=List.getElem?_eq_getElem hjm
    obtain⟨o2,ho2,hatj⟩:=Z2a hs0 hxj
    rw [hoj] at ho2;cases ho2
    have hallj:=((Zad3.of hatj).all t hdst i o hji.symm him ho).2 hrd
    obtain⟨o',ho',e,he,hb,hon⟩:=Zaa3 (hallj.2 (Nat.not_lt_of_le hge))
    exact hi (hon▸hm.closed j o' hLj ho' e he hb)
 have hgd':Zlf ops tm o=some x.isSome:=by
  unfold Zlf at hgd ⊢
  cases hgu:o.guard with
  | none=>simpa [hgu] using hgd
  | some gw=>
   obtain⟨g,want⟩:=gw
   simp only [hgu] at hgd hguard ⊢
   simp only [Bool.and_eq_true,Zsd] at hguard
   have hLg:=hdir g hguard.2
   cases hgo:(ops[g]?).bind (·.dst) with
   | none=>simp [hgo] at hgd
   | some dg=>
    simp only [hgo] at hgd ⊢
    obtain⟨og,hog,hdg⟩:=Option.bind_eq_some_iff.1 hgo
    have hgm:=hLm g hLg
    have hxg:xs[g]?=some xs[g]:=List.getElem?_eq_getElem hgm
    have htm:=hm.T1 g og _ dg hLg hog hxg hdg
    cases hq:get (Zgu (pre.take i) (xs.take i) tm0) dg with
    | none=>simp [hq] at hgd
    | some q=>
     rcases Zsx _ _ _ dg q (by simp;omega) hq with ⟨j,oj,xj,h1,h2,h3,h4⟩ | ⟨h1,h2⟩
     .have hji:j < i:=by
       have:=(List.getElem?_eq_some_iff.1 h1).1
       simp at this;omega
      have hoj:ops[j]?=some oj:=by rw [hpre j O];rw [List.getElem?_take,if_pos hji] at h1;exact h1
      have hxj:xs[j]?=some xj:=by rw [List.getElem?_take,if_pos hji] at h2;exact h2
      have hjg:j=g:=by
       apply Decidable.byContradiction
       intro hne
       obtain⟨o2,ho2,hatj⟩:=Z2a hs0 hxj
       rw [hoj] at ho2;cases ho2
       exact ((Zad3.of hatj).all dg h3 g og (Ne.symm hne) hgm hog).1 hdg
      subst hjg
      rw [hxj] at hxg;cases hxg
      rw [hq,h4] at hgd
      rw [htm];exact hgd
     .exact absurd hdg (h2 g og (by rw [List.getElem?_take,if_pos hguard.1,<- hpre g hgm];exact hog))
 have hclosed:Zaj5 ops (fun j=>L j\/j=i):=by
  rintro j oj (hj | hj) hoj e he hb
  .exact .inl (hm.closed j oj hj hoj e he hb)
  .subst hj;rw [ho] at hoj;cases hoj;exact .inl (hready e he hb)
 have hlast:∀ l,Wr x l->∀ (j:Nat) z,L j->xs[j]?=some z->Wr z l->j<=i:=by
  intro l hw j z hj hz hzw
  apply Decidable.byContradiction
  intro hn
  have hji:j≠i:=fun e=>hi (e▸hj)
  exact hnreach _ j ((hF.ord l hw j z hz hji hzw).2 O) hj
 have hmid:Mid ops xs tm0 σ0 (fun j=>L j\/j=i) (Zxu tm o.dst (Z4k x)) (Zin x++Zbo (Zuv x) Z):=by
  refine⟨hclosed,?_,?_,?_,hm.S.next hx hlast⟩
  .rintro j oj xj dj (hj | hj) hoj hxj hdj
   .have hji:j≠i:=fun e=>hi (e▸hj)
    have h0:=hm.T1 j oj xj dj hj hoj hxj hdj
    cases hd:o.dst with
    | none=>exact h0
    | some d=>
     have:=(hF.all d hd j oj hji (hLm j hj) hoj).1
     have hne:d≠dj:=fun e=>this (e▸hdj)
     simp only [Zxu]
     rw [Zb5 _ _ hne]
     exact h0
   .subst hj
    rw [ho] at hoj;cases hoj
    rw [hx] at hxj;cases hxj
    rw [hdj]
    exact Zca ..
  .intro t q hnw hq
   have h0:=hm.T2 t q (fun j oj hj hoj=>hnw j oj (.inl hj) hoj) hq
   cases hd:o.dst with
   | none=>exact h0
   | some d=>
    have hne:d≠t:=fun e=>hnw i o (.inr rfl) ho (e▸hd)
    simp only [Zxu]
    rw [Zb5 _ _ hne]
    exact h0
  .intro t q hq
   have old:get tm t=some q->get tm0 t=some q\/∃ j:Nat,∃ x,(L j\/j=i)/\xs[j]?=some x/\q=Z4k x:=fun hq=>by
    rcases hm.T3 t q hq with h | ⟨j,z,h1,h2,h3⟩
    .exact .inl h
    .exact .inr ⟨j,z,.inl h1,h2,h3⟩
   cases hd:o.dst with
   | none=>rw [hd] at hq;exact old hq
   | some d=>
    rw [hd] at hq
    simp only [Zxu] at hq
    by_cases hdt:d=t
    .subst hdt
     rw [Zca] at hq;cases hq
     exact .inr ⟨i,x,.inr rfl,hx,rfl⟩
    .rw [Zb5 _ _ hdt] at hq
     exact old hq
 obtain⟨β,hrr⟩:=hr
 unfold wpOp
 simp only [ho]
 rw [Zvx hrr hgd']
 cases x with
 | none=>
  simp only [Option.isSome_none,Bool.false_eq_true,if_false]
  refine hK _ _ _ _ hmid ⟨β,?_⟩
  cases hd:o.dst with
  | none=>exact hrr
  | some d=>exact hrr.put (p := .tup []) (hdn d hd) (v:=undef) (by simp only [VR,VRs];exact⟨[],rfl,rfl⟩)
 | some s=>
  simp only [Option.isSome_some,if_true]
  refine .inl (hop s rfl G n tm Z a w K Q hopnd ?_ ?_ ⟨β,hrr⟩ ?_)
  .intro l hl
   refine hm.S.agree (Zad4 i (Nat.le_of_lt him)) l (fun j z hz hw=>?_)
   by_cases hji:j=i
   .subst hji
    exact⟨fun h=>absurd h hi,fun h=>absurd h (Nat.lt_irrefl _)⟩
   .obtain⟨h1,h2⟩:=hF.need l hl j z hz hji hw
    constructor
    .intro hLj
     apply Decidable.byContradiction
     intro hge
     exact hnreach _ j (h2 hge) hLj
    .intro hlt
     exact hreach _ j (h1 hlt)
  .intro l y hly hnr
   obtain⟨f1,f2,f3⟩:=hF.fresh (l,y) hly hnr
   have hj':∀ (j:Nat) z,L j->xs[j]?=some z->(Z4k z).has l=false/\(∀ q∈Zin z,q.2.has l=false)/\get (Zin z) l=none:=by
    intro j z hLj hz
    have hji:j≠i:=fun e=>hi (e▸hLj)
    rcases f3 j z (hLm j hLj) hji hz with h | h
    .refine⟨h.1,h.2.2,?_⟩
     cases hg:get (Zin z) l with
     | none=>rfl
     | some u=>exact absurd (Za5v hg) h.2.1
    .exact absurd hLj (hnreach _ j h)
   refine⟨fun t q hq=>?_,fun m z hz=>?_⟩
   .rcases hm.T3 t q hq with h | ⟨j,z,h1,h2,h3⟩
    .exact f1 _ (Zff h)
    .subst h3;exact (hj' j z h1 h2).1
   .rcases hm.S.get hz with h | ⟨j,u,h1,h2,h3⟩
    .exact f2 _ (Zff h)
    .refine⟨fun e=>?_,(hj' j u h1 h2).2.1 _ (Zff h3)⟩
     subst e
     rw [(hj' j u h1 h2).2.2] at h3;cases h3
  .rintro v w' ⟨β',hβ',hv⟩
   refine hK _ _ _ _ hmid ⟨β',?_⟩
   cases hd:o.dst with
   | none=>exact hβ'
   | some d=>exact hβ'.put (hdn d hd) hv
end
end Go.PW
