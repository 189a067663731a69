import Derived.Test.YtchddhcajpagjaaGreatPwD
import Derived.Laws.StructEq
import Derived.ChangeKeysEq
set_option linter.all false
namespace Go.PW
open Go.RowKit
section
variable {P:Program} {ops:Array Oper}
def unl(ops:Array Oper)(listed:Array Bool):Nat:=((List.range ops.size).filter fun j => !listed.getD j false).length
theorem Zbdy{listed:Array Bool}{i:Nat}(hi:i < ops.size)(hs:listed.size=ops.size)(hu:listed.getD i false=false):unl ops (listed.setIfInBounds i true) < unl ops listed:=by
 unfold unl
 have h1:(List.range ops.size).filter (fun j => !(listed.setIfInBounds i true).getD j false)=((List.range ops.size).filter fun j => !listed.getD j false).filter (fun j=>j != i):=by
  rw [List.filter_filter]
  refine List.filter_congr fun j hj=>?_
  by_cases hji:j=i
  .subst hji
   simp [hs,hi]
  .have:(listed.setIfInBounds i true).getD j false=listed.getD j false:=getD_set_ne false (Ne.symm hji)
   rw [this]
   simp [hji]
 rw [h1,List.length_filter_lt_length_iff_exists]
 exact⟨i,by simp only [List.mem_filter,List.mem_range];exact⟨hi,by rw [hu];rfl⟩,by simp⟩
theorem Za81{listed:Array Bool}(h:unl ops listed=0):∀ j,j < ops.size->listed.getD j false=true:=by
 intro j hj
 unfold unl at h
 have:=List.eq_nil_of_length_eq_zero h
 cases hb:listed.getD j false with
 | true=>rfl
 | false=>
  have hm:j∈(List.range ops.size).filter fun j => !listed.getD j false:=by simp only [List.mem_filter,List.mem_range];exact⟨hj,by rw [hb];rfl⟩
  rw [this] at hm
  cases hm
theorem Zaoi{listed:Array Bool}{j:Nat}(hj:j < listed.size):listed.getD j true=listed.getD j false:=by simp [hj]
theorem mem_ready'{listed:Array Bool}(hs:listed.size=ops.size){j:Nat}(h:j∈Region.ready .any ops listed):j < ops.size/\listed.getD j false=false/\∃ o,ops[j]?=some o/\∀ e∈o.after,Region.binds .any e=true->listed.getD e.on false=true:=by
 obtain⟨h0,o,ho,hall⟩:=mem_ready.1 h
 have hj:j < ops.size:=(Array.getElem?_eq_some_iff.1 ho).1
 exact⟨hj,by rw [<- Zaoi O];exact h0,o,ho,hall⟩
theorem Zauf{Q:Exit->St->Prop}{m:Nat}(hbacks:∀ j,j < ops.size->∃ o,ops[j]?=some o/\Zog o j=true)(htail:∀ j,m<=j->j < ops.size->∃ o,ops[j]?=some o/\Zog o j=true/\∀ i,i < j->Zfh ops ops.size j i=true)(G:Frm) :
 ∀ (fuel j:Nat) (listed:Array Bool) (st:St) (a:Act) (w:World),m<=j->ops.size<=j+fuel->listed.size=ops.size->(∀ i,i < ops.size->(listed.getD i false=true↔i < j)) ->
  Zc1 P ops (Q .normal) (ops.toList.drop j) st->Rel G st a w ->
  wpAny P .any ops (fun e a' w'=>∃ st',Q e st'/\Rel G st' a' w') fuel listed a w
 | 0,j,listed,st,a,w,hmj,hf,hs,hl,hp,hr=>by
  have hdrop:ops.toList.drop j=[]:=List.drop_eq_nil_of_le (by simp;omega)
  rw [hdrop] at hp
  obtain⟨st',hw,hq⟩:=hp
  refine⟨?_,st',hq,hw G a w hr⟩
  cases hrd:Region.ready .any ops listed with
  | nil=>rfl
  | cons i l=>
   obtain⟨hi,hu,_⟩:=mem_ready' hs (j:=i) (by rw [hrd];exact List.mem_cons_self ..)
   rw [(hl i hi).2 O] at hu;cases hu
 | fuel+1,j,listed,st,a,w,hmj,hf,hs,hl,hp,hr=>by
  rcases Nat.lt_or_ge j ops.size with hj | hj
  case inr=>
   have hdrop:ops.toList.drop j=[]:=List.drop_eq_nil_of_le (by simp;omega)
   rw [hdrop] at hp
   obtain⟨st',hw,hq⟩:=hp
   have hnil:Region.ready .any ops listed=[]:=by
    cases hrd:Region.ready .any ops listed with
    | nil=>rfl
    | cons i l=>
     obtain⟨hi,hu,_⟩:=mem_ready' hs (j:=i) (by rw [hrd];exact List.mem_cons_self ..)
     rw [(hl i hi).2 O] at hu;cases hu
   exact⟨fun _=>⟨st',hq,hw G a w hr⟩,fun i hi=>by rw [hnil] at hi;cases hi⟩
  obtain⟨o,ho,hback,_⟩:=htail j hmj hj
  have hrj:j∈Region.ready .any ops listed:=by
   refine mem_ready.2 ⟨?_,o,ho,fun e he hb=>?_⟩
   .rw [Zaoi O]
    cases hb:listed.getD j false with
    | false=>rfl
    | true=>have:=(hl j hj).1 hb;omega
   .have:=List.all_eq_true.1 hback e (by simpa using he)
    simp only [Bool.or_eq_true,Bool.not_eq_true',hb,Bool.true_eq_false,false_or,Zsd] at this
    exact (hl e.on O).2 this
  refine⟨fun h=>(by rw [h] at hrj;cases hrj),fun i hi=>?_⟩
  obtain⟨hin,hu,oi,hoi,hall⟩:=mem_ready' hs hi
  have hij:i=j:=by
   rcases Nat.lt_trichotomy i j with h | h | h
   .rw [(hl i hin).2 h] at hu;cases hu
   .exact h
   .obtain⟨o',ho',_,hd⟩:=htail i O hin
    have hback1:∀ (k:Nat) ok,ops[k]?=some ok->∀ e∈ok.after,Region.binds .any e=true->e.on < k:=fun k ok hok e he hb=>by
     obtain⟨o3,ho3,hb3⟩:=hbacks k (Array.getElem?_eq_some_iff.1 hok).1
     rw [hok] at ho3;cases ho3
     have:=List.all_eq_true.1 hb3 e (by simpa using he)
     simpa only [Bool.or_eq_true,Bool.not_eq_true',hb,Bool.true_eq_false,false_or,Zsd] using this
    have hclosed:Zaj5 ops (fun k=>k < j):=fun k ok hk hok e he hb=>Nat.lt_trans (hback1 k ok hok e he hb) hk
    have:=Zsw hclosed ops.size i j (fun o3 ho3 e he hb=>by
     rw [hoi] at ho3;cases ho3
     have h1:=hall e he hb
     have h2:=hback1 i oi hoi e he hb
     exact (hl e.on O).1 h1) (hd j h)
    omega
  subst hij
  rw [ho] at hoi;cases hoi
  have hcons:ops.toList.drop i=o::ops.toList.drop (i+1):=by
   have h1:ops.toList[i]?=some o:=by simpa using ho
   have hi':i < ops.toList.length:=by simpa using hj
   have h2:=List.getElem?_eq_getElem hi'
   rw [h1] at h2
   rw [List.drop_eq_getElem_cons hi',<- Option.some.inj h2]
  rw [hcons] at hp
  have hlisted:∀ k,k < ops.size->((listed.setIfInBounds i true).getD k false=true↔k < i+1):=by
   intro k hk
   by_cases hki:k=i
   .subst hki;simp [hs,hk]
   .rw [getD_set_ne false (Ne.symm hki),hl k hk];omega
  unfold wpOp
  simp only [ho]
  have:=hp G a w hr (wpAny P .any ops (fun e a' w'=>∃ st',Q e st'/\Rel G st' a' w') fuel (listed.setIfInBounds i true)) (fun e a' w'=>∃ st',Q e st'/\Rel G st' a' w')
   (fun a' w' st' hs' hr'=>Zauf hbacks htail G fuel (i+1) _ st' a' w' O O (by simpa using hs) hlisted hs' hr')
  split
  .rename_i hw;simp only [hw,if_true] at this;exact .inl this
  .rename_i hw;simpa [hw] using this
theorem Za82{Q:Exit->St->Prop}{n:Nat}{xs:List (Option Stm)}{tm0:List (Nat×PV)}{σ0:List (Nat×Blk)}{pre suf:List Oper}
 (hops:ops.toList=pre++suf) (hplan:Zey P ops n pre xs tm0 σ0) (hs:Zv9 ops xs tm0 σ0=true) (hp:Zc1 P ops (Q .normal) suf ⟨n,Zgu pre xs tm0,Zmq xs σ0⟩) (G:Frm) :
 ∀ (fuel:Nat) (listed:Array Bool) (tm:List (Nat×PV)) (Z:List (Nat×Blk)) (a:Act) (w:World),unl ops listed<=fuel->listed.size=ops.size->(∀ j,listed.getD j false=true->j < xs.length) ->
  Mid ops xs tm0 σ0 (fun j=>listed.getD j false=true) tm Z->Rel G ⟨n,tm,Z⟩ a w ->
  wpAny P .any ops (fun e a' w'=>∃ st',Q e st'/\Rel G st' a' w') fuel listed a w:=by
 have hlen:=Zey.length _ _ _ _ hplan
 have hsz:ops.size=pre.length+suf.length:=by rw [<- Array.length_toList,hops,List.length_append]
 have hpre:∀ (j:Nat),j < xs.length->ops[j]?=pre[j]?:=fun j hj=>by
  rw [<- Array.getElem?_toList,hops,List.getElem?_append_left O]
 have hs':=hs
 simp only [Zv9,Bool.and_eq_true] at hs'
 have htail:∀ j,xs.length<=j->j < ops.size->∃ o,ops[j]?=some o/\Zog o j=true/\∀ i,i < j->Zfh ops ops.size j i=true:=by
  intro j hj hjn
  have:=List.all_eq_true.1 hs'.2 j (by simpa using hjn)
  have hnb:Nat.blt j xs.length=false:=by
   cases hb:Nat.blt j xs.length with
   | false=>rfl
   | true=>have:=(Zsd _ _).1 hb;omega
  simp only [hnb,Bool.false_or] at this
  split at this
  .rename_i o ho
   simp only [Bool.and_eq_true] at this
   exact⟨o,ho,this.1,fun i hi=>List.all_eq_true.1 this.2 i (by simpa using hi)⟩
  .cases this
 have hbackP:∀ j,j < xs.length->∃ o,ops[j]?=some o/\Zog o j=true:=by
  intro j hj
  have:=List.all_eq_true.1 hs'.1 j (by simpa using hj)
  split at this
  .rename_i o x ho hx
   simp only [Z5w,Bool.and_eq_true] at this
   exact⟨o,ho,this.1.1.1.1.1⟩
  .cases this
 have hbacks:∀ j,j < ops.size->∃ o,ops[j]?=some o/\Zog o j=true:=fun j hj=>by
  rcases Nat.lt_or_ge j xs.length with h | h
  .exact hbackP j h
  .obtain⟨o,ho,hb,_⟩:=htail j h hj
   exact⟨o,ho,hb⟩
 intro fuel
 induction fuel with
 | zero=>
  intro listed tm Z a w hf hls hLm hm hr
  have hall:=Za81 (Nat.le_zero.1 hf)
  have hsuf:suf=[]:=by
   cases suf with
   | nil=>rfl
   | cons o l=>exfalso;have:=hLm xs.length (hall _ (by simp at hsz;omega));omega
  refine⟨?_,?_⟩
  .cases hrd:Region.ready .any ops listed with
   | nil=>rfl
   | cons i l=>
    obtain⟨hi,hu,_⟩:=mem_ready' hls (j:=i) (by rw [hrd];exact List.mem_cons_self ..)
    rw [hall i hi] at hu;cases hu
  .subst hsuf
   obtain⟨st',hw,hq⟩:=hp
   refine⟨st',hq,hw G a w ?_⟩
   obtain⟨β,hrr⟩:=hr
   refine⟨β,hrr.sub (Nat.le_refl _) (fun t q hq=>?_) (fun l y hl=>?_)⟩
   .have hgt:get tm t=some q:=by
     rcases Zsx _ _ _ t q hlen hq with ⟨j,oj,xj,h1,h2,h3,h4⟩ | ⟨h1,h2⟩
     .have hj:j < xs.length:=(List.getElem?_eq_some_iff.1 h2).1
      subst h4
      exact hm.T1 j oj xj t (hall j O) (by rw [hpre j hj];exact h1) h2 h3
     .exact hm.T2 t q (fun j oj hLj hoj=>h2 j oj (by rw [<- hpre j (hLm j hLj)];exact hoj)) h1
    exact⟨hgt,(hrr.tm t q hgt).1⟩
   .rw [hm.S.agree (Zad4 xs.length (Nat.le_refl _)) l (fun j z hz _=>⟨fun h=>hLm j h,fun h=>hall j O⟩),List.take_length]
    exact hl
 | succ fuel ih=>
  intro listed tm Z a w hf hls hLm hm hr
  by_cases hfull:∀ j,j < xs.length->listed.getD j false=true
  ·-- the head is done
   have hl:∀ i,i < ops.size->(listed.getD i false=true↔i < xs.length):=fun i _=>⟨hLm i,hfull i⟩
   have hcount:ops.size<=xs.length+(fuel+1):=by
    have h1:(List.range ops.size).filter (fun j => !listed.getD j false)=(List.range' xs.length (ops.size - xs.length)):=by
     have hr1:List.range ops.size=List.range' 0 xs.length++List.range' xs.length (ops.size - xs.length):=by
      rw [List.range_eq_range']
      have:=List.range'_append (s:=0) (m:=xs.length) (n:=ops.size - xs.length) (step:=1)
      simp only [Nat.one_mul,Nat.zero_add] at this
      rw [this]
      congr 1
      omega
     rw [hr1,List.filter_append]
     have e1:(List.range' 0 xs.length).filter (fun j => !listed.getD j false)=[]:=by
      rw [List.filter_eq_nil_iff]
      intro j hj
      simp only [List.mem_range'_1] at hj
      rw [hfull j O];simp
     have e2:(List.range' xs.length (ops.size - xs.length)).filter (fun j => !listed.getD j false)=List.range' xs.length (ops.size - xs.length):=by
      rw [List.filter_eq_self]
      intro j hj
      simp only [List.mem_range'_1] at hj
      cases hb:listed.getD j false with
      | false=>rfl
      | true=>have:=hLm j hb;omega
     rw [e1,e2,List.nil_append]
    unfold unl at hf
    rw [h1,List.length_range'] at hf
    omega
   refine Zauf (m:=xs.length) hbacks htail G (fuel+1) xs.length listed _ a w (Nat.le_refl _) hcount hls hl (by rw [hops,<- hlen,List.drop_left];exact hp) ?_
   obtain⟨β,hrr⟩:=hr
   refine⟨β,hrr.sub (Nat.le_refl _) (fun t q hq=>?_) (fun l y hl=>?_)⟩
   .have hgt:get tm t=some q:=by
     rcases Zsx _ _ _ t q hlen hq with ⟨j,oj,xj,h1,h2,h3,h4⟩ | ⟨h1,h2⟩
     .have hj:j < xs.length:=(List.getElem?_eq_some_iff.1 h2).1
      subst h4
      exact hm.T1 j oj xj t (hfull j hj) (by rw [hpre j hj];exact h1) h2 h3
     .exact hm.T2 t q (fun j oj hLj hoj=>h2 j oj (by rw [<- hpre j (hLm j hLj)];exact hoj)) h1
    exact⟨hgt,(hrr.tm t q hgt).1⟩
   .rw [hm.S.agree (Zad4 xs.length (Nat.le_refl _)) l (fun j z hz _=>⟨fun h=>hLm j h,fun h=>hfull j h⟩),List.take_length]
    exact hl
  ·-- the head is not done: the first that is not carried out is ready
   have hex:∃ j,j < xs.length/\listed.getD j false=false/\∀ i,i < j->listed.getD i false=true:=by
    apply Decidable.byContradiction
    intro hno
    apply hfull
    intro j
    induction j using Nat.strongRecOn with
    | _ j ihj=>
     intro hj
     cases hb:listed.getD j false with
     | true=>rfl
     | false=>exact absurd ⟨j,hj,hb,fun i hi=>ihj i hi O⟩ hno
   obtain⟨j,hj,hjf,hjl⟩:=hex
   obtain⟨oj,hoj,hbj⟩:=hbackP j hj
   have hrj:j∈Region.ready .any ops listed:=by
    refine mem_ready.2 ⟨?_,oj,hoj,fun e he hb=>?_⟩
    .rw [Zaoi O];exact hjf
    .have:=List.all_eq_true.1 hbj e (by simpa using he)
     simp only [Bool.or_eq_true,Bool.not_eq_true',hb,Bool.true_eq_false,false_or,Zsd] at this
     exact hjl _ this
   refine⟨fun h=>(by rw [h] at hrj;cases hrj),fun i hi=>?_⟩
   obtain⟨hin,hu,oi,hoi,hall⟩:=mem_ready' hls hi
   have him:i < xs.length:=by
    rcases Nat.lt_or_ge i xs.length with h | h
    .exact h
    .obtain⟨o',ho',_,hd⟩:=htail i h hin
     have:=Zsw hm.closed ops.size i j (fun o3 ho3 e he hb=>by rw [hoi] at ho3;cases ho3;exact hall e he hb) (hd j O)
     rw [hjf] at this;cases this
   have hxi:xs[i]?=some xs[i]:=List.getElem?_eq_getElem him
   refine hm.next hops hplan hs hoi hxi (by rw [hu];simp) hLm hall hr ?_
   intro a' w' tm' Z' hm' hr'
   have hfun:(fun k=>listed.getD k false=true\/k=i)=(fun k=>(listed.setIfInBounds i true).getD k false=true):=by
    funext k
    by_cases hki:k=i
    .subst hki;simp [hls,hin]
    .rw [getD_set_ne false (Ne.symm hki)];simp [hki]
   rw [hfun] at hm'
   have hlt:=Zbdy hin hls hu
   refine ih _ tm' Z' a' w' O (by simpa using hls) (fun k hk=>?_) hm' hr'
   by_cases hki:k=i
   .subst hki;exact him
   .rw [getD_set_ne false (Ne.symm hki)] at hk;exact hLm k hk
theorem Zan.drew{G:Frm}{β:Nat->Option Nat}{st:St}{a:Act}{w:World}(h:Zan G β st a w):Zan G β st a w.drew:=by
 have hI:∀ b,(ctx G β w st.Z).I b->(ctx G β w.drew st.Z).I b/\(ctx G β w.drew st.Z).w.heap[b]?=(ctx G β w st.Z).w.heap[b]?:=fun b hb=>⟨hb,rfl⟩
 have hL:∀ l,Zal (ctx G β w st.Z) (ctx G β w.drew st.Z) l:=fun l=>Zal.same rfl rfl (fun _ _=>rfl)
 exact { defers := h.defers, sz := h.sz, base := h.base, os := h.os, tape := h.tape, output := h.output, old := h.old, A := h.A, gl := h.gl, inj := h.inj, sep := h.sep, fix := h.fix, row0 := h.row0.step (fun l _ => hL l),
         blk:=fun l o hl=>BR.step hI rfl (fun _ _=>rfl) (fun m _=>hL m) (h.blk l o hl),
         tm:=fun i p hp=>⟨(h.tm i p hp).1,VR.step hI _ _ (fun m _=>hL m) (h.tm i p hp).2⟩ }
theorem Za83{Q:Exit->St->Prop}{st:St}(xs:List (Option Stm))(pre suf:List Oper)(hops:ops.toList=pre++suf)
 (hplan:Zey P ops st.n pre xs st.tm st.Z) (hs:Zv9 ops xs st.tm st.Z=true) (hp:Zc1 P ops (Q .normal) suf ⟨st.n,Zgu pre xs st.tm,Zmq xs st.Z⟩) {G:Frm} {a:Act} {w:World} (hr:Rel G st a w) :
 wpAny P .any ops (fun e a' w'=>∃ st',Q e st'/\Rel G st' a' w') ops.size (Array.replicate ops.size false) a w.drew:=by
 have hr':Rel G st a w.drew:=by obtain⟨β,h⟩:=hr;exact⟨β,h.drew⟩
 refine Za82 (Q:=Q) hops hplan hs hp G ops.size (Array.replicate ops.size false) st.tm st.Z a w.drew ?_ (by simp) (fun j hj=>?_) ?_ hr'
 .unfold unl
  rw [List.filter_eq_self.2]
  .simp
  .intro j hj
   simp only [List.mem_range] at hj
   simp [hj]
 .exfalso
  rcases Nat.lt_or_ge j ops.size with h | h<;>simp [h] at hj
 .have hno:∀ j,¬ ((Array.replicate ops.size false).getD j false=true):=by
   intro j hj
   rcases Nat.lt_or_ge j ops.size with h | h<;>simp [h] at hj
  exact⟨fun i _ hi=>absurd hi (hno i),fun j _ _ _ hj=>absurd hj (hno j),fun _ _ _ h=>h,fun _ _ h => .inl h,fun l => .inr ⟨fun j _ hj=>absurd hj (hno j),rfl⟩⟩
theorem PW.region_draw{Q:Exit->St->Prop}{id:Nat}{st:St}(hm:P.follows .mixedOrders=true)(xs:List (Option Stm))(pre suf:List Oper)(hops:ops.toList=pre++suf)
 (hplan:Zey P ops st.n pre xs st.tm st.Z) (hs:Zv9 ops xs st.tm st.Z=true) (hp:Zc1 P ops (Q .normal) suf ⟨st.n,Zgu pre xs st.tm,Zmq xs st.Z⟩) :
 PW P (.region id ops true) Q st:=fun _ _ _ hr=>wp_region_any hm (Za83 xs pre suf hops hplan hs hp hr)
end
end Go.PW
namespace Go.PW
open Go.RowKit
inductive LK where
 | b | i (k:IntKind) | s
 deriving DecidableEq
def LK.fits:LK->Zf->Bool
 | .b,.bool _=>true
 | .i k,.int k' _=>decide (k=k')
 | .s,.str _=>true
 | _,_=>false
def fits:List LK->List Zf->Bool
 | [],[]=>true
 | k::ks,t::ts=>k.fits t&&fits ks ts
 | _,_=>false
def Zmr:Zf->Value
 | .bool b => .bool b
 | .int k n => .int k n
 | .str s => .string ⟨s.toArray⟩
 | .con v=>v
 | .sl _=>undef
def Zm7:Zf->Zf->Bool
 | .bool a,.bool b=>a==b
 | .int _ a,.int _ b=>a==b
 | .str a,.str b=>a==b
 | _,_=>false
def Zy:List Zf->List Zf->Bool
 | [],[]=>true
 | a::as,b::bs=>Zm7 a b&&Zy as bs
 | _,_=>false
def Z5x(P:Program)(F:TypeId->Option (List LK)):List Field->Nat->Option (List LK)
 | [],_=>some []
 | f :: fs, off => if f.name = "_" \/ f.offset ≠ off then none else
  match F f.type with
  | none=>none
  | some l=>if P.cellsOf f.type≠l.length then none else (Z5x P F fs (off+l.length)).map (l ++ ·)
def Zjh(P:Program):Nat->TypeId->Option (List LK)
 | 0,_=>none
 | d+1,t=>
  match P.underlying t with
  | some .bool=>some [.b]
  | some (.int k)=>some [.i k]
  | some .string=>some [.s]
  | some (.array n e)=>
   match Zjh P d e with
   | some l=>if P.cellsOf e=l.length/\(P.info? e).isSome then some (List.replicate n l).flatten else none
   | none=>none
  | some (.struct fs)=>if P.stoodInHeld t then none else Z5x P (Zjh P d) fs.toList 0
  | _=>none
def Zms(P:Program)(t:TypeId)(xs:List Zf):Value:=
 match P.underlying t with
 | some (.struct _) | some (.array _ _) => .agg (xs.map Zmr).toArray
 | _=>Zmr (xs.headD default)
theorem Zvy{a b:List LK}:∀ {xs:List Zf},fits (a++b) xs=true->fits a (xs.take a.length)=true/\fits b (xs.drop a.length)=true/\a.length<=xs.length:=by
 induction a with
 | nil=>intro xs h;exact⟨by simp [fits],by simpa using h,by simp⟩
 | cons k a ih=>
  intro xs h
  cases xs with
  | nil=>simp [fits] at h
  | cons x xs=>
   simp only [List.cons_append,fits,Bool.and_eq_true] at h
   obtain⟨h1,h2,h3⟩:=ih h.2
   exact⟨by simp [fits,h.1,h1],by simpa using h2,by simpa using h3⟩
theorem Zvz{a:List LK}:∀ {xs:List Zf},fits a xs=true->xs.length=a.length:=by
 induction a with
 | nil=>intro xs h;cases xs<;>simp [fits] at h ⊢
 | cons k a ih=>
  intro xs h
  cases xs with
  | nil=>simp [fits] at h
  | cons x xs=>simp only [fits,Bool.and_eq_true] at h;simp [ih h.2]
theorem Zaug{k:IntKind}{xs:List Zf}(h:fits [.i k] xs=true):∃ a,xs=[.int k a]:=by
 cases xs with
 | nil=>simp [fits] at h
 | cons x xs=>
  simp only [fits,Bool.and_eq_true] at h
  have hn:xs=[]:=by cases xs<;>simp [fits] at h ⊢
  subst hn
  cases x<;>simp only [LK.fits,Bool.false_eq_true,false_and] at h
  rename_i k' a
  have hk:k=k':=of_decide_eq_true h.1
  subst hk
  exact⟨a,rfl⟩
theorem Zv0:∀ (as bs cs ds:List Zf),as.length=bs.length->Zy (as++cs) (bs++ds)=(Zy as bs&&Zy cs ds)
 | [],[],cs,ds,_=>by simp [Zy]
 | a::as,b::bs,cs,ds,h=>by simp [Zy,Zv0 as bs cs ds (by simpa using h),Bool.and_assoc]
 | [],_::_,_,_,h=>by simp at h
 | _::_,[],_,_,h=>by simp at h
theorem Z2b{P:Program}(w:World){t:TypeId}{l:List LK}{d:Nat}(hf:Zjh P d t=some l)(hc:P.cellsOf t=l.length)(xs:List Zf)(off:Nat)(h:off+l.length<=xs.length) :
 (part t (xs.map Zmr).toArray off).run P w = .ok (Zms P t ((xs.drop off).take l.length)) w:=by
 cases d with
 | zero=>simp [Zjh] at hf
 | succ d=>
  have hinfo:∃ i,P.info? t=some i:=by
   unfold Zjh at hf
   cases hu:P.underlying t with
   | none=>simp [hu] at hf
   | some _=>exact info_of_underlying hu
  obtain⟨i,hi⟩:=hinfo
  have hsz:i.size=l.length:=by simpa [Program.cellsOf,hi] using hc
  have one:l.length=1->(xs.map Zmr).toArray[off]?=some (Zmr (((xs.drop off).take l.length).headD default)):=by
   intro h1
   rw [h1] at h ⊢
   have hlt:off < xs.length:=by omega
   simp [List.headD_eq_head?_getD,List.head?_take,hlt]
  unfold Zjh at hf
  cases hu:P.underlying t with
  | none=>simp [hu] at hf
  | some kd=>
   cases kd<;>simp only [hu] at hf<;>try (cases hf;done)
   case struct fs=>simp [part,isAgg,run_underlying hu,sizeOf,typeInfo,hi,hsz,Zms,hu]
   case array n e=>simp [part,isAgg,run_underlying hu,sizeOf,typeInfo,hi,hsz,Zms,hu]
   all_goals
    cases hf
    have:=one rfl
    simp only [part,isAgg,Sem.run_bind,run_underlying hu,Result.andThen_ok,Sem.run_pure,Bool.false_eq_true,if_false,this,Zms,hu]
def Zauh(P:Program)(d:Nat)(t:TypeId)(l:List LK):Prop:=
 ∀ (w:World) (xs ys:List Zf),fits l xs=true->fits l ys=true->(Op.equalIn d t (Zms P t xs) (Zms P t ys)).run P w = .ok (Zy xs ys) w
theorem Z88{P:Program}(D d:Nat)(IH:∀ t l,Zjh P d t=some l->Zauh P (D+d) t l)(X Y:List Zf):∀ (fs:List Field) (off:Nat) (ks:List LK),
 Z5x P (Zjh P d) fs off=some ks->fits ks (X.drop off)=true->fits ks (Y.drop off)=true->off<=X.length->off<=Y.length->∀ w,
 (Op.eqFields (D+d) (X.map Zmr).toArray (Y.map Zmr).toArray fs).run P w = .ok (Zy (X.drop off) (Y.drop off)) w
 | [],off,ks,h,hx,hy,_,_,w=>by
  simp only [Z5x,Option.some.injEq] at h
  subst h
  have h1:=Zvz hx
  have h2:=Zvz hy
  rw [List.eq_nil_of_length_eq_zero h1,List.eq_nil_of_length_eq_zero h2]
  simp [Op.eqFields,Zy]
 | f::fs,off,ks,h,hx,hy,hox,hoy,w=>by
  simp only [Z5x] at h
  split at h
  .cases h
  rename_i hn
  simp only [not_or,ne_eq,Decidable.not_not] at hn
  cases hF:Zjh P d f.type with
  | none=>simp [hF] at h
  | some l=>
   simp only [hF] at h
   split at h
   .cases h
   rename_i hc
   simp only [ne_eq,Decidable.not_not] at hc
   cases hr:Z5x P (Zjh P d) fs (off+l.length) with
   | none=>simp [hr] at h
   | some rs=>
    simp only [hr,Option.map_some,Option.some.injEq] at h
    subst h
    obtain⟨hx1,hx2,hx3⟩:=Zvy hx
    obtain⟨hy1,hy2,hy3⟩:=Zvy hy
    simp only [List.length_drop] at hx3 hy3
    rw [List.drop_drop] at hx2 hy2
    have hpx:=Z2b w hF hc X off O
    have hpy:=Z2b w hF hc Y off O
    have heq:=IH _ _ hF w _ _ hx1 hy1
    have ih:=Z88 D d IH X Y fs (off+l.length) rs hr hx2 hy2 O O w
    have hsplit:Zy (X.drop off) (Y.drop off)=(Zy ((X.drop off).take l.length) ((Y.drop off).take l.length)&&Zy (X.drop (off+l.length)) (Y.drop (off+l.length))):=by
     conv=>lhs;rw [<- List.take_append_drop l.length (X.drop off),<- List.take_append_drop l.length (Y.drop off)]
     rw [Zv0 _ _ _ _ (by simp;omega),List.drop_drop,List.drop_drop]
    simp only [Op.eqFields,ne_eq,hn.1,not_false_eq_true,if_true,Sem.run_bind,hn.2,hpx,hpy,heq,Result.andThen_ok]
    cases hb:Zy ((X.drop off).take l.length) ((Y.drop off).take l.length) with
    | false=>simp [hsplit,hb]
    | true=>simp [hsplit,hb,ih]
theorem Zaa4{P:Program}(D d:Nat){e:TypeId}{l:List LK}(he:Zjh P d e=some l)(hc:P.cellsOf e=l.length)(IH:Zauh P (D+d) e l)(X Y:List Zf)(w:World):∀ (n i:Nat),
 fits (List.replicate n l).flatten (X.drop (i*l.length))=true->fits (List.replicate n l).flatten (Y.drop (i*l.length))=true->i*l.length<=X.length->i*l.length<=Y.length ->
 (Op.eqItems (D+d) e (P.cellsOf e) (X.map Zmr).toArray (Y.map Zmr).toArray (List.range' i n)).run P w = .ok (Zy (X.drop (i*l.length)) (Y.drop (i*l.length))) w
 | 0,i,hx,hy,_,_=>by
  have h1:=Zvz hx
  have h2:=Zvz hy
  simp only [List.replicate_zero,List.flatten_nil,List.length_nil] at h1 h2
  rw [List.eq_nil_of_length_eq_zero h1,List.eq_nil_of_length_eq_zero h2]
  simp [Op.eqItems,Zy]
 | n+1,i,hx,hy,hox,hoy=>by
  rw [List.replicate_succ,List.flatten_cons] at hx hy
  obtain⟨hx1,hx2,hx3⟩:=Zvy hx
  obtain⟨hy1,hy2,hy3⟩:=Zvy hy
  simp only [List.length_drop] at hx3 hy3
  rw [List.drop_drop] at hx2 hy2
  have hpx:=Z2b w he hc X (i*l.length) O
  have hpy:=Z2b w he hc Y (i*l.length) O
  have heq:=IH w _ _ hx1 hy1
  have hmul:(i+1)*l.length=i*l.length+l.length:=by rw [Nat.add_mul,Nat.one_mul]
  have ih:=Zaa4 D d he hc IH X Y w n (i+1) (by rw [hmul];exact hx2) (by rw [hmul];exact hy2) O O
  rw [hmul] at ih
  have hsplit:Zy (X.drop (i*l.length)) (Y.drop (i*l.length))=(Zy ((X.drop (i*l.length)).take l.length) ((Y.drop (i*l.length)).take l.length)&&Zy (X.drop (i*l.length+l.length)) (Y.drop (i*l.length+l.length))):=by
   conv=>lhs;rw [<- List.take_append_drop l.length (X.drop (i*l.length)),<- List.take_append_drop l.length (Y.drop (i*l.length))]
   rw [Zv0 _ _ _ _ (by simp;omega),List.drop_drop,List.drop_drop]
  rw [hc] at ih ⊢
  simp only [List.range'_succ,Op.eqItems,Sem.run_bind,hpx,hpy,heq,Result.andThen_ok]
  cases hb:Zy ((X.drop (i*l.length)).take l.length) ((Y.drop (i*l.length)).take l.length) with
  | false=>simp [hsplit,hb]
  | true=>simp [hsplit,hb,ih]
theorem Z7l{P:Program}(D:Nat):∀ (d:Nat) (t:TypeId) (l:List LK),Zjh P d t=some l->Zauh P (D+d) t l
 | 0,_,_,h=>by simp [Zjh] at h
 | d+1,t,l,h=>by
  intro w xs ys hx hy
  have h0:=h
  unfold Zjh at h
  cases hu:P.underlying t with
  | none=>simp [hu] at h
  | some kd=>
   cases kd<;>simp only [hu] at h<;>try (cases h;done)
   case bool=>
    cases h
    match xs,ys,hx,hy with
    | [.bool a],[.bool b],_,_=>simp only [Zms,hu,List.headD_cons,Zmr,Zy,Zm7,Bool.and_true];exact run_equalIn_bool' w (D+d) t a b hu
   case int k=>
    cases h
    obtain⟨a,rfl⟩:=Zaug hx
    obtain⟨b,rfl⟩:=Zaug hy
    simp only [Zms,hu,List.headD_cons,Zmr,Zy,Zm7,Bool.and_true]
    exact run_equalIn_int w (D+d) t _ _ a b hu
   case string=>
    cases h
    match xs,ys,hx,hy with
    | [.str a],[.str b],_,_=>
     simp only [Zms,hu,List.headD_cons,Zmr,Zy,Zm7,Bool.and_true]
     rw [show D+(d+1)=(D+d)+1 from rfl,run_equalIn_string w (D+d) t _ _ hu,ByteArray.toList_eq,ByteArray.toList_eq]
   case array n e=>
    cases he:Zjh P d e with
    | none=>simp [he] at h
    | some le=>
     simp only [he] at h
     split at h
     .rename_i hc
      cases h
      obtain⟨i,hi⟩:=Option.isSome_iff_exists.1 hc.2
      simp only [Zms,hu]
      rw [show D+(d+1)=(D+d)+1 from rfl,run_equalIn_array w (D+d) _ _ hu hi,List.range_eq_range']
      simpa using Zaa4 D d he hc.1 (Z7l D d e le he) xs ys w n 0 (by simpa using hx) (by simpa using hy) (by simp) (by simp)
     .cases h
   case struct fs=>
    split at h
    .cases h
    rename_i hst
    simp only [Zms,hu]
    have hfs:P.fieldsOf t=fs:=by simp [Program.fieldsOf,hu]
    rw [show D+(d+1)=(D+d)+1 from rfl,run_equalIn_struct w (D+d) t _ _ (by rw [hfs];exact hu) (by simpa using hst),hfs]
    simpa using Z88 D d (fun t' l' h'=>Z7l D d t' l' h') xs ys fs.toList 0 l h (by simpa using hx) (by simpa using hy) (by simp) (by simp) w
end Go.PW
