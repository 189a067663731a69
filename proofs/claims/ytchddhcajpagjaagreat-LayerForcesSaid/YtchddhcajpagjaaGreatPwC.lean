import Derived.Test.YtchddhcajpagjaaGreatPwB
set_option linter.all false
namespace Go.PW
open Go.RowKit
def Zb3(P:Program)(ops:Array Oper)(R:St->Prop):List Oper->St->Prop
 | [],st=>∃ st',Wk st st'/\R st'
 | o::l,st=>∀ G a w,Rel G st a w->∀ (K:Act->World->Prop) (Q:Exit->Act->World->Prop),(∀ a' w' st',Zb3 P ops R l st'->Rel G st' a' w'->K a' w') ->
  if Region.wanted o (yielded ops a.tmps) then o.wp P a w K Q else K (a.put o.dst undef) w
def Zif(ops:Array Oper)(tm:List (Nat×PV))(o:Oper):Option Bool:=
 match o.guard with
 | none=>some true
 | some (g,want)=>
  match (ops[g]?).bind (·.dst) with
  | none=>none
  | some d=>
   match get tm d with
   | some (.t (.bool b))=>some (b==want)
   | some (.tup [])=>some false
   | _=>none
section
variable {P:Program} {ops:Array Oper} {R:St->Prop} {st:St} {o:Oper} {l:List Oper}
theorem Zsb{G:Frm}{β:Nat->Option Nat}{n:Nat}{tm:List (Nat×PV)}{σ:List (Nat×Blk)}{a:Act}{w:World}(h:Zai G β ⟨n,tm,σ⟩ a w){r:Bool}(hg:Zif ops tm o=some r) :
 Region.wanted o (yielded ops a.tmps)=r:=by
 unfold Zif at hg
 unfold Region.wanted
 cases hgu:o.guard with
 | none=>simp [hgu] at hg;simp [hg]
 | some gw=>
  obtain⟨g,want⟩:=gw
  simp only [hgu] at hg ⊢
  unfold yielded
  cases hd:(ops[g]?).bind (·.dst) with
  | none=>simp [hd] at hg
  | some d=>
   simp only [hd] at hg
   simp only [Option.bind_some]
   cases hq:get tm d with
   | none=>simp [hq] at hg
   | some q=>
    obtain⟨hlt,hv⟩:=h.tm d q hq
    have hsz:d < a.tmps.size:=Nat.lt_of_lt_of_le hlt h.sz
    have hgd:a.tmps[d]?=some (a.tmps.getD d undef):=by simp [hsz]
    rw [hgd]
    simp only [hq] at hg
    split at hg
    .rename_i b heq
     cases heq
     simp only [VR,Zy] at hv
     rw [hv]
     cases hg
     rfl
    .rename_i heq
     cases heq
     simp only [VR,VRs] at hv
     obtain⟨vs,hv,rfl⟩:=hv
     rw [hv]
     cases hg
     rfl
    .cases hg
theorem Zb3.wpList{Q:Exit->St->Prop}:∀ (l:List Oper) (st:St),Zb3 P ops (Q .normal) l st->∀ G a w,Rel G st a w ->
 Go.wpList P ops (fun e a' w'=>∃ st',Q e st'/\Rel G st' a' w') l a w
 | [],st,h,G,a,w,hr=>by obtain⟨st',hw,h⟩:=h;exact⟨st',h,hw G a w hr⟩
 | o::l,st,h,G,a,w,hr=>by
  have:=h G a w hr (Go.wpList P ops (fun e a' w'=>∃ st',Q e st'/\Rel G st' a' w') l) (fun e a' w'=>∃ st',Q e st'/\Rel G st' a' w')
   (fun a' w' st' hs hr'=>Zb3.wpList l st' hs G a' w' hr')
  unfold Go.wpList
  split
  .rename_i hw;simp only [hw,if_true] at this;exact .inl this
  .rename_i hw;simpa [hw] using this
theorem PW.region{Q:Exit->St->Prop}{id:Nat}(h:Zb3 P ops (Q .normal) ops.toList st):PW P (.region id ops false) Q st:=
 fun G a w hr=>wp_region_list (Zb3.wpList ops.toList st h G a w hr)
theorem Zb3.nil(h:R st):Zb3 P ops R [] st:=⟨st,Wk.refl st,h⟩
theorem Zb3.weaken{st':St}(hw:Wk st st')(h:Zb3 P ops R l st'):Zb3 P ops R l st:=by
 cases l with
 | nil=>obtain⟨s,hs,h⟩:=h;exact⟨s,hw.trans hs,h⟩
 | cons o l=>exact fun G a w hr=>h G a w (hw G a w hr)
theorem Zb3.step{st':St}(hg:Zif ops st.tm o=some true)(hu:Zq3 P o st st')(h:Zb3 P ops R l st'):Zb3 P ops R (o::l) st:=by
 intro G a w hr K Q hK
 obtain⟨β,hrr⟩:=hr
 rw [Zsb hrr hg]
 simp only [if_true]
 exact hu G a w K Q ⟨β,hrr⟩ (fun a' w' hr'=>hK a' w' st' h hr')
theorem Zb3.skip{d:Nat}(hd:o.dst=some d)(hn:d < st.n)(hg:Zif ops st.tm o=some false)(h:Zb3 P ops R l ⟨st.n,put st.tm d (.tup []),st.σ⟩):Zb3 P ops R (o::l) st:=by
 intro G a w hr K Q hK
 obtain⟨β,hrr⟩:=hr
 rw [Zsb hrr hg]
 simp only [if_false,Bool.false_eq_true]
 refine hK _ _ _ h ⟨β,?_⟩
 rw [hd]
 exact hrr.put hn (by simp only [VR,VRs];exact⟨[],rfl,rfl⟩)
theorem Zb3.skipNone(hd:o.dst=none)(hg:Zif ops st.tm o=some false)(h:Zb3 P ops R l st):Zb3 P ops R (o::l) st:=by
 intro G a w hr K Q hK
 obtain⟨β,hrr⟩:=hr
 rw [Zsb hrr hg]
 simp only [if_false,Bool.false_eq_true]
 refine hK _ _ _ h ⟨β,?_⟩
 rw [hd]
 exact hrr
end
structure Stp where
 need:List Nat
 p:PV
 news:List (Nat×Blk)
structure Stm where
 s:Stp
 rm:List Nat
def Zz2:Option Stm->PV
 | some x=>x.s.p
 | none => .tup []
def Zgg:Option Stm->List (Nat×Blk)
 | some x=>x.s.news
 | none=>[]
def Zq4:Option Stm->List Nat
 | some x=>x.rm
 | none=>[]
def resQ:Option Stm->List Nat
 | some x=>x.s.need
 | none=>[]
def Zt0(tm:List (Nat×PV))(d:Option Nat)(p:PV):List (Nat×PV):=match d with | some d=>put tm d p | none=>tm
def Zdh(P:Program)(ops:Array Oper)(n:Nat):List Oper->List (Option Stm)->List (Nat×PV)->List (Nat×Blk)->Prop
 | [],[],_,_=>True
 | o::os,x::xs,tm,σ=>((∀ d,o.dst=some d->d < n)/\Zif ops tm o=some x.isSome/\(∀ s,x=some s->OpF P o tm σ s.s.need s.rm s.s.p s.s.news) /\
  Zdh P ops n os xs (Zt0 tm o.dst (Zz2 x)) (Zgg x++Zbb (Zq4 x) σ))
 | _,_,_,_=>False
def Ze1:List Oper->List (Option Stm)->List (Nat×PV)->List (Nat×PV)
 | o::os,x::xs,tm=>Ze1 os xs (Zt0 tm o.dst (Zz2 x))
 | _,_,tm=>tm
def Zi9:List (Option Stm)->List (Nat×Blk)->List (Nat×Blk)
 | x::xs,σ=>Zi9 xs (Zgg x++Zbb (Zq4 x) σ)
 | [],σ=>σ
end Go.PW
