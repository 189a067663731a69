import Derived.Test.YtlighhlnmglpfaaGreatQSc
set_option linter.all false
set_option maxRecDepth 100000
namespace Go.PW
abbrev Cons(l:List Zl)(v:Int):Prop:=(∀ (k:Nat) x,(k:Int) < v→l[k]?=some x→1≤x.Id)∧∀ (k:Nat) x y,(k:Int)+1 < v→l[k]?=some x→l[k+1]?=some y→x.Id < y.Id
theorem Zbju{l:List Zl}:Cons l 0:=⟨fun k x h=>by omega,fun k x y h=>by omega⟩
theorem Zazm{l:List Zl}{v w:Int}{x:Zl}(hx:l[v.toNat]?=some x)(h:Cons l v)(h0:0≤v)(h1:1≤x.Id)(h2:∀ y,0 < v→l[(v - 1).toNat]?=some y→y.Id < x.Id)(hw:w=v+1):Cons l w:=by
 refine⟨fun k y hk hy=>?_,fun k y z hk hy hz=>?_⟩
 ·rcases Zv3 h0 hw hk hy hx with h' | rfl
  ·exact h.1 k y h' hy
  ·exact h1
 ·by_cases hk':(k:Int)+1 < v
  ·exact h.2 k y z hk' hy hz
  ·have e:k+1=v.toNat:=by omega
   rw [e,hx] at hz
   cases hz
   exact h2 y (by omega) (by rw [show (v - 1).toNat=k by omega];exact hy)
abbrev Ids(l:List Zl):Prop:=(∀ o,o∈l→1≤o.Id)∧∀ (i j:Nat) x y,l[i]?=some x→l[j]?=some y→x.Id=y.Id→i=j
theorem Za9i{l:List Zl}(h:Cons l l.length):∀ (d i:Nat) x y,l[i]?=some x→l[i+d+1]?=some y→x.Id < y.Id:=by
 intro d
 induction d with
 | zero=>intro i x y hx hy;exact h.2 i x y (by have:=(List.getElem?_eq_some_iff.1 hy).1;omega) hx hy
 | succ d ih=>
  intro i x y hx hy
  have hl:=(List.getElem?_eq_some_iff.1 hy).1
  have hz:=List.getElem?_eq_getElem (l:=l) (i:=i+d+1) (by omega)
  have h1:=ih i x _ hx hz
  have h2:=h.2 (i+d+1) _ y (by omega) hz hy
  omega
theorem Zbf6{l:List Zl}{v:Int}(h:Cons l v)(hv:(l.length:Int)≤v):Ids l:=by
 have h':Cons l l.length:=⟨fun k x hk=>h.1 k x (by omega),fun k x y hk=>h.2 k x y (by omega)⟩
 refine⟨fun o ho=>?_,fun i j x y hx hy e=>?_⟩
 ·obtain⟨k,hk⟩:=List.mem_iff_getElem?.1 ho
  exact h'.1 k o (by have:=(List.getElem?_eq_some_iff.1 hk).1;omega) hk
 ·rcases Nat.lt_trichotomy i j with hij | hij | hij
  ·have:=Za9i h' (j - i - 1) i x y hx (by rw [show i+(j - i - 1)+1=j by omega];exact hy);omega
  ·exact hij
  ·have:=Za9i h' (i - j - 1) j y x hy (by rw [show j+(i - j - 1)+1=i by omega];exact hx);omega
theorem Zbf7{l:List Zl}(h:Ids l){i:Nat}{o:Zl}(ho:l[i]?=some o):ixO l o.Id=i:=by
 rcases Z46 l o.Id with ⟨_,hn⟩ | ⟨x,h1,h2,h3,h4⟩
 ·exact absurd rfl (hn o (List.mem_of_getElem? ho))
 ·have:=h.2 _ _ _ _ h3 ho h4;omega
section
variable {s:Zb} {all:List Za} {c:Zj} {sp:Zr}
theorem Zawj{o:Zi}:o∈lgP s sp↔sp.Player=true∧∃ x,Zyu s.Players x=true∧o=⟨6,x,0⟩:=by
 unfold lgP
 cases sp.Player with
 | false=>simp
 | true=>simp only [if_true,List.mem_map,Zbf2,true_and];exact exists_congr fun x=>and_congr_right fun _=>eq_comm
theorem Zawk{o:Zi}:o∈lgO s all c sp↔∃ x,x∈Zs6 s all c.You c.Source sp.Filter∧Zjo s all c.You c.Source x=false∧o=⟨5,x,0⟩:=by
 unfold lgO
 simp only [List.mem_map,List.mem_filter,and_assoc]
 exact exists_congr fun x=>and_congr_right fun _=>and_congr (by simp) eq_comm
theorem Zawl{o:Zi}:o∈lgV s all c sp↔o∈lgP s sp∨(sp.Object=true∧o∈lgO s all c sp):=by
 unfold lgV
 rw [List.mem_append]
 cases sp.Object<;>simp
theorem Zazn(p:Int):isV s all c sp ⟨0,p⟩=(sp.Player&&Zyu s.Players p):=by
 have:isV s all c sp ⟨0,p⟩=true↔(sp.Player&&Zyu s.Players p)=true:=by
  unfold isV opV
  rw [decide_eq_true_eq,if_neg (by simp),Zawl,Zawj,Zawk,Bool.and_eq_true]
  constructor
  ·rintro (⟨h,x,h1,h2⟩ | ⟨_,x,_,_,h2⟩)
   ·cases h2;exact⟨h,h1⟩
   ·cases h2
  ·rintro ⟨h,h1⟩;exact .inl ⟨h,p,h1,rfl⟩
 cases h1:isV s all c sp ⟨0,p⟩<;>cases h2:(sp.Player&&Zyu s.Players p)<;>simp_all
theorem Zbd1(hi:Ids s.Objects){i:Nat}{o:Zl}{t:Za}(ho:s.Objects[i]?=some o)(ht:all[i]?=some t)(hz:o.Zone=0)(hk:kwB t.Keys 2048=true)(hc:t.Control≠c.You):isV s all c sp ⟨o.Id,0⟩=false:=by
 unfold isV opV
 have h1:=hi.1 o (List.mem_of_getElem? ho)
 rw [if_pos (show o.Id≠0 by omega)]
 refine decide_eq_false fun h=>?_
 rw [Zawl,Zawj,Zawk] at h
 rcases h with ⟨_,x,_,h2⟩ | ⟨_,x,_,h2,h3⟩
 ·cases h2
 ·cases h3
  have e:=Zbf7 hi ho
  unfold Zjo at h2
  have z:(fdV s.Objects o.Id).1=o:=fdZ (i:=(i:Int)) ho e.symm (by omega)
  have t':trV all (i:Int)=t:=(Za50 (i:=(i:Int)) (x:=t) ht (by omega)).symm
  rw [e,if_neg (by omega),z,if_pos hz,t',hk,decide_eq_true hc] at h2
  cases h2
theorem Zbif{l:List Zi}{a:List Int}(h:l≠[]):Zyw l a∈l:=by
 have h0:l[0]?.getD ⟨0,0,0⟩∈l:=by
  cases l with
  | nil=>exact absurd rfl h
  | cons x xs=>exact List.mem_cons_self ..
 unfold Zyw
 split
 ·split
  ·rename_i i _ hi
   rw [List.getElem?_eq_getElem (show i.toNat < l.length by omega)]
   exact List.getElem_mem _
  ·exact h0
 ·exact h0
theorem Zbf8(hi:∀ o,o∈s.Objects→1≤o.Id){a:List Int}(h:lgV s all c sp≠[]):isV s all c sp (tgO (Zyw (lgV s all c sp) a))=true:=by
 have hm:=Zbif (a:=a) h
 generalize Zyw (lgV s all c sp) a=o at hm
 unfold isV
 refine decide_eq_true ?_
 suffices e:opV (tgO o)=o by rw [e];exact hm
 rw [Zawl,Zawj,Zawk] at hm
 rcases hm with ⟨_,x,_,rfl⟩ | ⟨_,x,hx,_,rfl⟩
 ·unfold tgO opV;rw [if_neg (by simp),if_neg (by simp)]
 ·obtain⟨y,h1,rfl⟩:=Zan8 _ _ _ _ _ hx
  have:=hi y h1
  unfold tgO opV
  rw [if_pos rfl,if_pos (by show y.Id≠0;omega)]
end
abbrev LegT(s:Zb)(all:List Za)(c:Zj)(sps:List Zr)(l:List Zf):Prop:=l.length=sps.length∧∀ (i:Nat) t sp,l[i]?=some t→sps[i]?=some sp→isV s all c sp t=true
theorem Zbd2{s:Zb}{all:List Za}{c:Zj}(hi:∀ o,o∈s.Objects→1≤o.Id):∀ (sps:List Zr) (acc:List Zf) (w:Zg),(chG s all c sps acc w).2.1=true→∃ m,(chG s all c sps acc w).1=acc++m∧LegT s all c sps m
 | [],acc,w,_=>⟨[],(List.append_nil _).symm,rfl,fun i t sp h=>by simp at h⟩
 | sp::sps,acc,w,h=>by
  unfold chG at h ⊢
  by_cases hn:lgV s all c sp=[]
  ·rw [if_pos hn] at h;cases h
  ·rw [if_neg hn] at h ⊢
   obtain⟨m,h1,h2,h3⟩:=Zbd2 hi sps _ _ h
   refine⟨_::m,by rw [h1,List.append_assoc];rfl,by rw [List.length_cons,List.length_cons,h2],fun i t sp' ht hs=>?_⟩
   cases i with
   | zero=>
    rw [List.getElem?_cons_zero] at ht hs
    cases ht;cases hs
    exact Zbf8 hi hn
   | succ i=>exact h3 i t sp' (by simpa using ht) (by simpa using hs)
theorem Za9j{s:Zb}{all:List Za}{c:Zj}:∀ (sps:List Zr) (acc:List Zf) (w:Zg),(chG s all c sps acc w).2.1=false→(chG s all c sps acc w).1=[]
 | [],acc,w,h=>by cases h
 | sp::sps,acc,w,h=>by
  unfold chG at h ⊢
  by_cases hn:lgV s all c sp=[]
  ·rw [if_pos hn]
  ·rw [if_neg hn] at h ⊢;exact Za9j sps _ _ h
theorem Zbig{s:Zb}{all:List Za}{c:Zj}(hi:∀ o,o∈s.Objects→1≤o.Id){sps:List Zr}{w:Zg}{l:List Zf}{ok:Bool}{w':Zg}(h:(l,ok,w')=chG s all c sps [] w):(ok=true→LegT s all c sps l)∧(ok=false→l=[]):=by
 refine⟨fun e=>?_,fun e=>?_⟩
 ·obtain⟨m,h1,h2⟩:=Zbd2 hi sps [] w (by rw [← h];exact e)
  rw [← h] at h1
  have:l=m:=h1
  rw [this];exact h2
 ·have:=Za9j (s:=s) (all:=all) (c:=c) sps [] w (by rw [← h];exact e)
  rw [← h] at this;exact this
theorem Zbjv{s:Zb}{all:List Za}{c:Zj}{sps:List Zr}{l:List Zf}(h:LegT s all c sps l):kpV s all c sps l=l:=by
 unfold kpV
 refine List.ext_getElem? fun i=>?_
 rw [List.getElem?_mapIdx]
 cases ht:l[i]? with
 | none=>rfl
 | some t=>
  have hl:=(List.getElem?_eq_some_iff.1 ht).1
  have hs:=List.getElem?_eq_getElem (l:=sps) (i:=i) (by rw [← h.1];exact hl)
  have:=h.2 i t _ ht hs
  show some _=some t
  unfold kpB
  rw [hs]
  simp only [this,if_true]
theorem Zbjw{s:Zb}{all:List Za}{c:Zj}{sps:List Zr}{l:List Zf}(h:LegT s all c sps l):okV s all c sps l l.length=true:=by
 unfold okV
 cases l with
 | nil=>rfl
 | cons t l=>
  rw [List.take_of_length_le (by omega),List.mapIdx_cons,List.any_cons]
  have hs:=List.getElem?_eq_getElem (l:=sps) (i:=0) (by rw [← h.1];simp)
  have:=h.2 0 t _ rfl hs
  have e:kpB s all c sps 0 t=true:=by unfold kpB;rw [hs];exact this
  rw [e];simp
theorem oeq{x y:Zi}(h:Zar (Zh x) (Zh y)=true):x=y:=by rw [Zqa] at h;exact of_decide_eq_true h
theorem one{x y:Zi}(h:Zar (Zh x) (Zh y)=false):x≠y:=by rw [Zqa] at h;exact of_decide_eq_false h
theorem teq{x y:Zf}(h:Zar (Zo x) (Zo y)=true):x=y:=by rw [Zada] at h;exact of_decide_eq_true h
theorem tne{x y:Zf}(h:Zar (Zo x) (Zo y)=false):x≠y:=by rw [Zada] at h;exact of_decide_eq_false h
theorem Zbih{α:Type}{l:List α}{v:Int}{x y:α}(hx:l[v.toNat]?=some x)(h0:0≤v)(e:y=x):0≤v↔y∈l:=⟨fun _=>e▸List.mem_of_getElem? hx,fun _=>h0⟩
theorem Zbd3{α:Type}{l:List α}{v:Int}{y:α}(h:∀ (k:Nat) x,(k:Int) < v→l[k]?=some x→x≠y)(hv:(l.length:Int)≤v):0≤(-1:Int)↔y∈l:=
 ⟨fun e=>absurd e (by decide),fun e=>by
  obtain⟨k,hk⟩:=List.mem_iff_getElem?.1 e
  exact absurd rfl (h k y (by have:=(List.getElem?_eq_some_iff.1 hk).1;omega) hk)⟩
theorem Zbg5{t:Zf}(h:t.Object≠0):(⟨5,t.Object,0⟩:Zi)=opV t:=by unfold opV;rw [if_pos h]
theorem Zbg6{t:Zf}(h:t.Object=0):(⟨6,t.Player,0⟩:Zi)=opV t:=by unfold opV;rw [if_neg (by omega)]
section
variable {s:Zb} {all:List Za} {c:Zj} {sp:Zr} {t:Zf} {sps:List Zr} {l acc z:List Zf} {a b b':Bool} {v w:Int}
theorem Za1y{o:Zi}{l:List Zi}(hl:l=lgV s all c sp)(hx:b=true↔o∈l)(ho:o=opV t):b=isV s all c sp t:=by
 subst hl;subst ho
 unfold isV
 cases b with
 | true=>exact (decide_eq_true (hx.1 rfl)).symm
 | false=>exact (decide_eq_false fun h=>absurd (hx.2 h) (by decide)).symm
theorem Zbii{o x:Zi}{l:List Zi}(hl:l=lgV s all c sp)(ho:o=opV t)(hx:l[v.toNat]?=some x)(e:Zar (Zh x) (Zh o)=true):true=isV s all c sp t:=
 Za1y hl ⟨fun _=>by rw [← oeq e];exact List.mem_of_getElem? hx,fun _=>rfl⟩ ho
theorem Zbjx{o:Zi}{l:List Zi}(hl:l=lgV s all c sp)(ho:o=opV t)(h:∀ (k:Nat) x,(k:Int) < v→l[k]?=some x→x≠o)(hv:(l.length:Int)≤v):false=isV s all c sp t:=
 Za1y hl ⟨fun e=>absurd e (by decide),fun e=>absurd ((Zbd3 h hv).2 e) (by decide)⟩ ho
theorem Za9k{x:Zf}(hz:z=acc++[x])(hx:l[v.toNat]?=some x)(h:acc=kpN s all c sps l v)(h0:0≤v)(hs:sps[v.toNat]?=some sp)(hb:b=isV s all c sp x)(e:b=true)(hw:w=v+1):z=kpN s all c sps l w:=
 Zan9 hz hx h h0 (by rw [Zatf hs,← hb,e];rfl) hw
theorem Zbd4{x:Zf}(hx:l[v.toNat]?=some x)(hz:z=acc++[badT])(h:acc=kpN s all c sps l v)(h0:0≤v)(hs:sps[v.toNat]?=some sp)(hb:b=isV s all c sp x)(e:b=false)(hw:w=v+1):z=kpN s all c sps l w:=
 Zan9 hz hx h h0 (by rw [Zatf hs,← hb,e];rfl) hw
theorem Zbij{x:Zf}(hx:l[v.toNat]?=some x)(hz:z=acc++[badT])(h:acc=kpN s all c sps l v)(h0:0≤v)(hs:¬ v < (sps.length:Int))(hw:w=v+1):z=kpN s all c sps l w:=
 Zan9 hz hx h h0 (by rw [Za9g (by omega)];rfl) hw
theorem Za9l{x:Zf}(hx:l[v.toNat]?=some x)(h:a=okV s all c sps l v)(h0:0≤v)(hs:sps[v.toNat]?=some sp)(hb:b=isV s all c sp x)(e:b=true)(hw:w=v+1):true=okV s all c sps l w:=
 Zaoa hx h h0 (by rw [Zatf hs,← hb,e,Bool.or_true]) hw
theorem Zbd5{x:Zf}(hx:l[v.toNat]?=some x)(h:a=okV s all c sps l v)(h0:0≤v)(hs:sps[v.toNat]?=some sp)(hb:b=isV s all c sp x)(e:b=false)(hw:w=v+1):a=okV s all c sps l w:=
 Zaoa hx h h0 (by rw [Zatf hs,← hb,e,Bool.or_false]) hw
theorem Zbik{x:Zf}(hx:l[v.toNat]?=some x)(h:a=okV s all c sps l v)(h0:0≤v)(hs:¬ v < (sps.length:Int))(hw:w=v+1):a=okV s all c sps l w:=
 Zaoa hx h h0 (by rw [Za9g (by omega),Bool.or_false]) hw
theorem Za53(hz:z=acc++[badT])(h:acc=kpN s all c sps l v)(h0:0≤v)(hv:v < (l.length:Int))(hs:¬ v < (sps.length:Int))(hw:w=v+1):z=kpN s all c sps l w:=
 Zbij (List.getElem?_eq_getElem (show v.toNat < l.length by omega)) hz h h0 hs hw
theorem Za54(h:a=okV s all c sps l v)(h0:0≤v)(hv:v < (l.length:Int))(hs:¬ v < (sps.length:Int))(hw:w=v+1):a=okV s all c sps l w:=
 Zbik (List.getElem?_eq_getElem (show v.toNat < l.length by omega)) h h0 hs hw
theorem Zbg7:((l.length:Int)==0)=okV s all c sps l 0:=by rw [Zq6];exact Zbld
def WdT(s:Zb)(all:List Za)(c:Zj)(i:Int)(o:Zl):Prop:=∃ t,s.Objects[i.toNat]?=some o∧all[i.toNat]?=some t∧o.Zone=0∧kwB t.Keys 2048=true∧t.Control≠c.You
theorem Zblg{i:Int}{o:Zl}{t:Za}(ho:s.Objects[i.toNat]?=some o)(ht:all[i.toNat]?=some t)(hz:o.Zone=0)(hb:b=kwB t.Keys 2048)(e:b=true)(hc:t.Control≠c.You):WdT s all c i o:=⟨t,ho,ht,hz,hb▸e,hc⟩
theorem Zbg8{i:Int}{o:Zl}(hi:Ids s.Objects)(h:WdT s all c i o)(hb:b=isV s all c sp ⟨o.Id,0⟩):b=false:=by
 obtain⟨t,h1,h2,h3,h4,h5⟩:=h
 rw [hb];exact Zbd1 hi h1 h2 h3 h4 h5
theorem Zbjy(h:LegT s all c sps l)(ht:l[v.toNat]?=some t)(hs:sps[v.toNat]?=some sp)(hb:b=isV s all c sp t):b=true:=by rw [hb];exact h.2 _ _ _ ht hs
end
theorem Za9m{α:Type}{a b:List α}{v:Int}{x y:α}(hx:a[v.toNat]?=some x)(hy:b[v.toNat]?=some y)(e:x≠y):false=true↔a=b:=⟨fun h=>absurd h (by decide),fun h=>by subst h;exact absurd (Option.some.inj (hx.symm.trans hy)) e⟩
theorem Za55{α:Type}{a b:List α}(e:(a.length:Int)≠(b.length:Int)):false=true↔a=b:=⟨fun h=>absurd h (by decide),fun h=>by subst h;exact absurd rfl e⟩
theorem Zbjz{l:List Zl}{v w:Int}{x z:Zl}(hz:l[w.toNat]?=some z)(e:w=v - 1)(h:¬ z.Id≥x.Id):∀ y,0 < v→l[(v - 1).toNat]?=some y→y.Id < x.Id:=fun y _ hy=>by
 rw [← e,hz] at hy;cases hy;omega
theorem Za9n{k:Z6}{q:Zg}{x y:Zm×Bool}(h1:x=(if k.waits=true then (k.pending,true) else (Zh7,false)))(h2:y=(if q.Waits=true then (q.Choice,true) else (Zh7,false)))(h:akV k=q):x=y:=by subst h;rw [h1,h2];rfl
end Go.PW
