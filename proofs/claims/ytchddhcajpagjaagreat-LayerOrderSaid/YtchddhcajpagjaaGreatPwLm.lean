import Derived.Test.YtchddhcajpagjaaGreatPwLz
set_option linter.all false
namespace Go.PW
open Go.RowKit
section
variable {P:Program} {o:Oper} {ρ:List (Nat×PV)} {Z:List (Nat×Blk)}
theorem Zazz{t e:TypeId}{x y:Operand}{k m cap:Nat}{a:Option Addr}{ki:IntKind}{i:Int}(ho:o.op = .slice t x (some y) none none)(hu:P.underlying t=some (.slice e))(hsz:(P.info? e).map (·.size)=some k)(A:Act)(w:World)
 (hv:A.eval x = .slice a m cap) (hy:A.eval y = .int ki i) (h0:0<=i) (h1:i<=m) :
 (execOp A.eval o).run P w = .ok (.value (.slice (if cap=i.toNat then a else a.map (·.add (i.toNat*k))) (m - i.toNat) (cap - i.toNat))) w:=by
 have hbounds:(Instr.sliceBounds true m cap (some (.int ki i)) none none).run P w = .ok (i.toNat,m,cap) w:=by
  simp [Instr.sliceBounds,run_sliceBound,h0,h1]
 have hel':P.elem t=e:=by simp [Program.elem,hu]
 have hat:=run_sliceAt_slice (P:=P) w t (.slice a m cap) (some (.int ki i)) none none (by rw [hel'];exact hu)
 have hsl:(Instr.slice t (.slice a m cap) (some (.int ki i)) none none).run P w = .ok (.slice (if cap=i.toNat then a else a.map (·.add (i.toNat*k))) (m - i.toNat) (cap - i.toNat)) w:=by
  simp only [Instr.slice,Sem.run_bind,run_underlying hu,Result.andThen_ok,hbounds,Zol hsz,Sem.run_pure]
 simp only [execOp,ho,hv,Sem.run_bind,Option.map_none,Option.map_some,hy,hat,hsl,Result.andThen_ok,Sem.run_pure]
theorem Zaz0{t e:TypeId}{x y:Operand}{k m cap:Nat}{a:Option Addr}{ki:IntKind}{i:Int}(ho:o.op = .slice t x none (some y) none)(hu:P.underlying t=some (.slice e))(hsz:(P.info? e).map (·.size)=some k)(A:Act)(w:World)
 (hv:A.eval x = .slice a m cap) (hy:A.eval y = .int ki i) (h0:0<=i) (h1:i<=cap) :
 (execOp A.eval o).run P w = .ok (.value (.slice (if cap=0 then a else a.map (·.add (0*k))) (i.toNat - 0) (cap - 0))) w:=by
 have hbounds:(Instr.sliceBounds true m cap none (some (.int ki i)) none).run P w = .ok (0,i.toNat,cap) w:=by
  simp [Instr.sliceBounds,run_sliceBound,h0,h1]
 have hel':P.elem t=e:=by simp [Program.elem,hu]
 have hat:=run_sliceAt_slice (P:=P) w t (.slice a m cap) none (some (.int ki i)) none (by rw [hel'];exact hu)
 have hsl:(Instr.slice t (.slice a m cap) none (some (.int ki i)) none).run P w = .ok (.slice (if cap=0 then a else a.map (·.add (0*k))) (i.toNat - 0) (cap - 0)) w:=by
  simp only [Instr.slice,Sem.run_bind,run_underlying hu,Result.andThen_ok,hbounds,Zol hsz,Sem.run_pure]
 simp only [execOp,ho,hv,Sem.run_bind,Option.map_none,Option.map_some,hy,hat,hsl,Result.andThen_ok,Sem.run_pure]
theorem Zaki{t k:Nat}(ha:slInfo P t=some k):∃ e,P.underlying t=some (.slice e)/\(P.info? e).map (·.size)=some k:=by
 unfold slInfo at ha
 split at ha
 .rename_i e hu;exact⟨e,hu,ha⟩
 .cases ha
theorem Zbd5{t:TypeId}{x y:Operand}{k l m:Nat}{es:List (List Zf)}{ki:IntKind}{i:Int}(ho:o.op = .slice t x (some y) none none)(ha:slInfo P t=some k)(hx:Zp ρ x=some (.osl l m))(hy:Zp ρ y=some (.t (.int ki i)))
 (hg:get Z l=some (.row k es)) (hm:es.length=m) (h0:0<=i) (h1:i<=m):Zas P o ρ Z [l] (.own l (.tail m i.toNat)) []:=
 Zbp fun G β n tm Z' A w hop hneed _=>by
  have e1:=hop x _ (by simp [ho,Op.operands]) hx
  have e2:=hop y _ (by simp [ho,Op.operands]) hy
  simp only [VR,Z0] at e1 e2 ⊢
  have hgl:get Z' l=some (.row k es):=(hneed l (by simp)).trans hg
  obtain⟨a,cap,hv,hmc,hcm,h⟩:=(e1.1 k es hgl).2 hm.symm
  obtain⟨e,hu,hsz⟩:=Zaki ha
  refine⟨_,Zazz ho hu hsz A w hv e2 h0 h1,?_,rfl⟩
  intro k' es' hg'
  have:some (Blk.row k' es')=some (.row k es):=Eq.trans (Eq.symm hg') hgl
  cases this
  refine⟨by omega,fun _=>⟨_,_,rfl,by omega,?_⟩⟩
  rcases h with ⟨hc,_⟩ | ⟨b,sz,ha',hb,hrow,hs⟩
  .exact .inl ⟨by omega,by omega⟩
  .by_cases hci:cap=i.toNat
   .exact .inl ⟨by omega,by omega⟩
   .refine .inr ⟨b,sz,by rw [if_neg hci,ha'];simp [Addr.add_mid],hb,hrow,?_⟩
    rw [<- Nat.add_mul]
    exact Nat.le_trans (Nat.mul_le_mul_right _ O) hs
end
section
variable {P:Program} {o:Oper} {n:Nat} {tm:List (Nat×PV)} {Z:List (Nat×Blk)}
theorem Zaso(z:Array Value)(c k i j:Nat)(hz:z.size=k)(hi:i < c)(hj:j < k):(Builtin.zeroCells z c)[i*k+j]?=z[j]?:=by
 have hlt:i*k+j < c*k:=by
  have:(i+1)*k<=c*k:=Nat.mul_le_mul_right _ hi
  rw [Nat.add_mul,Nat.one_mul] at this
  omega
 unfold Builtin.zeroCells
 simp only [Array.getElem?_map,hz]
 rw [Array.getElem?_range]
 simp only [hlt,if_true,Option.map_some]
 rw [Nat.mul_comm i k,Nat.mul_add_mod,Nat.mod_eq_of_lt hj]
 have:j < z.size:=by omega
 simp [this]
theorem Zaok(z:Array Value)(c:Nat):(Builtin.zeroCells z c).size=c*z.size:=by simp [Builtin.zeroCells]
theorem Zaa8{k:Nat}:∀ {es:List (List Zf)} (i:Nat),(∀ el,el∈es->el.length=k)->(es.take i).flatten=es.flatten.take (i*k)
 | [],i,_=>by simp
 | e::es,0,_=>by simp
 | e::es,i+1,h=>by
  have he:e.length=k:=h e (by simp)
  have e1:(i+1)*k - e.length=i*k:=by rw [Nat.add_mul,Nat.one_mul,he];omega
  have e2:e.take ((i+1)*k)=e:=List.take_of_length_le (by rw [Nat.add_mul,Nat.one_mul,he];omega)
  rw [List.take_succ_cons,List.flatten_cons,List.flatten_cons,Zaa8 i (fun el hel=>h el (List.mem_cons_of_mem _ hel)),List.take_append,e1,e2]
theorem Za9o{t e:TypeId}{x:Operand}{k bytes l m i:Nat}{zero:List PV}{zs:List Zf}{es:List (List Zf)}(ho:o.op = .call { callee := .builtin .clear,args := #[x],argTypes := #[t] })(hd:o.dst=none)(hE:ElF P t e k bytes zero)(hzs:Zeb zero=some zs)
 (hx:Zp tm x=some (.own l (.tail m i))) (hg:get Z l=some (.row k es)) (hm:es.length=m) (hi:i<=m) :
 Zxt P o ⟨n,tm,Z⟩ ⟨n,tm,put Z l (.row k (es.take i++List.replicate (m - i) zs))⟩:=
 opup fun G β A w hop hr=>by
  have e1:=hop x _ hx
  simp only [VR] at e1
  obtain⟨a,cap,hv,hcm,h3⟩:=(e1.1 k es hg).2 hm.symm
  have hexec:∀ w',(Builtin.clear_ #[t] o.type #[.slice a (m - i) cap]).run P w = .ok (.tuple #[]) w'->(execOp A.eval o).run P w = .ok (.value (.tuple #[])) w':=by
   intro w' h
   simp only [execOp,ho,resolve,invoke,builtin,Sem.run_bind,Sem.run_pure,Result.andThen_ok,List.map_toArray,List.map_cons,List.map_nil,hv,h]
  obtain⟨hk0,hkl,hb0⟩:=hr.blk l _ hg
  by_cases hmi:m - i=0
  .have hes:es.take i++List.replicate (m - i) zs=es:=by rw [hmi,List.replicate_zero,List.append_nil,List.take_of_length_le O]
   refine⟨.tuple #[],w,.inl (hexec w ?_),β,?_⟩
   .rw [hmi]
    cases a<;>simp [Builtin.clear_,run_underlying hE.und]
   .rw [hd,hes]
    refine Zan.sub (st:=⟨n,tm,Z⟩) hr (Nat.le_refl _) (fun j p hp=>⟨hp,(hr.tm j p hp).1⟩) (fun q ob hq=>?_)
    by_cases hql:q=l
    .subst hql
     rw [Zca] at hq
     rw [hg];exact hq
    .rwa [Zb5 _ _ (Ne.symm hql)] at hq
  .rcases h3 with ⟨hc,_⟩ | ⟨b,sz,ha,hb,hrow,hsz⟩
   .exact absurd hc hmi
   rcases hb0 with ⟨hb',_⟩ | ⟨b',sz',hb',hrow',hszle,hel⟩
   .exact absurd (hb.symm.trans hb') (by simp)
   have:b'=b:=by have:=hb'.symm.trans hb;simpa using this
   subst this
   have hszz:sz'=sz:=by
    obtain⟨cs1,e1,f1,g1,g2,_⟩:=hrow
    obtain⟨cs2,e2,f2,g3,g4,_⟩:=hrow'
    rw [g1] at g3;cases g3
    omega
   subst hszz
   cases hin:P.info? e with
   | none=>have:=hE.info;simp [hin] at this
   | some inf=>
    have hik:inf.size=k/\inf.bytes=bytes:=by have:=hE.info;simpa [hin] using this
    have hz:=hE.z
    unfold Zi6 at hz
    simp only [hin,Option.bind_some,Option.bind_eq_some_iff] at hz
    obtain⟨z,hiz,hz⟩:=hz
    have hzv:∀ c,VRs c zero z.cells.toList:=fun c=>Zhk hz
    have hzl:z.cells.size=k:=by have:=(hzv (ctx G β w Z)).length;rw [hE.len] at this;simpa using this
    have hzsl:zs.length=k:=by rw [<- hE.len];exact Z4l hzs
    have hflat:((List.replicate (m - i) zs).flatten).length=(m - i)*k:=by rw [Zcz (k:=k) (fun el hel=>by rw [List.eq_of_mem_replicate hel];exact hzsl),List.length_replicate]
    have hms:m*k<=sz':=by rw [<- hm];exact hszle
    have hik2:i*k+(m - i)*k=m*k:=by rw [<- Nat.add_mul];congr 1;omega
    let us:List Value:=(Builtin.zeroCells z.cells (m - i)).toList
    have husl:us.length=(m - i)*k:=by simp only [us,Array.length_toList,Zaok,hzl]
    have hone:∀ v,v∈us->v.oneCell'=true:=by
     intro v hv'
     simp only [us,Builtin.zeroCells,Array.toList_map,List.mem_map] at hv'
     obtain⟨q,hq,rfl⟩:=hv'
     have hkpos:=hE.pos
     have hlt:q % z.cells.size < z.cells.size:=Nat.mod_lt _ O
     have hall:∀ {c:Ctx} {ps:List PV} {ts:List Zf} {vs:List Value},Zeb ps=some ts->VRs c ps vs->∀ v,v∈vs->v.oneCell'=true:=by
      intro c ps ts vs h1 h2 v hv
      have h3:=Zoj h1 h2
      refine Z5z h3 ?_ v hv
      rw [List.all_eq_true]
      intro x hx
      obtain⟨t,_,rfl⟩:=List.mem_map.1 hx
      rfl
     refine hall hzs (hzv (ctx G β w Z)) _ ?_
     rw [getElem!_pos z.cells _ hlt]
     exact Array.getElem_mem_toList hlt
    have hst:=run_storeCells_cells (P:=P) b' (i*k) us 0 w (fun j hj=>by
     have:=Zj8 hrow (o:=i*k) (n:=(m - i)*k) O j O
     rw [Nat.add_zero];exact this.1) (fun j hj=>by
     have:=Zj8 hrow (o:=i*k) (n:=(m - i)*k) O j O
     rw [Nat.add_zero];exact this.2) hone
    rw [Nat.add_zero] at hst
    have hrun:(Builtin.clear_ #[t] o.type #[.slice a (m - i) cap]).run P w = .ok (.tuple #[]) (w.setCells b' (i*k) us):=by
     rw [ha]
     have:∃ q,m - i=q+1:=⟨m - i - 1,by omega⟩
     obtain⟨q,hq⟩:=this
     have hst':(storeCells ⟨b',i*k,none⟩ (Builtin.zeroCells z.cells (q+1)).toList).run P w = .ok () (w.setCells b' (i*k) us):=by rw [<- hq];exact hst
     simp only [Builtin.clear_,hq,run_underlying hE.und,Sem.run_bind,Sem.run_pure,Result.andThen_ok,zeroValue,typeInfo,hin,hiz]
     simp [run_underlying hE.und,hst',typeInfo,hin,hiz]
    obtain⟨vs,hvs,hcs⟩:=Zw.vals (c:=ctx G β w Z) (Zr.flat.1 hel)
    have hvl:vs.length=m*k:=by rw [hvs.length,List.length_map,Zcz hkl,hm]
    obtain⟨hr',hI,hL⟩:=Zoi hr (off:=i*k) (blk' := .row k (es.take i++List.replicate (m - i) zs)) us hg hb (.inl ⟨k,es,_,rfl,rfl,by simp;omega⟩) (fun hI hL=>by
     refine⟨hk0,fun el hel'=>?_,.inr ⟨b',sz',hb,Za8 _ _ _ _ hrow',by simp;rw [show min i es.length+(m - i)=m by omega];exact hms,Zr.flat.2 ?_⟩⟩
     .rcases List.mem_append.1 hel' with h | h
      .exact hkl el (List.mem_of_mem_take h)
      .rw [List.eq_of_mem_replicate h];exact hzsl
     .have h1:=VRs.step hI _ _ (fun m _=>hL m) hvs
      have hzz:VRs (ctx G β (w.setCells b' (i*k) us) (put Z l (.row k (es.take i++List.replicate (m - i) zs)))) ((List.replicate (m - i) zs).flatten.map .t) us:=by
       refine VRs.of_get (by rw [husl,List.length_map,hflat]) (fun j p v hp hv=>?_)
       have hj:j < (m - i)*k:=by rw [<- husl];exact (List.getElem?_eq_some_iff.1 hv).1
       have hkpos:=hE.pos
       have hq1:j / k < m - i:=by rw [Nat.div_lt_iff_lt_mul hkpos];exact hj
       have hq2:j % k < k:=Nat.mod_lt _ hkpos
       have hjd:j=j / k*k+j % k:=by rw [Nat.mul_comm];exact (Nat.div_add_mod j k).symm
       have hv':z.cells[j % k]?=some v:=by
        rw [<- Zaso z.cells (m - i) k (j / k) (j % k) hzl hq1 hq2,<- hjd]
        simpa [us] using hv
       have hp':(zs.map PV.t)[j % k]?=some p:=by
        have hfl:∀ (c:Nat) (q:Nat),q < c->((List.replicate c zs).flatten.map PV.t)[q*k+j % k]?=(zs.map PV.t)[j % k]?:=by
         intro c
         induction c with
         | zero=>intro q h;omega
         | succ c ih=>
          intro q hq
          rw [List.replicate_succ,List.flatten_cons,List.map_append]
          cases q with
          | zero=>rw [Nat.zero_mul,Nat.zero_add,List.getElem?_append_left (by simp;omega)]
          | succ q=>
           rw [List.getElem?_append_right (by simp;rw [hzsl,Nat.add_mul,Nat.one_mul];omega)]
           have:(q+1)*k+j % k - (zs.map PV.t).length=q*k+j % k:=by rw [List.length_map,hzsl,Nat.add_mul,Nat.one_mul];omega
           rw [this]
           exact ih q O
        rw [<- hfl (m - i) (j / k) hq1,<- hjd];exact hp
       have hvz:=Zoj hzs (hzv (ctx G β (w.setCells b' (i*k) us) (put Z l (.row k (es.take i++List.replicate (m - i) zs)))))
       obtain⟨v2,h2,h3⟩:=hvz.get (j % k) p hp'
       have:z.cells[j % k]?=some v2:=by simpa using h2
       rw [this] at hv'
       cases hv'
       exact h3
      have hti:(es.take i).flatten=es.flatten.take (i*k):=Zaa8 i hkl
      refine Zdx (vs:=splice vs (i*k) us) ?_ (fun j v hj=>?_)
      .rw [List.flatten_append,List.map_append,hti,List.map_take]
       unfold splice
       have hdrop:vs.drop (i*k+us.length)=[]:=List.drop_eq_nil_of_le (by rw [husl,hvl];omega)
       rw [hdrop,List.append_nil]
       exact (h1.take _).append hzz
      .rw [Nat.zero_add]
       exact Zi8 (w:=w) (fun j v hj=>by have:=hcs j v hj;rwa [Nat.zero_add] at this) (by rw [husl,hvl];omega) j v hj)
    exact⟨.tuple #[],w.setCells b' (i*k) us,.inl (hexec _ hrun),β,by rw [hd];exact hr'⟩
def Z7q(l:Nat):List (Nat×PV)->List (Nat×PV)
 | []=>[]
 | (i,p)::r=>bif p.has l then Z7q l r else (i,p)::Z7q l r
theorem Zaa9{l:Nat}:∀ {tm:List (Nat×PV)} {i:Nat} {p:PV},(i,p)∈Z7q l tm->(i,p)∈tm/\p.has l=false
 | [],_,_,h=>by cases h
 | (j,q)::r,i,p,h=>by
  simp only [Z7q] at h
  cases hb:q.has l with
  | true=>simp only [hb,cond_true] at h;have:=Zaa9 h;exact⟨List.mem_cons_of_mem _ this.1,this.2⟩
  | false=>
   simp only [hb,cond_false] at h
   rcases List.mem_cons.1 h with h | h
   .cases h;exact⟨by simp,hb⟩
   .have:=Zaa9 h;exact⟨List.mem_cons_of_mem _ this.1,this.2⟩
def Zzh:List (Nat×PV)->Bool
 | []=>true
 | (i,_)::r=>(match get r i with | none=>true | some _=>false)&&Zzh r
theorem Zs3:∀ {tm:List (Nat×PV)} {i:Nat} {p:PV},Zzh tm=true->(i,p)∈tm->get tm i=some p
 | [],_,_,_,h=>by cases h
 | (j,q)::r,i,p,ho,h=>by
  simp only [Zzh,Bool.and_eq_true] at ho
  simp only [PW.get]
  rcases List.mem_cons.1 h with h | h
  .cases h;simp
  .have hr:=Zs3 ho.2 h
   have:j≠i:=fun e=>by
    subst e
    rw [hr] at ho
    simp at ho
   rw [Zgf this,cond_false];exact hr
theorem Za9p{t:TypeId}{x y:Operand}{k l m d:Nat}{es:List (List Zf)}{ki:IntKind}{i:Int}(ho:o.op = .slice t x none (some y) none)(hd:o.dst=some d)(hdn:d < n)(ha:slInfo P t=some k)(hx:Zp tm x=some (.osl l m))(hy:Zp tm y=some (.t (.int ki i)))
 (hg:get Z l=some (.row k es)) (hm:es.length=m) (h0:0<=i) (h1:i<=m) (hlab:1000<=l) (hσ:(Z.all fun q => !q.2.has l)=true) (hon:Zzh tm=true) :
 Zxt P o ⟨n,tm,Z⟩ ⟨n,put (Z7q l tm) d (.osl l i.toNat),put Z l (.row k (es.take i.toNat))⟩:=
 opup fun G β A w hop hr=>by
  have e1:=hop x _ hx
  have e2:=hop y _ hy
  simp only [VR,Z0] at e1 e2
  obtain⟨a,cap,hv,hmc,hcm,h3⟩:=(e1.1 k es hg).2 hm.symm
  obtain⟨e,hu,hsz⟩:=Zaki ha
  refine⟨_,w,.inl (Zaz0 ho hu hsz A w hv e2 h0 O),β,?_⟩
  have hgs:get (put Z l (.row k (es.take i.toNat))) l=some (.row k (es.take i.toNat)):=Zca Z l _
  have hgo:∀ q,q≠l->get (put Z l (.row k (es.take i.toNat))) q=get Z q:=fun q hq=>Zb5 Z _ (Ne.symm hq)
  have hO:∀ q o b,get (put Z l (.row k (es.take i.toNat))) q=some o->Zae β w q o b->∃ o2,get Z q=some o2/\Zae β w q o2 b:=fun q o b hq ho=>by
   by_cases hql:q=l
   .subst hql
    have:some o=some (Blk.row k (es.take i.toNat)):=Eq.trans (Eq.symm hq) hgs
    cases this
    exact⟨_,hg,.inl (Zae.flat (o := .row _ _) trivial ho)⟩
   .exact⟨o,by rw [<- hgo q hql];exact hq,ho⟩
  have hI:∀ b,(ctx G β w Z).I b->(ctx G β w (put Z l (.row k (es.take i.toNat)))).I b/\(ctx G β w (put Z l (.row k (es.take i.toNat)))).w.heap[b]?=(ctx G β w Z).w.heap[b]?:=fun b hb=>
   ⟨⟨hb.1,hb.2.1,fun q o hq ho=>by obtain⟨o2,h1,h2⟩:=hO q o b hq ho;exact hb.2.2 q o2 h1 h2⟩,rfl⟩
  have hL:∀ q,q≠l->Zal (ctx G β w Z) (ctx G β w (put Z l (.row k (es.take i.toNat)))) q:=fun q hq=>Zal.same (hgo q hq) rfl (fun _ _=>rfl)
  have hr1:Zan G β ⟨n,Z7q l tm,put Z l (.row k (es.take i.toNat))⟩ A w:=
   { defers:=hr.defers,sz:=hr.sz,base:=hr.base,os:=hr.os,tape:=hr.tape,output:=hr.output,old:=hr.old,A:=hr.A,gl:=hr.gl,
     inj:=fun q q' o o' b hq hq' hb hb'=>by
      obtain⟨o1,h1,h2⟩:=hO q o b hq hb
      obtain⟨o2,h3,h4⟩:=hO q' o' b hq' hb'
      exact hr.inj q q' o1 o2 b h1 h3 h2 h4,
     sep:=fun q o b hq hb=>by obtain⟨o1,h1,h2⟩:=hO q o b hq hb;exact hr.sep q o1 b h1 h2,
     fix:=fun q cs hq1 hq=>by
      by_cases hql:q=l
      .subst hql
       have:some (Blk.box cs)=some (Blk.row k (es.take i.toNat)):=Eq.trans (Eq.symm hq) hgs
       cases this
      .exact hr.fix q cs hq1 (by rw [<- hgo q hql];exact hq),
     row0:=hr.row0.step (fun q hq=>hL q O),
     blk:=fun q ob hq=>by
      by_cases hql:q=l
      .subst hql
       have:some ob=some (Blk.row k (es.take i.toNat)):=Eq.trans (Eq.symm hq) hgs
       cases this
       obtain⟨g0,g1,g2⟩:=hr.blk q _ hg
       refine⟨g0,fun el hel=>g1 el (List.mem_of_mem_take hel),?_⟩
       rcases g2 with ⟨g2,g3⟩ | ⟨b,sz,g2,g3,g4,g5⟩
       .exact .inl ⟨g2,by rw [g3];simp⟩
       .refine .inr ⟨b,sz,g2,g3,Nat.le_trans (Nat.mul_le_mul_right _ (by simp;omega)) g4,Zr.mono (fun b hb=>hI b hb) rfl _ _ (Zr.take _ g5)⟩
      .have hq':get Z q=some ob:=by rw [<- hgo q hql];exact hq
       refine BR.step hI rfl (fun _ _=>rfl) (fun m hm=>hL m (fun e=>?_)) (hr.blk q ob hq')
       subst e
       have:=List.all_eq_true.1 hσ _ (Zff hq')
       rw [hm] at this
       exact absurd this (by decide),
     tm:=fun j p hp=>by
      obtain⟨h1,h2⟩:=Zaa9 (Zff hp)
      have h3:=Zs3 hon h1
      exact⟨(hr.tm j p h3).1,VR.step hI p _ (fun m hm=>hL m (fun e=>by subst e;rw [h2] at hm;cases hm)) (hr.tm j p h3).2⟩ }
  rw [hd]
  refine hr1.put hdn ?_
  simp only [VR]
  refine⟨fun k' es' hg'=>?_,_,_,_,rfl⟩
  have:some (Blk.row k' es')=some (Blk.row k (es.take i.toNat)):=Eq.trans (Eq.symm hg') hgs
  cases this
  have hlen:(es.take i.toNat).length=i.toNat:=by simp;omega
  refine⟨by rw [hlen];exact Nat.le_refl _,fun _=>⟨_,cap,rfl,by omega,hcm,?_⟩⟩
  rcases h3 with ⟨hc,hb⟩ | ⟨b,sz,ha',hb,hrow,hs⟩
  .exact .inl ⟨hc,hb⟩
  .refine .inr ⟨b,sz,?_,hb,hrow,hs⟩
   rw [ha']
   split
   .rfl
   .simp [Addr.add_mid]
end
end Go.PW
