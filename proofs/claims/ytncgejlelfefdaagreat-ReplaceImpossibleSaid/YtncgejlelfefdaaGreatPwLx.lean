import Derived.Test.YtncgejlelfefdaaGreatPwL
import Derived.Laws.Slices
import Derived.Laws.IdiomStrings
import Derived.Laws.Cover3
import Derived.Laws.Pointers
set_option linter.all false
namespace Go.PW
open Go.RowKit
section
variable {P:Program} {o:Oper} {ρ:List (Nat×PV)} {σ:List (Nat×Blk)} {n:Nat} {tm:List (Nat×PV)}
theorem Zaa.drop{I:Nat->Prop}{w:World}{b k:Nat}:∀ {es:List (List Zn)} {off:Nat} (l:Nat),Zaa I w b es off->(∀ el,el∈es->el.length=k)->l<=es.length->Zaa I w b (es.drop l) (off+l*k)
 | es,off,0,h,_,_=>by simpa using h
 | [],off,l+1,h,_,hl=>by simp at hl
 | e::es,off,l+1,h,hk,hl=>by
  simp only [Zaa] at h
  have h0:=hk e (by simp)
  have:=Zaa.drop (k:=k) l h.2 (fun el hel=>hk el (List.mem_cons_of_mem _ hel)) (by simpa using hl)
  rw [h0] at this
  rwa [List.drop_succ_cons,show off+(l+1)*k=off+k+l*k by rw [Nat.add_mul,Nat.one_mul];omega]
theorem Zaa.take{I:Nat->Prop}{w:World}{b:Nat}:∀ {es:List (List Zn)} {off:Nat} (l:Nat),Zaa I w b es off->Zaa I w b (es.take l) off
 | es,off,0,h=>by simp [Zaa]
 | [],off,l+1,h=>by simp [Zaa]
 | e::es,off,l+1,h=>by
  simp only [Zaa] at h
  simp only [List.take_succ_cons,Zaa]
  exact⟨h.1,Zaa.take l h.2⟩
def Zpt(ρ:List (Nat×PV))(dflt:Int):Option Operand->Option Int
 | none=>some dflt
 | some x=>match Z5 ρ x with | some (.t (.int _ i))=>some i | _=>none
theorem Zn3{e:TypeId}{k:Nat}(h:(P.info? e).map (·.size)=some k)(w:World):(sizeOf e).run P w = .ok k w:=by
 cases hi:P.info? e with
 | none=>simp [hi] at h
 | some i=>simp [hi] at h;simp [sizeOf,typeInfo,hi,h]
theorem Zbhi{t:TypeId}{x:Operand}{lo hi:Option Operand}{k:Nat}{es:List (List Zn)}{l h:Int}(ho:o.op = .slice t x lo hi none)(ha:slInfo P t=some k)(hx:Z5 ρ x=some (.t (.sl es)))
 (hl:Zpt ρ 0 lo=some l) (hh:Zpt ρ es.length hi=some h) (hk:∀ el,el∈es->el.length=k) (h0:0<=l) (h1:l<=h) (h2:h<=es.length) :
 Za7 P o ρ σ [] (.t (.sl ((es.take h.toNat).drop l.toNat))) []:=
 Zcb fun G β n tm σ' A w hop _ _=>by
  have e1:=hop x _ (by simp [ho,Op.operands]) hx
  simp only [VR,Zal] at e1 ⊢
  obtain⟨a,cap,hv,hlc,hcm,hel⟩:=e1
  unfold slInfo at ha
  split at ha
  case h_2=>cases ha
  rename_i e hu
  have hsz:(P.info? e).map (·.size)=some k:=ha
  have hlo:(lo=none/\l=0)\/∃ y kk,lo=some y/\A.eval y = .int kk l:=by
   cases lo with
   | none=>simp only [Zpt,Option.some.injEq] at hl;exact .inl ⟨rfl,hl.symm⟩
   | some y=>
    simp only [Zpt] at hl
    split at hl
    .rename_i kk i hy
     cases hl
     have:=hop y _ (by simp [ho,Op.operands]) hy
     simp only [VR,Zal] at this
     exact .inr ⟨y,kk,rfl,this⟩
    .cases hl
  have hhi:(hi=none/\h=es.length)\/∃ y kk,hi=some y/\A.eval y = .int kk h:=by
   cases hi with
   | none=>simp only [Zpt,Option.some.injEq] at hh;exact .inl ⟨rfl,hh.symm⟩
   | some y=>
    simp only [Zpt] at hh
    split at hh
    .rename_i kk i hy
     cases hh
     have:=hop y _ (by simp [ho,Op.operands]) hy
     simp only [VR,Zal] at this
     exact .inr ⟨y,kk,rfl,this⟩
    .cases hh
  have hbounds:(Instr.sliceBounds true es.length cap (lo.map A.eval) (hi.map A.eval) none).run P w = .ok (l.toNat,h.toNat,cap) w:=by
   have eh:(h.toNat:Int)=h:=Int.toNat_of_nonneg (by omega)
   have hc:h<=(cap:Int):=by omega
   have hh0:0<=h:=by omega
   rcases hlo with ⟨hlo,hl0⟩ | ⟨y,kk,hlo,hy⟩<;>rcases hhi with ⟨hhi,hl1⟩ | ⟨z,kz,hhi,hz⟩
   .have:h.toNat=es.length:=by omega
    simp [Instr.sliceBounds,hlo,hhi,hl0,this]
   .simp [Instr.sliceBounds,hlo,hhi,hl0,hz,run_sliceBound,hh0,hc]
   .have e2:h.toNat=es.length:=by omega
    have e3:l<=(es.length:Int):=by omega
    simp [Instr.sliceBounds,hlo,hhi,hy,run_sliceBound,h0,e2,e3]
   .have e3:l<=(h.toNat:Int):=by omega
    have r1:=run_sliceBound (P:=P) w kk l h.toNat .sliceB h0 e3
    have r2:=run_sliceBound (P:=P) w kz h cap .sliceAcap hh0 hc
    simp only [Instr.sliceBounds,hlo,hhi,Option.map_some,hy,hz,Sem.run_bind,Sem.run_pure,Result.andThen_ok,if_true,r2,Option.isSome_none,if_false,Bool.false_eq_true,r1]
  have hrun:(execOp A.eval o).run P w = .ok (.value (.slice (if cap=l.toNat then a else a.map (·.add (l.toNat*k))) (h.toNat - l.toNat) (cap - l.toNat))) w:=by
   have hel':P.elem t=e:=by simp [Program.elem,hu]
   have hat:=run_sliceAt_slice (P:=P) w t (.slice a es.length cap) (lo.map A.eval) (hi.map A.eval) none (by rw [hel'];exact hu)
   have hsl:(Instr.slice t (.slice a es.length cap) (lo.map A.eval) (hi.map A.eval) none).run P w = .ok (.slice (if cap=l.toNat then a else a.map (·.add (l.toNat*k))) (h.toNat - l.toNat) (cap - l.toNat)) w:=by
    simp only [Instr.slice,Sem.run_bind,run_underlying hu,Result.andThen_ok,hbounds,Zn3 hsz,Sem.run_pure]
   simp only [execOp,ho,hv,Sem.run_bind,Option.map_none,hat,hsl,Result.andThen_ok,Sem.run_pure]
  have hlen:((es.take h.toNat).drop l.toNat).length=h.toNat - l.toNat:=by simp;omega
  refine⟨_,hrun,_,cap - l.toNat,by rw [hlen],by rw [hlen];omega,by omega,?_⟩
  by_cases he:(es.take h.toNat).drop l.toNat=[]
  .exact .inl he
  .rcases hel with hel | ⟨b,off,ha',hI,hel⟩
   .subst hel;simp at he
   .subst ha'
    have hlt:0 < h.toNat - l.toNat:=by rw [<- hlen];exact List.length_pos_iff.2 he
    have hne:¬ cap=l.toNat:=by omega
    rw [if_neg hne]
    refine .inr ⟨b,off+l.toNat*k,by simp [Addr.add_mid],hI,?_⟩
    refine Zaa.drop (k:=k) _ (Zaa.take _ hel) (fun el h=>hk el (List.mem_of_mem_take h)) (by simp;omega)
theorem Za5j(s:List UInt8)(l h:Nat):(⟨s.toArray⟩:ByteArray).extract l h=⟨((s.take h).drop l).toArray⟩:=by
 apply ByteArray.ext
 simp [List.drop_take]
theorem Zbhj{t:TypeId}{x:Operand}{lo hi:Option Operand}{s:List UInt8}{l h:Int}(ho:o.op = .slice t x lo hi none)(hu:P.underlying t=some .string)(hx:Z5 ρ x=some (.t (.str s)))
 (hl:Zpt ρ 0 lo=some l) (hh:Zpt ρ s.length hi=some h) (h0:0<=l) (h1:l<=h) (h2:h<=s.length) :
 Za7 P o ρ σ [] (.t (.str ((s.take h.toNat).drop l.toNat))) []:=
 Zcb fun G β n tm σ' A w hop _ _=>by
  have hv:=hop x _ (by simp [ho,Op.operands]) hx
  simp only [VR,Zal] at hv ⊢
  have hsz:(⟨s.toArray⟩:ByteArray).size=s.length:=by simp [ByteArray.size]
  have hlo:(lo=none/\l=0)\/∃ y kk,lo=some y/\A.eval y = .int kk l:=by
   cases lo with
   | none=>simp only [Zpt,Option.some.injEq] at hl;exact .inl ⟨rfl,hl.symm⟩
   | some y=>
    simp only [Zpt] at hl
    split at hl
    .rename_i kk i hy
     cases hl
     have:=hop y _ (by simp [ho,Op.operands]) hy
     simp only [VR,Zal] at this
     exact .inr ⟨y,kk,rfl,this⟩
    .cases hl
  have hhi:(hi=none/\h=s.length)\/∃ y kk,hi=some y/\A.eval y = .int kk h:=by
   cases hi with
   | none=>simp only [Zpt,Option.some.injEq] at hh;exact .inl ⟨rfl,hh.symm⟩
   | some y=>
    simp only [Zpt] at hh
    split at hh
    .rename_i kk i hy
     cases hh
     have:=hop y _ (by simp [ho,Op.operands]) hy
     simp only [VR,Zal] at this
     exact .inr ⟨y,kk,rfl,this⟩
    .cases hh
  have hbounds:(Instr.sliceBounds false s.length s.length (lo.map A.eval) (hi.map A.eval) none).run P w = .ok (l.toNat,h.toNat,s.length) w:=by
   have eh:(h.toNat:Int)=h:=Int.toNat_of_nonneg (by omega)
   have hh0:0<=h:=by omega
   rcases hlo with ⟨hlo,hl0⟩ | ⟨y,kk,hlo,hy⟩<;>rcases hhi with ⟨hhi,hl1⟩ | ⟨z,kz,hhi,hz⟩
   .have:h.toNat=s.length:=by omega
    simp [Instr.sliceBounds,hlo,hhi,hl0,this]
   .simp [Instr.sliceBounds,hlo,hhi,hl0,hz,run_sliceBound,hh0,h2]
   .have e2:h.toNat=s.length:=by omega
    have e3:l<=(s.length:Int):=by omega
    simp [Instr.sliceBounds,hlo,hhi,hy,run_sliceBound,h0,e2,e3]
   .have e3:l<=(h.toNat:Int):=by omega
    have r1:=run_sliceBound (P:=P) w kk l h.toNat .sliceB h0 e3
    have r2:=run_sliceBound (P:=P) w kz h s.length .sliceAlen hh0 h2
    simp only [Instr.sliceBounds,hlo,hhi,Option.map_some,hy,hz,Sem.run_bind,Sem.run_pure,Result.andThen_ok,r2,Option.isSome_none,if_false,Bool.false_eq_true,r1]
  refine⟨.string ⟨((s.take h.toNat).drop l.toNat).toArray⟩,?_,rfl⟩
  have hat:=run_sliceAt_string (P:=P) w t (.string ⟨s.toArray⟩) (lo.map A.eval) (hi.map A.eval) none hu
  have hsl:(Instr.slice t (.string ⟨s.toArray⟩) (lo.map A.eval) (hi.map A.eval) none).run P w = .ok (.string ⟨((s.take h.toNat).drop l.toNat).toArray⟩) w:=by
   simp only [Instr.slice,Sem.run_bind,run_underlying hu,Result.andThen_ok,hsz,hbounds,Sem.run_pure,Za5j,Option.isSome_none,if_false,Bool.false_eq_true]
  simp only [execOp,ho,hv,Sem.run_bind,Option.map_none,hat,hsl,Result.andThen_ok,Sem.run_pure]
theorem Zbqm{ρ:List (Nat×PV)}{σ0:List (Nat×Blk)}{need:List Nat}{t tx e:TypeId}{x y:Operand}{k bytes l m:Nat}{zero:List PV}{es0 es:List (List Zn)}{p:PV}(ho:o.op = .call { callee := .builtin .copy,args := #[x,y],argTypes := #[t,tx] })
 (hE:ElF P t e k bytes zero) (htx:∃ e',P.underlying tx=some (.slice e')) (hx:Z5 ρ x=some (.osl l m)) (hg0:get σ0 l=some (.row k es0)) (hm:es0.length=m) (hy:Z5 ρ y=some p) (hsrc0:Zsw σ0 p es) (hneed:∀ q,(q=l\/p.has q=true)->q∈need)
 (hk:∀ el,el∈es->el.length=k) (hle:es.length<=m) :
 OpF P o ρ σ0 need [l] (.t (.int .i64 es.length)) [(l,.row k (es++es0.drop es.length))]:=
 opF fun G β n tm σ A w hop hnd hr=>by
  have e1:=hop x _ (by simp [ho,Op.operands,Call.operands]) hx
  have e2:=hop y _ (by simp [ho,Op.operands,Call.operands]) hy
  have hg:=(hnd l (hneed l (.inl rfl))).trans hg0
  have hsrc:=hsrc0.need (σ':=σ) (fun q hq=>hnd q (hneed q (.inr hq)))
  show ∃ v w',(execOp A.eval o).run P w = .ok (.value v) w'/\∃ β',Za6 G β' ⟨n,tm,put σ l (.row k (es++es0.drop es.length))⟩ A w'/\VR (ctx G β' w' (put σ l (.row k (es++es0.drop es.length)))) (.t (.int .i64 es.length)) v
  simp only [VR] at e1
  obtain⟨a0,cap,hv,hmc,hcm0,h3⟩:=(e1.1 k es0 hg).2 hm.symm
  obtain⟨e',htx⟩:=htx
  obtain⟨news,hs,hnv⟩:=hsrc.src (P:=P) (tx:=tx) hr e2 hk htx
  have hnewsl:news.length=es.length*k:=hs.newsLen
  have hsz:(P.info? e).map (·.size)=some k:=by have:=hE.info;cases hi:P.info? e with | none=>simp [hi] at this | some i=>simp [hi] at this;simp [this.1]
  have hmin:Nat.min es.length m=es.length:=Nat.min_eq_left hle
  have hpre:∀ u w',(match a0 with | some a=>(storeCells a news).run P w | none => .ok () w) = .ok u w'->(execOp A.eval o).run P w = .ok (.value (goInt es.length)) w':=by
   intro u w' hst
   simp only [execOp,ho,resolve,invoke,builtin,Sem.run_bind,Sem.run_pure,Result.andThen_ok,List.map_toArray,List.map_cons,List.map_nil,hv,Builtin.copy_,List.getElem?_toArray,List.getElem?_cons_zero,List.getElem?_cons_succ,run_underlying hE.und,hs.len,hmin,Zn3 hsz,hs.cells]
   cases a0 with
   | none=>simp only at hst;cases hst;rfl
   | some a=>simp only at hst;simp [hst]
  obtain⟨hk0,hkl,hb⟩:=hr.blk l _ hg
  have putd:∀ (β':Nat->Option Nat) (w':World) (σ':List (Nat×Blk)),Za6 G β' ⟨n,tm,σ'⟩ A w'->∃ β',Za6 G β' ⟨n,tm,σ'⟩ A w'/\VR (ctx G β' w' σ') (.t (.int .i64 es.length)) (goInt es.length):=
   fun β' w' σ' hr'=>⟨β',hr',by simp [VR,Zal,goInt]⟩
  by_cases hem:es.length=0
  .have hes:es=[]:=List.eq_nil_of_length_eq_zero hem
   subst hes
   have hnil:news=[]:=List.eq_nil_of_length_eq_zero (by simpa using hnewsl)
   subst hnil
   refine⟨_,w,(hpre () w (by cases a0<;>simp [storeCells])),?_⟩
   refine putd β w _ ?_
   refine hr.sub (Nat.le_refl _) (fun i p hp=>⟨hp,(hr.tm i p hp).1⟩) (fun m o hm'=>?_)
   by_cases hml:l=m
   .subst hml;rw [Zcu] at hm';cases hm';simpa using hg
   .rw [Zcs _ _ hml] at hm';exact hm'
  .rcases hb with ⟨_,he⟩ | ⟨b,sz,hb,hrow,hszle,hel⟩
   .subst he;simp at hm;omega
   .rcases h3 with ⟨hc,hb'⟩ | ⟨b',sz',ha,hb',_,_⟩
    .omega
    .have:b'=b:=by have:=hb'.symm.trans hb;simpa using this
     subst this;subst ha
     have hle2:news.length<=sz:=by rw [hnewsl];exact Nat.le_trans (Nat.mul_le_mul_right _ (by omega)) hszle
     have hst:=run_storeCells_cells (P:=P) b' 0 news 0 w (fun j hj=>by
      have:=Zlj (w:=w) hrow (o:=0) (n:=news.length) (by omega) j hj
      simp only [Nat.zero_add] at this ⊢;exact this.1) (fun j hj=>by
      have:=Zlj (w:=w) hrow (o:=0) (n:=news.length) (by omega) j hj
      simp only [Nat.zero_add] at this ⊢;exact this.2) (fun u hu=>hs.one u hu)
     rw [Nat.add_zero] at hst
     obtain⟨vs,hvs,hcs⟩:=Zam.vals (c:=ctx G β w σ) (Zaa.flat.1 hel)
     have hvl:vs.length=es0.length*k:=by rw [hvs.length,List.length_map,Ze6 hkl]
     have hfl:(es++es0.drop es.length).flatten.map PV.t=splice (es0.flatten.map PV.t) 0 (es.flatten.map PV.t):=by
      have hdrop:∀ (q:Nat) (l:List (List Zn)),(∀ el,el∈l->el.length=k)->q<=l.length->(l.drop q).flatten=l.flatten.drop (q*k):=by
       intro q
       induction q with
       | zero=>intro l _ _;simp
       | succ q ih=>
        intro l hl hq
        cases l with
        | nil=>simp at hq
        | cons e0 l=>
         have he0:e0.length=k:=hl e0 (by simp)
         have e1:(q+1)*k=q*k+k:=by rw [Nat.add_mul,Nat.one_mul]
         rw [List.drop_succ_cons,ih l (fun el h=>hl el (List.mem_cons_of_mem _ h)) (by simpa using hq),List.flatten_cons,List.drop_append]
         have d0:e0.drop ((q+1)*k)=[]:=List.drop_eq_nil_of_le (by omega)
         rw [d0,List.nil_append,show (q+1)*k - e0.length=q*k by omega]
      unfold splice
      simp only [List.take_zero,List.nil_append,Nat.zero_add,List.length_map,Ze6 hk]
      rw [List.flatten_append,hdrop _ _ hkl (by omega),List.map_append,List.map_drop]
     obtain⟨hr',hI,hL⟩:=Zvb hr (off:=0) (blk' := .row k (es++es0.drop es.length)) news hg hb (.inl ⟨k,es0,_,rfl,rfl,by simp;omega⟩) (fun hI hL=>by
      refine⟨hk0,fun el hel'=>?_,.inr ⟨b',sz,hb,Zdy _ _ _ _ hrow,?_,Zaa.flat.2 ?_⟩⟩
      .rcases List.mem_append.1 hel' with h | h
       .exact hk el h
       .exact hkl el (List.mem_of_mem_drop h)
      .have:(es++es0.drop es.length).length=es0.length:=by simp;omega
       rw [this];exact hszle
      .refine Zfu (vs:=splice vs 0 news) ?_ (fun j' v hj'=>?_)
       .have h1:=VRs.step hI _ _ (fun m _=>hL m) hvs
        have h2:=VRs.step hI _ _ (fun m _=>hL m) hnv
        rw [hfl]
        exact h1.splice 0 h2
       .rw [Nat.zero_add]
        exact Zn1 (w:=w) (fun j v hj=>by have:=hcs j v hj;rwa [Nat.zero_add] at this) (by rw [hvl,hnewsl,Nat.zero_add];exact Nat.mul_le_mul_right _ (by omega)) j' v hj')
     exact⟨_,w.setCells b' 0 news,(hpre () _ hst),putd β _ _ hr'⟩
theorem Zae5{op:BinOp}{t e:TypeId}{x:Operand}{yT:TypeId}{a:Option Addr}{l c:Nat}(hu:P.underlying t=some (.slice e))(ho:o.op = .binOp op t x (.const (.slice none 0 0)) yT)(hop:op = .eql\/op = .neq)(A:Act)(w:World)(hx:A.eval x = .slice a l c) :
 (execOp A.eval o).run P w = .ok (.value (.bool (if op = .eql then a.isNone else !a.isNone))) w:=by
 have hg:=Zfd (P:=P) (op:=op) (t:=t) (x:=x) (y := .const (.slice none 0 0)) (u := .slice a l c) (v := .slice none 0 0) w trivial
 have he:=run_equal_slice_nil (P:=P) w t e a l c hu
 have hy:A.eval (.const (.slice none 0 0)) = .slice none 0 0:=rfl
 rcases hop with rfl | rfl
 .simp only [execOp,ho,hx,hy,Sem.run_bind,hg,Result.andThen_ok,binOp,he,Sem.run_pure,if_true]
 .simp only [execOp,ho,hx,hy,Sem.run_bind,hg,Result.andThen_ok,binOp,he,Sem.run_pure]
  rfl
theorem Zbcd{op:BinOp}{t e:TypeId}{x:Operand}{yT:TypeId}{es:List (List Zn)}(hu:P.underlying t=some (.slice e))(ho:o.op = .binOp op t x (.const (.slice none 0 0)) yT)(hop:op = .eql\/op = .neq)(hx:Z5 ρ x=some (.t (.sl es)))(hne:es≠[]) :
 Za7 P o ρ σ [] (.t (.bool (if op = .eql then false else true))) []:=
 Zcb fun G β n tm σ' A w hop' _ _=>by
  have e1:=hop' x _ (by simp [ho,Op.operands]) hx
  simp only [VR,Zal] at e1 ⊢
  obtain⟨a,cap,hv,_,_,h⟩:=e1
  rcases h with h | ⟨b,off,rfl,_⟩
  .exact absurd h hne
  .exact⟨_,Zae5 hu ho hop A w hv,by rcases hop with rfl | rfl<;>rfl⟩
theorem Zbce{op:BinOp}{t e:TypeId}{x:Operand}{yT:TypeId}{a:Option Addr}{l c:Nat}(hu:P.underlying t=some (.slice e))(ho:o.op = .binOp op t x (.const (.slice none 0 0)) yT)(hop:op = .eql\/op = .neq)(hx:Z5 ρ x=some (.t (.con (.slice a l c)))) :
 Za7 P o ρ σ [] (.t (.bool (if op = .eql then a.isNone else !a.isNone))) []:=
 Zcb fun G β n tm σ' A w hop' _ _=>by
  have e1:=hop' x _ (by simp [ho,Op.operands]) hx
  simp only [VR,Zal] at e1 ⊢
  exact⟨_,Zae5 hu ho hop A w e1.1,rfl⟩
theorem Zar1{op:BinOp}{t:TypeId}{x:Operand}{yT:TypeId}{a:Option Addr}(hu:P.underlying t=some (.pointer (P.pointee t)))(ho:o.op = .binOp op t x (.const (.pointer none)) yT)(hop:op = .eql\/op = .neq)(A:Act)(w:World)(hx:A.eval x = .pointer a) :
 (execOp A.eval o).run P w = .ok (.value (.bool (if op = .eql then a.isNone else !a.isNone))) w:=by
 have hg:=Zfd (P:=P) (op:=op) (t:=t) (x:=x) (y := .const (.pointer none)) (u := .pointer a) (v := .pointer none) w trivial
 have he:=run_equal_pointer_nil (P:=P) w t a hu
 have hy:A.eval (.const (.pointer none)) = .pointer none:=rfl
 rcases hop with rfl | rfl
 .simp only [execOp,ho,hx,hy,Sem.run_bind,hg,Result.andThen_ok,binOp,he,Sem.run_pure,if_true]
 .simp only [execOp,ho,hx,hy,Sem.run_bind,hg,Result.andThen_ok,binOp,he,Sem.run_pure]
  rfl
theorem Za5k{op:BinOp}{t:TypeId}{x:Operand}{yT:TypeId}{a:Option Addr}(hu:P.underlying t=some (.pointer (P.pointee t)))(ho:o.op = .binOp op t x (.const (.pointer none)) yT)(hop:op = .eql\/op = .neq)(hx:Z5 ρ x=some (.t (.con (.pointer a)))) :
 Za7 P o ρ σ [] (.t (.bool (if op = .eql then a.isNone else !a.isNone))) []:=
 Zcb fun G β n tm σ' A w hop' _ _=>by
  have e1:=hop' x _ (by simp [ho,Op.operands]) hx
  simp only [VR,Zal] at e1 ⊢
  exact⟨_,Zar1 hu ho hop A w e1.1,rfl⟩
theorem Za5l{op:BinOp}{t:TypeId}{x:Operand}{yT:TypeId}{l q:Nat}{cs:List PV}(hu:P.underlying t=some (.pointer (P.pointee t)))(ho:o.op = .binOp op t x (.const (.pointer none)) yT)(hop:op = .eql\/op = .neq)(hx:Z5 ρ x=some (.bptr l q))(hg:get σ l=some (.box cs)) :
 Za7 P o ρ σ [l] (.t (.bool (if op = .eql then false else true))) []:=
 Zcb fun G β n tm σ' A w hop' hn _=>by
  have e1:=hop' x _ (by simp [ho,Op.operands]) hx
  simp only [VR,Zal] at e1 ⊢
  obtain⟨b,_,hv⟩:=e1.1 cs ((hn l (by simp)).trans hg)
  exact⟨_,Zar1 hu ho hop A w hv,by rcases hop with rfl | rfl<;>rfl⟩
theorem Za5m{x:Operand}{l q:Nat}{cs:List PV}(ho:o.op = .nilCheck x)(hx:Z5 ρ x=some (.bptr l q))(hg:get σ l=some (.box cs)):Za7 P o ρ σ [l] (.bptr l q) []:=
 Zcb fun G β n tm σ' A w hop hn _=>by
  have h1:=hop x _ (by simp [ho,Op.operands]) hx
  have h2:=h1
  simp only [VR] at h1
  obtain⟨b,_,hv⟩:=h1.1 cs ((hn l (by simp)).trans hg)
  exact⟨.pointer (some ⟨b,q,none⟩),by simp [execOp,ho,hv],by rw [<- hv];exact h2⟩
theorem Za5n{x:Operand}{l m i q k:Nat}{es:List (List Zn)}(ho:o.op = .nilCheck x)(hx:Z5 ρ x=some (.rptr l m i q))(hg:get σ l=some (.row k es))(hm:es.length=m):Za7 P o ρ σ [l] (.rptr l m i q) []:=
 Zcb fun G β n tm σ' A w hop hn _=>by
  have h1:=hop x _ (by simp [ho,Op.operands]) hx
  have h2:=h1
  simp only [VR] at h1
  obtain⟨b,_,hv⟩:=(h1.1 k es ((hn l (by simp)).trans hg)).2 hm.symm
  exact⟨.pointer (some ⟨b,i*k+q,none⟩),by simp [execOp,ho,hv],by rw [<- hv];exact h2⟩
theorem Zbdt{t:TypeId}{x y z:Operand}{k:Nat}{es:List (List Zn)}{k1 k2:IntKind}(ho:o.op = .slice t x none (some y) (some z))(ha:slInfo P t=some k)(hx:Z5 ρ x=some (.t (.sl es)))(hy:Z5 ρ y=some (.t (.int k1 0)))(hz:Z5 ρ z=some (.t (.int k2 0))) :
 Za7 P o ρ σ [] .nils []:=
 Zcb fun G β n tm σ' A w hop _ _=>by
  have e1:=hop x _ (by simp [ho,Op.operands]) hx
  have e2:=hop y _ (by simp [ho,Op.operands]) hy
  have e3:=hop z _ (by simp [ho,Op.operands]) hz
  simp only [VR,Zal] at e1 e2 e3 ⊢
  obtain⟨a,cap,hv,hlc,hcm,hel⟩:=e1
  unfold slInfo at ha
  split at ha
  case h_2=>cases ha
  rename_i e hu
  have hsz:(P.info? e).map (·.size)=some k:=ha
  have r1:=run_sliceBound (P:=P) w k2 0 cap .slice3Acap (by omega) (by omega)
  have r2:=run_sliceBound (P:=P) w k1 0 0 .slice3B (by omega) (by omega)
  have hbounds:(Instr.sliceBounds true es.length cap none (some (.int k1 0)) (some (.int k2 0))).run P w = .ok (0,0,0) w:=by
   simp only [Instr.sliceBounds,Sem.run_bind,if_true,r1,Result.andThen_ok,Int.toNat_zero,r2,Sem.run_pure]
  have hel':P.elem t=e:=by simp [Program.elem,hu]
  have hat:=run_sliceAt_slice (P:=P) w t (.slice a es.length cap) none (some (.int k1 0)) (some (.int k2 0)) (by rw [hel'];exact hu)
  have hsl:∃ a',(Instr.slice t (.slice a es.length cap) none (some (.int k1 0)) (some (.int k2 0))).run P w = .ok (.slice a' 0 0) w:=by
   refine⟨a,?_⟩
   simp only [Instr.slice,Sem.run_bind,run_underlying hu,Result.andThen_ok,hbounds,Zn3 hsz,Sem.run_pure,if_true,Nat.sub_self]
  obtain⟨a',hsl⟩:=hsl
  refine⟨.slice a' 0 0,?_,a',rfl⟩
  simp only [execOp,ho,hv,Sem.run_bind,Option.map_none,Option.map_some,e2,e3,hat,hsl,Result.andThen_ok,Sem.run_pure]
def Zsy(x y:Int):Int:=if x < y then y else x
def Zia(x y:Int):Int:=if y < x then y else x
theorem Zbqn{x y:Operand}{ts:Array TypeId}{k k':IntKind}{a b:Int}(ho:o.op = .call { callee := .builtin .max,args := #[x,y],argTypes:=ts })(hx:Z5 ρ x=some (.t (.int k a)))(hy:Z5 ρ y=some (.t (.int k' b))) :
 Za7 P o ρ σ [] (.t (.int k (Zsy a b))) []:=
 Zcb fun G β n tm σ' A w hop _ _=>by
  have h1:=hop x _ (by simp [ho,Op.operands,Call.operands]) hx
  have h2:=hop y _ (by simp [ho,Op.operands,Call.operands]) hy
  simp only [VR,Zal] at h1 h2 ⊢
  exact⟨_,by simp [execOp,ho,resolve,invoke,builtin,Builtin.max_,Builtin.max2,h1,h2];rfl,rfl⟩
theorem Zbqo{x y:Operand}{ts:Array TypeId}{k k':IntKind}{a b:Int}(ho:o.op = .call { callee := .builtin .min,args := #[x,y],argTypes:=ts })(hx:Z5 ρ x=some (.t (.int k a)))(hy:Z5 ρ y=some (.t (.int k' b))) :
 Za7 P o ρ σ [] (.t (.int k (Zia a b))) []:=
 Zcb fun G β n tm σ' A w hop _ _=>by
  have h1:=hop x _ (by simp [ho,Op.operands,Call.operands]) hx
  have h2:=hop y _ (by simp [ho,Op.operands,Call.operands]) hy
  simp only [VR,Zal] at h1 h2 ⊢
  exact⟨_,by simp [execOp,ho,resolve,invoke,builtin,Builtin.min_,Builtin.min2,h1,h2];rfl,rfl⟩
theorem Zp5{w:World}{b q m:Nat}(b':Nat)(hne:b'≠b):(w.freeze ⟨b,q,none⟩ m).heap[b']?=w.heap[b']?:=by
 unfold World.freeze
 split
 .rfl
 .simp only [Array.getElem?_modify]
  rw [if_neg (fun e=>hne e.symm)]
theorem Zaaf{w:World}{b sz:Nat}{b' m:Nat}(hb:∃ cs e fr,w.heap[b]?=some (.cells cs e fr)/\cs.size=sz)(h:Zbx w b' m):Zbx (w.freeze ⟨b,sz,none⟩ 1) b' m:=by
 obtain⟨cs,e,fr,h1,h2,h3⟩:=h
 by_cases hbb:b'=b
 .subst hbb
  obtain⟨cs2,e2,fr2,g1,g2⟩:=hb
  rw [h1] at g1
  cases g1
  obtain⟨lo,hi⟩:=fr
  refine⟨cs,e,(if lo==hi then (sz,sz+1) else (min lo sz,max hi (sz+1))),?_,h2,?_⟩
  .unfold World.freeze
   rw [if_neg (by omega)]
   simp only [Array.getElem?_modify,if_true,h1,Option.map_some]
  .right
   split
   .exact Nat.le_of_eq (h2.symm.trans g2)
   .rename_i hne
    rcases h3 with h3 | h3
    .cases h3;simp at hne
    .simp only at h3 ⊢;omega
 .exact⟨cs,e,fr,(Zp5 b' hbb).trans h1,h2,h3⟩
theorem Z5v{w:World}{b q m:Nat}(a:Addr):(w.freeze ⟨b,q,none⟩ m).cell? a=w.cell? a:=by
 by_cases hbb:a.block=b
 .unfold World.freeze
  split
  .rfl
  .unfold World.cell?
   simp only [Array.getElem?_modify,hbb,if_true]
   cases w.heap[b]? with
   | none=>rfl
   | some ob=>cases ob<;>rfl
 .unfold World.cell?
  rw [Zp5 _ hbb]
theorem Zbj3{t:TypeId}{x:Operand}{l m d e:Nat}{es:List (List Zn)}{k:Nat}(ho:o.op = .convert t t x)(hd:o.dst=some d)(hdn:d < n)(hu:P.underlying t=some (.slice e))(he:P.underlying e=some (.int .u8))
 (hx:Z5 tm x=some (.osl l m)) (hg:get σ l=some (.row k es)) (hm:es.length=m) (hne:es≠[]):Zyi P o ⟨n,tm,σ⟩ ⟨n,put tm d (.osl l m),σ⟩:=
 opup fun G β A w hop hr=>by
  have e1:=hop x _ hx
  have e1':=e1
  simp only [VR] at e1
  obtain⟨a0,cap,hv,hmc,hcm0,h3⟩:=(e1.1 k es hg).2 hm.symm
  have hb0:=hr.blk l _ hg
  obtain⟨hk0,hkl,hb⟩:=hb0
  rcases hb with ⟨_,hes⟩ | ⟨b,sz,hb,hrow,hszle,hel⟩
  .exact absurd hes hne
  rcases h3 with ⟨_,hb'⟩ | ⟨b',sz',ha,hb',hrow',hcap⟩
  .exact absurd (hb.symm.trans hb') (by simp)
  have:b'=b:=by have:=hb'.symm.trans hb;simpa using this
  subst this;subst ha
  obtain⟨cs,ce,fr,hc1,hc2,hc3⟩:=hrow
  have hshape:w.shape? b'=some (ce,sz):=by unfold World.shape?;rw [show w.heap[b']?=some (.cells cs ce fr) from hc1];simp [hc2]
  have hbb:∃ cs e fr,w.heap[b']?=some (.cells cs e fr)/\cs.size=sz:=⟨cs,ce,fr,hc1,hc2⟩
  refine⟨.slice (some ⟨b',0,none⟩) m cap,w.freeze ⟨b',sz,none⟩ 1,.inl ?_,β,?_⟩
  .simp [execOp,ho,hv,convert,run_underlying hu,run_underlying he,markStringish,hshape]
  have hsep:=hr.sep l _ b' hg (.inl hb)
  have hO:∀ q o b,Za0 β (w.freeze ⟨b',sz,none⟩ 1) q o b->Za0 β w q o b:=fun q o b h=>h.of_cell (fun a=>Z5v a)
  have hI:∀ q,(ctx G β w σ).I q->(ctx G β (w.freeze ⟨b',sz,none⟩ 1) σ).I q/\(ctx G β (w.freeze ⟨b',sz,none⟩ 1) σ).w.heap[q]?=(ctx G β w σ).w.heap[q]?:=fun q hq=>by
   have hqb:q≠b':=fun e=>by subst e;exact hq.2.2 l _ hg (.inl hb)
   refine⟨⟨?_,hq.2.1,fun l o hl ho=>hq.2.2 l o hl (hO _ _ _ ho)⟩,Zp5 q hqb⟩
   have:=hq.1
   unfold World.freeze
   simpa using this
  have hL:∀ q,Zbj (ctx G β w σ) (ctx G β (w.freeze ⟨b',sz,none⟩ 1) σ) q:=fun q=>
   ⟨fun k es' hg'=>⟨es',hg',Nat.le_refl _,fun _=>⟨rfl,fun b2 m2 _ hr2=>Zaaf hbb hr2⟩⟩,fun cs' hg'=>⟨cs',hg',rfl⟩,
    fun k q es' hg'=>⟨es',hg',Nat.le_refl _,fun _=>⟨rfl,fun b2 _=>⟨fun m2 hr2=>Zaaf hbb hr2,fun _ _=>Z5v _⟩⟩⟩,fun _ es' hg'=>⟨es',hg',rfl⟩⟩
  have hrel:Za6 G β ⟨n,tm,σ⟩ A (w.freeze ⟨b',sz,none⟩ 1):=
   { defers:=hr.defers,sz:=hr.sz,base:=by unfold World.freeze;simpa using hr.base,os:=by unfold World.freeze;simpa using hr.os,tape:=by unfold World.freeze;simpa using hr.tape,output:=by unfold World.freeze;simpa using hr.output,
     old:=fun q hq hown=>by
      have hqb:q≠b':=fun e=>by
       subst e
       rcases hsep.2 with h | h
       .omega
       .exact hown h
      exact (Zp5 q hqb).trans (hr.old q hq hown),
     A:=hr.A,gl:=hr.gl,inj:=fun l l' o o' b h1 h2 h3 h4=>hr.inj l l' o o' b h1 h2 (hO _ _ _ h3) (hO _ _ _ h4),sep:=fun q ob q' h1 h2=>by
      have:=hr.sep q ob q' h1 (hO _ _ _ h2)
      exact⟨by unfold World.freeze;simpa using this.1,this.2⟩,
     fix:=hr.fix,
     blk:=fun q ob hq=>by
      by_cases hql:q=l
      .subst hql
       have:some ob=some (.row k es):=Eq.trans (Eq.symm hq) hg
       cases this
       obtain⟨vs,hvs,hcs⟩:=Zam.vals (c:=ctx G β w σ) (Zaa.flat.1 hel)
       exact⟨hk0,hkl,.inr ⟨b',sz,hb,Zaaf hbb ⟨cs,ce,fr,hc1,hc2,hc3⟩,hszle,Zaa.flat.2 (Zfu (VRs.step hI _ _ (fun m _=>hL m) hvs) (fun j v hj=>(Z5v _).trans (hcs j v hj)))⟩⟩
      .refine BR.step hI rfl (fun q' hq'=>Zp5 q' (fun e=>?_)) (fun m _=>hL m) (hr.blk q ob hq)
       subst e
       exact hql (hr.inj q l ob _ q' hq hg hq' (.inl hb)),
     tm:=fun i p hp=>⟨(hr.tm i p hp).1,VR.step hI p _ (fun m _=>hL m) (hr.tm i p hp).2⟩ }
  rw [hd]
  refine hrel.put hdn ?_
  rw [<- hv]
  exact VR.step hI _ _ (fun m _=>hL m) e1'
def Zf5(s:List UInt8):List (List Zn):=s.map fun b=>[Zn.int .u8 b.toNat]
theorem Zalk{I:Nat->Prop}{w:World}{b:Nat}:∀ (s:List UInt8) (off:Nat),(∀ j x,s[j]?=some x->w.cell? ⟨b,off+j,none⟩=some (.int .u8 (x.toNat:Int)))->Zaa I w b (Zf5 s) off
 | [],_,_=>by simp [Zf5,Zaa]
 | x::s,off,h=>by
  simp only [Zf5,List.map_cons,Zaa,Zam,List.length_cons,List.length_nil]
  refine⟨⟨⟨_,h 0 x rfl,by simp [Zal]⟩,trivial⟩,Zalk s (off+1) (fun j y hj=>?_)⟩
  have:=h (j+1) y (by simpa using hj)
  rwa [show off+(j+1)=off+1+j by omega] at this
theorem Zbj4{st dt e:TypeId}{x:Operand}{s:List UInt8}(ho:o.op = .convert st dt x)(hs:P.underlying st=some .string)(hd:P.underlying dt=some (.slice e))(he:P.underlying e=some (.int .u8))
 (hx:Z5 ρ x=some (.t (.str s))) (hl:s.length<=9223372036854775807):Za7 P o ρ σ [] (.t (.sl (Zf5 s))) []:=
 Zbm2 fun G β n tm σ' A w hop _ hr=>by
  have hv:=hop x _ (by simp [ho,Op.operands]) hx
  simp only [VR,Zal] at hv
  have hrun:=run_bytes_of_string (P:=P) w st dt e ⟨s.toArray⟩ hs hd he
  have hsz:(⟨s.toArray⟩:ByteArray).size=s.length:=by simp [ByteArray.size]
  rw [hsz] at hrun
  have hge:=grownCap_ge w s.length 0 e
  have hcm:grownCap w s.length 0 e<=maxLen:=grownCap_le_maxLen w s.length 0 e (by simp only [maxLen];omega)
  generalize hC:grownCap w s.length 0 e=C at hrun hge hcm
  generalize hob:Obj.cells (bytesRow ⟨s.toArray⟩ C) e ((bytesRow ⟨s.toArray⟩ C).size,(bytesRow ⟨s.toArray⟩ C).size+1)=ob at hrun
  obtain⟨hr',hI,hnew,hL⟩:=(Za6.drew hr).allocImm ob
  refine⟨.slice (some ⟨w.heap.size,0,none⟩) s.length C,_,?_,hr',?_⟩
  .simp only [execOp,ho,hv,Sem.run_bind,hrun,Result.andThen_ok,Sem.run_pure]
  .simp only [VR,Zal]
   refine⟨some ⟨w.heap.size,0,none⟩,C,by simp [Zf5],by simpa [Zf5] using hge,hcm,.inr ⟨w.heap.size,0,rfl,hnew,Zalk s 0 (fun j y hj=>?_)⟩⟩
   show (w.drew.alloc ob).cell? ⟨w.drew.heap.size,_,none⟩=_
   rw [<- hob]
   have hlt:=(List.getElem?_eq_some_iff.1 hj).1
   unfold World.cell?
   have hh:(w.drew.alloc (Obj.cells (bytesRow ⟨s.toArray⟩ C) e ((bytesRow ⟨s.toArray⟩ C).size,(bytesRow ⟨s.toArray⟩ C).size+1))).heap[w.drew.heap.size]?=some (Obj.cells (bytesRow ⟨s.toArray⟩ C) e ((bytesRow ⟨s.toArray⟩ C).size,(bytesRow ⟨s.toArray⟩ C).size+1)):=by
    show (w.heap.push _)[w.heap.size]?=_
    simp
   simp only [hh]
   unfold bytesRow
   rw [Nat.zero_add]
   rw [Array.getElem?_append_left (by simpa using hlt)]
   simp [hj]
theorem Zacd{I:Nat->Prop}{w:World}{b:Nat}:∀ (s:List UInt8) (off:Nat),Zaa I w b (Zf5 s) off->∀ j (hj:j < s.length),w.cell? ⟨b,off+j,none⟩=some (.int .u8 (s[j].toNat:Int))
 | [],_,_,j,hj=>by simp at hj
 | x::s,off,h,j,hj=>by
  simp only [Zf5,List.map_cons,Zaa,Zam,List.length_cons,List.length_nil] at h
  obtain⟨⟨⟨c,h1,h2⟩,_⟩,h3⟩:=h
  cases j with
  | zero=>simp only [Zal] at h2;subst h2;simpa using h1
  | succ j=>
   have:=Zacd s (off+1) h3 j (by simpa using hj)
   rw [show off+(j+1)=off+1+j by omega]
   simpa using this
theorem Zbj5{st dt e:TypeId}{x:Operand}{s:List UInt8}(ho:o.op = .convert st dt x)(hs:P.underlying st=some (.slice e))(hd:P.underlying dt=some .string)(he:P.underlying e=some (.int .u8))
 (hx:Z5 ρ x=some (.t (.sl (Zf5 s)))) (hne:s≠[]):Za7 P o ρ σ [] (.t (.str s)) []:=
 Zcb fun G β n tm σ' A w hop _ _=>by
  have hv:=hop x _ (by simp [ho,Op.operands]) hx
  simp only [VR,Zal] at hv
  obtain⟨a,cap,hv,_,_,h3⟩:=hv
  have hlen:(Zf5 s).length=s.length:=by simp [Zf5]
  rw [hlen] at hv
  rcases h3 with h3 | ⟨b,off,rfl,_,hel⟩
  .exact absurd (by simpa [Zf5] using h3) hne
  .have hrun:=run_convert_bytes_back (P:=P) w st dt e ⟨b,off,none⟩ cap s hs he hd (fun j hj=>by
    have h9:(⟨b,off,none⟩:Addr).add j=⟨b,off+j,none⟩:=by
     unfold Addr.add
     by_cases h0:j=0
     .subst h0;rfl
     .rw [if_neg h0]
    rw [h9]
    exact Zacd s off hel j hj)
   exact⟨.string ⟨s.toArray⟩,by simp only [execOp,ho,hv,hrun,Sem.run_bind,Result.andThen_ok,Sem.run_pure],by simp [VR,Zal]⟩
end
end Go.PW
