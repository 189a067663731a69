import Derived.Test.YtiglnkgoicjjfaaGreatPwL
import Derived.Laws.Slices
import Derived.Laws.IdiomStrings
import Derived.Laws.Cover3
import Derived.Laws.Pointers
import Derived.MapKept
set_option linter.all false
namespace Go.PW
open Go.RowKit
section
variable {P:Program} {o:Oper} {ρ:List (Nat×PV)} {σ:List (Nat×Blk)} {n:Nat} {tm:List (Nat×PV)}
theorem Zm.drop{I:Nat->Prop}{w:World}{b k:Nat}:∀ {es:List (List Zb)} {off:Nat} (l:Nat),Zm I w b es off->(∀ el,el∈es->el.length=k)->l<=es.length->Zm I w b (es.drop l) (off+l*k)
 | es,off,0,h,_,_=>by simpa using h
 | [],off,l+1,h,_,hl=>by simp at hl
 | e::es,off,l+1,h,hk,hl=>by
  simp only [Zm] at h
  have h0:=hk e (by simp)
  have:=Zm.drop (k:=k) l h.2 (fun el hel=>hk el (List.mem_cons_of_mem _ hel)) (by simpa using hl)
  rw [h0] at this
  rwa [List.drop_succ_cons,show off+(l+1)*k=off+k+l*k by rw [Nat.add_mul,Nat.one_mul];omega]
theorem Zm.take{I:Nat->Prop}{w:World}{b:Nat}:∀ {es:List (List Zb)} {off:Nat} (l:Nat),Zm I w b es off->Zm I w b (es.take l) off
 | es,off,0,h=>by simp [Zm]
 | [],off,l+1,h=>by simp [Zm]
 | e::es,off,l+1,h=>by
  simp only [Zm] at h
  simp only [List.take_succ_cons,Zm]
  exact⟨h.1,Zm.take l h.2⟩
def Zo0(ρ:List (Nat×PV))(dflt:Int):Option Operand->Option Int
 | none=>some dflt
 | some x=>match Zi ρ x with | some (.t (.int _ i))=>some i | _=>none
theorem Zm9{e:TypeId}{k:Nat}(h:(P.info? e).map (·.size)=some k)(w:World):(sizeOf e).run P w = .ok k w:=by
 cases hi:P.info? e with
 | none=>simp [hi] at h
 | some i=>simp [hi] at h;simp [sizeOf,typeInfo,hi,h]
theorem Zauv{t:TypeId}{x:Operand}{lo hi:Option Operand}{k:Nat}{es:List (List Zb)}{l h:Int}(ho:o.op = .slice t x lo hi none)(ha:slInfo P t=some k)(hx:Zi ρ x=some (.t (.sl es)))
 (hl:Zo0 ρ 0 lo=some l) (hh:Zo0 ρ es.length hi=some h) (hk:∀ el,el∈es->el.length=k) (h0:0<=l) (h1:l<=h) (h2:h<=es.length) :
 Za3 P o ρ σ [] (.t (.sl ((es.take h.toNat).drop l.toNat))) []:=
 Zb9 fun G β n tm σ' A w hop _ _=>by
  have e1:=hop x _ (by simp [ho,Op.operands]) hx
  simp only [VR,Zx] at e1⊢
  obtain⟨a,cap,hv,hlc,hcm,hel⟩:=e1
  unfold slInfo at ha
  split at ha
  case h_2=>cases ha
  rename_i e hu
  have hsz:(P.info? e).map (·.size)=some k:=ha
  have hlo:(lo=none/\l=0)\/∃ y kk,lo=some y/\A.eval y = .int kk l:=by
   cases lo with
   | none=>simp only [Zo0,Option.some.injEq] at hl;exact .inl ⟨rfl,hl.symm⟩
   | some y=>
    simp only [Zo0] at hl
    split at hl
    .rename_i kk i hy
     cases hl
     have:=hop y _ (by simp [ho,Op.operands]) hy
     simp only [VR,Zx] at this
     exact .inr ⟨y,kk,rfl,this⟩
    .cases hl
  have hhi:(hi=none/\h=es.length)\/∃ y kk,hi=some y/\A.eval y = .int kk h:=by
   cases hi with
   | none=>simp only [Zo0,Option.some.injEq] at hh;exact .inl ⟨rfl,hh.symm⟩
   | some y=>
    simp only [Zo0] at hh
    split at hh
    .rename_i kk i hy
     cases hh
     have:=hop y _ (by simp [ho,Op.operands]) hy
     simp only [VR,Zx] at this
     exact .inr ⟨y,kk,rfl,this⟩
    .cases hh
  have hbounds:(Instr.sliceBounds true es.length cap (lo.map A.eval) (hi.map A.eval) none).run P w = .ok (l.toNat,h.toNat,cap) w:=by
   have eh:(h.toNat:Int)=h:=Int.toNat_of_nonneg (by omega)
   have hc:h<=(cap:Int):=by omega
   have hh0:0<=h:=by omega
   rcases hlo with ⟨hlo,hl0⟩ | ⟨y,kk,hlo,hy⟩<;>rcases hhi with ⟨hhi,hl1⟩ | ⟨z,kz,hhi,hz⟩
   .have:h.toNat=es.length:=by omega
    simp [Instr.sliceBounds,hlo,hhi,hl0,this]
   .simp [Instr.sliceBounds,hlo,hhi,hl0,hz,run_sliceBound,hh0,hc]
   .have e2:h.toNat=es.length:=by omega
    have e3:l<=(es.length:Int):=by omega
    simp [Instr.sliceBounds,hlo,hhi,hy,run_sliceBound,h0,e2,e3]
   .have e3:l<=(h.toNat:Int):=by omega
    have r1:=run_sliceBound (P:=P) w kk l h.toNat .sliceB h0 e3
    have r2:=run_sliceBound (P:=P) w kz h cap .sliceAcap hh0 hc
    simp only [Instr.sliceBounds,hlo,hhi,Option.map_some,hy,hz,Sem.run_bind,Sem.run_pure,Result.andThen_ok,if_true,r2,Option.isSome_none,if_false,Bool.false_eq_true,r1]
  have hrun:(execOp A.eval o).run P w = .ok (.value (.slice (if cap=l.toNat then a else a.map (·.add (l.toNat*k))) (h.toNat - l.toNat) (cap - l.toNat))) w:=by
   have hel':P.elem t=e:=by simp [Program.elem,hu]
   have hat:=run_sliceAt_slice (P:=P) w t (.slice a es.length cap) (lo.map A.eval) (hi.map A.eval) none (by rw [hel'];exact hu)
   have hsl:(Instr.slice t (.slice a es.length cap) (lo.map A.eval) (hi.map A.eval) none).run P w = .ok (.slice (if cap=l.toNat then a else a.map (·.add (l.toNat*k))) (h.toNat - l.toNat) (cap - l.toNat)) w:=by
    simp only [Instr.slice,Sem.run_bind,run_underlying hu,Result.andThen_ok,hbounds,Zm9 hsz,Sem.run_pure]
   simp only [execOp,ho,hv,Sem.run_bind,Option.map_none,hat,hsl,Result.andThen_ok,Sem.run_pure]
  have hlen:((es.take h.toNat).drop l.toNat).length=h.toNat - l.toNat:=by simp;omega
  refine⟨_,hrun,_,cap - l.toNat,by rw [hlen],by rw [hlen];omega,by omega,?_⟩
  by_cases he:(es.take h.toNat).drop l.toNat=[]
  .exact .inl he
  .rcases hel with hel | ⟨b,off,ha',hI,hel⟩
   .subst hel;simp at he
   .subst ha'
    have hlt:0 < h.toNat - l.toNat:=by rw [<- hlen];exact List.length_pos_iff.2 he
    have hne:¬ cap=l.toNat:=by omega
    rw [if_neg hne]
    refine .inr ⟨b,off+l.toNat*k,by simp [Addr.add_mid],hI,?_⟩
    refine Zm.drop (k:=k) _ (Zm.take _ hel) (fun el h=>hk el (List.mem_of_mem_take h)) (by simp;omega)
theorem Zal2(s:List UInt8)(l h:Nat):(⟨s.toArray⟩:ByteArray).extract l h=⟨((s.take h).drop l).toArray⟩:=by
 apply ByteArray.ext
 simp [List.drop_take]
theorem Zauw{t:TypeId}{x:Operand}{lo hi:Option Operand}{s:List UInt8}{l h:Int}(ho:o.op = .slice t x lo hi none)(hu:P.underlying t=some .string)(hx:Zi ρ x=some (.t (.str s)))
 (hl:Zo0 ρ 0 lo=some l) (hh:Zo0 ρ s.length hi=some h) (h0:0<=l) (h1:l<=h) (h2:h<=s.length) :
 Za3 P o ρ σ [] (.t (.str ((s.take h.toNat).drop l.toNat))) []:=
 Zb9 fun G β n tm σ' A w hop _ _=>by
  have hv:=hop x _ (by simp [ho,Op.operands]) hx
  simp only [VR,Zx] at hv⊢
  have hsz:(⟨s.toArray⟩:ByteArray).size=s.length:=by simp [ByteArray.size]
  have hlo:(lo=none/\l=0)\/∃ y kk,lo=some y/\A.eval y = .int kk l:=by
   cases lo with
   | none=>simp only [Zo0,Option.some.injEq] at hl;exact .inl ⟨rfl,hl.symm⟩
   | some y=>
    simp only [Zo0] at hl
    split at hl
    .rename_i kk i hy
     cases hl
     have:=hop y _ (by simp [ho,Op.operands]) hy
     simp only [VR,Zx] at this
     exact .inr ⟨y,kk,rfl,this⟩
    .cases hl
  have hhi:(hi=none/\h=s.length)\/∃ y kk,hi=some y/\A.eval y = .int kk h:=by
   cases hi with
   | none=>simp only [Zo0,Option.some.injEq] at hh;exact .inl ⟨rfl,hh.symm⟩
   | some y=>
    simp only [Zo0] at hh
    split at hh
    .rename_i kk i hy
     cases hh
     have:=hop y _ (by simp [ho,Op.operands]) hy
     simp only [VR,Zx] at this
     exact .inr ⟨y,kk,rfl,this⟩
    .cases hh
  have hbounds:(Instr.sliceBounds false s.length s.length (lo.map A.eval) (hi.map A.eval) none).run P w = .ok (l.toNat,h.toNat,s.length) w:=by
   have eh:(h.toNat:Int)=h:=Int.toNat_of_nonneg (by omega)
   have hh0:0<=h:=by omega
   rcases hlo with ⟨hlo,hl0⟩ | ⟨y,kk,hlo,hy⟩<;>rcases hhi with ⟨hhi,hl1⟩ | ⟨z,kz,hhi,hz⟩
   .have:h.toNat=s.length:=by omega
    simp [Instr.sliceBounds,hlo,hhi,hl0,this]
   .simp [Instr.sliceBounds,hlo,hhi,hl0,hz,run_sliceBound,hh0,h2]
   .have e2:h.toNat=s.length:=by omega
    have e3:l<=(s.length:Int):=by omega
    simp [Instr.sliceBounds,hlo,hhi,hy,run_sliceBound,h0,e2,e3]
   .have e3:l<=(h.toNat:Int):=by omega
    have r1:=run_sliceBound (P:=P) w kk l h.toNat .sliceB h0 e3
    have r2:=run_sliceBound (P:=P) w kz h s.length .sliceAlen hh0 h2
    simp only [Instr.sliceBounds,hlo,hhi,Option.map_some,hy,hz,Sem.run_bind,Sem.run_pure,Result.andThen_ok,r2,Option.isSome_none,if_false,Bool.false_eq_true,r1]
  refine⟨.string ⟨((s.take h.toNat).drop l.toNat).toArray⟩,?_,rfl⟩
  have hat:=run_sliceAt_string (P:=P) w t (.string ⟨s.toArray⟩) (lo.map A.eval) (hi.map A.eval) none hu
  have hsl:(Instr.slice t (.string ⟨s.toArray⟩) (lo.map A.eval) (hi.map A.eval) none).run P w = .ok (.string ⟨((s.take h.toNat).drop l.toNat).toArray⟩) w:=by
   simp only [Instr.slice,Sem.run_bind,run_underlying hu,Result.andThen_ok,hsz,hbounds,Sem.run_pure,Zal2,Option.isSome_none,if_false,Bool.false_eq_true]
  simp only [execOp,ho,hv,Sem.run_bind,Option.map_none,hat,hsl,Result.andThen_ok,Sem.run_pure]
theorem Zaz3{ρ:List (Nat×PV)}{σ0:List (Nat×Blk)}{need:List Nat}{t tx e:TypeId}{x y:Operand}{k bytes l m:Nat}{zero:List PV}{es0 es:List (List Zb)}{p:PV}(ho:o.op = .call { callee := .builtin .copy,args := #[x,y],argTypes := #[t,tx] })
 (hE:ElF P t e k bytes zero) (htx:∃ e',P.underlying tx=some (.slice e')) (hx:Zi ρ x=some (.osl l m)) (hg0:get σ0 l=some (.row k es0)) (hm:es0.length=m) (hy:Zi ρ y=some p) (hsrc0:Zrg σ0 p es) (hneed:∀ q,(q=l\/p.has q=true)->q∈need)
 (hk:∀ el,el∈es->el.length=k) (hle:es.length<=m) :
 OpF P o ρ σ0 need [l] (.t (.int .i64 es.length)) [(l,.row k (es++es0.drop es.length))]:=
 opF fun G β n tm σ A w hop hnd hr=>by
  have e1:=hop x _ (by simp [ho,Op.operands,Call.operands]) hx
  have e2:=hop y _ (by simp [ho,Op.operands,Call.operands]) hy
  have hg:=(hnd l (hneed l (.inl rfl))).trans hg0
  have hsrc:=hsrc0.need (σ':=σ) (fun q hq=>hnd q (hneed q (.inr hq)))
  show ∃ v w',(execOp A.eval o).run P w = .ok (.value v) w'/\∃ β',Zaw G β' ⟨n,tm,put σ l (.row k (es++es0.drop es.length))⟩ A w'/\VR (ctx G β' w' (put σ l (.row k (es++es0.drop es.length)))) (.t (.int .i64 es.length)) v
  simp only [VR] at e1
  obtain⟨a0,cap,hv,hmc,hcm0,h3⟩:=(e1.1 k es0 hg).2 hm.symm
  obtain⟨e',htx⟩:=htx
  obtain⟨news,hs,hnv⟩:=hsrc.src (P:=P) (tx:=tx) hr e2 hk htx
  have hnewsl:news.length=es.length*k:=hs.newsLen
  have hsz:(P.info? e).map (·.size)=some k:=by have:=hE.info;cases hi:P.info? e with | none=>simp [hi] at this | some i=>simp [hi] at this;simp [this.1]
  have hmin:Nat.min es.length m=es.length:=Nat.min_eq_left hle
  have hpre:∀ u w',(match a0 with | some a=>(storeCells a news).run P w | none => .ok () w) = .ok u w'->(execOp A.eval o).run P w = .ok (.value (goInt es.length)) w':=by
   intro u w' hst
   simp only [execOp,ho,resolve,invoke,builtin,Sem.run_bind,Sem.run_pure,Result.andThen_ok,List.map_toArray,List.map_cons,List.map_nil,hv,Builtin.copy_,List.getElem?_toArray,List.getElem?_cons_zero,List.getElem?_cons_succ,run_underlying hE.und,hs.len,hmin,Zm9 hsz,hs.cells]
   cases a0 with
   | none=>simp only at hst;cases hst;rfl
   | some a=>simp only at hst;simp [hst]
  obtain⟨hk0,hkl,hb⟩:=hr.blk l _ hg
  have putd:∀ (β':Nat->Option Nat) (w':World) (σ':List (Nat×Blk)),Zaw G β' ⟨n,tm,σ'⟩ A w'->∃ β',Zaw G β' ⟨n,tm,σ'⟩ A w'/\VR (ctx G β' w' σ') (.t (.int .i64 es.length)) (goInt es.length):=
   fun β' w' σ' hr'=>⟨β',hr',by simp [VR,Zx,goInt]⟩
  by_cases hem:es.length=0
  .have hes:es=[]:=List.eq_nil_of_length_eq_zero hem
   subst hes
   have hnil:news=[]:=List.eq_nil_of_length_eq_zero (by simpa using hnewsl)
   subst hnil
   refine⟨_,w,(hpre () w (by cases a0<;>simp [storeCells])),?_⟩
   refine putd β w _ ?_
   refine hr.sub (Nat.le_refl _) (fun i p hp=>⟨hp,(hr.tm i p hp).1⟩) (fun m o hm'=>?_)
   by_cases hml:l=m
   .subst hml;rw [Zb4] at hm';cases hm';simpa using hg
   .rw [Zcf _ _ hml] at hm';exact hm'
  .rcases hb with ⟨_,he⟩ | ⟨b,sz,hb,hrow,hszle,hel⟩
   .subst he;simp at hm;omega
   .rcases h3 with ⟨hc,hb'⟩ | ⟨b',sz',ha,hb',_,_⟩
    .omega
    .have:b'=b:=by have:=hb'.symm.trans hb;simpa using this
     subst this;subst ha
     have hle2:news.length<=sz:=by rw [hnewsl];exact Nat.le_trans (Nat.mul_le_mul_right _ (by omega)) hszle
     have hst:=run_storeCells_cells (P:=P) b' 0 news 0 w (fun j hj=>by
      have:=Zka (w:=w) hrow (o:=0) (n:=news.length) (by omega) j hj
      simp only [Nat.zero_add] at this⊢;exact this.1) (fun j hj=>by
      have:=Zka (w:=w) hrow (o:=0) (n:=news.length) (by omega) j hj
      simp only [Nat.zero_add] at this⊢;exact this.2) (fun u hu=>hs.one u hu)
     rw [Nat.add_zero] at hst
     obtain⟨vs,hvs,hcs⟩:=Z1.vals (c:=ctx G β w σ) (Zm.flat.1 hel)
     have hvl:vs.length=es0.length*k:=by rw [hvs.length,List.length_map,Zca hkl]
     have hfl:(es++es0.drop es.length).flatten.map PV.t=splice (es0.flatten.map PV.t) 0 (es.flatten.map PV.t):=by
      have hdrop:∀ (q:Nat) (l:List (List Zb)),(∀ el,el∈l->el.length=k)->q<=l.length->(l.drop q).flatten=l.flatten.drop (q*k):=by
       intro q
       induction q with
       | zero=>intro l _ _;simp
       | succ q ih=>
        intro l hl hq
        cases l with
        | nil=>simp at hq
        | cons e0 l=>
         have he0:e0.length=k:=hl e0 (by simp)
         have e1:(q+1)*k=q*k+k:=by rw [Nat.add_mul,Nat.one_mul]
         rw [List.drop_succ_cons,ih l (fun el h=>hl el (List.mem_cons_of_mem _ h)) (by simpa using hq),List.flatten_cons,List.drop_append]
         have d0:e0.drop ((q+1)*k)=[]:=List.drop_eq_nil_of_le (by omega)
         rw [d0,List.nil_append,show (q+1)*k - e0.length=q*k by omega]
      unfold splice
      simp only [List.take_zero,List.nil_append,Nat.zero_add,List.length_map,Zca hk]
      rw [List.flatten_append,hdrop _ _ hkl (by omega),List.map_append,List.map_drop]
     obtain⟨hr',hI,hL⟩:=Zkg hr (off:=0) (blk' := .row k (es++es0.drop es.length)) news hg hb (.inl ⟨k,es0,_,rfl,rfl,by simp;omega⟩) (fun hI hL=>by
      refine⟨hk0,fun el hel'=>?_,.inr ⟨b',sz,hb,Zb0 _ _ _ _ hrow,?_,Zm.flat.2 ?_⟩⟩
      .rcases List.mem_append.1 hel' with h | h
       .exact hk el h
       .exact hkl el (List.mem_of_mem_drop h)
      .have:(es++es0.drop es.length).length=es0.length:=by simp;omega
       rw [this];exact hszle
      .refine Zgb (vs:=splice vs 0 news) ?_ (fun j' v hj'=>?_)
       .have h1:=VRs.step hI _ _ (fun m _=>hL m) hvs
        have h2:=VRs.step hI _ _ (fun m _=>hL m) hnv
        rw [hfl]
        exact h1.splice 0 h2
       .rw [Nat.zero_add]
        exact Zix (w:=w) (fun j v hj=>by have:=hcs j v hj;rwa [Nat.zero_add] at this) (by rw [hvl,hnewsl,Nat.zero_add];exact Nat.mul_le_mul_right _ (by omega)) j' v hj')
     exact⟨_,w.setCells b' 0 news,(hpre () _ hst),putd β _ _ hr'⟩
theorem Z6m{op:BinOp}{t e:TypeId}{x:Operand}{yT:TypeId}{a:Option Addr}{l c:Nat}(hu:P.underlying t=some (.slice e))(ho:o.op = .binOp op t x (.const (.slice none 0 0)) yT)(hop:op = .eql\/op = .neq)(A:Act)(w:World)(hx:A.eval x = .slice a l c) :
 (execOp A.eval o).run P w = .ok (.value (.bool (if op = .eql then a.isNone else !a.isNone))) w:=by
 have hg:=Zfo (P:=P) (op:=op) (t:=t) (x:=x) (y := .const (.slice none 0 0)) (u := .slice a l c) (v := .slice none 0 0) w trivial
 have he:=run_equal_slice_nil (P:=P) w t e a l c hu
 have hy:A.eval (.const (.slice none 0 0)) = .slice none 0 0:=rfl
 rcases hop with rfl | rfl
 .simp only [execOp,ho,hx,hy,Sem.run_bind,hg,Result.andThen_ok,binOp,he,Sem.run_pure,if_true]
 .simp only [execOp,ho,hx,hy,Sem.run_bind,hg,Result.andThen_ok,binOp,he,Sem.run_pure]
  rfl
theorem Zaru{op:BinOp}{t e:TypeId}{x:Operand}{yT:TypeId}{es:List (List Zb)}(hu:P.underlying t=some (.slice e))(ho:o.op = .binOp op t x (.const (.slice none 0 0)) yT)(hop:op = .eql\/op = .neq)(hx:Zi ρ x=some (.t (.sl es)))(hne:es≠[]) :
 Za3 P o ρ σ [] (.t (.bool (if op = .eql then false else true))) []:=
 Zb9 fun G β n tm σ' A w hop' _ _=>by
  have e1:=hop' x _ (by simp [ho,Op.operands]) hx
  simp only [VR,Zx] at e1⊢
  obtain⟨a,cap,hv,_,_,h⟩:=e1
  rcases h with h | ⟨b,off,rfl,_⟩
  .exact absurd h hne
  .exact⟨_,Z6m hu ho hop A w hv,by rcases hop with rfl | rfl<;>rfl⟩
theorem Zarv{op:BinOp}{t e:TypeId}{x:Operand}{yT:TypeId}{a:Option Addr}{l c:Nat}(hu:P.underlying t=some (.slice e))(ho:o.op = .binOp op t x (.const (.slice none 0 0)) yT)(hop:op = .eql\/op = .neq)(hx:Zi ρ x=some (.t (.con (.slice a l c)))) :
 Za3 P o ρ σ [] (.t (.bool (if op = .eql then a.isNone else !a.isNone))) []:=
 Zb9 fun G β n tm σ' A w hop' _ _=>by
  have e1:=hop' x _ (by simp [ho,Op.operands]) hx
  simp only [VR,Zx] at e1⊢
  exact⟨_,Z6m hu ho hop A w e1.1,rfl⟩
theorem Zad1{op:BinOp}{t:TypeId}{x:Operand}{yT:TypeId}{a:Option Addr}(hu:P.underlying t=some (.pointer (P.pointee t)))(ho:o.op = .binOp op t x (.const (.pointer none)) yT)(hop:op = .eql\/op = .neq)(A:Act)(w:World)(hx:A.eval x = .pointer a) :
 (execOp A.eval o).run P w = .ok (.value (.bool (if op = .eql then a.isNone else !a.isNone))) w:=by
 have hg:=Zfo (P:=P) (op:=op) (t:=t) (x:=x) (y := .const (.pointer none)) (u := .pointer a) (v := .pointer none) w trivial
 have he:=run_equal_pointer_nil (P:=P) w t a hu
 have hy:A.eval (.const (.pointer none)) = .pointer none:=rfl
 rcases hop with rfl | rfl
 .simp only [execOp,ho,hx,hy,Sem.run_bind,hg,Result.andThen_ok,binOp,he,Sem.run_pure,if_true]
 .simp only [execOp,ho,hx,hy,Sem.run_bind,hg,Result.andThen_ok,binOp,he,Sem.run_pure]
  rfl
theorem Zal3{op:BinOp}{t:TypeId}{x:Operand}{yT:TypeId}{a:Option Addr}(hu:P.underlying t=some (.pointer (P.pointee t)))(ho:o.op = .binOp op t x (.const (.pointer none)) yT)(hop:op = .eql\/op = .neq)(hx:Zi ρ x=some (.t (.con (.pointer a)))) :
 Za3 P o ρ σ [] (.t (.bool (if op = .eql then a.isNone else !a.isNone))) []:=
 Zb9 fun G β n tm σ' A w hop' _ _=>by
  have e1:=hop' x _ (by simp [ho,Op.operands]) hx
  simp only [VR,Zx] at e1⊢
  exact⟨_,Zad1 hu ho hop A w e1.1,rfl⟩
theorem Zal4{op:BinOp}{t:TypeId}{x:Operand}{yT:TypeId}{l q:Nat}{cs:List PV}(hu:P.underlying t=some (.pointer (P.pointee t)))(ho:o.op = .binOp op t x (.const (.pointer none)) yT)(hop:op = .eql\/op = .neq)(hx:Zi ρ x=some (.bptr l q))(hg:get σ l=some (.box cs)) :
 Za3 P o ρ σ [l] (.t (.bool (if op = .eql then false else true))) []:=
 Zb9 fun G β n tm σ' A w hop' hn _=>by
  have e1:=hop' x _ (by simp [ho,Op.operands]) hx
  simp only [VR,Zx] at e1⊢
  obtain⟨b,_,hv⟩:=e1.1 cs ((hn l (by simp)).trans hg)
  exact⟨_,Zad1 hu ho hop A w hv,by rcases hop with rfl | rfl<;>rfl⟩
theorem Zal5{x:Operand}{l q:Nat}{cs:List PV}(ho:o.op = .nilCheck x)(hx:Zi ρ x=some (.bptr l q))(hg:get σ l=some (.box cs)):Za3 P o ρ σ [l] (.bptr l q) []:=
 Zb9 fun G β n tm σ' A w hop hn _=>by
  have h1:=hop x _ (by simp [ho,Op.operands]) hx
  have h2:=h1
  simp only [VR] at h1
  obtain⟨b,_,hv⟩:=h1.1 cs ((hn l (by simp)).trans hg)
  exact⟨.pointer (some ⟨b,q,none⟩),by simp [execOp,ho,hv],by rw [<- hv];exact h2⟩
theorem Zal6{x:Operand}{l m i q k:Nat}{es:List (List Zb)}(ho:o.op = .nilCheck x)(hx:Zi ρ x=some (.rptr l m i q))(hg:get σ l=some (.row k es))(hm:es.length=m):Za3 P o ρ σ [l] (.rptr l m i q) []:=
 Zb9 fun G β n tm σ' A w hop hn _=>by
  have h1:=hop x _ (by simp [ho,Op.operands]) hx
  have h2:=h1
  simp only [VR] at h1
  obtain⟨b,_,hv⟩:=(h1.1 k es ((hn l (by simp)).trans hg)).2 hm.symm
  exact⟨.pointer (some ⟨b,i*k+q,none⟩),by simp [execOp,ho,hv],by rw [<- hv];exact h2⟩
def Zalc:PV->Bool
 | .t (.sl _)=>true
 | .osl _ _=>true
 | _=>false
theorem Zawr{p:PV}(h:Zalc p=true){c:Ctx}{v:Value}(hv:VR c p v):∃ a n cap,v = .slice a n cap:=by
 unfold Zalc at h
 split at h
 .simp only [VR,Zx] at hv;obtain⟨a,cap,hv,_⟩:=hv;exact⟨a,_,cap,hv⟩
 .simp only [VR] at hv;exact hv.2
 .cases h
theorem Zasq{t:TypeId}{x y z:Operand}{k:Nat}{p:PV}{k1 k2:IntKind}(ho:o.op = .slice t x none (some y) (some z))(ha:slInfo P t=some k)(hx:Zi ρ x=some p)(hp:Zalc p=true)(hy:Zi ρ y=some (.t (.int k1 0)))(hz:Zi ρ z=some (.t (.int k2 0))) :
 Za3 P o ρ σ [] .nils []:=
 Zb9 fun G β n tm σ' A w hop _ _=>by
  have e1:=hop x _ (by simp [ho,Op.operands]) hx
  have e2:=hop y _ (by simp [ho,Op.operands]) hy
  have e3:=hop z _ (by simp [ho,Op.operands]) hz
  obtain⟨a,len,cap,hv⟩:=Zawr hp e1
  simp only [VR,Zx] at e2 e3⊢
  unfold slInfo at ha
  split at ha
  case h_2=>cases ha
  rename_i e hu
  have hsz:(P.info? e).map (·.size)=some k:=ha
  have r1:=run_sliceBound (P:=P) w k2 0 cap .slice3Acap (by omega) (by omega)
  have r2:=run_sliceBound (P:=P) w k1 0 0 .slice3B (by omega) (by omega)
  have hbounds:(Instr.sliceBounds true len cap none (some (.int k1 0)) (some (.int k2 0))).run P w = .ok (0,0,0) w:=by
   simp only [Instr.sliceBounds,Sem.run_bind,if_true,r1,Result.andThen_ok,Int.toNat_zero,r2,Sem.run_pure]
  have hel':P.elem t=e:=by simp [Program.elem,hu]
  have hat:=run_sliceAt_slice (P:=P) w t (.slice a len cap) none (some (.int k1 0)) (some (.int k2 0)) (by rw [hel'];exact hu)
  have hsl:∃ a',(Instr.slice t (.slice a len cap) none (some (.int k1 0)) (some (.int k2 0))).run P w = .ok (.slice a' 0 0) w:=by
   refine⟨a,?_⟩
   simp only [Instr.slice,Sem.run_bind,run_underlying hu,Result.andThen_ok,hbounds,Zm9 hsz,Sem.run_pure,if_true,Nat.sub_self]
  obtain⟨a',hsl⟩:=hsl
  refine⟨.slice a' 0 0,?_,a',rfl⟩
  simp only [execOp,ho,hv,Sem.run_bind,Option.map_none,Option.map_some,e2,e3,hat,hsl,Result.andThen_ok,Sem.run_pure]
def maxI(x y:Int):Int:=if x < y then y else x
def minI(x y:Int):Int:=if y < x then y else x
theorem Zaz6{x y:Operand}{ts:Array TypeId}{k k':IntKind}{a b:Int}(ho:o.op = .call { callee := .builtin .max,args := #[x,y],argTypes:=ts })(hx:Zi ρ x=some (.t (.int k a)))(hy:Zi ρ y=some (.t (.int k' b))) :
 Za3 P o ρ σ [] (.t (.int k (maxI a b))) []:=
 Zb9 fun G β n tm σ' A w hop _ _=>by
  have h1:=hop x _ (by simp [ho,Op.operands,Call.operands]) hx
  have h2:=hop y _ (by simp [ho,Op.operands,Call.operands]) hy
  simp only [VR,Zx] at h1 h2⊢
  exact⟨_,by simp [execOp,ho,resolve,invoke,builtin,Builtin.max_,Builtin.max2,h1,h2];rfl,rfl⟩
theorem Zaz7{x y:Operand}{ts:Array TypeId}{k k':IntKind}{a b:Int}(ho:o.op = .call { callee := .builtin .min,args := #[x,y],argTypes:=ts })(hx:Zi ρ x=some (.t (.int k a)))(hy:Zi ρ y=some (.t (.int k' b))) :
 Za3 P o ρ σ [] (.t (.int k (minI a b))) []:=
 Zb9 fun G β n tm σ' A w hop _ _=>by
  have h1:=hop x _ (by simp [ho,Op.operands,Call.operands]) hx
  have h2:=hop y _ (by simp [ho,Op.operands,Call.operands]) hy
  simp only [VR,Zx] at h1 h2⊢
  exact⟨_,by simp [execOp,ho,resolve,invoke,builtin,Builtin.min_,Builtin.min2,h1,h2];rfl,rfl⟩
def Ziy(s:List UInt8):List (List Zb):=s.map fun b=>[Zb.int .u8 b.toNat]
theorem Z90{I:Nat->Prop}{w:World}{b:Nat}:∀ (s:List UInt8) (off:Nat),(∀ j x,s[j]?=some x->w.cell? ⟨b,off+j,none⟩=some (.int .u8 (x.toNat:Int)))->Zm I w b (Ziy s) off
 | [],_,_=>by simp [Ziy,Zm]
 | x::s,off,h=>by
  simp only [Ziy,List.map_cons,Zm,Z1,List.length_cons,List.length_nil]
  refine⟨⟨⟨_,h 0 x rfl,by simp [Zx]⟩,trivial⟩,Z90 s (off+1) (fun j y hj=>?_)⟩
  have:=h (j+1) y (by simpa using hj)
  rwa [show off+(j+1)=off+1+j by omega] at this
theorem Zaws{st dt e:TypeId}{x:Operand}{s:List UInt8}(ho:o.op = .convert st dt x)(hs:P.underlying st=some .string)(hd:P.underlying dt=some (.slice e))(he:P.underlying e=some (.int .u8))
 (hx:Zi ρ x=some (.t (.str s))) (hl:s.length<=9223372036854775807):Za3 P o ρ σ [] (.t (.sl (Ziy s))) []:=
 Zayj fun G β n tm σ' A w hop _ hr=>by
  have hv:=hop x _ (by simp [ho,Op.operands]) hx
  simp only [VR,Zx] at hv
  have hrun:=run_bytes_of_string (P:=P) w st dt e ⟨s.toArray⟩ hs hd he
  have hsz:(⟨s.toArray⟩:ByteArray).size=s.length:=by simp [ByteArray.size]
  rw [hsz] at hrun
  have hge:=grownCap_ge w s.length 0 e
  have hcm:grownCap w s.length 0 e<=maxLen:=grownCap_le_maxLen w s.length 0 e (by simp only [maxLen];omega)
  generalize hC:grownCap w s.length 0 e=C at hrun hge hcm
  generalize hob:Obj.cells (bytesRow ⟨s.toArray⟩ C) e ((bytesRow ⟨s.toArray⟩ C).size,(bytesRow ⟨s.toArray⟩ C).size+1)=ob at hrun
  obtain⟨hr',hI,hnew,hL⟩:=(Zaw.drew hr).allocImm ob
  refine⟨.slice (some ⟨w.heap.size,0,none⟩) s.length C,_,?_,hr',?_⟩
  .simp only [execOp,ho,hv,Sem.run_bind,hrun,Result.andThen_ok,Sem.run_pure]
  .simp only [VR,Zx]
   refine⟨some ⟨w.heap.size,0,none⟩,C,by simp [Ziy],by simpa [Ziy] using hge,hcm,.inr ⟨w.heap.size,0,rfl,hnew,Z90 s 0 (fun j y hj=>?_)⟩⟩
   show (w.drew.alloc ob).cell? ⟨w.drew.heap.size,_,none⟩=_
   rw [<- hob]
   have hlt:=(List.getElem?_eq_some_iff.1 hj).1
   unfold World.cell?
   have hh:(w.drew.alloc (Obj.cells (bytesRow ⟨s.toArray⟩ C) e ((bytesRow ⟨s.toArray⟩ C).size,(bytesRow ⟨s.toArray⟩ C).size+1))).heap[w.drew.heap.size]?=some (Obj.cells (bytesRow ⟨s.toArray⟩ C) e ((bytesRow ⟨s.toArray⟩ C).size,(bytesRow ⟨s.toArray⟩ C).size+1)):=by
    show (w.heap.push _)[w.heap.size]?=_
    simp
   simp only [hh]
   unfold bytesRow
   rw [Nat.zero_add]
   rw [Array.getElem?_append_left (by simpa using hlt)]
   simp [hj]
theorem Z5k{I:Nat->Prop}{w:World}{b:Nat}:∀ (s:List UInt8) (off:Nat),Zm I w b (Ziy s) off->∀ j (hj:j < s.length),w.cell? ⟨b,off+j,none⟩=some (.int .u8 (s[j].toNat:Int))
 | [],_,_,j,hj=>by simp at hj
 | x::s,off,h,j,hj=>by
  simp only [Ziy,List.map_cons,Zm,Z1,List.length_cons,List.length_nil] at h
  obtain⟨⟨⟨c,h1,h2⟩,_⟩,h3⟩:=h
  cases j with
  | zero=>simp only [Zx] at h2;subst h2;simpa using h1
  | succ j=>
   have:=Z5k s (off+1) h3 j (by simpa using hj)
   rw [show off+(j+1)=off+1+j by omega]
   simpa using this
theorem Zawt{st dt e:TypeId}{x:Operand}{s:List UInt8}(ho:o.op = .convert st dt x)(hs:P.underlying st=some (.slice e))(hd:P.underlying dt=some .string)(he:P.underlying e=some (.int .u8))
 (hx:Zi ρ x=some (.t (.sl (Ziy s)))) (hne:s≠[]):Za3 P o ρ σ [] (.t (.str s)) []:=
 Zb9 fun G β n tm σ' A w hop _ _=>by
  have hv:=hop x _ (by simp [ho,Op.operands]) hx
  simp only [VR,Zx] at hv
  obtain⟨a,cap,hv,_,_,h3⟩:=hv
  have hlen:(Ziy s).length=s.length:=by simp [Ziy]
  rw [hlen] at hv
  rcases h3 with h3 | ⟨b,off,rfl,_,hel⟩
  .exact absurd (by simpa [Ziy] using h3) hne
  .have hrun:=run_convert_bytes_back (P:=P) w st dt e ⟨b,off,none⟩ cap s hs he hd (fun j hj=>by
    have h9:(⟨b,off,none⟩:Addr).add j=⟨b,off+j,none⟩:=by
     unfold Addr.add
     by_cases h0:j=0
     .subst h0;rfl
     .rw [if_neg h0]
    rw [h9]
    exact Z5k s off hel j hj)
   exact⟨.string ⟨s.toArray⟩,by simp only [execOp,ho,hv,hrun,Sem.run_bind,Result.andThen_ok,Sem.run_pure],by simp [VR,Zx]⟩
end
end Go.PW
namespace Go.PW
open Go.RowKit
def Zaj:List Prop->Prop
 | []=>True
 | p::ps=>p/\Zaj ps
theorem Zw{ps qs:List Prop}:Zaj (ps++qs)↔Zaj ps/\Zaj qs:=by
 induction ps with
 | nil=>simp [Zaj]
 | cons p ps ih=>simp [Zaj,ih,and_assoc]
mutual
def PV.ren(f:Nat->Nat):PV->PV
 | .t x => .t x
 | .nils => .nils
 | .osl l n => .osl (f l) n
 | .bptr l o => .bptr (f l) o
 | .rptr l n i o => .rptr (f l) n i o
 | .vptr cs => .vptr cs
 | .agg cs => .agg (PV.rens f cs)
 | .tup cs => .tup (PV.rens f cs)
 | .fn g cs => .fn g (PV.rens f cs)
 | .own l d => .own (f l) d
def PV.rens(f:Nat->Nat):List PV->List PV
 | []=>[]
 | p::ps=>p.ren f::PV.rens f ps
end
def Blk.ren(f:Nat->Nat):Blk->Blk
 | .box cs => .box (PV.rens f cs)
 | .row k es => .row k es
 | .mat k q es => .mat k q es
 | .map ag es => .map ag es
 | .prow k i es cs => .prow k i es (PV.rens f cs)
 | .reg h => .reg h
 | .xrow k i r es => .xrow k i (f r) es
mutual
def PV.sc:PV->Bool
 | .t x=>x.scal
 | .vptr _=>false
 | .agg cs=>PV.scs cs
 | .tup cs=>PV.scs cs
 | .fn _ cs=>PV.scs cs
 | _=>true
def PV.scs:List PV->Bool
 | []=>true
 | p::ps=>p.sc&&PV.scs ps
end
def Blk.SC:Blk->Prop
 | .box cs=>PV.scs cs=true
 | .row _ es=>∀ el,el∈es->∀ x,x∈el->Zb.scal x=true
 | .mat k q _=>k=1/\q=0
 | .map _ _=>False
 | .prow _ _ _ _=>False
 | .reg _=>True
 | .xrow _ _ _ _=>False
theorem PV.rens_length{f:Nat->Nat}:∀ (ps:List PV),(PV.rens f ps).length=ps.length
 | []=>rfl
 | p::ps=>by simp [PV.rens,PV.rens_length ps]
theorem PV.rens_one{f:Nat->Nat}:∀ (ps:List PV),(PV.rens f ps).all PV.one=ps.all PV.one
 | []=>rfl
 | p::ps=>by
  simp only [PV.rens,List.all_cons,PV.rens_one ps]
  cases p<;>rfl
mutual
theorem PV.ren_free{f:Nat->Nat}:∀ (p:PV),p.free=true->p.ren f=p
 | .t _,_=>rfl
 | .nils,_=>rfl
 | .vptr _,_=>rfl
 | .agg cs,h=>by simp only [PV.ren];rw [PV.rens_free cs (by simpa [PV.free] using h)]
 | .tup cs,h=>by simp only [PV.ren];rw [PV.rens_free cs (by simpa [PV.free] using h)]
 | .fn _ cs,h=>by simp only [PV.ren];rw [PV.rens_free cs (by simpa [PV.free] using h)]
 | .osl _ _,h=>by simp [PV.free] at h
 | .bptr _ _,h=>by simp [PV.free] at h
 | .rptr _ _ _ _,h=>by simp [PV.free] at h
 | .own _ _,h=>by simp [PV.free] at h
theorem PV.rens_free{f:Nat->Nat}:∀ (ps:List PV),PV.frees ps=true->PV.rens f ps=ps
 | [],_=>rfl
 | p::ps,h=>by
  simp only [PV.frees,Bool.and_eq_true] at h
  simp only [PV.rens]
  rw [PV.ren_free p h.1,PV.rens_free ps h.2]
end
theorem Zt5{f:Nat->Nat}:∀ (ps qs:List PV),PV.rens f (ps++qs)=PV.rens f ps++PV.rens f qs
 | [],_=>rfl
 | p::ps,qs=>by simp only [List.cons_append,PV.rens,Zt5 ps qs]
theorem Zad2{f:Nat->Nat}:∀ (ts:List Zb),PV.rens f (ts.map .t)=ts.map .t
 | []=>rfl
 | t::ts=>by simp only [List.map_cons,PV.rens,PV.ren,Zad2 ts]
theorem Zad3{f:Nat->Nat}{i:Nat}{es:List (List Zb)}{cs:List PV}:PV.rens f (Zg8 i es cs)=Zg8 i es (PV.rens f cs):=by
 unfold Zg8
 rw [Zt5,Zt5,Zad2,Zad2]
theorem Zayz{f:Nat->Nat}{r:Nat}(t:Zb):(rgP r t).ren f=rgP (f r) t:=by cases t<;>rfl
theorem Zal7{f:Nat->Nat}{r:Nat}:∀ (ts:List Zb),PV.rens f (ts.map (rgP r))=ts.map (rgP (f r))
 | []=>rfl
 | t::ts=>by simp only [List.map_cons,PV.rens,Zayz,Zal7 ts]
theorem Zarw{f:Nat->Nat}{i r:Nat}{es:List (List Zb)}:PV.rens f (xPs i r es)=xPs i (f r) es:=by
 unfold xPs
 rw [Zt5,Zal7,Zad2]
def Z87(c c':Ctx)(l m:Nat):Prop:=
 (∀ k es,get c'.σ m=some (.row k es)->get c.σ l=some (.row k es)/\c'.β m=c.β l/\∀ b s,c.β l=some b->Za7 c.w b s->Za7 c'.w b s) /\
 (∀ cs',get c'.σ m=some (.box cs')->∃ cs,get c.σ l=some (.box cs)/\c'.β m=c.β l) /\
 (∀ k q es,get c'.σ m=some (.mat k q es)->get c.σ l=some (.mat k q es)/\c'.β m=c.β l/\∀ b,c.β l=some b->(∀ s,Za7 c.w b s->Za7 c'.w b s)/\∀ j,c'.w.cell? ⟨b,j,none⟩=c.w.cell? ⟨b,j,none⟩) /\
 (∀ ag es,get c'.σ m=some (.map ag es)->get c.σ l=some (.map ag es)/\c'.β m=c.β l) /\
 (∀ k i es cs',get c'.σ m=some (.prow k i es cs')->∃ cs,get c.σ l=some (.prow k i es cs)/\c'.β m=c.β l/\∀ b s,c.β l=some b->Za7 c.w b s->Za7 c'.w b s) /\
 (∀ h,get c'.σ m=some (.reg h)->get c.σ l=some (.reg h)/\c'.β m=c.β l/\∀ n b,c.β l=some n->n.testBit b=true->c'.w.heap[b]?=c.w.heap[b]?) /\
 (∀ k i r es,get c'.σ m=some (.xrow k i r es)->∃ r0,get c.σ l=some (.xrow k i r0 es)/\c'.β m=c.β l/\∀ b s,c.β l=some b->Za7 c.w b s->Za7 c'.w b s)
theorem ODR.ren{c c':Ctx}{l m:Nat}{v:Value}(hl:Z87 c c' l m):∀ {d:OD},ODR c l v d->ODR c' m v d
 | .tail n i,h=>fun k es hg=>by
  obtain⟨hg0,hβ,hh⟩:=hl.1 k es hg
  obtain⟨h1,h2⟩:=h k es hg0
  refine⟨h1,fun hn=>?_⟩
  obtain⟨a,cap,hv,hc2,h3⟩:=h2 hn
  refine⟨a,cap,hv,hc2,?_⟩
  rcases h3 with hc | ⟨b,s,ha,hb,hcs,hsz⟩
  .exact .inl hc
  .exact .inr ⟨b,s,ha,hβ.trans hb,hh b s hb hcs,hsz⟩
 | .msl n,h=>fun k q es hg=>by
  obtain⟨hg0,hβ,hh⟩:=hl.2.2.1 k q es hg
  obtain⟨h1,h2⟩:=h k q es hg0
  refine⟨h1,fun hn=>?_⟩
  obtain⟨a,cap,hv,hc1,hc2,h3⟩:=h2 hn
  refine⟨a,cap,hv,hc1,hc2,?_⟩
  rcases h3 with ⟨hc,hb⟩ | ⟨b,s,ha,hb,hcs,hsz⟩
  .exact .inl ⟨hc,hβ.trans hb⟩
  .exact .inr ⟨b,s,ha,hβ.trans hb,(hh b hb).1 s hcs,hsz⟩
 | .mpt n j off,h=>fun k q es hg=>by
  obtain⟨hg0,hβ,hh⟩:=hl.2.2.1 k q es hg
  obtain⟨h1,h2⟩:=h k q es hg0
  refine⟨h1,fun hn=>?_⟩
  obtain⟨b,hb,hv⟩:=h2 hn
  exact⟨b,hβ.trans hb,hv⟩
 | .mrow n j,h=>⟨h.1,fun k q es hg=>by
  obtain⟨hg0,hβ,hh⟩:=hl.2.2.1 k q es hg
  obtain⟨h1,h2⟩:=h.2 k q es hg0
  refine⟨h1,fun hn=>?_⟩
  obtain⟨b,hb,hv⟩:=h2 hn
  exact⟨b,hβ.trans hb,((hh b hb).2 _).trans hv⟩⟩
 | .mel n j i,h=>⟨h.1,fun k q es hg=>by
  obtain⟨hg0,hβ,hh⟩:=hl.2.2.1 k q es hg
  obtain⟨h1,h2⟩:=h.2 k q es hg0
  refine⟨h1,fun hn=>?_⟩
  obtain⟨b,d,len,cap,hb,hv,hp⟩:=h2 hn
  exact⟨b,d,len,cap,hβ.trans hb,((hh b hb).2 _).trans hv,hp⟩⟩
 | .map,h=>fun ag es hg=>by
  obtain⟨hg0,hβ⟩:=hl.2.2.2.1 ag es hg
  obtain⟨b,hb,hv⟩:=h ag es hg0
  exact⟨b,hβ.trans hb,hv⟩
 | .pw n,h=>fun k i es cs' hg=>by
  obtain⟨cs,hg0,hβ,hh⟩:=hl.2.2.2.2.1 k i es cs' hg
  obtain⟨h1,h2⟩:=h k i es cs hg0
  refine⟨h1,fun hn=>?_⟩
  obtain⟨b,s,cap,hv,hc1,hc2,hb,hr,hs⟩:=h2 hn
  exact⟨b,s,cap,hv,hc1,hc2,hβ.trans hb,hh b s hb hr,hs⟩
 | .pp n off,h=>fun k i es cs' hg=>by
  obtain⟨cs,hg0,hβ,_⟩:=hl.2.2.2.2.1 k i es cs' hg
  obtain⟨h1,h2⟩:=h k i es cs hg0
  refine⟨h1,fun hn=>?_⟩
  obtain⟨b,hb,hv⟩:=h2 hn
  exact⟨b,hβ.trans hb,hv⟩
 | .rg x,h=>fun hv hg=>by
  obtain⟨hg0,hβ,hh⟩:=hl.2.2.2.2.2.1 hv hg
  obtain⟨n,hn,hx⟩:=h hv hg0
  exact⟨n,hβ.trans hn,hx.mono (fun b hb=>⟨hb,ShB.same (hh n b hn hb)⟩)⟩
 | .rp cs,h=>fun hv hg=>by
  obtain⟨hg0,hβ,hh⟩:=hl.2.2.2.2.2.1 hv hg
  obtain⟨n,b,off,hn,he,hb,hx⟩:=h hv hg0
  exact⟨n,b,off,hβ.trans hn,he,hb,hx.mono (fun b hb=>⟨hb,ShB.same (hh n b hn hb)⟩) hb⟩
 | .xw n,h=>fun k i r es hg=>by
  obtain⟨r0,hg0,hβ,hh⟩:=hl.2.2.2.2.2.2 k i r es hg
  obtain⟨h1,h2⟩:=h k i r0 es hg0
  refine⟨h1,fun hn=>?_⟩
  obtain⟨a,cap,hv,hc1,hc2,h3⟩:=h2 hn
  refine⟨a,cap,hv,hc1,hc2,?_⟩
  rcases h3 with ⟨hc,hb⟩ | ⟨b,s,ha,hb,hcs,hsz⟩
  .exact .inl ⟨hc,hβ.trans hb⟩
  .exact .inr ⟨b,s,ha,hβ.trans hb,hh b s hb hcs,hsz⟩
 | .xp n j off,h=>fun k i r es hg=>by
  obtain⟨r0,hg0,hβ,_⟩:=hl.2.2.2.2.2.2 k i r es hg
  obtain⟨h1,h2⟩:=h k i r0 es hg0
  refine⟨h1,fun hn=>?_⟩
  obtain⟨b,hb,hv⟩:=h2 hn
  exact⟨b,hβ.trans hb,hv⟩
theorem Z3.lab{β β':Nat->Option Nat}{w:World}{i l:Nat}{o:Blk}{b:Nat}(hβ:β' i=β l)(h:Z3 β' w i o b):Z3 β w l o b:=by
 rcases h with ⟨h,hr⟩ | ⟨b0,h2,h3⟩
 .exact .inl (hβ▸h) hr
 .exact .inr ⟨b0,hβ▸h2,h3⟩
theorem Z3.unren{β:Nat->Option Nat}{w:World}{l:Nat}{o:Blk}{b:Nat}{f:Nat->Nat}(h:Z3 β w l (o.ren f) b):Z3 β w l o b:=by
 cases o with
 | reg h0=>exact h
 | xrow k i r es=>exact .inl (Z3.flat (o := .xrow k i (f r) es) trivial h)
 | row k es=>exact h
 | mat k q es=>exact h
 | map ag es=>exact h
 | prow k i es cs=>exact .inl (Z3.flat (o := .prow k i es (PV.rens f cs)) trivial h)
 | box cs=>exact .inl (Z3.flat (o := .box (PV.rens f cs)) trivial h)
theorem Zx.scal{I I':Nat->Prop}{w w':World}{t:Zb}{v:Value}(hs:t.scal=true)(h:Zx I w t v):Zx I' w' t v:=by
 cases t
 case sl es=>
  cases es with
  | nil=>
   simp only [Zx] at h⊢
   obtain⟨a,cap,hv,h1,h2,_⟩:=h
   exact⟨a,cap,hv,h1,h2,.inl trivial⟩
  | cons e es=>simp [Zb.scal] at hs
 all_goals simpa [Zx] using h
theorem Z1.scal{I I':Nat->Prop}{w:World}{b:Nat}:∀ (ts:List Zb) (off:Nat),(∀ x,x∈ts->Zb.scal x=true)->Z1 I w b ts off->Z1 I' w b ts off
 | [],_,_,_=>trivial
 | t::ts,off,hs,h=>by
  simp only [Z1] at h⊢
  obtain⟨⟨c,hc,ht⟩,hr⟩:=h
  exact⟨⟨c,hc,ht.scal (hs t (by simp))⟩,Z1.scal ts _ (fun x hx=>hs x (List.mem_cons_of_mem _ hx)) hr⟩
theorem Zm.scal{I I':Nat->Prop}{w:World}{b:Nat}:∀ (es:List (List Zb)) (off:Nat),(∀ el,el∈es->∀ x,x∈el->Zb.scal x=true)->Zm I w b es off->Zm I' w b es off
 | [],_,_,_=>trivial
 | e::es,off,hs,h=>by
  simp only [Zm] at h⊢
  exact⟨Z1.scal e off (hs e (by simp)) h.1,Zm.scal es _ (fun el hel=>hs el (List.mem_cons_of_mem _ hel)) h.2⟩
mutual
theorem VR.ren{c c':Ctx}{f:Nat->Nat}{sc:Bool}(hI:sc=false->∀ b,c.I b->c'.I b/\c'.w.heap[b]?=c.w.heap[b]?):∀ (p:PV) (v:Value),(sc=true->p.sc=true)->(∀ l,p.has l=true->Z87 c c' l (f l))->VR c p v->VR c' (p.ren f) v
 | .t x,v,hs,_,h=>by
  simp only [VR,PV.ren] at h⊢
  cases sc with
  | false=>exact Zx.mono (hI rfl) x v h
  | true=>exact h.scal (by simpa [PV.sc] using hs rfl)
 | .nils,v,_,_,h=>h
 | .osl l n,v,_,hl,h=>by
  simp only [VR,PV.ren] at h⊢
  refine⟨fun k es hg=>?_,h.2⟩
  obtain⟨h1,h2,h3⟩:=(hl l (by simp [PV.has])).1 k es hg
  obtain⟨g1,g2⟩:=h.1 k es h1
  refine⟨g1,fun hn=>?_⟩
  obtain⟨a,cap,hv,e1,e2,e3⟩:=g2 hn
  refine⟨a,cap,hv,e1,e2,?_⟩
  rcases e3 with ⟨hc,hb⟩ | ⟨b,m,ha,hb,hr,hs⟩
  .exact .inl ⟨hc,h2.trans hb⟩
  .exact .inr ⟨b,m,ha,h2.trans hb,h3 b m hb hr,hs⟩
 | .bptr l o,v,_,hl,h=>by
  simp only [VR,PV.ren] at h⊢
  refine⟨fun cs hg=>?_,h.2⟩
  obtain⟨cs0,h1,h2⟩:=(hl l (by simp [PV.has])).2.1 cs hg
  obtain⟨b,hb,hv⟩:=h.1 cs0 h1
  exact⟨b,h2.trans hb,hv⟩
 | .rptr l n i o,v,_,hl,h=>by
  simp only [VR,PV.ren] at h⊢
  refine⟨fun k es hg=>?_,h.2⟩
  obtain⟨h1,h2,h3⟩:=(hl l (by simp [PV.has])).1 k es hg
  obtain⟨g1,g2⟩:=h.1 k es h1
  refine⟨g1,fun hn=>?_⟩
  obtain⟨b,hb,hv⟩:=g2 hn
  exact⟨b,h2.trans hb,hv⟩
 | .vptr cs,v,hs,_,h=>by
  cases sc with
  | false=>
   have:=VR.step (c:=c) (c':=c') (hI rfl) (.vptr cs) v (fun l hl=>by simp [PV.has] at hl) h
   simpa [PV.ren] using this
  | true=>have:=hs rfl;simp [PV.sc] at this
 | .agg cs,v,hs,hl,h=>by
  simp only [VR,PV.ren] at h⊢
  obtain⟨vs,hv,hvs⟩:=h
  exact⟨vs,hv,VRs.ren hI cs vs (by simpa [PV.sc] using hs) (fun l h=>hl l (by simpa [PV.has] using h)) hvs⟩
 | .tup cs,v,hs,hl,h=>by
  simp only [VR,PV.ren] at h⊢
  obtain⟨vs,hv,hvs⟩:=h
  exact⟨vs,hv,VRs.ren hI cs vs (by simpa [PV.sc] using hs) (fun l h=>hl l (by simpa [PV.has] using h)) hvs⟩
 | .fn _ cs,v,hs,hl,h=>by
  simp only [VR,PV.ren] at h⊢
  obtain⟨vs,hv,hvs⟩:=h
  exact⟨vs,hv,VRs.ren hI cs vs (by simpa [PV.sc] using hs) (fun l h=>hl l (by simpa [PV.has] using h)) hvs⟩
 | .own l d,v,_,hl,h=>by
  simp only [VR,PV.ren] at h⊢
  exact⟨h.1.ren (hl l (by simp [PV.has])),h.2⟩
theorem VRs.ren{c c':Ctx}{f:Nat->Nat}{sc:Bool}(hI:sc=false->∀ b,c.I b->c'.I b/\c'.w.heap[b]?=c.w.heap[b]?):∀ (ps:List PV) (vs:List Value),(sc=true->PV.scs ps=true)->(∀ l,PV.hasAny l ps=true->Z87 c c' l (f l))->VRs c ps vs->VRs c' (PV.rens f ps) vs
 | [],vs,_,_,h=>h
 | p::ps,vs,hs,hl,h=>by
  simp only [VRs,PV.rens] at h⊢
  obtain⟨v,rest,rfl,hv,hr⟩:=h
  have hs':sc=true->p.sc=true/\PV.scs ps=true:=fun e=>by simpa [PV.scs] using hs e
  exact⟨v,rest,rfl,VR.ren hI p v (fun e=>(hs' e).1) (fun l h=>hl l (by simp [PV.hasAny,h])) hv,VRs.ren hI ps rest (fun e=>(hs' e).2) (fun l h=>hl l (by simp [PV.hasAny,h])) hr⟩
end
def Zdf(ls:List Nat)(d l:Nat):Nat:=match ls[l]? with | some L=>L | none=>l+d
def Zed(f:Nat->Nat):List (Nat×Blk)->List (Nat×Blk)
 | []=>[]
 | (l,b)::r=>(f l,b.ren f)::Zed f r
def Zod(f:Nat->Nat):List (Nat×Blk)->Nat->Option Nat
 | [],_=>none
 | (l,_)::r,m=>bif Nat.beq (f l) m then some l else Zod f r m
theorem Zxz{f:Nat->Nat}:∀ {σ1:List (Nat×Blk)} {m:Nat} {o:Blk},get (Zed f σ1) m=some o->∃ l o1,Zod f σ1 m=some l/\get σ1 l=some o1/\o=o1.ren f/\f l=m
 | [],m,o,h=>by cases h
 | (l,b)::r,m,o,h=>by
  simp only [Zed,PW.get] at h
  cases hb:Nat.beq (f l) m with
  | true=>
   simp only [hb,cond_true,Option.some.injEq] at h
   exact⟨l,b,by simp [Zod,hb],by simp [PW.get],h.symm,(Zu _ _).1 hb⟩
  | false=>
   simp only [hb,cond_false] at h
   obtain⟨l',o1,h1,h2,h3,h4⟩:=Zxz h
   refine⟨l',o1,by simp [Zod,hb,h1],?_,h3,h4⟩
   simp only [PW.get]
   rw [Zdi (fun e=>by subst e;rw [h4] at hb;simp at hb),cond_false,h2]
theorem Zrh{f:Nat->Nat}:∀ {σ1:List (Nat×Blk)} {m l:Nat},Zod f σ1 m=some l->f l=m/\(∃ o1,get σ1 l=some o1)/\∃ o,get (Zed f σ1) m=some o
 | [],m,l,h=>by cases h
 | (l0,b)::r,m,l,h=>by
  simp only [Zod] at h
  cases hb:Nat.beq (f l0) m with
  | true=>
   simp only [hb,cond_true,Option.some.injEq] at h
   subst h
   exact⟨(Zu _ _).1 hb,⟨b,by simp [PW.get]⟩,⟨b.ren f,by simp [Zed,PW.get,hb]⟩⟩
  | false=>
   simp only [hb,cond_false] at h
   obtain⟨h1,⟨o1,h2⟩,⟨o,h3⟩⟩:=Zrh h
   refine⟨h1,⟨o1,?_⟩,⟨o,by simp [Zed,PW.get,hb,h3]⟩⟩
   simp only [PW.get]
   rw [Zdi (fun e=>by subst e;rw [h1] at hb;simp at hb),cond_false,h2]
theorem Zx0{f:Nat->Nat}:∀ {σ1:List (Nat×Blk)} {l:Nat} {o1:Blk},get σ1 l=some o1->∃ l',Zod f σ1 (f l)=some l'
 | [],l,o1,h=>by cases h
 | (l0,b)::r,l,o1,h=>by
  simp only [PW.get] at h
  simp only [Zod]
  cases hb:Nat.beq (f l0) (f l) with
  | true=>exact⟨l0,rfl⟩
  | false=>
   cases hb2:Nat.beq l0 l with
   | true=>have:=(Zu _ _).1 hb2;subst this;simp at hb
   | false=>simp only [hb2,cond_false] at h;exact Zx0 h
theorem Z91{f:Nat->Nat}:∀ (a b:List (Nat×Blk)),Zed f (a++b)=Zed f a++Zed f b
 | [],b=>rfl
 | (l,x)::a,b=>by simp only [List.cons_append,Zed,Z91 a b]
def βc(β:Nat->Option Nat)(ls:List Nat)(i:Nat):Option Nat:=match ls[i]? with | some L=>β L | none=>none
def β2(β β':Nat->Option Nat)(f:Nat->Nat)(σ1:List (Nat×Blk))(m:Nat):Option Nat:=match Zod f σ1 m with | some l=>β' l | none=>β m
def Zald(o o':Blk):Prop:=o'=o\/∃ cs cs',o = .box cs/\o' = .box cs'
theorem Zald.own{β:Nat->Option Nat}{w:World}{l:Nat}{o o':Blk}{b:Nat}(h:Zald o o')(hb:Z3 β w l o' b):Z3 β w l o b:=by
 rcases h with rfl | ⟨cs,cs',rfl,rfl⟩
 .exact hb
 .exact .inl (Z3.flat (o := .box cs') trivial hb)
structure Zad4 (ls:List Nat) (d:Nat) (tm:List (Nat×PV)) (σ σa σ1:List (Nat×Blk)) (res:PV):Prop where
 nd:∀ (i j L:Nat),ls[i]?=some L->ls[j]?=some L->i=j
 len:ls.length<=1000
 sa:∀ (i:Nat) o,get σa i=some o->∃ L,ls[i]?=some L/\∃ o0,get σ L=some o0/\Zald o0 o
 all:∀ (i L:Nat),ls[i]?=some L->∃ o,get σa i=some o
 np:(∀ (i k j:Nat) es cs,get σa i≠some (.prow k j es cs))/\(∀ (i k j r:Nat) es,get σa i≠some (.xrow k j r es))/\∀ (i:Nat) h,get σa i≠some (.reg h)
 box:∀ (l:Nat) o,get σ1 l=some o->∀ L,ls[l]?=some L->(∃ cs cs0,o = .box cs/\get σ L=some (.box cs0))\/∃ k es es0,o = .row k es/\get σ L=some (.row k es0)
 fr:∀ (l:Nat) o,get σ1 l=some o->ls[l]?=none->1000<=l+d/\(∀ i q,get tm i=some q->q.has (l+d)=false)/\(∀ m y,get σ m=some y->m≠l+d/\y.has (l+d)=false)
 cl:∀ l,(res.has l=true\/∃ m o,get σ1 m=some o/\o.has l=true)->∃ o,get σ1 l=some o
theorem Zad4.key{ls:List Nat}{d:Nat}{tm:List (Nat×PV)}{σ σa σ1:List (Nat×Blk)}{res:PV}(h:Zad4 ls d tm σ σa σ1 res){l:Nat}{o:Blk}(hg:get σ1 l=some o):Zod (Zdf ls d) σ1 (Zdf ls d l)=some l:=by
 obtain⟨l',hl'⟩:=Zx0 (f:=Zdf ls d) hg
 obtain⟨h1,⟨o',h2⟩,_⟩:=Zrh hl'
 suffices l'=l by rw [hl',this]
 unfold Zdf at h1
 cases e1:ls[l']? with
 | some L1=>
  cases e2:ls[l]? with
  | some L2=>simp only [e1,e2] at h1;subst h1;exact h.nd _ _ _ e1 e2
  | none=>
   simp only [e1,e2] at h1
   obtain⟨o3,h3⟩:=h.all _ _ e1
   obtain⟨L,h4,_,h5,_⟩:=h.sa _ _ h3
   rw [e1] at h4;cases h4
   exact absurd h1 ((h.fr l o hg e2).2.2 _ _ h5).1
 | none=>
  cases e2:ls[l]? with
  | some L2=>
   simp only [e1,e2] at h1
   obtain⟨o3,h3⟩:=h.all _ _ e2
   obtain⟨L,h4,_,h5,_⟩:=h.sa _ _ h3
   rw [e2] at h4;cases h4
   exact absurd h1.symm ((h.fr l' o' h2 e1).2.2 _ _ h5).1
  | none=>simp only [e1,e2] at h1;omega
theorem Zaux{I I':Nat->Prop}{w:World}{b n:Nat}:∀ (es:List (List Zb)) (off:Nat),(∀ el,el∈es->el.length=1)->off+es.length<=n->Zm (fun d=>I d\/Subs w b 1 0 n d) w b es off ->
 (∀ j e,es[j]?=some e->∃ inner a len cap,e[0]?=some (.sl inner)/\(∀ x,x∈inner->∃ t,x=[t]/\t.scal=true)/\w.cell? ⟨b,off+j,none⟩=some (.slice a len cap)/\(len≠0->∃ d,a=some ⟨d,0,none⟩)) ->
 Zm (fun d=>I' d\/Subs w b 1 0 n d) w b es off
 | [],_,_,_,_,_=>trivial
 | e::es,off,h1,hn,h,hin=>by
  simp only [Zm] at h⊢
  have he:=h1 e (by simp)
  simp only [List.length_cons] at hn
  obtain⟨inner,a,len,cap,g1,g2,g3,g4⟩:=hin 0 e rfl
  obtain⟨t,rfl⟩:=List.length_eq_one_iff.1 he
  simp only [List.getElem?_cons_zero,Option.some.injEq] at g1
  subst g1
  refine⟨?_,?_⟩
  .simp only [Z1] at h⊢
   obtain⟨⟨c,hc,ht⟩,_⟩:=h.1
   refine⟨⟨c,hc,?_⟩,trivial⟩
   rw [Nat.add_zero] at g3
   rw [g3] at hc
   cases hc
   simp only [Zx] at ht⊢
   obtain⟨a',cap',hv,k1,k2,k3⟩:=ht
   cases hv
   refine⟨a,cap,rfl,k1,k2,?_⟩
   rcases k3 with k3 | ⟨b',o',k3,k4,k5⟩
   .exact .inl k3
   .by_cases hz:inner.length=0
    .exact .inl (List.eq_nil_of_length_eq_zero hz)
    .obtain⟨d,hd⟩:=g4 hz
     rw [k3] at hd
     cases hd
     refine .inr ⟨b',0,k3,.inr ⟨off,by omega,inner.length,cap,hz,by rw [Nat.mul_one,Nat.add_zero,g3,k3]⟩,?_⟩
     exact Zm.scal inner 0 (fun el hel x hx=>by obtain⟨t,rfl,ht⟩:=g2 el hel;rw [List.mem_singleton.1 hx];exact ht) k5
  .refine Zaux es _ (fun el hel=>h1 el (List.mem_cons_of_mem _ hel)) (by simp only [List.length_singleton];omega) h.2 (fun j e' hj=>?_)
   obtain⟨i2,a2,l2,c2,f1,f2,f3,f4⟩:=hin (j+1) e' hj
   exact⟨i2,a2,l2,c2,f1,f2,by rw [<- f3];simp only [List.length_singleton];congr 2;omega,f4⟩
theorem callU{P:Program}{f:FuncId}{σa:List (Nat×Blk)}{qs:List PV}{σ1:List (Nat×Blk)}{res:PV}(hfn:FnG P f σa qs σ1 res)
 {G:Frm} {β:Nat->Option Nat} {n:Nat} {tm:List (Nat×PV)} {σ:List (Nat×Blk)} {a:Act} {w:World} (hr:Zaw G β ⟨n,tm,σ⟩ a w) {ls:List Nat} {d:Nat}
 (hok:Zad4 ls d tm σ σa σ1 res) {sc:Bool} {vals:List Value} (hlen:vals.length=qs.length) (A:Nat->Prop) (hA:∀ b,A b->b < w.heap.size/\∀ (i:Nat) (L:Nat) (o:Blk),ls[i]?=some L->get σ L=some o->¬ Z3 β w L o b)
 (hAT:∀ b,Imm G β w σ b->A b) (hA0:sc=false->∀ b,A b->Imm G β w σ b) (hsc:sc=true->res.sc=true/\∀ l o,get σ1 l=some o->o.SC)
 (hv:VRs (ctx (Zey (βc β ls) σa A w) (βc β ls) w σa) qs vals)
 (hbx:∀ (i L:Nat) cs0 cs,ls[i]?=some L->get σ L=some (.box cs0)->get σa i=some (.box cs)->∀ vs,VRs (ctx G β w σ) cs0 vs->cs0.all PV.one=true->VRs (ctx (Zey (βc β ls) σa A w) (βc β ls) w σa) cs vs/\cs.all PV.one=true) :
 Calls P f vals.toArray w fun e w'=>∃ v b2,e = .returned v/\Zaw G b2 ⟨n,tm,Zed (Zdf ls d) σ1++Za5 ls σ⟩ a w'/\VR (ctx G b2 w' (Zed (Zdf ls d) σ1++Za5 ls σ)) (res.ren (Zdf ls d)) v:=by
 have hβc:∀ (i L:Nat),ls[i]?=some L->βc β ls i=β L:=fun i L h=>by simp [βc,h]
 have hownc:∀ b,Zayk (βc β ls) w σa b->∃ (i L:Nat) (o:Blk),ls[i]?=some L/\get σ L=some o/\Z3 β w L o b:=by
  rintro b ⟨i,o,ho,hb⟩
  obtain⟨L,h1,o0,h2,h3⟩:=hok.sa i o ho
  exact⟨i,L,o0,h1,h2,h3.own (hb.lab (hβc i L h1))⟩
 refine (hfn.2 A (βc β ls) w vals hlen ?_).mono ?_
 .refine { defers:=rfl,sz:=by simp [hlen],base:=Nat.le_refl _,os:=rfl,tape:=rfl,output:=rfl,old:=fun _ _ _=>rfl,A:=fun b hb=>⟨(hA b hb).1,fun h=>?_⟩,gl:=fun g k hg=>⟨(hr.glw g k hg).1,fun h=>?_,hAT g (hr.glI hg),(hr.glw g k hg).2⟩,inj:=fun i i' o o' b h h' hb hb'=>?_,sep:=fun i o b h hb=>⟨?_,.inr ⟨i,o,h,hb⟩⟩,fix:=fun _ _ _ _=>rfl,row0:=fun l k es' _ h=>⟨es',h,Nat.le_refl _,fun _=>⟨rfl,fun _ _ _ h=>h⟩⟩,blk:=fun i o h=>?_,tm:=fun i p hp=>?_ }
  .obtain⟨i,L,o,h1,h2,h3⟩:=hownc b h
   exact (hA b hb).2 i L o h1 h2 h3
  .obtain⟨i,L,cs,h1,h2,h3⟩:=hownc g h
   obtain⟨g1,g2,_⟩:=hr.gl g k hg
   rcases (hr.sep L _ g h2 h3).2 with h4 | h4
   .omega
   .exact g2 h4
  .obtain⟨L,h1,o0,h2,h3⟩:=hok.sa i o h
   obtain⟨L',h1',o0',h2',h3'⟩:=hok.sa i' o' h'
   have:=hr.inj L L' _ _ b h2 h2' (h3.own (hb.lab (hβc i L h1))) (h3'.own (hb'.lab (hβc i' L' h1')))
   subst this
   exact hok.nd _ _ _ h1 h1'
  .obtain⟨L,h1,o0,h2,h3⟩:=hok.sa i o h
   exact (hr.sep L _ b h2 (h3.own (hb.lab (hβc i L h1)))).1
  .obtain⟨L,h1,o0,h2,h3⟩:=hok.sa i o h
   have hII:∀ b,Imm G β w σ b->Imm (Zey (βc β ls) σa A w) (βc β ls) w σa b:=fun b hb=>⟨(hA b (hAT b hb)).1,.inr (.inl (hAT b hb)),fun j o ho hb'=>by
    obtain⟨L',h1',o0',h2',h3'⟩:=hok.sa j o ho
    exact (hA b (hAT b hb)).2 j L' o0' h1' h2' (h3'.own (hb'.lab (hβc j L' h1')))⟩
   cases o with
   | box cs=>
    obtain⟨cs0,rfl⟩:∃ cs0,o0 = .box cs0:=by
     rcases h3 with h3 | ⟨cs0,_,h3,_⟩
     .exact⟨cs,h3.symm⟩
     .exact⟨cs0,h3⟩
    obtain⟨b,vs,e1,e2,e3,e4,e5⟩:=hr.blk L _ h2
    obtain⟨g1,g2⟩:=hbx i L cs0 cs h1 h2 h vs e4 e5
    exact⟨b,vs,by rw [show (ctx (Zey (βc β ls) σa A w) (βc β ls) w σa).β i=β L from hβc i L h1];exact e1,by rw [<- g1.length,e4.length];exact e2,e3,g1,g2⟩
   | row k es=>
    obtain rfl:o0 = .row k es:=by
     rcases h3 with h3 | ⟨_,_,_,h3⟩
     .exact h3.symm
     .cases h3
    obtain⟨e0,e1,e2⟩:=hr.blk L _ h2
    refine⟨e0,e1,?_⟩
    rcases e2 with ⟨e2,e3⟩ | ⟨b,m,e2,e3,e4,e5⟩
    .exact .inl ⟨(show (ctx (Zey (βc β ls) σa A w) (βc β ls) w σa).β i=β L from hβc i L h1).trans e2,e3⟩
    .exact .inr ⟨b,m,(show (ctx (Zey (βc β ls) σa A w) (βc β ls) w σa).β i=β L from hβc i L h1).trans e2,e3,e4,Zm.mono (w:=w) (w':=w) (fun b hb=>⟨hII b hb,rfl⟩) rfl es 0 e5⟩
   | prow k j es cs=>exact absurd h (hok.np.1 i k j es cs)
   | xrow k j r es=>exact absurd h (hok.np.2.1 i k j r es)
   | reg h0=>exact absurd h (hok.np.2.2 i h0)
   | map ag es=>
    obtain rfl:o0 = .map ag es:=by
     rcases h3 with h3 | ⟨_,_,_,h3⟩
     .exact h3.symm
     .cases h3
    obtain⟨b,ents,clock,e1,e2,e3⟩:=hr.blk L _ h2
    exact⟨b,ents,clock,(show (ctx (Zey (βc β ls) σa A w) (βc β ls) w σa).β i=β L from hβc i L h1).trans e1,e2,Z3w.step (c:=ctx G β w σ) (c':=ctx (Zey (βc β ls) σa A w) (βc β ls) w σa) (fun b hb=>⟨hII b hb,rfl⟩) (fun _ _=>rfl) e3⟩
   | mat k q es=>
    obtain rfl:o0 = .mat k q es:=by
     rcases h3 with h3 | ⟨_,_,_,h3⟩
     .exact h3.symm
     .cases h3
    obtain⟨e0,e1,e2⟩:=hr.blk L _ h2
    refine⟨e0,e1,?_⟩
    rcases e2 with ⟨e2,e3⟩ | ⟨b,m,e2,e3,e4,e5,e6⟩
    .exact .inl ⟨(show (ctx (Zey (βc β ls) σa A w) (βc β ls) w σa).β i=β L from hβc i L h1).trans e2,e3⟩
    .exact .inr ⟨b,m,(show (ctx (Zey (βc β ls) σa A w) (βc β ls) w σa).β i=β L from hβc i L h1).trans e2,e3,e4,Zm.mono (w:=w) (w':=w) (fun b hb=>⟨hb.imp (hII b) id,rfl⟩) rfl es 0 e5,e6⟩
  .rw [Z86] at hp
   simp only [Nat.zero_le,if_true,Nat.sub_zero] at hp
   obtain⟨v,hv1,hv2⟩:=hv.get i p hp
   refine⟨(List.getElem?_eq_some_iff.1 hp).1,?_⟩
   simp only [Array.getD_eq_getD_getElem?,List.getElem?_toArray,hv1,Option.getD_some]
   exact hv2
 .rintro e w' ⟨v,β',he,hc⟩
  have hsz:w.heap.size<=w'.heap.size:=hc.base
  have hold:∀ b,b < w.heap.size->(∀ (i L:Nat) (o:Blk),ls[i]?=some L->get σ L=some o->¬ Z3 β w L o b)->w'.heap[b]?=w.heap[b]?:=fun b hb h=>hc.old b hb (fun h'=>by obtain⟨i,L,o,h1,h2,h3⟩:=hownc b h';exact h i L o h1 h2 h3)
  have hOm:∀ m o,m∉ls->get σ m=some o->∀ b,Z3 β w m o b->w'.heap[b]?=w.heap[b]?:=fun m o hm hg b ho=>hold b (hr.sep m o b hg ho).1 (fun i L o' hL hg' ho'=>by
   have:=hr.inj m L _ _ b hg hg' ho ho'
   subst this
   exact hm (List.mem_of_getElem? hL))
  let ren:=Zdf ls d
  let b2:=β2 β β' ren σ1
  let σ2:=Zed ren σ1++Za5 ls σ
  have hb2k:∀ l o,get σ1 l=some o->b2 (ren l)=β' l:=fun l o h=>by show (match Zod ren σ1 (ren l) with | some l=>β' l | none=>β (ren l))=β' l;rw [show Zod ren σ1 (ren l)=some l from hok.key h]
  have hcase:∀ m o,get σ2 m=some o->(∃ l o1,get σ1 l=some o1/\o=o1.ren ren/\ren l=m/\b2 m=β' l)\/(m∉ls/\get σ m=some o/\b2 m=β m):=by
   intro m o h
   simp only [σ2] at h
   rw [Zj9] at h
   cases hg:get (Zed ren σ1) m with
   | some o'=>
    rw [hg] at h
    cases h
    obtain⟨l,o1,h1,h2,h3,h4⟩:=Zxz hg
    exact .inl ⟨l,o1,h2,h3,h4,by rw [<- h4];exact hb2k l o1 h2⟩
   | none=>
    rw [hg] at h
    obtain⟨h1,h2⟩:=Zjr h
    refine .inr ⟨h1,h2,?_⟩
    simp only [b2,β2]
    cases hk:Zod ren σ1 m with
    | none=>rfl
    | some l=>obtain⟨_,_,o,h3⟩:=Zrh hk;rw [hg] at h3;cases h3
  have hOu:∀ m o,m∉ls->get σ m=some o->b2 m=β m->∀ b,Z3 b2 w' m o b->Z3 β w m o b:=fun m o hm hg hβ b ho=>ho.of hβ (fun b0 hb0=>hOm m o hm hg b0 hb0)
  have hOr:∀ m l o1 b,b2 m=β' l->Z3 b2 w' m (o1.ren ren) b->Z3 β' w' l o1 b:=fun m l o1 b hβ ho=>ho.unren.lab hβ
  have hnew:∀ l o b,get σ1 l=some o->Z3 β' w' l o b->b < w'.heap.size/\(w.heap.size<=b\/∃ (i L:Nat) (o:Blk),ls[i]?=some L/\get σ L=some o/\Z3 β w L o b):=by
   intro l o b h hb
   obtain⟨h1,h2⟩:=hc.sep l o b h hb
   exact⟨h1,h2.imp id (hownc b)⟩
  have hnotσ:∀ l o b m y,get σ1 l=some o->Z3 β' w' l o b->m∉ls->get σ m=some y->¬ Z3 β w m y b:=by
   intro l o b m y h hb hm hy hbm
   have hlt:=(hr.sep m y b hy hbm).1
   rcases (hnew l o b h hb).2 with h1 | ⟨i,L,cs,h1,h2,h3⟩
   .omega
   .have:=hr.inj m L _ _ b hy h2 hbm h3
    subst this
    exact hm (List.mem_of_getElem? h1)
  have hpass:∀ (i L:Nat),ls[i]?=some L->∃ o,get σ L=some o:=fun i L h=>by
   obtain⟨o,ho⟩:=hok.all i L h
   obtain⟨L',h1,o0,h2,_⟩:=hok.sa i o ho
   rw [h] at h1;cases h1
   exact⟨o0,h2⟩
  have hlt1:∀ (i L:Nat),ls[i]?=some L->i < 1000:=fun i L h=>Nat.lt_of_lt_of_le (List.getElem?_eq_some_iff.1 h).1 hok.len
  have hkeep:∀ l cs L,get σ1 l=some (.box cs)->ls[l]?=some L->β' l=β L:=fun l cs L h hL=>by
   have:=hc.fix l cs (hlt1 l L hL) h
   rw [this];exact hβc l L hL
  have hImm:∀ b,Imm G β w σ b->Imm G b2 w' σ2 b/\w'.heap[b]?=w.heap[b]?:=by
   rintro b ⟨h1,h2,h3⟩
   refine⟨⟨Nat.lt_of_lt_of_le h1 hsz,h2,fun m o hm hb=>?_⟩,hold b h1 (fun i L o hL hg hb=>h3 L _ hg hb)⟩
   rcases hcase m o hm with ⟨l,o1,e1,rfl,_,e4⟩ | ⟨e1,e2,e3⟩
   .rcases (hnew l o1 b e1 (hOr m l o1 b e4 hb)).2 with h | ⟨i,L,cs,f1,f2,f3⟩
    .omega
    .exact h3 L _ f2 f3
   .exact h3 m o e2 (hOu m o e1 e2 e3 b hb)
  have hLS:∀ l,(∀ m o,get σ1 m=some o->ls[m]?=none->m+d≠l)->Zac (ctx G β w σ) (ctx G b2 w' σ2) l:=by
   intro l hl
   refine⟨fun k es' hg=>?_,fun cs' hg=>?_,fun k q es' hg=>?_,fun k es' hg=>?_,fun k i es' cs' hg=>?_,fun h' hg=>?_,fun k i r es' hg=>?_⟩
   .rcases hcase l _ hg with ⟨m,o1,e1,e2,e3,e4⟩ | ⟨e1,e2,e3⟩
    .cases hm:ls[m]? with
     | some L=>
      rcases hok.box m o1 e1 L hm with ⟨cs,_,rfl,_⟩ | ⟨k1,es1,es0,rfl,hg0⟩
      .simp [Blk.ren] at e2
      .simp only [Blk.ren,Blk.row.injEq] at e2
       obtain⟨rfl,rfl⟩:=e2
       have hLl:L=l:=by simpa [ren,Zdf,hm] using e3
       subst hLl
       obtain⟨es2,f1,f2,f3⟩:=hc.row0 m k es' (hlt1 m L hm) e1
       have f1:get σa m=some (.row k es2):=f1
       obtain⟨L',h1,o0,h2,h3⟩:=hok.sa m _ f1
       rw [hm] at h1;cases h1
       obtain rfl:o0 = .row k es2:=by
        rcases h3 with h3 | ⟨_,_,_,h3⟩
        .exact h3.symm
        .cases h3
       refine⟨es2,h2,f2,fun he=>?_⟩
       obtain⟨f4,f5⟩:=f3 he
       exact⟨e4.trans (f4.trans (hβc m L hm)),fun b q hb hrow=>f5 b q ((hβc m L hm).trans hb) hrow⟩
     | none=>exact (hl m o1 e1 hm (by simpa [ren,Zdf,hm] using e3)).elim
    .exact⟨es',e2,Nat.le_refl _,fun _=>⟨e3,fun b m hb hrow=>hrow.of_heap (hOm l _ e1 e2 b (.inl hb))⟩⟩
   .rcases hcase l _ hg with ⟨m,o1,e1,e2,e3,e4⟩ | ⟨e1,e2,e3⟩
    .cases hm:ls[m]? with
     | some L=>
      obtain⟨cs,cs0,rfl,hg0⟩:∃ cs cs0,o1 = .box cs/\get σ L=some (.box cs0):=by
       rcases hok.box m o1 e1 L hm with h | ⟨_,_,_,rfl,_⟩
       .exact h
       .simp [Blk.ren] at e2
      have hLl:L=l:=by simpa [ren,Zdf,hm] using e3
      subst hLl
      exact⟨cs0,hg0,by rw [show (ctx G b2 w' σ2).β L=β' m from e4];exact hkeep m cs L e1 hm⟩
     | none=>exact (hl m o1 e1 hm (by simpa [ren,Zdf,hm] using e3)).elim
    .exact⟨cs',e2,e3⟩
   .rcases hcase l _ hg with ⟨m,o1,e1,e2,e3,e4⟩ | ⟨e1,e2,e3⟩
    .exfalso
     cases hm:ls[m]? with
     | some L=>rcases hok.box m o1 e1 L hm with ⟨cs,_,rfl,_⟩ | ⟨_,_,_,rfl,_⟩<;>simp [Blk.ren] at e2
     | none=>exact hl m o1 e1 hm (by simpa [ren,Zdf,hm] using e3)
    .exact⟨es',e2,Nat.le_refl _,fun _=>⟨e3,fun b hb=>⟨fun m hrow=>hrow.of_heap (hOm l _ e1 e2 b (.inl hb)),fun _ _=>World.cell?_of_block (w:=w) (hOm l _ e1 e2 b (.inl hb))⟩⟩⟩
   .rcases hcase l _ hg with ⟨m,o1,e1,e2,e3,e4⟩ | ⟨e1,e2,e3⟩
    .exfalso
     cases hm:ls[m]? with
     | some L=>rcases hok.box m o1 e1 L hm with ⟨cs,_,rfl,_⟩ | ⟨_,_,_,rfl,_⟩<;>simp [Blk.ren] at e2
     | none=>exact hl m o1 e1 hm (by simpa [ren,Zdf,hm] using e3)
    .exact⟨_,es',e2,e3⟩
   .rcases hcase l _ hg with ⟨m,o1,e1,e2,e3,e4⟩ | ⟨e1,e2,e3⟩
    .exfalso
     cases hm:ls[m]? with
     | some L=>rcases hok.box m o1 e1 L hm with ⟨cs,_,rfl,_⟩ | ⟨_,_,_,rfl,_⟩<;>simp [Blk.ren] at e2
     | none=>exact hl m o1 e1 hm (by simpa [ren,Zdf,hm] using e3)
    .exact⟨es',cs',e2,rfl,e3,fun b q hb hrow=>hrow.of_heap (hOm l _ e1 e2 b (.inl hb))⟩
   .rcases hcase l _ hg with ⟨m,o1,e1,e2,e3,e4⟩ | ⟨e1,e2,e3⟩
    .exfalso
     cases hm:ls[m]? with
     | some L=>rcases hok.box m o1 e1 L hm with ⟨cs,_,rfl,_⟩ | ⟨_,_,_,rfl,_⟩<;>simp [Blk.ren] at e2
     | none=>exact hl m o1 e1 hm (by simpa [ren,Zdf,hm] using e3)
    .exact⟨e2,fun n hn=>⟨n,e3.trans hn,fun b hb=>⟨hb,ShB.same (hOm l _ e1 e2 b (.inr ⟨n,hn,hb⟩))⟩⟩⟩
   .rcases hcase l _ hg with ⟨m,o1,e1,e2,e3,e4⟩ | ⟨e1,e2,e3⟩
    .exfalso
     cases hm:ls[m]? with
     | some L=>rcases hok.box m o1 e1 L hm with ⟨cs,_,rfl,_⟩ | ⟨_,_,_,rfl,_⟩<;>simp [Blk.ren] at e2
     | none=>exact hl m o1 e1 hm (by simpa [ren,Zdf,hm] using e3)
    .exact⟨i,es',e2,Nat.le_refl _,fun _=>⟨e3,fun b q hb hrow=>hrow.of_heap (hOm l _ e1 e2 b (.inl hb))⟩⟩
  have hRS:∀ l,(∃ o,get σ1 l=some o)->Z87 (ctx (Zey (βc β ls) σa A w) β' w' σ1) (ctx G b2 w' σ2) l (ren l):=by
   rintro l ⟨o,ho⟩
   have hg2:get σ2 (ren l)=some (o.ren ren):=by
    simp only [σ2]
    rw [Zj9]
    obtain⟨_,_,o',h'⟩:=Zrh (hok.key ho)
    obtain⟨l2,o2,g1,g2,g3,g4⟩:=Zxz h'
    have:=hok.key ho
    rw [g1] at this
    cases this
    rw [ho] at g2;cases g2
    rw [show get (Zed ren σ1) (ren l)=some o' from h',g3]
   refine⟨fun k es hg=>?_,fun cs' hg=>?_,fun k q es hg=>?_,fun k es hg=>?_,fun k i es cs' hg=>?_,fun h' hg=>?_,fun k i r es hg=>?_⟩
   .have:some (o.ren ren)=some (.row k es):=hg2.symm.trans hg
    cases o with
    | reg h0=>simp [Blk.ren] at this
    | xrow k0 i0 r0 es0=>simp [Blk.ren] at this
    | box cs=>simp [Blk.ren] at this
    | mat k0 q0 es0=>simp [Blk.ren] at this
    | map k0 es0=>simp [Blk.ren] at this
    | prow k0 i0 es0 cs0=>simp [Blk.ren] at this
    | row k0 es0=>simp only [Blk.ren,Option.some.injEq,Blk.row.injEq] at this;obtain⟨rfl,rfl⟩:=this;exact⟨ho,hb2k l _ ho,fun _ _ _ h=>h⟩
   .have:some (o.ren ren)=some (.box cs'):=hg2.symm.trans hg
    cases o with
    | reg h0=>simp [Blk.ren] at this
    | xrow k0 i0 r0 es0=>simp [Blk.ren] at this
    | box cs=>exact⟨cs,ho,hb2k l _ ho⟩
    | row k0 es0=>simp [Blk.ren] at this
    | mat k0 q0 es0=>simp [Blk.ren] at this
    | map k0 es0=>simp [Blk.ren] at this
    | prow k0 i0 es0 cs0=>simp [Blk.ren] at this
   .have:some (o.ren ren)=some (.mat k q es):=hg2.symm.trans hg
    cases o with
    | reg h0=>simp [Blk.ren] at this
    | xrow k0 i0 r0 es0=>simp [Blk.ren] at this
    | box cs=>simp [Blk.ren] at this
    | row k0 es0=>simp [Blk.ren] at this
    | mat k0 q0 es0=>simp only [Blk.ren,Option.some.injEq,Blk.mat.injEq] at this;obtain⟨rfl,rfl,rfl⟩:=this;exact⟨ho,hb2k l _ ho,fun _ _=>⟨fun _ h=>h,fun _=>rfl⟩⟩
    | map k0 es0=>simp [Blk.ren] at this
    | prow k0 i0 es0 cs0=>simp [Blk.ren] at this
   .have:some (o.ren ren)=some (.map k es):=hg2.symm.trans hg
    cases o with
    | reg h0=>simp [Blk.ren] at this
    | xrow k0 i0 r0 es0=>simp [Blk.ren] at this
    | box cs=>simp [Blk.ren] at this
    | row k0 es0=>simp [Blk.ren] at this
    | mat k0 q0 es0=>simp [Blk.ren] at this
    | map k0 es0=>simp only [Blk.ren,Option.some.injEq,Blk.map.injEq] at this;obtain⟨rfl,rfl⟩:=this;exact⟨ho,hb2k l _ ho⟩
    | prow k0 i0 es0 cs0=>simp [Blk.ren] at this
   .have:some (o.ren ren)=some (.prow k i es cs'):=hg2.symm.trans hg
    cases o with
    | reg h0=>simp [Blk.ren] at this
    | xrow k0 i0 r0 es0=>simp [Blk.ren] at this
    | box cs=>simp [Blk.ren] at this
    | row k0 es0=>simp [Blk.ren] at this
    | mat k0 q0 es0=>simp [Blk.ren] at this
    | map k0 es0=>simp [Blk.ren] at this
    | prow k0 i0 es0 cs0=>simp only [Blk.ren,Option.some.injEq,Blk.prow.injEq] at this;obtain⟨rfl,rfl,rfl,rfl⟩:=this;exact⟨cs0,ho,hb2k l _ ho,fun _ _ _ h=>h⟩
   .have:some (o.ren ren)=some (.reg h'):=hg2.symm.trans hg
    cases o with
    | box cs=>simp [Blk.ren] at this
    | row k0 es0=>simp [Blk.ren] at this
    | mat k0 q0 es0=>simp [Blk.ren] at this
    | map k0 es0=>simp [Blk.ren] at this
    | prow k0 i0 es0 cs0=>simp [Blk.ren] at this
    | xrow k0 i0 r0 es0=>simp [Blk.ren] at this
    | reg h0=>simp only [Blk.ren,Option.some.injEq,Blk.reg.injEq] at this;obtain rfl:=this;exact⟨ho,hb2k l _ ho,fun _ _ _ _=>rfl⟩
   .have:some (o.ren ren)=some (.xrow k i r es):=hg2.symm.trans hg
    cases o with
    | box cs=>simp [Blk.ren] at this
    | row k0 es0=>simp [Blk.ren] at this
    | mat k0 q0 es0=>simp [Blk.ren] at this
    | map k0 es0=>simp [Blk.ren] at this
    | prow k0 i0 es0 cs0=>simp [Blk.ren] at this
    | reg h0=>simp [Blk.ren] at this
    | xrow k0 i0 r0 es0=>simp only [Blk.ren,Option.some.injEq,Blk.xrow.injEq] at this;obtain⟨rfl,rfl,_,rfl⟩:=this;exact⟨r0,ho,hb2k l _ ho,fun _ _ _ h=>h⟩
  have hIr:sc=false->∀ b,Imm (Zey (βc β ls) σa A w) β' w' σ1 b->Imm G b2 w' σ2 b/\w'.heap[b]?=w'.heap[b]?:=by
   rintro hs b ⟨h1,h2,h3⟩
   have hA':=hA0 hs
   refine⟨⟨h1,?_,fun m o hm hb=>?_⟩,rfl⟩
   .rcases h2 with h2 | h2 | h2
    .exact .inl (Nat.le_trans hr.base h2)
    .exact (hA' b h2).2.1
    .obtain⟨i,L,cs,f1,f2,f3⟩:=hownc b h2
     exact (hr.sep L _ b f2 f3).2.imp id .inr
   .rcases hcase m o hm with ⟨l,o1,e1,rfl,_,e4⟩ | ⟨e1,e2,e3⟩
    .exact h3 l o1 e1 (hOr m l o1 b e4 hb)
    .have hb:=hOu m o e1 e2 e3 b hb
     rcases h2 with h2 | h2 | h2
     .have:=(hr.sep m o b e2 hb).1
      exact absurd h2 (Nat.not_le_of_lt this)
     .exact (hA' b h2).2.2 m o e2 hb
     .obtain⟨i,L,cs,f1,f2,f3⟩:=hownc b h2
      have:=hr.inj m L _ _ b e2 f2 hb f3
      subst this
      exact e1 (List.mem_of_getElem? f1)
  refine⟨v,b2,he,?_,?_⟩
  .refine { defers:=hr.defers,sz:=hr.sz,base:=Nat.le_trans hr.base hsz,os:=hc.os.trans hr.os,tape:=hc.tape.trans hr.tape,output:=hc.output.trans hr.output,old:=fun b hb hno=>?_,A:=hr.A,gl:=hr.gl,inj:=fun m m' o o' b hm hm' hb hb'=>?_,sep:=fun m o b hm hb=>?_,fix:=fun m cs hm hg=>?_,row0:=hr.row0.step (fun l hl=>hLS l (fun m o h hn=>by have:=(hok.fr m o h hn).1;omega)),blk:=fun m o hm=>?_,tm:=fun i p hp=>⟨(hr.tm i p hp).1,?_⟩ }
   .refine (hold b (Nat.lt_of_lt_of_le hb hr.base) (fun i L o hL hg hb'=>?_)).trans (hr.old b hb hno)
    rcases (hr.sep L _ b hg hb').2 with h | h
    .omega
    .exact hno h
   .rcases hcase m o hm with ⟨l,o1,e1,rfl,e3,e4⟩ | ⟨e1,e2,e3⟩<;>rcases hcase m' o' hm' with ⟨l',o1',e1',rfl,e3',e4'⟩ | ⟨e1',e2',e3'⟩
    .have:=hc.inj l l' o1 o1' b e1 e1' (hOr m l o1 b e4 hb) (hOr m' l' o1' b e4' hb')
     rw [<- e3,<- e3',this]
    .exact absurd (hOu m' o' e1' e2' e3' b hb') (hnotσ l o1 b m' o' e1 (hOr m l o1 b e4 hb) e1' e2')
    .exact absurd (hOu m o e1 e2 e3 b hb) (hnotσ l' o1' b m o e1' (hOr m' l' o1' b e4' hb') e1 e2)
    .exact hr.inj m m' o o' b e2 e2' (hOu m o e1 e2 e3 b hb) (hOu m' o' e1' e2' e3' b hb')
   .rcases hcase m o hm with ⟨l,o1,e1,rfl,e3,e4⟩ | ⟨e1,e2,e3⟩
    .obtain⟨h1,h2⟩:=hnew l o1 b e1 (hOr m l o1 b e4 hb)
     refine⟨h1,?_⟩
     rcases h2 with h2 | ⟨i,L,cs,f1,f2,f3⟩
     .exact .inl (Nat.le_trans hr.base h2)
     .exact (hr.sep L _ b f2 f3).2
    .obtain⟨h1,h2⟩:=hr.sep m o b e2 (hOu m o e1 e2 e3 b hb)
     exact⟨Nat.lt_of_lt_of_le h1 hsz,h2⟩
   .rcases hcase m _ hg with ⟨l,o1,e1,e2,e3,e4⟩ | ⟨e1,e2,e3⟩
    .cases hl:ls[l]? with
     | some L=>
      obtain⟨cs1,cs0,rfl,hg0⟩:∃ cs cs0,o1 = .box cs/\get σ L=some (.box cs0):=by
       rcases hok.box l o1 e1 L hl with h | ⟨_,_,_,rfl,_⟩
       .exact h
       .simp [Blk.ren] at e2
      have hLm:L=m:=by simpa [ren,Zdf,hl] using e3
      subst hLm
      rw [e4,hkeep l cs1 L e1 hl]
      exact hr.fix L cs0 hm hg0
     | none=>
      have:=(hok.fr l o1 e1 hl).1
      have h5:l+d=m:=by simpa [ren,Zdf,hl] using e3
      omega
    .rw [e3];exact hr.fix m cs hm e2
   .rcases hcase m o hm with ⟨l,o1,e1,rfl,e3,e4⟩ | ⟨e1,e2,e3⟩
    .have hb:=hc.blk l o1 e1
     cases o1 with
     | reg h0=>obtain⟨n,f1,f2⟩:=hb;exact⟨n,e4.trans f1,f2⟩
     | xrow k i r es=>
      obtain⟨f0,f1,fi,f2⟩:=hb
      refine⟨f0,f1,fi,?_⟩
      rcases f2 with ⟨f2,f3⟩ | ⟨b,s,vs,f2,f3,f4,f5,f6⟩
      .exact .inl ⟨e4.trans f2,f3⟩
      .cases hs:sc with
       | false=>
        refine .inr ⟨b,s,vs,e4.trans f2,f3,f4,f5,?_⟩
        rw [<- Zarw]
        exact VRs.ren (sc:=false) (fun _=>hIr hs) _ vs (fun e=>by cases e) (fun l' hl'=>hRS l' (hok.cl l' (.inr ⟨l,_,e1,by
         cases e:Nat.beq r l' with
         | true=>exact e
         | false=>rw [Zahh e] at hl';cases hl'⟩))) f6
       | true=>exact ((hsc hs).2 l _ e1).elim
     | box cs=>
      obtain⟨b,vs,f1,f2,f3,f4,f5⟩:=hb
      exact⟨b,vs,e4.trans f1,by rw [PV.rens_length];exact f2,f3,VRs.ren (sc:=sc) hIr cs vs (fun e=>(hsc e).2 l _ e1) (fun l' hl'=>hRS l' (hok.cl l' (.inr ⟨l,_,e1,hl'⟩))) f4,by rw [PV.rens_one];exact f5⟩
     | row k es=>
      obtain⟨f0,f1,f2⟩:=hb
      refine⟨f0,f1,?_⟩
      rcases f2 with ⟨f2,f3⟩ | ⟨b,s,f2,f3,f4,f5⟩
      .exact .inl ⟨e4.trans f2,f3⟩
      .refine .inr ⟨b,s,e4.trans f2,f3,f4,?_⟩
       have hcell:=f5
       cases sc with
       | false=>exact Zm.mono (w:=w') (w':=w') (hIr rfl) rfl es 0 f5
       | true=>exact Zm.scal es 0 ((hsc rfl).2 l _ e1) f5
     | map ag es=>
      obtain⟨b,ents,clock,f1,f2,f3⟩:=hb
      cases hs:sc with
      | false=>exact⟨b,ents,clock,e4.trans f1,f2,Z3w.step (c:=ctx (Zey (βc β ls) σa A w) β' w' σ1) (c':=ctx G b2 w' σ2) (hIr hs) (fun _ _=>rfl) f3⟩
      | true=>exact ((hsc hs).2 l _ e1).elim
     | prow k i es cs=>
      obtain⟨g0,g1,g2,g3,g4,b,s,vs,f1,f2,f3,f4,f5⟩:=hb
      cases hs:sc with
      | false=>
       refine⟨g0,g1,g2,by rw [PV.rens_length];exact g3,by rw [PV.rens_one];exact g4,b,s,vs,e4.trans f1,f2,f3,f4,?_⟩
       rw [<- Zad3]
       exact VRs.ren (sc:=false) (fun _=>hIr hs) _ vs (fun e=>by cases e) (fun l' hl'=>hRS l' (hok.cl l' (.inr ⟨l,_,e1,by rw [Z3x] at hl';exact hl'⟩))) f5
      | true=>exact ((hsc hs).2 l _ e1).elim
     | mat k q es=>
      obtain⟨f0,f1,f2⟩:=hb
      refine⟨f0,f1,?_⟩
      rcases f2 with ⟨f2,f3⟩ | ⟨b,s,f2,f3,f4,f5,f6⟩
      .exact .inl ⟨e4.trans f2,f3⟩
      .refine .inr ⟨b,s,e4.trans f2,f3,f4,?_,f6⟩
       cases hs:sc with
       | false=>exact Zm.mono (w:=w') (w':=w') (fun d hd=>⟨hd.imp (fun h=>(hIr hs d h).1) id,rfl⟩) rfl es 0 f5
       | true=>
        obtain⟨k1,k2⟩:=(hsc hs).2 l _ e1
        subst k1;subst k2
        refine Zaux es 0 f1 (by omega) f5 (fun j e he=>?_)
        obtain⟨inner,a,len,cap,g1,g2,g3,g4⟩:=f6.2 j e he
        exact⟨inner,a,len,cap,g1,g2,by rw [Nat.zero_add];rw [Nat.mul_one,Nat.add_zero] at g3;exact g3,fun hl=>by obtain⟨d,m',h1,_⟩:=g4 hl;exact⟨d,h1⟩⟩
    .refine BR.step (c:=ctx G β w σ) (c':=ctx G b2 w' σ2) hImm e3 (fun b hb=>?_) (fun l hl=>?_) (hr.blk m o e2)
     .exact hOm m o e1 e2 b hb
     .refine hLS l (fun m' o' hm' hn e=>?_)
      have:=((hok.fr m' o' hm' hn).2.2 m o e2).2
      rw [e,hl] at this;cases this
   .refine VR.step (c:=ctx G β w σ) (c':=ctx G b2 w' σ2) hImm p _ (fun l hl=>?_) (hr.tm i p hp).2
    refine hLS l (fun m' o' hm' hn e=>?_)
    have:=(hok.fr m' o' hm' hn).2.1 i p hp
    rw [e,hl] at this;cases this
  .have hv0:=(hc.tm 0 res (by simp [PW.get])).2
   exact VR.ren (sc:=sc) hIr res v (fun e=>(hsc e).1) (fun l hl=>hRS l (hok.cl l (.inl hl))) (by simpa using hv0)
end Go.PW
namespace Go.PW
open Go.RowKit
def Zlk:List Nat->Nat->Option Nat
 | [],_=>none
 | L::ls,m=>bif Nat.beq L m then some 0 else (Zlk ls m).map (· + 1)
theorem Zx1:∀ {ls:List Nat} {m i:Nat},Zlk ls m=some i->ls[i]?=some m
 | [],m,i,h=>by cases h
 | L::ls,m,i,h=>by
  simp only [Zlk] at h
  cases hb:Nat.beq L m with
  | true=>
   simp only [hb,cond_true,Option.some.injEq] at h
   subst h
   simp [(Zu _ _).1 hb]
  | false=>
   simp only [hb,cond_false,Option.map_eq_some_iff] at h
   obtain⟨j,hj,rfl⟩:=h
   simpa using Zx1 hj
theorem Zai5:∀ {ls:List Nat} {m:Nat},Zlk ls m=none->∀ (i:Nat),ls[i]?≠some m
 | [],m,_,i,h=>by simp at h
 | L::ls,m,hn,i,h=>by
  simp only [Zlk] at hn
  cases hb:Nat.beq L m with
  | true=>simp [hb] at hn
  | false=>
   simp only [hb,cond_false,Option.map_eq_none_iff] at hn
   cases i with
   | zero=>simp only [List.getElem?_cons_zero,Option.some.injEq] at h;subst h;simp at hb
   | succ i=>exact Zai5 hn i (by simpa using h)
def Z32(ls:List Nat)(σ:List (Nat×Blk)):PV->Option (List Prop×Zb)
 | .t x=>some ([],x)
 | .nils=>some ([],.sl [])
 | .osl l n=>
  match Zlk ls l,get σ l with
  | none,some (.row _ es)=>some ([es.length=n],.sl es)
  | _,_=>none
 | .own l (.msl n)=>
  match Zlk ls l,get σ l with
  | none,some (.mat _ _ es)=>some ([es.length=n],.sl es)
  | _,_=>none
 | .own l (.rg x)=>
  match Zlk ls l,get σ l with
  | none,some (.reg false)=>some ([],x)
  | _,_=>none
 | _=>none
def Zuj(ls:List Nat)(σ:List (Nat×Blk)):List PV->Option (List Prop×List Zb)
 | []=>some ([],[])
 | c::cs=>
  match Z32 ls σ c,Zuj ls σ cs with
  | some (ps,d),some (qs,ds)=>some (ps++qs,d::ds)
  | _,_=>none
theorem Zasr{ls:List Nat}{σ σ':List (Nat×Blk)}(p:PV)(h:∀ m,p.has m=true->get σ' m=get σ m):Z32 ls σ' p=Z32 ls σ p:=by
 cases p with
 | osl l n=>simp only [Z32];rw [h l (by simp [PV.has])]
 | own l d=>cases d<;>simp only [Z32]<;>rw [h l (by simp [PV.has])]
 | _=>rfl
theorem Z92{ls:List Nat}{σ σ':List (Nat×Blk)}:∀ (ps:List PV),(∀ m,PV.hasAny m ps=true->get σ' m=get σ m)->Zuj ls σ' ps=Zuj ls σ ps
 | [],_=>rfl
 | p::ps,h=>by
  simp only [Zuj]
  rw [Zasr p (fun m hm=>h m (by simp [PV.hasAny,hm])),Z92 ps (fun m hm=>h m (by simp [PV.hasAny,hm]))]
mutual
def PV.deep(σ:List (Nat×Blk))(m:Nat):PV->Bool
 | .bptr L _=>match get σ L with | some (.box cs)=>PV.hasAny m cs | _=>false
 | .agg cs=>PV.deeps σ m cs
 | .tup cs=>PV.deeps σ m cs
 | .fn _ cs=>PV.deeps σ m cs
 | _=>false
def PV.deeps(σ:List (Nat×Blk))(m:Nat):List PV->Bool
 | []=>false
 | p::ps=>p.deep σ m||PV.deeps σ m ps
end
mutual
def Zfg(S:Bool)(ls:List Nat)(σ:List (Nat×Blk)):PV->Option (List Prop×PV)
 | .t x=>some ([],.t x)
 | .nils=>some ([],.t (.sl []))
 | .osl l n=>
  match Zlk ls l with
  | some i=>some ([],.osl i n)
  | none=>
   match S,get σ l with
   | true,some (.row _ es)=>some ([es.length=n],.t (.sl es))
   | _,_=>none
 | .bptr L o=>
  match Zlk ls L with
  | some i=>some ([],.bptr i o)
  | none=>
   match S,get σ L with
   | true,some (.box cs)=>match Zuj ls σ cs with | some (ps,ts)=>some (ps,.vptr (ts.drop o)) | none=>none
   | _,_=>none
 | .rptr _ _ _ _=>none
 | .vptr cs=>some ([],.vptr cs)
 | .agg cs=>match Zgp S ls σ cs with | some (ps,ds)=>some (ps,.agg ds) | none=>none
 | .tup cs=>match Zgp S ls σ cs with | some (ps,ds)=>some (ps,.tup ds) | none=>none
 | .fn f cs=>match Zgp S ls σ cs with | some (ps,ds)=>some (ps,.fn f ds) | none=>none
 | .own l d=>
  match Zlk ls l with
  | some i=>some ([],.own i d)
  | none=>
   match S,d,get σ l with
   | true,.msl n,some (.mat _ _ es)=>some ([es.length=n],.t (.sl es))
   | true,.rg x,some (.reg false)=>some ([],.t x)
   | _,_,_=>none
def Zgp(S:Bool)(ls:List Nat)(σ:List (Nat×Blk)):List PV->Option (List Prop×List PV)
 | []=>some ([],[])
 | c::cs=>
  match Zfg S ls σ c,Zgp S ls σ cs with
  | some (ps,d),some (qs,ds)=>some (ps++qs,d::ds)
  | _,_=>none
end
mutual
theorem Zauy{S:Bool}{ls:List Nat}{σ σ':List (Nat×Blk)}:∀ (p:PV),(∀ m,p.has m=true\/p.deep σ m=true->get σ' m=get σ m)->Zfg S ls σ' p=Zfg S ls σ p
 | .t _,_=>by simp only [Zfg]
 | .nils,_=>by simp only [Zfg]
 | .osl l n,h=>by simp only [Zfg];rw [h l (.inl (by simp [PV.has]))]
 | .bptr l o,h=>by
  simp only [Zfg]
  rw [h l (.inl (by simp [PV.has]))]
  cases Zlk ls l with
  | some i=>rfl
  | none=>
   cases S with
   | false=>rfl
   | true=>
    cases hg:get σ l with
    | none=>rfl
    | some b=>
     cases b with
     | box cs=>simp only;rw [Z92 cs (fun m hm=>h m (.inr (by simp only [PV.deep,hg];exact hm)))]
     | row k es=>rfl
     | mat k q es=>rfl
     | map ag es=>rfl
     | prow k i es cs=>rfl
     | reg h0=>rfl
     | xrow k i r es=>rfl
 | .rptr _ _ _ _,_=>by simp only [Zfg]
 | .vptr _,_=>by simp only [Zfg]
 | .agg cs,h=>by simp only [Zfg];rw [Zoe cs (fun m hm=>h m (by simpa [PV.has,PV.deep] using hm))]
 | .tup cs,h=>by simp only [Zfg];rw [Zoe cs (fun m hm=>h m (by simpa [PV.has,PV.deep] using hm))]
 | .fn _ cs,h=>by simp only [Zfg];rw [Zoe cs (fun m hm=>h m (by simpa [PV.has,PV.deep] using hm))]
 | .own l d,h=>by simp only [Zfg];rw [h l (.inl (by simp [PV.has]))]
theorem Zoe{S:Bool}{ls:List Nat}{σ σ':List (Nat×Blk)}:∀ (ps:List PV),(∀ m,PV.hasAny m ps=true\/PV.deeps σ m ps=true->get σ' m=get σ m)->Zgp S ls σ' ps=Zgp S ls σ ps
 | [],_=>by simp only [Zgp]
 | p::ps,h=>by
  simp only [Zgp]
  rw [Zauy p (fun m hm=>h m (by rcases hm with hm | hm<;>simp [PV.hasAny,PV.deeps,hm])),Zoe ps (fun m hm=>h m (by rcases hm with hm | hm<;>simp [PV.hasAny,PV.deeps,hm]))]
end
structure Z1e (S:Bool) (ls:List Nat) (σ:List (Nat×Blk)) (c c':Ctx):Prop where
 cσ:c.σ=σ
 I:∀ b,c.I b->c'.I b/\c'.w.heap[b]?=c.w.heap[b]?
 S:S=true->∀ l o,Zlk ls l=none->get σ l=some o->∀ b,Z3 c.β c.w l o b->c'.I b/\c'.w.heap[b]?=c.w.heap[b]?
 blk:∀ l o,get σ l=some o->BR c l o
 box:∀ (i L:Nat) cs,ls[i]?=some L->get c'.σ i=some (.box cs)->(∃ cs0,get σ L=some (.box cs0))/\c'.β i=c.β L
 rowp:∀ (i L:Nat) k es,ls[i]?=some L->get c'.σ i=some (.row k es)->get σ L=some (.row k es)/\c'.β i=c.β L/\∀ b m,Za7 c.w b m->Za7 c'.w b m
 matp:∀ (i L:Nat) k q es,ls[i]?=some L->get c'.σ i=some (.mat k q es)->get σ L=some (.mat k q es)/\c'.β i=c.β L/\(∀ b m,Za7 c.w b m->Za7 c'.w b m)/\∀ a,c'.w.cell? a=c.w.cell? a
 mapp:∀ (i L:Nat) ag es,ls[i]?=some L->get c'.σ i=some (.map ag es)->get σ L=some (.map ag es)/\c'.β i=c.β L
 np:(∀ (i k j:Nat) es cs,get c'.σ i≠some (.prow k j es cs))/\(∀ (i k j r:Nat) es,get c'.σ i≠some (.xrow k j r es))/\∀ (i:Nat) h,get c'.σ i≠some (.reg h)
theorem Z1e.rstep{S:Bool}{ls:List Nat}{σ:List (Nat×Blk)}{c c':Ctx}(h:Z1e S ls σ c c'){i L:Nat}(hi:ls[i]?=some L):Z87 c c' L i:=
 ⟨fun k es hg=>by obtain⟨h1,h2,h3⟩:=h.rowp i L k es hi hg;exact⟨by rw [h.cσ];exact h1,h2,fun b s _ hr=>h3 b s hr⟩,
  fun cs hg=>by obtain⟨⟨cs0,h1⟩,h2⟩:=h.box i L cs hi hg;exact⟨cs0,by rw [h.cσ];exact h1,h2⟩,
  fun k q es hg=>by obtain⟨h1,h2,h3,h4⟩:=h.matp i L k q es hi hg;exact⟨by rw [h.cσ];exact h1,h2,fun b _=>⟨h3 b,fun j=>h4 _⟩⟩,
  fun ag es hg=>by obtain⟨h1,h2⟩:=h.mapp i L ag es hi hg;exact⟨by rw [h.cσ];exact h1,h2⟩,
  fun k j es cs hg=>absurd hg (h.np.1 i k j es cs),fun h0 hg=>absurd hg (h.np.2.2 i h0),fun k j r es hg=>absurd hg (h.np.2.1 i k j r es)⟩
theorem Zawu{ls:List Nat}{σ:List (Nat×Blk)}{c c':Ctx}(h:Z1e true ls σ c c'){l n k:Nat}{es:List (List Zb)}{v:Value}(hpn:Zlk ls l=none)(hg:get σ l=some (.row k es))(hn:es.length=n)(hv:VR c (.osl l n) v):Zx c'.I c'.w (.sl es) v:=by
 simp only [VR] at hv
 obtain⟨a,cap,rfl,hc1,hc2,h3⟩:=(hv.1 k es (by rw [h.cσ];exact hg)).2 hn.symm
 simp only [Zx]
 subst hn
 refine⟨a,cap,rfl,hc1,hc2,?_⟩
 obtain⟨_,_,hb⟩:=h.blk l _ hg
 rcases hb with ⟨_,he⟩ | ⟨b,sz,hb,_,_,hel⟩
 .exact .inl he
 .rcases h3 with ⟨_,hb'⟩ | ⟨b',sz',ha,hb',_,_⟩
  .exact absurd (hb.symm.trans hb') (by simp)
  .have:b'=b:=by have:=hb'.symm.trans hb;simpa using this
   subst this
   obtain⟨hI,hh⟩:=h.S rfl l _ hpn hg b' (.inl hb)
   exact .inr ⟨b',0,ha,hI,Zm.mono h.I hh es 0 hel⟩
theorem Zawv{ls:List Nat}{σ:List (Nat×Blk)}{c c':Ctx}(h:Z1e true ls σ c c'){l n k q0:Nat}{es:List (List Zb)}{v:Value}(hpn:Zlk ls l=none)(hg:get σ l=some (.mat k q0 es))(hn:es.length=n)(hv:VR c (.own l (.msl n)) v):Zx c'.I c'.w (.sl es) v:=by
 simp only [VR] at hv
 obtain⟨a,cap,rfl,hc1,hc2,h3⟩:=(hv.1 k q0 es (by rw [h.cσ];exact hg)).2 hn.symm
 simp only [Zx]
 subst hn
 refine⟨a,cap,rfl,hc1,hc2,?_⟩
 obtain⟨_,_,hb⟩:=h.blk l _ hg
 rcases hb with ⟨_,he⟩ | ⟨b,sz,hb,_,_,hel,_⟩
 .exact .inl he
 .rcases h3 with ⟨_,hb'⟩ | ⟨b',sz',ha,hb',_,_⟩
  .exact absurd (hb.symm.trans hb') (by simp)
  .have:b'=b:=by have:=hb'.symm.trans hb;simpa using this
   subst this
   obtain⟨hI,hh⟩:=h.S rfl l _ hpn hg b' (.inl hb)
   refine .inr ⟨b',0,ha,hI,Zm.mono (fun d hd=>?_) hh es 0 hel⟩
   rcases hd with hd | hd
   .exact h.I d hd
   .exact h.S rfl l _ hpn hg d (.inr ⟨b',hb,hd⟩)
theorem Zarx{ls:List Nat}{σ:List (Nat×Blk)}{c c':Ctx}(h:Z1e true ls σ c c'){l:Nat}{x:Zb}{v:Value}(hpn:Zlk ls l=none)(hg:get σ l=some (.reg false))(hv:VR c (.own l (.rg x)) v):Zx c'.I c'.w x v:=by
 simp only [VR] at hv
 obtain⟨n,hn,hx⟩:=hv.1 false (by rw [h.cσ];exact hg)
 exact Zx.mono (fun b hb=>h.S rfl l _ hpn hg b (.inr ⟨n,hn,hb⟩)) x v hx
theorem Zaww{ls:List Nat}{σ:List (Nat×Blk)}{c c':Ctx}(h:Z1e true ls σ c c'){p:PV}{ps:List Prop}{x:Zb}{v:Value}(hf:Z32 ls σ p=some (ps,x))(hc:Zaj ps)(hv:VR c p v):Zx c'.I c'.w x v:=by
 unfold Z32 at hf
 split at hf
 .cases hf
  have:=VR.step (c:=c) (c':=c') h.I (.t x) v (fun l hl=>by simp [PV.has] at hl) hv
  simpa only [VR] using this
 .cases hf
  simp only [VR] at hv
  obtain⟨a,rfl⟩:=hv
  simp only [Zx]
  exact⟨a,0,rfl,by simp,by simp [maxLen],.inl trivial⟩
 .split at hf
  .rename_i _ k es hp hg
   cases hf
   exact Zawu h hp hg hc.1 hv
  .cases hf
 .split at hf
  .rename_i _ k q es hp hg
   cases hf
   exact Zawv h hp hg hc.1 hv
  .cases hf
 .split at hf
  .rename_i hp hg
   cases hf
   exact Zarx h hp hg hv
  .cases hf
 .cases hf
theorem Zai6{ls:List Nat}{σ:List (Nat×Blk)}{c c':Ctx}(h:Z1e true ls σ c c'){b:Nat}:∀ {cs:List PV} {ps:List Prop} {ts:List Zb} {vs:List Value} (off:Nat),Zuj ls σ cs=some (ps,ts)->Zaj ps->VRs c cs vs ->
 (∀ (j:Nat) v,vs[j]?=some v->c'.w.cell? ⟨b,off+j,none⟩=some v)->Z1 c'.I c'.w b ts off
 | [],ps,ts,vs,off,hf,_,_,_=>by
  simp only [Zuj,Option.some.injEq,Prod.mk.injEq] at hf
  rw [<- hf.2];trivial
 | p::cs,ps,ts,vs,off,hf,hc,hv,hcl=>by
  simp only [Zuj] at hf
  split at hf
  .rename_i ps1 d ps2 ds h1 h2
   cases hf
   obtain⟨c1,c2⟩:=Zw.1 hc
   simp only [VRs] at hv
   obtain⟨v,rest,rfl,hv,hr⟩:=hv
   simp only [Z1]
   refine⟨⟨v,by simpa using hcl 0 v rfl,Zaww h h1 c1 hv⟩,Zai6 h (off+1) h2 c2 hr (fun j u hj=>?_)⟩
   rw [Nat.add_assoc,Nat.add_comm 1 j]
   exact hcl (j+1) u (by simpa using hj)
  .cases hf
mutual
theorem Zay0{S:Bool}{ls:List Nat}{σ:List (Nat×Blk)}{c c':Ctx}(h:Z1e S ls σ c c'):∀ (p q:PV) (ps:List Prop) (v:Value),Zfg S ls σ p=some (ps,q)->Zaj ps->VR c p v->VR c' q v
 | .t x,q,ps,v,ha,_,hv=>by simp only [Zfg,Option.some.injEq,Prod.mk.injEq] at ha;rw [<- ha.2];exact VR.step h.I (.t x) v (fun l hl=>by simp [PV.has] at hl) hv
 | .nils,q,ps,v,ha,_,hv=>by
  simp only [Zfg,Option.some.injEq,Prod.mk.injEq] at ha
  rw [<- ha.2]
  simp only [VR] at hv⊢
  obtain⟨a,rfl⟩:=hv
  simp only [Zx]
  exact⟨a,0,rfl,by simp,by simp [maxLen],.inl trivial⟩
 | .osl l n,q,ps,v,ha,hc,hv=>by
  simp only [Zfg] at ha
  split at ha
  .rename_i i hi
   cases ha
   simp only [VR] at hv⊢
   refine⟨fun k es hg=>?_,hv.2⟩
   obtain⟨h1,h2,h3⟩:=h.rowp i l k es (Zx1 hi) hg
   obtain⟨g1,g2⟩:=hv.1 k es (by rw [h.cσ];exact h1)
   refine⟨g1,fun hn=>?_⟩
   obtain⟨a,cap,hv',e1,e2,e3⟩:=g2 hn
   refine⟨a,cap,hv',e1,e2,?_⟩
   rcases e3 with ⟨hc,hb⟩ | ⟨b,m,ha,hb,hr,hs⟩
   .exact .inl ⟨hc,h2.trans hb⟩
   .exact .inr ⟨b,m,ha,h2.trans hb,h3 b m hr,hs⟩
  rename_i hpn
  split at ha
  .rename_i k es hg
   cases ha
   have hn:es.length=n:=hc.1
   simp only [VR] at hv⊢
   obtain⟨a,cap,rfl,hc1,hc2,h3⟩:=(hv.1 k es (by rw [h.cσ];exact hg)).2 hn.symm
   simp only [Zx]
   subst hn
   refine⟨a,cap,rfl,hc1,hc2,?_⟩
   obtain⟨_,_,hb⟩:=h.blk l _ hg
   rcases hb with ⟨_,he⟩ | ⟨b,sz,hb,_,_,hel⟩
   .exact .inl he
   .rcases h3 with ⟨_,hb'⟩ | ⟨b',sz',ha,hb',_,_⟩
    .exact absurd (hb.symm.trans hb') (by simp)
    .have:b'=b:=by have:=hb'.symm.trans hb;simpa using this
     subst this
     obtain⟨hI,hh⟩:=h.S rfl l _ hpn hg b' (.inl hb)
     exact .inr ⟨b',0,ha,hI,Zm.mono h.I hh es 0 hel⟩
  .cases ha
 | .bptr L o,q,ps,v,ha,hc,hv=>by
  simp only [Zfg] at ha
  split at ha
  .rename_i i hi
   cases ha
   simp only [VR] at hv⊢
   refine⟨fun cs hg=>?_,hv.2⟩
   obtain⟨⟨cs0,h1⟩,h2⟩:=h.box i L cs (Zx1 hi) hg
   obtain⟨b,hb,hv'⟩:=hv.1 cs0 (by rw [h.cσ];exact h1)
   exact⟨b,h2.trans hb,hv'⟩
  rename_i hpn
  split at ha
  .rename_i cs hg
   split at ha
   .rename_i ts hts
    cases ha
    simp only [VR] at hv⊢
    obtain⟨b,hb1,hv⟩:=hv.1 _ (by rw [h.cσ];exact hg)
    obtain⟨b',vs,hb',_,hcs,hvs,_⟩:=h.blk L _ hg
    have:b'=b:=by have:=hb'.symm.trans hb1;simpa using this
    subst this
    obtain⟨hI,hh⟩:=h.S rfl L _ hpn hg b' (.inl hb1)
    have h1:=Zai6 h (b:=b') 0 hts hc hvs (fun j v hj=>by rw [Nat.zero_add];exact (World.cell?_of_block (w:=c.w) hh).trans (hcs j v hj))
    have h2:=Z1.drop o ts 0 h1
    rw [Nat.zero_add] at h2
    exact⟨b',o,hv,fun _=>hI,h2⟩
   .cases ha
  .cases ha
 | .rptr _ _ _ _,q,ps,v,ha,_,hv=>by simp [Zfg] at ha
 | .vptr cs,q,ps,v,ha,_,hv=>by simp only [Zfg,Option.some.injEq,Prod.mk.injEq] at ha;rw [<- ha.2];exact VR.step h.I (.vptr cs) v (fun l hl=>by simp [PV.has] at hl) hv
 | .agg cs,q,ps,v,ha,hc,hv=>by
  simp only [Zfg] at ha
  split at ha
  .rename_i ps' ds hd
   cases ha
   simp only [VR] at hv⊢
   obtain⟨vs,hv,hs⟩:=hv
   exact⟨vs,hv,Zs0 h cs ds ps vs hd hc hs⟩
  .cases ha
 | .tup cs,q,ps,v,ha,hc,hv=>by
  simp only [Zfg] at ha
  split at ha
  .rename_i ps' ds hd
   cases ha
   simp only [VR] at hv⊢
   obtain⟨vs,hv,hs⟩:=hv
   exact⟨vs,hv,Zs0 h cs ds ps vs hd hc hs⟩
  .cases ha
 | .fn f cs,q,ps,v,ha,hc,hv=>by
  simp only [Zfg] at ha
  split at ha
  .rename_i ps' ds hd
   cases ha
   simp only [VR] at hv⊢
   obtain⟨vs,hv,hs⟩:=hv
   exact⟨vs,hv,Zs0 h cs ds ps vs hd hc hs⟩
  .cases ha
 | .own l d,q,ps,v,ha,hc,hv=>by
  simp only [Zfg] at ha
  split at ha
  .rename_i i hi
   cases ha
   simp only [VR] at hv⊢
   exact⟨hv.1.ren (h.rstep (Zx1 hi)),hv.2⟩
  rename_i hpn
  split at ha
  .rename_i n k q0 es hg
   cases ha
   have hn:es.length=n:=hc.1
   simp only [VR] at hv⊢
   obtain⟨a,cap,rfl,hc1,hc2,h3⟩:=(hv.1 k q0 es (by rw [h.cσ];exact hg)).2 hn.symm
   simp only [Zx]
   subst hn
   refine⟨a,cap,rfl,hc1,hc2,?_⟩
   obtain⟨_,_,hb⟩:=h.blk l _ hg
   rcases hb with ⟨_,he⟩ | ⟨b,sz,hb,_,_,hel,_⟩
   .exact .inl he
   .rcases h3 with ⟨_,hb'⟩ | ⟨b',sz',ha,hb',_,_⟩
    .exact absurd (hb.symm.trans hb') (by simp)
    .have:b'=b:=by have:=hb'.symm.trans hb;simpa using this
     subst this
     obtain⟨hI,hh⟩:=h.S rfl l _ hpn hg b' (.inl hb)
     refine .inr ⟨b',0,ha,hI,Zm.mono (fun d hd=>?_) hh es 0 hel⟩
     rcases hd with hd | hd
     .exact h.I d hd
     .exact h.S rfl l _ hpn hg d (.inr ⟨b',hb,hd⟩)
  .rename_i hg
   cases ha
   have:=Zarx h hpn hg hv
   simpa only [VR] using this
  .cases ha
theorem Zs0{S:Bool}{ls:List Nat}{σ:List (Nat×Blk)}{c c':Ctx}(h:Z1e S ls σ c c'):∀ (cs qs:List PV) (ps:List Prop) (vs:List Value),Zgp S ls σ cs=some (ps,qs)->Zaj ps->VRs c cs vs->VRs c' qs vs
 | [],qs,ps,vs,ha,_,hv=>by simp only [Zgp,Option.some.injEq,Prod.mk.injEq] at ha;rw [<- ha.2];exact hv
 | p::cs,qs,ps,vs,ha,hc,hv=>by
  simp only [Zgp] at ha
  split at ha
  .rename_i ps1 d ps2 ds h1 h2
   cases ha
   obtain⟨c1,c2⟩:=Zw.1 hc
   simp only [VRs] at hv⊢
   obtain⟨v,rest,rfl,hv,hr⟩:=hv
   exact⟨v,rest,rfl,Zay0 h p d ps1 v h1 c1 hv,Zs0 h cs ds ps2 rest h2 c2 hr⟩
  .cases ha
end
mutual
theorem Zawx{ls:List Nat}{σ σ':List (Nat×Blk)}:∀ (p:PV),Zfg false ls σ' p=Zfg false ls σ p
 | .t _=>by simp only [Zfg]
 | .nils=>by simp only [Zfg]
 | .osl l n=>by simp only [Zfg]
 | .bptr l _=>by simp only [Zfg]
 | .rptr _ _ _ _=>by simp only [Zfg]
 | .vptr _=>by simp only [Zfg]
 | .agg cs=>by simp only [Zfg];rw [Zuk cs]
 | .tup cs=>by simp only [Zfg];rw [Zuk cs]
 | .fn _ cs=>by simp only [Zfg];rw [Zuk cs]
 | .own l d=>by simp only [Zfg]
theorem Zuk{ls:List Nat}{σ σ':List (Nat×Blk)}:∀ (ps:List PV),Zgp false ls σ' ps=Zgp false ls σ ps
 | []=>by simp only [Zgp]
 | p::ps=>by simp only [Zgp];rw [Zawx p,Zuk ps]
end
def Zad5(ls:List Nat)(cs:List PV):Option (List PV):=
 bif PV.frees cs then some cs else
 match Zgp false ls [] cs with
 | some ([],ds)=>bif ds.all PV.one then some ds else none
 | _=>none
def Zri(ls0:List Nat)(σ:List (Nat×Blk)):Nat->List Nat->Option (List (Nat×Blk))
 | _,[]=>some []
 | i,L::ls=>
  match get σ L,Zri ls0 σ (i+1) ls with
  | some (.box cs),some r=>match Zad5 ls0 cs with | some ds=>some ((i,.box ds)::r) | none=>none
  | some (.row k es),some r=>some ((i,.row k es)::r)
  | _,_=>none
def Zt6(ls0:List Nat)(o o':Blk):Prop:=(o'=o/\(∀ cs,o ≠ .box cs/\∀ k i es,o ≠ .prow k i es cs)/\(∀ k i r es,o ≠ .xrow k i r es)/\∀ h,o ≠ .reg h)\/∃ cs ds,o = .box cs/\o' = .box ds/\Zad5 ls0 cs=some ds
theorem Zt6.same{ls0:List Nat}{o o':Blk}(h:Zt6 ls0 o o'):Zald o o':=by
 rcases h with ⟨h,_⟩ | ⟨cs,ds,h1,h2,_⟩
 .exact .inl h
 .exact .inr ⟨cs,ds,h1,h2⟩
theorem Zai7{ls0:List Nat}{σ:List (Nat×Blk)}:∀ {ls:List Nat} {i:Nat} {σa:List (Nat×Blk)},Zri ls0 σ i ls=some σa ->
 (∀ j o,get σa j=some o->∃ m L o0,j=i+m/\ls[m]?=some L/\get σ L=some o0/\Zt6 ls0 o0 o)/\(∀ (m L:Nat),ls[m]?=some L->∃ o,get σa (i+m)=some o)
 | [],i,σa,h=>by
  simp only [Zri,Option.some.injEq] at h
  subst h
  exact⟨(fun j o h=>nomatch h),(fun m L h=>by simp at h)⟩
 | L0::ls,i,σa,h=>by
  have key:∀ (b:Blk) (o0:Blk) (r:List (Nat×Blk)),get σ L0=some o0->Zt6 ls0 o0 b->Zri ls0 σ (i+1) ls=some r->σa=(i,b)::r ->
   (∀ j o,get σa j=some o->∃ m L o0,j=i+m/\(L0::ls)[m]?=some L/\get σ L=some o0/\Zt6 ls0 o0 o)/\(∀ (m L:Nat),(L0::ls)[m]?=some L->∃ o,get σa (i+m)=some o):=by
   intro b o0 r hg hp hr hσ
   subst hσ
   obtain⟨h1,h2⟩:=Zai7 hr
   refine⟨fun j o ho=>?_,fun m L hm=>?_⟩
   .simp only [PW.get] at ho
    cases hb:Nat.beq i j with
    | true=>
     simp only [hb,cond_true,Option.some.injEq] at ho
     subst ho
     exact⟨0,L0,o0,((Zu _ _).1 hb).symm,rfl,hg,hp⟩
    | false=>
     simp only [hb,cond_false] at ho
     obtain⟨m,L,o1,e1,e2,e3⟩:=h1 j o ho
     exact⟨m+1,L,o1,by omega,by simpa using e2,e3⟩
   .cases m with
    | zero=>exact⟨b,by simp [PW.get]⟩
    | succ m=>
     obtain⟨o,ho⟩:=h2 m L (by simpa using hm)
     refine⟨o,?_⟩
     simp only [PW.get]
     rw [Zdi (by omega),cond_false,show i+(m+1)=i+1+m by omega]
     exact ho
  simp only [Zri] at h
  split at h
  .rename_i cs r hg hr
   split at h
   .rename_i ds hd
    exact key _ _ r hg (.inr ⟨cs,ds,rfl,rfl,hd⟩) hr (Option.some.inj h).symm
   .cases h
  .rename_i k es r hg hr
   exact key _ _ r hg (.inl ⟨rfl,fun cs=>by simp,fun _ _ _ _=>by simp,fun _=>by simp⟩) hr (Option.some.inj h).symm
  .cases h
theorem Zad6{ls0:List Nat}{σ σ':List (Nat×Blk)}:∀ {ls:List Nat} {i:Nat},(∀ m,m∈ls->get σ' m=get σ m)->Zri ls0 σ' i ls=Zri ls0 σ i ls
 | [],i,_=>rfl
 | L::ls,i,h=>by
  simp only [Zri]
  rw [h L (by simp),Zad6 (fun m hm=>h m (List.mem_cons_of_mem _ hm))]
def okB(ls:List Nat):List PV->Bool
 | []=>true
 | .t _::ps=>okB ls ps
 | .osl l _::ps=>(match Zlk ls l with | some _=>true | none=>false)&&okB ls ps
 | _::_=>false
def Zpx(ls:List Nat):List PV->List PV
 | []=>[]
 | .osl l n::ps => .osl ((Zlk ls l).getD 0) n::Zpx ls ps
 | p::ps=>p::Zpx ls ps
theorem Zabv{ls:List Nat}{d:Nat}:∀ {cs:List PV},okB ls cs=true->Zgp false ls [] cs=some ([],Zpx ls cs)/\PV.rens (Zdf ls d) (Zpx ls cs)=cs/\(Zpx ls cs).all PV.one=true
 | [],_=>⟨rfl,rfl,rfl⟩
 | p::cs,h=>by
  cases p<;>simp only [okB,Bool.and_eq_true,Bool.false_eq_true] at h
  case t x=>
   obtain⟨h1,h2,h3⟩:=Zabv (d:=d) h
   refine⟨by simp only [Zgp,Zfg,h1,Zpx];rfl,by simp only [Zpx,PV.rens,PV.ren,h2],by simp only [Zpx,List.all_cons,h3];rfl⟩
  case osl l n=>
   obtain⟨h1,h2,h3⟩:=Zabv (d:=d) h.2
   cases hp:Zlk ls l with
   | none=>rw [hp] at h;exact absurd h.1 (by decide)
   | some i=>
    refine⟨by simp only [Zgp,Zfg,hp,h1,Zpx,Option.getD_some];rfl,?_,by simp only [Zpx,List.all_cons,h3];rfl⟩
    simp only [Zpx,hp,Option.getD_some,PV.rens,PV.ren,h2,Zdf,Zx1 hp]
def Zrj(ls0:List Nat)(σ:List (Nat×Blk)):Nat->List Nat->Option (List (Nat×Blk))
 | _,[]=>some []
 | i,L::ls=>
  match get σ L,Zrj ls0 σ (i+1) ls with
  | some (.box cs),some r=>bif PV.frees cs then some ((i,.box cs)::r) else bif okB ls0 cs then some ((i,.box (Zpx ls0 cs))::r) else none
  | some (.row k es),some r=>some ((i,.row k es)::r)
  | _,_=>none
theorem Zai8{ls0:List Nat}{d:Nat}{σ:List (Nat×Blk)}:∀ {ls:List Nat} {i:Nat} {σa:List (Nat×Blk)},Zrj ls0 σ i ls=some σa ->
 (∀ j o,get σa j=some o->∃ m L o0,j=i+m/\ls[m]?=some L/\get σ L=some o0/\Zt6 ls0 o0 o/\o.ren (Zdf ls0 d)=o0)/\(∀ (m L:Nat),ls[m]?=some L->∃ o,get σa (i+m)=some o)
 | [],i,σa,h=>by
  simp only [Zrj,Option.some.injEq] at h
  subst h
  exact⟨(fun j o h=>nomatch h),(fun m L h=>by simp at h)⟩
 | L0::ls,i,σa,h=>by
  have key:∀ (b:Blk) (o0:Blk) (r:List (Nat×Blk)),get σ L0=some o0->Zt6 ls0 o0 b->b.ren (Zdf ls0 d)=o0->Zrj ls0 σ (i+1) ls=some r->σa=(i,b)::r ->
   (∀ j o,get σa j=some o->∃ m L o0,j=i+m/\(L0::ls)[m]?=some L/\get σ L=some o0/\Zt6 ls0 o0 o/\o.ren (Zdf ls0 d)=o0)/\(∀ (m L:Nat),(L0::ls)[m]?=some L->∃ o,get σa (i+m)=some o):=by
   intro b o0 r hg hp hb0 hr hσ
   subst hσ
   obtain⟨h1,h2⟩:=Zai8 (d:=d) hr
   refine⟨fun j o ho=>?_,fun m L hm=>?_⟩
   .simp only [PW.get] at ho
    cases hb:Nat.beq i j with
    | true=>
     simp only [hb,cond_true,Option.some.injEq] at ho
     subst ho
     exact⟨0,L0,o0,((Zu _ _).1 hb).symm,rfl,hg,hp,hb0⟩
    | false=>
     simp only [hb,cond_false] at ho
     obtain⟨m,L,o1,e1,e2,e3⟩:=h1 j o ho
     exact⟨m+1,L,o1,by omega,by simpa using e2,e3⟩
   .cases m with
    | zero=>exact⟨b,by simp [PW.get]⟩
    | succ m=>
     obtain⟨o,ho⟩:=h2 m L (by simpa using hm)
     refine⟨o,?_⟩
     simp only [PW.get]
     rw [Zdi (by omega),cond_false,show i+(m+1)=i+1+m by omega]
     exact ho
  simp only [Zrj] at h
  split at h
  .rename_i cs r hg hr
   cases hf:PV.frees cs with
   | true=>
    simp only [hf,cond_true,Option.some.injEq] at h
    exact key _ _ r hg (.inr ⟨cs,cs,rfl,rfl,by unfold Zad5;rw [hf];rfl⟩) (by simp only [Blk.ren,PV.rens_free cs hf]) hr h.symm
   | false=>
    simp only [hf,cond_false] at h
    cases ho:okB ls0 cs with
    | false=>simp [ho] at h
    | true=>
     simp only [ho,cond_true,Option.some.injEq] at h
     obtain⟨b1,b2,b3⟩:=Zabv (d:=d) ho
     exact key _ _ r hg (.inr ⟨cs,_,rfl,rfl,by unfold Zad5;rw [hf,cond_false,b1];simp only [b3,cond_true]⟩) (by simp only [Blk.ren,b2]) hr h.symm
  .rename_i k es r hg hr
   simp only [Option.some.injEq] at h
   exact key _ _ r hg (.inl ⟨rfl,fun cs=>⟨fun e=>(by cases e),fun _ _ _ e=>(by cases e)⟩,fun _ _ _ _ e=>(by cases e),fun _ e=>(by cases e)⟩) rfl hr h.symm
  .cases h
theorem Zad7{ls0:List Nat}{σ σ':List (Nat×Blk)}:∀ {ls:List Nat} {i:Nat},(∀ m,m∈ls->get σ' m=get σ m)->Zrj ls0 σ' i ls=Zrj ls0 σ i ls
 | [],i,_=>rfl
 | L::ls,i,h=>by
  simp only [Zrj]
  rw [h L (by simp),Zad7 (fun m hm=>h m (List.mem_cons_of_mem _ hm))]
section
variable {P:Program} {o:Oper}
structure Zale (ls:List Nat) (d:Nat) (σa σ1:List (Nat×Blk)) (res:PV):Prop where
 nd:∀ (i j L:Nat),ls[i]?=some L->ls[j]?=some L->i=j
 len:ls.length<=1000
 box:∀ (l:Nat) o,get σ1 l=some o->∀ L,ls[l]?=some L->(∃ cs cs0,o = .box cs/\get σa l=some (.box cs0))\/∃ k es es0,o = .row k es/\get σa l=some (.row k es0)
 ge:∀ (l:Nat) o,get σ1 l=some o->ls[l]?=none->1000<=l+d
 cl:∀ l,(res.has l=true\/∃ m o,get σ1 m=some o/\o.has l=true)->∃ o,get σ1 l=some o
theorem Zauz{f:FuncId}{fo:Operand}{xs:Array Operand}{ats:Array TypeId}{caps ps qs:List PV}{res:PV}{σa σ1:List (Nat×Blk)}{ls:List Nat}{d:Nat}{S:Bool}{cs:List Prop}(hfn:FnG P f σa qs σ1 res)(ho:o.op = .call { callee := .value fo,args:=xs,argTypes:=ats })
 {ρ:List (Nat×PV)} (hfo:Zi ρ fo=some (.fn f caps)) (hps:(xs.toList.mapM (Zi ρ)).map (· ++ caps)=some ps) {G:Frm} {n:Nat} {tm:List (Nat×PV)} {σ:List (Nat×Blk)} {a:Act} {w:World} {β:Nat->Option Nat} (hr:Zaw G β ⟨n,tm,σ⟩ a w)
 (hag:∀ t q,Operand.tmp t∈o.op.operands->PW.get ρ t=some q->PW.get tm t=some q)
 (hq:Zgp S ls σ ps=some (cs,qs)) (hcs:Zaj cs) (hp:(∀ j o,PW.get σa j=some o->∃ m L o0,j=0+m/\ls[m]?=some L/\PW.get σ L=some o0/\Zt6 ls o0 o)/\(∀ (m L:Nat),ls[m]?=some L->∃ o,PW.get σa (0+m)=some o)) (hok:Zale ls d σa σ1 res) (hfr:∀ (l:Nat) o,get σ1 l=some o->ls[l]?=none->(∀ i q,get tm i=some q->q.has (l+d)=false)/\(∀ m y,get σ m=some y->m≠l+d/\y.has (l+d)=false))
 (hS:S=true->res.sc=true/\∀ l o,get σ1 l=some o->o.SC) {K:Act->World->Prop} {Q:Exit->Act->World->Prop}
 (hK:∀ v w',(∃ b2,Zaw G b2 ⟨n,tm,Zed (Zdf ls d) σ1++Za5 ls σ⟩ a w'/\VR (ctx G b2 w' (Zed (Zdf ls d) σ1++Za5 ls σ)) (res.ren (Zdf ls d)) v)->K (a.put o.dst v) w'):o.wp P a w K Q:=by
 obtain⟨p1,p2⟩:=hp
 have hbox:∀ (l:Nat) o,get σ1 l=some o->∀ L,ls[l]?=some L->(∃ cs cs0,o = .box cs/\get σ L=some (.box cs0))\/∃ k es es0,o = .row k es/\get σ L=some (.row k es0):=fun l o h L hL=>by
  rcases hok.box l o h L hL with ⟨cs,cs0,h1,h2⟩ | ⟨k,es,es0,h1,h2⟩
  .obtain⟨m,L',o0,e1,e2,e3,e4⟩:=p1 l _ h2
   rw [Nat.zero_add] at e1;subst e1
   rw [hL] at e2;cases e2
   rcases e4 with ⟨e4,_⟩ | ⟨cs1,_,rfl,_⟩
   .exact .inl ⟨cs,cs0,h1,e4▸e3⟩
   .exact .inl ⟨cs,cs1,h1,e3⟩
  .obtain⟨m,L',o0,e1,e2,e3,e4⟩:=p1 l _ h2
   rw [Nat.zero_add] at e1;subst e1
   rw [hL] at e2;cases e2
   rcases e4 with ⟨e4,_⟩ | ⟨_,_,_,e4,_⟩
   .exact .inr ⟨k,es,es0,h1,e4▸e3⟩
   .cases e4
 have hnp:(∀ (i k j:Nat) es cs,get σa i≠some (.prow k j es cs))/\(∀ (i k j r:Nat) es,get σa i≠some (.xrow k j r es))/\∀ (i:Nat) h,get σa i≠some (.reg h):=by
  refine⟨fun i k j es cs h=>?_,fun i k j r es h=>?_,fun i h0 h=>?_⟩
  all_goals
   obtain⟨m,L,o0,_,_,_,e5⟩:=p1 i _ h
   rcases e5 with ⟨rfl,e6⟩ | ⟨cs1,ds,_,e6,_⟩
  .exact (e6.1 cs).2 k j es rfl
  .cases e6
  .exact e6.2.1 k j r es rfl
  .cases e6
  .exact e6.2.2 h0 rfl
  .cases e6
 have hC:Zad4 ls d tm σ σa σ1 res:={ nd:=hok.nd,len:=hok.len,sa:=fun i o h=>by obtain⟨m,L,o0,e1,e2,e3,e4⟩:=p1 i o h;rw [Nat.zero_add] at e1;subst e1;exact⟨L,e2,o0,e3,e4.same⟩,all:=fun i L h=>by simpa using p2 i L h,np:=hnp,box:=hbox,fr:=fun l o h hn=>⟨hok.ge l o h hn,hfr l o h hn⟩,cl:=hok.cl }
 have hpass:∀ (i L:Nat),ls[i]?=some L->∃ o,get σ L=some o:=fun i L h=>by
  obtain⟨o,ho⟩:=hC.all i L h
  obtain⟨L',h1,o0,h2,_⟩:=hC.sa i o ho
  rw [h] at h1;cases h1
  exact⟨o0,h2⟩
 obtain⟨vals,hv,hrun⟩:=Z31 (P:=P) ho hfo hps hr hag
 let A:Nat->Prop:=fun b=>bif S then b < w.heap.size/\∀ (i L:Nat) (o:Blk),ls[i]?=some L->get σ L=some o->¬ Z3 β w L o b else Imm G β w σ b
 have hAT:∀ b,Imm G β w σ b->A b:=fun b hb=>by
  cases S with
  | true=>exact⟨hb.1,fun i L o hL hg=>hb.2.2 L o hg⟩
  | false=>exact hb
 have hA:∀ b,A b->b < w.heap.size/\∀ (i L:Nat) (o:Blk),ls[i]?=some L->get σ L=some o->¬ Z3 β w L o b:=fun b hb=>by
  cases S with
  | true=>exact hb
  | false=>exact⟨hb.1,fun i L o hL hg=>hb.2.2 L o hg⟩
 have hAc:∀ b,A b->Imm (Zey (βc β ls) σa A w) (βc β ls) w σa b:=fun b hb=>⟨(hA b hb).1,.inr (.inl hb),fun i o ho hb'=>by
  obtain⟨L,h1,o0,h2,h3⟩:=hC.sa i o ho
  exact (hA b hb).2 i L o0 h1 h2 (h3.own (hb'.lab (show βc β ls i=β L by simp [βc,h1])))⟩
 have hAC:∀ S',(S'=true->S=true)->Z1e S' ls σ (ctx G β w σ) (ctx (Zey (βc β ls) σa A w) (βc β ls) w σa):=by
  intro S' hS'
  refine⟨rfl,fun b hb=>⟨hAc b (hAT b hb),rfl⟩,fun hs l o hpn hg b hb=>⟨hAc b (?_:A b),rfl⟩,fun l o hg=>hr.blk l _ hg,fun i L cs hL hg=>?_,fun i L k es hL hg=>?_,fun i L k q es hL hg=>?_,fun i L ag es hL hg=>?_,?_⟩
  .simp only [A,hS' hs,cond_true]
   refine⟨(hr.sep l _ b hg hb).1,fun i L o' hL hg' hb'=>?_⟩
   have:=hr.inj l L _ _ b hg hg' hb hb'
   subst this
   exact Zai5 hpn i hL
  .obtain⟨L',h1,o0,h3,h4⟩:=hC.sa i _ hg
   rw [hL] at h1;cases h1
   refine⟨?_,by simp [ctx,βc,hL]⟩
   rcases h4 with h4 | ⟨cs0,_,h4,_⟩
   .exact⟨cs,h4▸h3⟩
   .exact⟨cs0,h4▸h3⟩
  .obtain⟨L',h1,o0,h3,h4⟩:=hC.sa i _ hg
   rw [hL] at h1;cases h1
   obtain rfl:o0 = .row k es:=by
    rcases h4 with h4 | ⟨_,_,_,h4⟩
    .exact h4.symm
    .cases h4
   exact⟨h3,by simp [ctx,βc,hL],fun _ _ h=>h⟩
  .obtain⟨L',h1,o0,h3,h4⟩:=hC.sa i _ hg
   rw [hL] at h1;cases h1
   obtain rfl:o0 = .mat k q es:=by
    rcases h4 with h4 | ⟨_,_,_,h4⟩
    .exact h4.symm
    .cases h4
   exact⟨h3,by simp [ctx,βc,hL],fun _ _ h=>h,fun _=>rfl⟩
  .obtain⟨L',h1,o0,h3,h4⟩:=hC.sa i _ hg
   rw [hL] at h1;cases h1
   obtain rfl:o0 = .map ag es:=by
    rcases h4 with h4 | ⟨_,_,_,h4⟩
    .exact h4.symm
    .cases h4
   exact⟨h3,by simp [ctx,βc,hL]⟩
  .exact hC.np
 have hv2:VRs (ctx (Zey (βc β ls) σa A w) (βc β ls) w σa) qs vals:=by
  exact Zs0 (hAC S id) ps qs cs _ hq hcs hv
 have hlen:vals.length=qs.length:=hv2.length
 have hcall:=callU hfn hr hC (sc:=S) hlen A hA hAT (fun hs b hb=>by simpa only [A,hs,cond_false] using hb) hS hv2 (fun i L cs0 cs hL hg ha vs hvs h1=>by
  obtain⟨m,L',o0,e1,e2,e3,e4⟩:=p1 i _ ha
  rw [Nat.zero_add] at e1;subst e1
  rw [hL] at e2;cases e2
  rw [hg] at e3;cases e3
  rcases e4 with ⟨_,e4,_⟩ | ⟨_,_,e5,e6,e7⟩
  .exact absurd rfl (e4 _).1
  .cases e5;cases e6
   unfold Zad5 at e7
   cases hf:PV.frees cs0 with
   | true=>
    simp only [hf,cond_true,Option.some.injEq] at e7
    subst e7
    exact⟨VRs.step (c:=ctx G β w σ) (c':=ctx (Zey (βc β ls) σa A w) (βc β ls) w σa) (fun b hb=>⟨hAc b (hAT b hb),rfl⟩) cs0 vs (fun l hl=>by rw [PV.frees_has l cs0 hf] at hl;cases hl) hvs,h1⟩
   | false=>
    simp only [hf,cond_false] at e7
    split at e7
    .rename_i ds hd
     cases ho:ds.all PV.one with
     | false=>simp [ho] at e7
     | true=>
      simp only [ho,cond_true,Option.some.injEq] at e7
      subst e7
      rw [Zuk (σ:=σ)] at hd
      exact⟨Zs0 (hAC false (fun h=>by cases h)) cs0 ds [] vs hd trivial hvs,ho⟩
    .cases e7)
 unfold Oper.wp
 rw [hrun hfn.1,Oper.upon_enter]
 refine hcall.mono ?_
 rintro e w' ⟨v,b2,rfl,h1,h2⟩
 exact hK v w' ⟨b2,h1,h2⟩
theorem Zal8{f:Nat->Nat}{l:Nat}{o:Blk}:∀ {fr:List (Nat×Blk)},get fr l=some o->(f l,o.ren f)∈Zed f fr
 | [],h=>by cases h
 | (j,b)::r,h=>by
  simp only [PW.get] at h
  cases hb:Nat.beq j l with
  | true=>
   simp only [hb,cond_true,Option.some.injEq] at h
   have:=(Zu _ _).1 hb
   subst this;subst h
   simp [Zed]
  | false=>simp only [hb,cond_false] at h;simp only [Zed];exact List.mem_cons_of_mem _ (Zal8 h)
theorem Zaz8{f:FuncId}{fo:Operand}{xs:Array Operand}{ats:Array TypeId}{caps ps qs:List PV}{res:PV}{σa σ1:List (Nat×Blk)}{ls:List Nat}{d:Nat}{S:Bool}{cs:List Prop}{ρ:List (Nat×PV)}{σ:List (Nat×Blk)}{need:List Nat}(hfn:FnG P f σa qs σ1 res)(ho:o.op = .call { callee := .value fo,args:=xs,argTypes:=ats })
 (hfo:Zi ρ fo=some (.fn f caps)) (hps:(xs.toList.mapM (Zi ρ)).map (· ++ caps)=some ps) (hq:Zgp S ls σ ps=some (cs,qs)) (hcs:Zaj cs) (hσa:Zri ls σ 0 ls=some σa) (hok:Zale ls d σa σ1 res)
 (hS:S=true->res.sc=true/\∀ l o,get σ1 l=some o->o.SC) (hneed:∀ m,(m∈ls\/PV.hasAny m ps=true\/PV.deeps σ m ps=true)->m∈need) (hnin:∀ (l:Nat) o,get σ1 l=some o->ls[l]?=none->l+d∉ls):OpF P o ρ σ need ls (res.ren (Zdf ls d)) (Zed (Zdf ls d) σ1):=by
 rintro G n tm σ' a w K Q hag hnd hnews ⟨β,hr⟩ hK
 have hq':Zgp S ls σ' ps=some (cs,qs):=by rw [Zoe ps (fun m hm=>hnd m (hneed m (.inr hm)))];exact hq
 have hσa':Zri ls σ' 0 ls=some σa:=by rw [Zad6 (fun m hm=>hnd m (hneed m (.inl hm)))];exact hσa
 refine Zauz hfn ho hfo hps hr hag hq' hcs (Zai7 hσa') hok (fun l o h hn=>?_) hS hK
 have:=hnews _ _ (Zal8 h)
 simp only [Zdf,hn] at this
 exact this (hnin l o h hn)
theorem Zawy{f:FuncId}{fo:Operand}{xs:Array Operand}{ats:Array TypeId}{caps ps qs:List PV}{res:PV}{σa fr:List (Nat×Blk)}{ls:List Nat}{d:Nat}{S:Bool}{cs:List Prop}{ρ:List (Nat×PV)}{σ:List (Nat×Blk)}{need:List Nat}(hfn:FnG P f σa qs (fr++σa) res)(ho:o.op = .call { callee := .value fo,args:=xs,argTypes:=ats })
 (hfo:Zi ρ fo=some (.fn f caps)) (hps:(xs.toList.mapM (Zi ρ)).map (· ++ caps)=some ps) (hq:Zgp S ls σ ps=some (cs,qs)) (hcs:Zaj cs) (hσa:Zrj ls σ 0 ls=some σa) (hok:Zale ls d σa (fr++σa) res)
 (hS:S=true->res.sc=true/\∀ l o,get (fr++σa) l=some o->o.SC) (hneed:∀ m,(m∈ls\/PV.hasAny m ps=true\/PV.deeps σ m ps=true)->m∈need):Za3 P o ρ σ need (res.ren (Zdf ls d)) (Zed (Zdf ls d) fr):=by
 intro G n tm σ' a w K Q hag hnd hnews hr hK
 obtain⟨β,hr⟩:=hr
 have hq':Zgp S ls σ' ps=some (cs,qs):=by rw [Zoe ps (fun m hm=>hnd m (hneed m (.inr hm)))];exact hq
 have hσa':Zrj ls σ' 0 ls=some σa:=by rw [Zad7 (fun m hm=>hnd m (hneed m (.inl hm)))];exact hσa
 obtain⟨p1,p2⟩:=Zai8 (d:=d) hσa'
 have hpG:(∀ j o,get σa j=some o->∃ m L o0,j=0+m/\ls[m]?=some L/\get σ' L=some o0/\Zt6 ls o0 o)/\(∀ (m L:Nat),ls[m]?=some L->∃ o,get σa (0+m)=some o):=⟨fun j o h=>by
  obtain⟨m,L,o0,e1,e2,e3,e4,_⟩:=p1 j o h
  exact⟨m,L,o0,e1,e2,e3,e4⟩,p2⟩
 have hfrget:∀ l o,get (fr++σa) l=some o->ls[l]?=none->∃ o',get fr l=some o':=fun l o h hn=>by
  rw [Zj9] at h
  cases hg:get fr l with
  | some o'=>exact⟨o',rfl⟩
  | none=>
   rw [hg] at h
   obtain⟨m,L,_,e1,e2,_⟩:=p1 l o h
   rw [Nat.zero_add] at e1;subst e1
   rw [hn] at e2;cases e2
 have hmem:∀ l o,get fr l=some o->(Zdf ls d l,o.ren (Zdf ls d))∈Zed (Zdf ls d) fr:=fun l o h=>by
  have:∀ (l:Nat) (o:Blk) (fr:List (Nat×Blk)),get fr l=some o->(Zdf ls d l,o.ren (Zdf ls d))∈Zed (Zdf ls d) fr:=by
   intro l o fr
   induction fr with
   | nil=>intro h;cases h
   | cons x r ih=>
    obtain⟨j,b⟩:=x
    intro h
    simp only [PW.get] at h
    cases hb:Nat.beq j l with
    | true=>
     simp only [hb,cond_true,Option.some.injEq] at h
     have:=(Zu _ _).1 hb
     subst this;subst h
     simp [Zed]
    | false=>simp only [hb,cond_false] at h;simp only [Zed];exact List.mem_cons_of_mem _ (ih h)
  exact this l o fr h
 refine Zauz hfn ho hfo hps hr hag hq' hcs hpG hok (fun l o h hn=>?_) hS ?_
 .obtain⟨o',h'⟩:=hfrget l o h hn
  have:=hnews _ _ (hmem l o' h')
  simpa [Zdf,hn] using this
 .rintro v w' ⟨b2,h1,h2⟩
  have hsub:∀ l o,get (Zed (Zdf ls d) fr++σ') l=some o->get (Zed (Zdf ls d) (fr++σa)++Za5 ls σ') l=some o:=by
   intro m o hm
   rw [Z91,List.append_assoc,Zj9]
   rw [Zj9] at hm
   cases hg:get (Zed (Zdf ls d) fr) m with
   | some o'=>rw [hg] at hm;exact hm
   | none=>
    rw [hg] at hm
    simp only at hm⊢
    rw [Zj9]
    cases hg2:get (Zed (Zdf ls d) σa) m with
    | some o2=>
     obtain⟨l,o1,_,e2,e3,e4⟩:=Zxz hg2
     obtain⟨i,L,o0,f1,f2,f4,_,f5⟩:=p1 l o1 e2
     rw [Nat.zero_add] at f1;subst f1
     have:L=m:=by simpa [Zdf,f2] using e4
     subst this
     rw [f4] at hm
     have hoo:o0=o:=Option.some.inj hm
     rw [e3,f5,hoo]
    | none=>
     simp only
     by_cases hin:m∈ls
     .obtain⟨i,hi⟩:=List.getElem?_of_mem hin
      obtain⟨o3,ho3⟩:=p2 i m hi
      rw [Nat.zero_add] at ho3
      obtain⟨l',hk⟩:=Zx0 (f:=Zdf ls d) ho3
      rw [show Zdf ls d i=m by simp [Zdf,hi]] at hk
      obtain⟨_,_,o4,ho4⟩:=Zrh hk
      rw [hg2] at ho4;cases ho4
     .rw [Zlf hin];exact hm
  refine hK v w' ⟨b2,h1.sub (Nat.le_refl _) (fun i p hp=>⟨hp,(h1.tm i p hp).1⟩) hsub,?_⟩
  exact VR.step (c:=ctx G b2 w' (Zed (Zdf ls d) (fr++σa)++Za5 ls σ')) (c':=ctx G b2 w' (Zed (Zdf ls d) fr++σ')) (fun b hb=>⟨Imm.sub hsub b hb,rfl⟩) _ v (fun l _=>Zac.sub hsub l) h2
end
theorem FnG.frz{P:Program}{f:FuncId}{σ σ1 σ2:List (Nat×Blk)}{args:List PV}{res q:PV}(h:FnG P f σ args σ1 res)(hσ:Zvt σ1 σ2)(hq:Frz σ1 σ2 res q):FnG P f σ args σ2 q:=by
 refine⟨h.1,fun A β w vals hl hr=>(h.2 A β w vals hl hr).mono ?_⟩
 rintro e w' ⟨v,β',he,hc⟩
 refine⟨v,β',he,Zal0 hc hσ (fun i p hp=>?_)⟩
 simp only [PW.get] at hp⊢
 cases hb:Nat.beq 0 i with
 | true=>simp only [hb,cond_true,Option.some.injEq] at hp⊢;subst hp;exact⟨_,rfl,hq⟩
 | false=>simp [hb] at hp
theorem FnG.toFn{P:Program}{f:FuncId}{args:List PV}{σ1:List (Nat×Blk)}{res q:PV}(h:FnG P f [] args σ1 res)(hq:Frz σ1 [] res q):Fn P f args q:=h.frz (Zvt.nil _) hq
theorem Zaz9{G:Frm}{β:Nat->Option Nat}{n:Nat}{tm:List (Nat×PV)}{σ:List (Nat×Blk)}{a:Act}{w:World}(h:Zaw G β ⟨n,tm,σ⟩ a w)(l m:Nat)(hm:1000<=m)
 (hf1:∀ i q,get tm i=some q->q.has m=false) (hf2:∀ j y,get σ j=some y->j≠m/\y.has m=false) :
 ∃ β',Zaw G β' ⟨n,tm.map (fun x=>(x.1,x.2.ren (fun j=>bif Nat.beq j l then m else j))),Zed (fun j=>bif Nat.beq j l then m else j) σ⟩ a w:=by
 let f:Nat->Nat:=fun j=>bif Nat.beq j l then m else j
 have hfl:f l=m:=by simp [f]
 have hfo:∀ j,j≠l->f j=j:=fun j h=>by simp [f,Zdi h]
 let β':Nat->Option Nat:=fun j=>bif Nat.beq j m then β l else β j
 have hβm:β' m=β l:=by simp [β']
 have hβo:∀ j,j≠m->β' j=β j:=fun j h=>by simp [β',Zdi h]
 have hget:∀ j o,get (Zed f σ) j=some o->∃ l0 o0,get σ l0=some o0/\o=o0.ren f/\f l0=j/\β' j=β l0:=by
  intro j o hg
  obtain⟨l0,o0,_,h2,h3,h4⟩:=Zxz hg
  refine⟨l0,o0,h2,h3,h4,?_⟩
  by_cases e:l0=l
  .subst e;rw [hfl] at h4;subst h4;exact hβm
  .rw [hfo _ e] at h4;subst h4;exact hβo _ (hf2 _ _ h2).1
 have hI:∀ b,Imm G β w σ b->Imm G β' w (Zed f σ) b:=fun b hb=>⟨hb.1,hb.2.1,fun j o hj hb'=>by obtain⟨l0,o0,h2,rfl,_,h5⟩:=hget j o hj;exact hb.2.2 l0 o0 h2 (hb'.unren.lab h5)⟩
 have hR:∀ j,j≠m->Z87 (ctx G β w σ) (ctx G β' w (Zed f σ)) j (f j):=by
  intro j hj
  have key:∀ o,get (Zed f σ) (f j)=some o->∃ o0,get σ j=some o0/\o=o0.ren f/\β' (f j)=β j:=by
   intro o hg
   obtain⟨l0,o0,h2,h3,h4,h5⟩:=hget _ o hg
   have:l0=j:=by
    by_cases e:l0=l
    .subst e
     rw [hfl] at h4
     by_cases e2:j=l0
     .exact e2.symm
     .rw [hfo _ e2] at h4;exact absurd h4.symm hj
    .rw [hfo _ e] at h4
     by_cases e2:j=l
     .subst e2;rw [hfl] at h4;exact absurd h4 (hf2 _ _ h2).1
     .rw [hfo _ e2] at h4;exact h4
   subst this
   exact⟨o0,h2,h3,h5⟩
  refine⟨fun k es hg=>?_,fun cs hg=>?_,fun k q es hg=>?_,fun ag es hg=>?_,fun k i es cs hg=>?_,fun h' hg=>?_,fun k i r es hg=>?_⟩
  .obtain⟨o0,h1,h2,h3⟩:=key _ hg
   cases o0 with
   | reg h0=>simp [Blk.ren] at h2
   | xrow k0 i0 r0 es0=>simp [Blk.ren] at h2
   | box cs=>simp [Blk.ren] at h2
   | mat k0 q0 es0=>simp [Blk.ren] at h2
   | map k0 es0=>simp [Blk.ren] at h2
   | prow k0 i0 es0 cs0=>simp [Blk.ren] at h2
   | row k0 es0=>simp only [Blk.ren,Blk.row.injEq] at h2;obtain⟨rfl,rfl⟩:=h2;exact⟨h1,h3,fun _ _ _ h=>h⟩
  .obtain⟨o0,h1,h2,h3⟩:=key _ hg
   cases o0 with
   | reg h0=>simp [Blk.ren] at h2
   | xrow k0 i0 r0 es0=>simp [Blk.ren] at h2
   | box cs0=>exact⟨cs0,h1,h3⟩
   | row k0 es0=>simp [Blk.ren] at h2
   | mat k0 q0 es0=>simp [Blk.ren] at h2
   | map k0 es0=>simp [Blk.ren] at h2
   | prow k0 i0 es0 cs0=>simp [Blk.ren] at h2
  .obtain⟨o0,h1,h2,h3⟩:=key _ hg
   cases o0 with
   | reg h0=>simp [Blk.ren] at h2
   | xrow k0 i0 r0 es0=>simp [Blk.ren] at h2
   | box cs=>simp [Blk.ren] at h2
   | row k0 es0=>simp [Blk.ren] at h2
   | mat k0 q0 es0=>simp only [Blk.ren,Blk.mat.injEq] at h2;obtain⟨rfl,rfl,rfl⟩:=h2;exact⟨h1,h3,fun _ _=>⟨fun _ h=>h,fun _=>rfl⟩⟩
   | map k0 es0=>simp [Blk.ren] at h2
   | prow k0 i0 es0 cs0=>simp [Blk.ren] at h2
  .obtain⟨o0,h1,h2,h3⟩:=key _ hg
   cases o0 with
   | reg h0=>simp [Blk.ren] at h2
   | xrow k0 i0 r0 es0=>simp [Blk.ren] at h2
   | box cs=>simp [Blk.ren] at h2
   | row k0 es0=>simp [Blk.ren] at h2
   | mat k0 q0 es0=>simp [Blk.ren] at h2
   | map k0 es0=>simp only [Blk.ren,Blk.map.injEq] at h2;obtain⟨rfl,rfl⟩:=h2;exact⟨h1,h3⟩
   | prow k0 i0 es0 cs0=>simp [Blk.ren] at h2
  .obtain⟨o0,h1,h2,h3⟩:=key _ hg
   cases o0 with
   | reg h0=>simp [Blk.ren] at h2
   | xrow k0 i0 r0 es0=>simp [Blk.ren] at h2
   | box cs=>simp [Blk.ren] at h2
   | row k0 es0=>simp [Blk.ren] at h2
   | mat k0 q0 es0=>simp [Blk.ren] at h2
   | map k0 es0=>simp [Blk.ren] at h2
   | prow k0 i0 es0 cs0=>simp only [Blk.ren,Blk.prow.injEq] at h2;obtain⟨rfl,rfl,rfl,rfl⟩:=h2;exact⟨cs0,h1,h3,fun _ _ _ h=>h⟩
  .obtain⟨o0,h1,h2,h3⟩:=key _ hg
   cases o0 with
   | box cs=>simp [Blk.ren] at h2
   | row k0 es0=>simp [Blk.ren] at h2
   | mat k0 q0 es0=>simp [Blk.ren] at h2
   | map k0 es0=>simp [Blk.ren] at h2
   | prow k0 i0 es0 cs0=>simp [Blk.ren] at h2
   | xrow k0 i0 r0 es0=>simp [Blk.ren] at h2
   | reg h0=>simp only [Blk.ren,Blk.reg.injEq] at h2;obtain rfl:=h2;exact⟨h1,h3,fun _ _ _ _=>rfl⟩
  .obtain⟨o0,h1,h2,h3⟩:=key _ hg
   cases o0 with
   | box cs=>simp [Blk.ren] at h2
   | row k0 es0=>simp [Blk.ren] at h2
   | mat k0 q0 es0=>simp [Blk.ren] at h2
   | map k0 es0=>simp [Blk.ren] at h2
   | prow k0 i0 es0 cs0=>simp [Blk.ren] at h2
   | reg h0=>simp [Blk.ren] at h2
   | xrow k0 i0 r0 es0=>simp only [Blk.ren,Blk.xrow.injEq] at h2;obtain⟨rfl,rfl,_,rfl⟩:=h2;exact⟨r0,h1,h3,fun _ _ _ h=>h⟩
 have hV:∀ p v,p.has m=false->VR (ctx G β w σ) p v->VR (ctx G β' w (Zed f σ)) (p.ren f) v:=fun p v hp hv=>
  VR.ren (c:=ctx G β w σ) (c':=ctx G β' w (Zed f σ)) (sc:=false) (fun _ b hb=>⟨hI b hb,rfl⟩) p v (fun e=>by cases e) (fun j hj=>hR j (fun e=>by subst e;rw [hp] at hj;cases hj)) hv
 refine⟨β',{ defers:=h.defers,sz:=h.sz,base:=h.base,os:=h.os,tape:=h.tape,output:=h.output,old:=h.old,A:=h.A,gl:=h.gl,inj:=fun j j' o o' b hj hj' hb hb'=>?_,sep:=fun j o b hj hb=>?_,fix:=fun j cs hj hg=>?_,row0:=fun j k es' hj hg=>?_,blk:=fun j o hj=>?_,tm:=fun i p hp=>?_ }⟩
 .obtain⟨l0,o0,h2,h3,h4,h5⟩:=hget j o hj
  obtain⟨l1,o1,h2',h3',h4',h5'⟩:=hget j' o' hj'
  subst h3;subst h3'
  have:=h.inj l0 l1 _ _ b h2 h2' (hb.unren.lab h5) (hb'.unren.lab h5')
  subst this
  exact h4.symm.trans h4'
 .obtain⟨l0,o0,h2,h3,h4,h5⟩:=hget j o hj
  subst h3
  exact h.sep l0 o0 b h2 (hb.unren.lab h5)
 .obtain⟨l0,o0,h2,h3,h4,h5⟩:=hget j _ hg
  cases o0 with
  | reg h0=>simp [Blk.ren] at h3
  | xrow k0 i0 r0 es0=>simp [Blk.ren] at h3
  | row k es=>simp [Blk.ren] at h3
  | mat k q es=>simp [Blk.ren] at h3
  | map ag es=>simp [Blk.ren] at h3
  | prow k0 i0 es0 cs0=>simp [Blk.ren] at h3
  | box cs0=>
   by_cases e:l0=l
   .subst e;rw [hfl] at h4;omega
   .rw [hfo _ e] at h4;subst h4
    rw [h5];exact h.fix l0 cs0 hj h2
 .obtain⟨l0,o0,h2,h3,h4,h5⟩:=hget j _ hg
  cases o0 with
  | reg h0=>simp [Blk.ren] at h3
  | xrow k0 i0 r0 es0=>simp [Blk.ren] at h3
  | box cs=>simp [Blk.ren] at h3
  | mat k q es=>simp [Blk.ren] at h3
  | map ag es=>simp [Blk.ren] at h3
  | prow k0 i0 es0 cs0=>simp [Blk.ren] at h3
  | row k0 es0=>
   simp only [Blk.ren,Blk.row.injEq] at h3
   obtain⟨rfl,rfl⟩:=h3
   by_cases e:l0=l
   .subst e;rw [hfl] at h4;omega
   .rw [hfo _ e] at h4;subst h4
    rw [h5];exact h.row0 l0 _ _ hj h2
 .obtain⟨l0,o0,h2,h3,h4,h5⟩:=hget j o hj
  have hb:=h.blk l0 o0 h2
  subst h3
  cases o0 with
  | reg h0=>obtain⟨n,f1,f2⟩:=hb;exact⟨n,h5.trans f1,f2⟩
  | xrow k0 i0 r0 es0=>
   obtain⟨f0,f1,fi,f2⟩:=hb
   refine⟨f0,f1,fi,?_⟩
   rcases f2 with ⟨f2,f3⟩ | ⟨b,s,vs,f2,f3,f4,f5,f6⟩
   .exact .inl ⟨h5.trans f2,f3⟩
   .refine .inr ⟨b,s,vs,h5.trans f2,f3,f4,f5,?_⟩
    have hh:=(hf2 l0 _ h2).2
    rw [<- Zarw]
    refine VRs.ren (c:=ctx G β w σ) (c':=ctx G β' w (Zed f σ)) (sc:=false) (fun _ b hb=>⟨hI b hb,rfl⟩) _ vs (fun e=>by cases e) (fun j hj2=>hR j (fun e=>?_)) f6
    subst e
    simp only [Blk.has] at hh
    rw [Zahh hh] at hj2;cases hj2
  | box cs=>
   obtain⟨b,vs,f1,f2,f3,f4,f5⟩:=hb
   refine⟨b,vs,h5.trans f1,by rw [PV.rens_length];exact f2,f3,?_,by rw [PV.rens_one];exact f5⟩
   have hh:=(hf2 l0 _ h2).2
   exact VRs.ren (c:=ctx G β w σ) (c':=ctx G β' w (Zed f σ)) (sc:=false) (fun _ b hb=>⟨hI b hb,rfl⟩) cs vs (fun e=>by cases e) (fun j hj2=>hR j (fun e=>by subst e;simp only [Blk.has] at hh;rw [hh] at hj2;cases hj2)) f4
  | row k es=>
   obtain⟨f0,f1,f2⟩:=hb
   refine⟨f0,f1,?_⟩
   rcases f2 with ⟨f2,f3⟩ | ⟨b,s,f2,f3,f4,f5⟩
   .exact .inl ⟨h5.trans f2,f3⟩
   .exact .inr ⟨b,s,h5.trans f2,f3,f4,Zm.mono (w:=w) (w':=w) (fun b hb=>⟨hI b hb,rfl⟩) rfl es 0 f5⟩
  | mat k q es=>
   obtain⟨f0,f1,f2⟩:=hb
   refine⟨f0,f1,?_⟩
   rcases f2 with ⟨f2,f3⟩ | ⟨b,s,f2,f3,f4,f5,f6⟩
   .exact .inl ⟨h5.trans f2,f3⟩
   .exact .inr ⟨b,s,h5.trans f2,f3,f4,Zm.mono (w:=w) (w':=w) (fun d hd=>⟨hd.imp (hI d) id,rfl⟩) rfl es 0 f5,f6⟩
  | prow k0 i0 es0 cs0=>
   obtain⟨g0,g1,g2,g3,g4,b,s,vs,f1,f2,f3,f4,f5⟩:=hb
   refine⟨g0,g1,g2,by rw [PV.rens_length];exact g3,by rw [PV.rens_one];exact g4,b,s,vs,h5.trans f1,f2,f3,f4,?_⟩
   have hh:=(hf2 l0 _ h2).2
   rw [<- Zad3]
   exact VRs.ren (c:=ctx G β w σ) (c':=ctx G β' w (Zed f σ)) (sc:=false) (fun _ b hb=>⟨hI b hb,rfl⟩) _ vs (fun e=>by cases e) (fun j hj2=>hR j (fun e=>by subst e;rw [Z3x] at hj2;simp only [Blk.has] at hh;rw [hh] at hj2;cases hj2)) f5
  | map ag es=>
   obtain⟨b,ents,clock,f1,f2,f3⟩:=hb
   exact⟨b,ents,clock,h5.trans f1,f2,Z3w.step (c:=ctx G β w σ) (c':=ctx G β' w (Zed f σ)) (fun b hb=>⟨hI b hb,rfl⟩) (fun _ _=>rfl) f3⟩
 .have hmap:∀ (tm:List (Nat×PV)),get (tm.map (fun x=>(x.1,x.2.ren f))) i=(get tm i).map (·.ren f):=by
   intro tm
   induction tm with
   | nil=>rfl
   | cons x r ih=>
    obtain⟨j,q⟩:=x
    simp only [List.map_cons,PW.get]
    cases Nat.beq j i<;>simp [ih]
  rw [hmap] at hp
  simp only [Option.map_eq_some_iff] at hp
  obtain⟨q,hq,rfl⟩:=hp
  exact⟨(h.tm i q hq).1,hV q _ (hf1 i q hq) (h.tm i q hq).2⟩
end Go.PW
namespace Go.PW
open Go.RowKit
section
variable {P:Program} {o:Oper} {ρ:List (Nat×PV)} {σ:List (Nat×Blk)}
theorem Zaql{t e:TypeId}{x y:Operand}{k m cap:Nat}{a:Option Addr}{ki:IntKind}{i:Int}(ho:o.op = .slice t x (some y) none none)(hu:P.underlying t=some (.slice e))(hsz:(P.info? e).map (·.size)=some k)(A:Act)(w:World)
 (hv:A.eval x = .slice a m cap) (hy:A.eval y = .int ki i) (h0:0<=i) (h1:i<=m) :
 (execOp A.eval o).run P w = .ok (.value (.slice (if cap=i.toNat then a else a.map (·.add (i.toNat*k))) (m - i.toNat) (cap - i.toNat))) w:=by
 have hbounds:(Instr.sliceBounds true m cap (some (.int ki i)) none none).run P w = .ok (i.toNat,m,cap) w:=by
  simp [Instr.sliceBounds,run_sliceBound,h0,h1]
 have hel':P.elem t=e:=by simp [Program.elem,hu]
 have hat:=run_sliceAt_slice (P:=P) w t (.slice a m cap) (some (.int ki i)) none none (by rw [hel'];exact hu)
 have hsl:(Instr.slice t (.slice a m cap) (some (.int ki i)) none none).run P w = .ok (.slice (if cap=i.toNat then a else a.map (·.add (i.toNat*k))) (m - i.toNat) (cap - i.toNat)) w:=by
  simp only [Instr.slice,Sem.run_bind,run_underlying hu,Result.andThen_ok,hbounds,Zm9 hsz,Sem.run_pure]
 simp only [execOp,ho,hv,Sem.run_bind,Option.map_none,Option.map_some,hy,hat,hsl,Result.andThen_ok,Sem.run_pure]
theorem Zaqm{t e:TypeId}{x y:Operand}{k m cap:Nat}{a:Option Addr}{ki:IntKind}{i:Int}(ho:o.op = .slice t x none (some y) none)(hu:P.underlying t=some (.slice e))(hsz:(P.info? e).map (·.size)=some k)(A:Act)(w:World)
 (hv:A.eval x = .slice a m cap) (hy:A.eval y = .int ki i) (h0:0<=i) (h1:i<=cap) :
 (execOp A.eval o).run P w = .ok (.value (.slice (if cap=0 then a else a.map (·.add (0*k))) (i.toNat - 0) (cap - 0))) w:=by
 have hbounds:(Instr.sliceBounds true m cap none (some (.int ki i)) none).run P w = .ok (0,i.toNat,cap) w:=by
  simp [Instr.sliceBounds,run_sliceBound,h0,h1]
 have hel':P.elem t=e:=by simp [Program.elem,hu]
 have hat:=run_sliceAt_slice (P:=P) w t (.slice a m cap) none (some (.int ki i)) none (by rw [hel'];exact hu)
 have hsl:(Instr.slice t (.slice a m cap) none (some (.int ki i)) none).run P w = .ok (.slice (if cap=0 then a else a.map (·.add (0*k))) (i.toNat - 0) (cap - 0)) w:=by
  simp only [Instr.slice,Sem.run_bind,run_underlying hu,Result.andThen_ok,hbounds,Zm9 hsz,Sem.run_pure]
 simp only [execOp,ho,hv,Sem.run_bind,Option.map_none,Option.map_some,hy,hat,hsl,Result.andThen_ok,Sem.run_pure]
theorem Zad8{t k:Nat}(ha:slInfo P t=some k):∃ e,P.underlying t=some (.slice e)/\(P.info? e).map (·.size)=some k:=by
 unfold slInfo at ha
 split at ha
 .rename_i e hu;exact⟨e,hu,ha⟩
 .cases ha
theorem Zay1{t:TypeId}{x y:Operand}{k l m:Nat}{es:List (List Zb)}{ki:IntKind}{i:Int}(ho:o.op = .slice t x (some y) none none)(ha:slInfo P t=some k)(hx:Zi ρ x=some (.osl l m))(hy:Zi ρ y=some (.t (.int ki i)))
 (hg:get σ l=some (.row k es)) (hm:es.length=m) (h0:0<=i) (h1:i<=m):Za3 P o ρ σ [l] (.own l (.tail m i.toNat)) []:=
 Zb9 fun G β n tm σ' A w hop hneed _=>by
  have e1:=hop x _ (by simp [ho,Op.operands]) hx
  have e2:=hop y _ (by simp [ho,Op.operands]) hy
  simp only [VR,Zx] at e1 e2⊢
  have hgl:get σ' l=some (.row k es):=(hneed l (by simp)).trans hg
  obtain⟨a,cap,hv,hmc,hcm,h⟩:=(e1.1 k es hgl).2 hm.symm
  obtain⟨e,hu,hsz⟩:=Zad8 ha
  refine⟨_,Zaql ho hu hsz A w hv e2 h0 h1,?_,rfl⟩
  intro k' es' hg'
  have:some (Blk.row k' es')=some (.row k es):=Eq.trans (Eq.symm hg') hgl
  cases this
  refine⟨by omega,fun _=>⟨_,_,rfl,by omega,?_⟩⟩
  rcases h with ⟨hc,_⟩ | ⟨b,sz,ha',hb,hrow,hs⟩
  .exact .inl ⟨by omega,by omega⟩
  .by_cases hci:cap=i.toNat
   .exact .inl ⟨by omega,by omega⟩
   .refine .inr ⟨b,sz,by rw [if_neg hci,ha'];simp [Addr.add_mid],hb,hrow,?_⟩
    rw [<- Nat.add_mul]
    exact Nat.le_trans (Nat.mul_le_mul_right _ (by omega)) hs
end
section
variable {P:Program} {o:Oper} {n:Nat} {tm:List (Nat×PV)} {σ:List (Nat×Blk)}
theorem Zaj1(z:Array Value)(c k i j:Nat)(hz:z.size=k)(hi:i < c)(hj:j < k):(Builtin.zeroCells z c)[i*k+j]?=z[j]?:=by
 have hlt:i*k+j < c*k:=by
  have:(i+1)*k<=c*k:=Nat.mul_le_mul_right _ hi
  rw [Nat.add_mul,Nat.one_mul] at this
  omega
 unfold Builtin.zeroCells
 simp only [Array.getElem?_map,hz]
 rw [Array.getElem?_range]
 simp only [hlt,if_true,Option.map_some]
 rw [Nat.mul_comm i k,Nat.mul_add_mod,Nat.mod_eq_of_lt hj]
 have:j < z.size:=by omega
 simp [this]
theorem Zahl(z:Array Value)(c:Nat):(Builtin.zeroCells z c).size=c*z.size:=by simp [Builtin.zeroCells]
theorem Z6n{k:Nat}:∀ {es:List (List Zb)} (i:Nat),(∀ el,el∈es->el.length=k)->(es.take i).flatten=es.flatten.take (i*k)
 | [],i,_=>by simp
 | e::es,0,_=>by simp
 | e::es,i+1,h=>by
  have he:e.length=k:=h e (by simp)
  have e1:(i+1)*k - e.length=i*k:=by rw [Nat.add_mul,Nat.one_mul,he];omega
  have e2:e.take ((i+1)*k)=e:=List.take_of_length_le (by rw [Nat.add_mul,Nat.one_mul,he];omega)
  rw [List.take_succ_cons,List.flatten_cons,List.flatten_cons,Z6n i (fun el hel=>h el (List.mem_cons_of_mem _ hel)),List.take_append,e1,e2]
theorem Zawz{t e:TypeId}{x:Operand}{k bytes l m i:Nat}{zero:List PV}{zs:List Zb}{es:List (List Zb)}(ho:o.op = .call { callee := .builtin .clear,args := #[x],argTypes := #[t] })(hd:o.dst=none)(hE:ElF P t e k bytes zero)(hzs:Zfp zero=some zs)
 (hx:Zi tm x=some (.own l (.tail m i))) (hg:get σ l=some (.row k es)) (hm:es.length=m) (hi:i<=m) :
 Zvr P o ⟨n,tm,σ⟩ ⟨n,tm,put σ l (.row k (es.take i++List.replicate (m - i) zs))⟩:=
 opup fun G β A w hop hr=>by
  have e1:=hop x _ hx
  simp only [VR] at e1
  obtain⟨a,cap,hv,hcm,h3⟩:=(e1.1 k es hg).2 hm.symm
  have hexec:∀ w',(Builtin.clear_ #[t] o.type #[.slice a (m - i) cap]).run P w = .ok (.tuple #[]) w'->(execOp A.eval o).run P w = .ok (.value (.tuple #[])) w':=by
   intro w' h
   simp only [execOp,ho,resolve,invoke,builtin,Sem.run_bind,Sem.run_pure,Result.andThen_ok,List.map_toArray,List.map_cons,List.map_nil,hv,h]
  obtain⟨hk0,hkl,hb0⟩:=hr.blk l _ hg
  by_cases hmi:m - i=0
  .have hes:es.take i++List.replicate (m - i) zs=es:=by rw [hmi,List.replicate_zero,List.append_nil,List.take_of_length_le (by omega)]
   refine⟨.tuple #[],w,.inl (hexec w ?_),β,?_⟩
   .rw [hmi]
    cases a<;>simp [Builtin.clear_,run_underlying hE.und]
   .rw [hd,hes]
    refine Zaw.sub (st:=⟨n,tm,σ⟩) hr (Nat.le_refl _) (fun j p hp=>⟨hp,(hr.tm j p hp).1⟩) (fun q ob hq=>?_)
    by_cases hql:q=l
    .subst hql
     rw [Zb4] at hq
     rw [hg];exact hq
    .rwa [Zcf _ _ (Ne.symm hql)] at hq
  .rcases h3 with ⟨hc,_⟩ | ⟨b,sz,ha,hb,hrow,hsz⟩
   .exact absurd hc hmi
   rcases hb0 with ⟨hb',_⟩ | ⟨b',sz',hb',hrow',hszle,hel⟩
   .exact absurd (hb.symm.trans hb') (by simp)
   have:b'=b:=by have:=hb'.symm.trans hb;simpa using this
   subst this
   have hszz:sz'=sz:=by
    obtain⟨cs1,e1,f1,g1,g2,_⟩:=hrow
    obtain⟨cs2,e2,f2,g3,g4,_⟩:=hrow'
    rw [g1] at g3;cases g3
    omega
   subst hszz
   cases hin:P.info? e with
   | none=>have:=hE.info;simp [hin] at this
   | some inf=>
    have hik:inf.size=k/\inf.bytes=bytes:=by have:=hE.info;simpa [hin] using this
    have hz:=hE.z
    unfold Zge at hz
    simp only [hin,Option.bind_some,Option.bind_eq_some_iff] at hz
    obtain⟨z,hiz,hz⟩:=hz
    have hzv:∀ c,VRs c zero z.cells.toList:=fun c=>Zgo hz
    have hzl:z.cells.size=k:=by have:=(hzv (ctx G β w σ)).length;rw [hE.len] at this;simpa using this
    have hzsl:zs.length=k:=by rw [<- hE.len];exact Z1c hzs
    have hflat:((List.replicate (m - i) zs).flatten).length=(m - i)*k:=by rw [Zca (k:=k) (fun el hel=>by rw [List.eq_of_mem_replicate hel];exact hzsl),List.length_replicate]
    have hms:m*k<=sz':=by rw [<- hm];exact hszle
    have hik2:i*k+(m - i)*k=m*k:=by rw [<- Nat.add_mul];congr 1;omega
    let us:List Value:=(Builtin.zeroCells z.cells (m - i)).toList
    have husl:us.length=(m - i)*k:=by simp only [us,Array.length_toList,Zahl,hzl]
    have hone:∀ v,v∈us->v.oneCell'=true:=by
     intro v hv'
     simp only [us,Builtin.zeroCells,Array.toList_map,List.mem_map] at hv'
     obtain⟨q,hq,rfl⟩:=hv'
     have hkpos:=hE.pos
     have hlt:q % z.cells.size < z.cells.size:=Nat.mod_lt _ (by omega)
     have hall:∀ {c:Ctx} {ps:List PV} {ts:List Zb} {vs:List Value},Zfp ps=some ts->VRs c ps vs->∀ v,v∈vs->v.oneCell'=true:=by
      intro c ps ts vs h1 h2 v hv
      have h3:=Zm7 h1 h2
      refine Z85 h3 ?_ v hv
      rw [List.all_eq_true]
      intro x hx
      obtain⟨t,_,rfl⟩:=List.mem_map.1 hx
      rfl
     refine hall hzs (hzv (ctx G β w σ)) _ ?_
     rw [getElem!_pos z.cells _ hlt]
     exact Array.getElem_mem_toList hlt
    have hst:=run_storeCells_cells (P:=P) b' (i*k) us 0 w (fun j hj=>by
     have:=Zka hrow (o:=i*k) (n:=(m - i)*k) (by omega) j (by omega)
     rw [Nat.add_zero];exact this.1) (fun j hj=>by
     have:=Zka hrow (o:=i*k) (n:=(m - i)*k) (by omega) j (by omega)
     rw [Nat.add_zero];exact this.2) hone
    rw [Nat.add_zero] at hst
    have hrun:(Builtin.clear_ #[t] o.type #[.slice a (m - i) cap]).run P w = .ok (.tuple #[]) (w.setCells b' (i*k) us):=by
     rw [ha]
     have:∃ q,m - i=q+1:=⟨m - i - 1,by omega⟩
     obtain⟨q,hq⟩:=this
     have hst':(storeCells ⟨b',i*k,none⟩ (Builtin.zeroCells z.cells (q+1)).toList).run P w = .ok () (w.setCells b' (i*k) us):=by rw [<- hq];exact hst
     simp only [Builtin.clear_,hq,run_underlying hE.und,Sem.run_bind,Sem.run_pure,Result.andThen_ok,zeroValue,typeInfo,hin,hiz]
     simp [run_underlying hE.und,hst',typeInfo,hin,hiz]
    obtain⟨vs,hvs,hcs⟩:=Z1.vals (c:=ctx G β w σ) (Zm.flat.1 hel)
    have hvl:vs.length=m*k:=by rw [hvs.length,List.length_map,Zca hkl,hm]
    obtain⟨hr',hI,hL⟩:=Zkg hr (off:=i*k) (blk' := .row k (es.take i++List.replicate (m - i) zs)) us hg hb (.inl ⟨k,es,_,rfl,rfl,by simp;omega⟩) (fun hI hL=>by
     refine⟨hk0,fun el hel'=>?_,.inr ⟨b',sz',hb,Zb0 _ _ _ _ hrow',by simp;rw [show min i es.length+(m - i)=m by omega];exact hms,Zm.flat.2 ?_⟩⟩
     .rcases List.mem_append.1 hel' with h | h
      .exact hkl el (List.mem_of_mem_take h)
      .rw [List.eq_of_mem_replicate h];exact hzsl
     .have h1:=VRs.step hI _ _ (fun m _=>hL m) hvs
      have hzz:VRs (ctx G β (w.setCells b' (i*k) us) (put σ l (.row k (es.take i++List.replicate (m - i) zs)))) ((List.replicate (m - i) zs).flatten.map .t) us:=by
       refine VRs.of_get (by rw [husl,List.length_map,hflat]) (fun j p v hp hv=>?_)
       have hj:j < (m - i)*k:=by rw [<- husl];exact (List.getElem?_eq_some_iff.1 hv).1
       have hkpos:=hE.pos
       have hq1:j / k < m - i:=by rw [Nat.div_lt_iff_lt_mul hkpos];exact hj
       have hq2:j % k < k:=Nat.mod_lt _ hkpos
       have hjd:j=j / k*k+j % k:=by rw [Nat.mul_comm];exact (Nat.div_add_mod j k).symm
       have hv':z.cells[j % k]?=some v:=by
        rw [<- Zaj1 z.cells (m - i) k (j / k) (j % k) hzl hq1 hq2,<- hjd]
        simpa [us] using hv
       have hp':(zs.map PV.t)[j % k]?=some p:=by
        have hfl:∀ (c:Nat) (q:Nat),q < c->((List.replicate c zs).flatten.map PV.t)[q*k+j % k]?=(zs.map PV.t)[j % k]?:=by
         intro c
         induction c with
         | zero=>intro q h;omega
         | succ c ih=>
          intro q hq
          rw [List.replicate_succ,List.flatten_cons,List.map_append]
          cases q with
          | zero=>rw [Nat.zero_mul,Nat.zero_add,List.getElem?_append_left (by simp;omega)]
          | succ q=>
           rw [List.getElem?_append_right (by simp;rw [hzsl,Nat.add_mul,Nat.one_mul];omega)]
           have:(q+1)*k+j % k - (zs.map PV.t).length=q*k+j % k:=by rw [List.length_map,hzsl,Nat.add_mul,Nat.one_mul];omega
           rw [this]
           exact ih q (by omega)
        rw [<- hfl (m - i) (j / k) hq1,<- hjd];exact hp
       have hvz:=Zm7 hzs (hzv (ctx G β (w.setCells b' (i*k) us) (put σ l (.row k (es.take i++List.replicate (m - i) zs)))))
       obtain⟨v2,h2,h3⟩:=hvz.get (j % k) p hp'
       have:z.cells[j % k]?=some v2:=by simpa using h2
       rw [this] at hv'
       cases hv'
       exact h3
      have hti:(es.take i).flatten=es.flatten.take (i*k):=Z6n i hkl
      refine Zgb (vs:=splice vs (i*k) us) ?_ (fun j v hj=>?_)
      .rw [List.flatten_append,List.map_append,hti,List.map_take]
       unfold splice
       have hdrop:vs.drop (i*k+us.length)=[]:=List.drop_eq_nil_of_le (by rw [husl,hvl];omega)
       rw [hdrop,List.append_nil]
       exact (h1.take _).append hzz
      .rw [Nat.zero_add]
       exact Zix (w:=w) (fun j v hj=>by have:=hcs j v hj;rwa [Nat.zero_add] at this) (by rw [husl,hvl];omega) j v hj)
    exact⟨.tuple #[],w.setCells b' (i*k) us,.inl (hexec _ hrun),β,by rw [hd];exact hr'⟩
def Z33(l:Nat):List (Nat×PV)->List (Nat×PV)
 | []=>[]
 | (i,p)::r=>bif p.has l then Z33 l r else (i,p)::Z33 l r
theorem Z6o{l:Nat}:∀ {tm:List (Nat×PV)} {i:Nat} {p:PV},(i,p)∈Z33 l tm->(i,p)∈tm/\p.has l=false
 | [],_,_,h=>by cases h
 | (j,q)::r,i,p,h=>by
  simp only [Z33] at h
  cases hb:q.has l with
  | true=>simp only [hb,cond_true] at h;have:=Z6o h;exact⟨List.mem_cons_of_mem _ this.1,this.2⟩
  | false=>
   simp only [hb,cond_false] at h
   rcases List.mem_cons.1 h with h | h
   .cases h;exact⟨by simp,hb⟩
   .have:=Z6o h;exact⟨List.mem_cons_of_mem _ this.1,this.2⟩
def Zxf:List (Nat×PV)->Bool
 | []=>true
 | (i,_)::r=>(match get r i with | none=>true | some _=>false)&&Zxf r
theorem Zrk:∀ {tm:List (Nat×PV)} {i:Nat} {p:PV},Zxf tm=true->(i,p)∈tm->get tm i=some p
 | [],_,_,_,h=>by cases h
 | (j,q)::r,i,p,ho,h=>by
  simp only [Zxf,Bool.and_eq_true] at ho
  simp only [PW.get]
  rcases List.mem_cons.1 h with h | h
  .cases h;simp
  .have hr:=Zrk ho.2 h
   have:j≠i:=fun e=>by
    subst e
    rw [hr] at ho
    simp at ho
   rw [Zdi this,cond_false];exact hr
theorem Zaw0{t:TypeId}{x y:Operand}{k l m d:Nat}{es:List (List Zb)}{ki:IntKind}{i:Int}(ho:o.op = .slice t x none (some y) none)(hd:o.dst=some d)(hdn:d < n)(ha:slInfo P t=some k)(hx:Zi tm x=some (.osl l m))(hy:Zi tm y=some (.t (.int ki i)))
 (hg:get σ l=some (.row k es)) (hm:es.length=m) (h0:0<=i) (h1:i<=m) (hlab:1000<=l) (hσ:(σ.all fun q => !q.2.has l)=true) (hon:Zxf tm=true) :
 Zvr P o ⟨n,tm,σ⟩ ⟨n,put (Z33 l tm) d (.osl l i.toNat),put σ l (.row k (es.take i.toNat))⟩:=
 opup fun G β A w hop hr=>by
  have e1:=hop x _ hx
  have e2:=hop y _ hy
  simp only [VR,Zx] at e1 e2
  obtain⟨a,cap,hv,hmc,hcm,h3⟩:=(e1.1 k es hg).2 hm.symm
  obtain⟨e,hu,hsz⟩:=Zad8 ha
  refine⟨_,w,.inl (Zaqm ho hu hsz A w hv e2 h0 (by omega)),β,?_⟩
  have hgs:get (put σ l (.row k (es.take i.toNat))) l=some (.row k (es.take i.toNat)):=Zb4 σ l _
  have hgo:∀ q,q≠l->get (put σ l (.row k (es.take i.toNat))) q=get σ q:=fun q hq=>Zcf σ _ (Ne.symm hq)
  have hO:∀ q o b,get (put σ l (.row k (es.take i.toNat))) q=some o->Z3 β w q o b->∃ o2,get σ q=some o2/\Z3 β w q o2 b:=fun q o b hq ho=>by
   by_cases hql:q=l
   .subst hql
    have:some o=some (Blk.row k (es.take i.toNat)):=Eq.trans (Eq.symm hq) hgs
    cases this
    exact⟨_,hg,.inl (Z3.flat (o := .row _ _) trivial ho)⟩
   .exact⟨o,by rw [<- hgo q hql];exact hq,ho⟩
  have hI:∀ b,(ctx G β w σ).I b->(ctx G β w (put σ l (.row k (es.take i.toNat)))).I b/\(ctx G β w (put σ l (.row k (es.take i.toNat)))).w.heap[b]?=(ctx G β w σ).w.heap[b]?:=fun b hb=>
   ⟨⟨hb.1,hb.2.1,fun q o hq ho=>by obtain⟨o2,h1,h2⟩:=hO q o b hq ho;exact hb.2.2 q o2 h1 h2⟩,rfl⟩
  have hL:∀ q,q≠l->Zac (ctx G β w σ) (ctx G β w (put σ l (.row k (es.take i.toNat)))) q:=fun q hq=>Zac.same (hgo q hq) rfl (fun _ _ _ _=>rfl)
  have hr1:Zaw G β ⟨n,Z33 l tm,put σ l (.row k (es.take i.toNat))⟩ A w:=
   { defers:=hr.defers,sz:=hr.sz,base:=hr.base,os:=hr.os,tape:=hr.tape,output:=hr.output,old:=hr.old,A:=hr.A,gl:=hr.gl,
     inj:=fun q q' o o' b hq hq' hb hb'=>by
      obtain⟨o1,h1,h2⟩:=hO q o b hq hb
      obtain⟨o2,h3,h4⟩:=hO q' o' b hq' hb'
      exact hr.inj q q' o1 o2 b h1 h3 h2 h4,
     sep:=fun q o b hq hb=>by obtain⟨o1,h1,h2⟩:=hO q o b hq hb;exact hr.sep q o1 b h1 h2,
     fix:=fun q cs hq1 hq=>by
      by_cases hql:q=l
      .subst hql
       have:some (Blk.box cs)=some (Blk.row k (es.take i.toNat)):=Eq.trans (Eq.symm hq) hgs
       cases this
      .exact hr.fix q cs hq1 (by rw [<- hgo q hql];exact hq),
     row0:=hr.row0.step (fun q hq=>hL q (by omega)),
     blk:=fun q ob hq=>by
      by_cases hql:q=l
      .subst hql
       have:some ob=some (Blk.row k (es.take i.toNat)):=Eq.trans (Eq.symm hq) hgs
       cases this
       obtain⟨g0,g1,g2⟩:=hr.blk q _ hg
       refine⟨g0,fun el hel=>g1 el (List.mem_of_mem_take hel),?_⟩
       rcases g2 with ⟨g2,g3⟩ | ⟨b,sz,g2,g3,g4,g5⟩
       .exact .inl ⟨g2,by rw [g3];simp⟩
       .refine .inr ⟨b,sz,g2,g3,Nat.le_trans (Nat.mul_le_mul_right _ (by simp;omega)) g4,Zm.mono (fun b hb=>hI b hb) rfl _ _ (Zm.take _ g5)⟩
      .have hq':get σ q=some ob:=by rw [<- hgo q hql];exact hq
       refine BR.step hI rfl (fun _ _=>rfl) (fun m hm=>hL m (fun e=>?_)) (hr.blk q ob hq')
       subst e
       have:=List.all_eq_true.1 hσ _ (Zgu hq')
       rw [hm] at this
       exact absurd this (by decide),
     tm:=fun j p hp=>by
      obtain⟨h1,h2⟩:=Z6o (Zgu hp)
      have h3:=Zrk hon h1
      exact⟨(hr.tm j p h3).1,VR.step hI p _ (fun m hm=>hL m (fun e=>by subst e;rw [h2] at hm;cases hm)) (hr.tm j p h3).2⟩ }
  rw [hd]
  refine hr1.put hdn ?_
  simp only [VR]
  refine⟨fun k' es' hg'=>?_,_,_,_,rfl⟩
  have:some (Blk.row k' es')=some (Blk.row k (es.take i.toNat)):=Eq.trans (Eq.symm hg') hgs
  cases this
  have hlen:(es.take i.toNat).length=i.toNat:=by simp;omega
  refine⟨by rw [hlen];exact Nat.le_refl _,fun _=>⟨_,cap,rfl,by omega,hcm,?_⟩⟩
  rcases h3 with ⟨hc,hb⟩ | ⟨b,sz,ha',hb,hrow,hs⟩
  .exact .inl ⟨hc,hb⟩
  .refine .inr ⟨b,sz,?_,hb,hrow,hs⟩
   rw [ha']
   split
   .rfl
   .simp [Addr.add_mid]
end
end Go.PW
namespace Go.PW
open Go.RowKit
def Zbh(β:Nat->Option Nat)(l:Nat)(b:Option Nat):Nat->Option Nat:=fun m=>if m=l then b else β m
theorem Z4(β:Nat->Option Nat)(l:Nat)(b:Option Nat):Zbh β l b l=b:=by simp [Zbh]
theorem Zci(β:Nat->Option Nat){l m:Nat}(b:Option Nat)(h:m≠l):Zbh β l b m=β m:=by simp [Zbh,h]
theorem Zxg{G:Frm}{β:Nat->Option Nat}{n:Nat}{tm:List (Nat×PV)}{σ:List (Nat×Blk)}{a:Act}{w:World}(h:Zaw G β ⟨n,tm,σ⟩ a w)(w':World)(bL:Option Nat)(L:Nat)(blk:Blk)(rm:List Nat)
 (hsz:w.heap.size<=w'.heap.size) (hos:w'.os=w.os) (htp:w'.tape=w.tape) (hout:w'.output=w.output) (hnb:(∀ cs,blk ≠ .box cs)/\(1000<=L\/∀ k es,blk ≠ .row k es))
 (hheap:∀ b,b < w.heap.size->(∀ l o,l∈rm->get σ l=some o->¬ Z3 β w l o b)->w'.heap[b]?=w.heap[b]?)
 (hown:∀ c,Z3 (Zbh β L bL) w' L blk c->(w.heap.size<=c/\c < w'.heap.size)\/∃ l o,l∈rm/\get σ l=some o/\Z3 β w l o c)
 (hV:(∀ b,(ctx G β w σ).I b->(ctx G (Zbh β L bL) w' ((L,blk)::Za5 rm σ)).I b/\w'.heap[b]?=w.heap[b]?)->(∀ m,m≠L->Zac (ctx G β w σ) (ctx G (Zbh β L bL) w' ((L,blk)::Za5 rm σ)) m) ->
  (∀ i p v,get tm i=some p->VR (ctx G β w σ) p v->VR (ctx G (Zbh β L bL) w' ((L,blk)::Za5 rm σ)) p v) /\
  (∀ q o,q≠L->get σ q=some o->(∀ b,Z3 β w q o b->w'.heap[b]?=w.heap[b]?)->BR (ctx G β w σ) q o->BR (ctx G (Zbh β L bL) w' ((L,blk)::Za5 rm σ)) q o))
 (hblk:(∀ b,(ctx G β w σ).I b->(ctx G (Zbh β L bL) w' ((L,blk)::Za5 rm σ)).I b/\w'.heap[b]?=w.heap[b]?)->BR (ctx G (Zbh β L bL) w' ((L,blk)::Za5 rm σ)) L blk) :
 Zaw G (Zbh β L bL) ⟨n,tm,(L,blk)::Za5 rm σ⟩ a w':=by
 have hget:∀ m o,get ((L,blk)::Za5 rm σ) m=some o->(m=L/\o=blk)\/(m≠L/\m∉rm/\get σ m=some o):=fun m o hg=>by
  simp only [PW.get] at hg
  cases hb:Nat.beq L m with
  | true=>
   have:L=m:=(Zu _ _).1 hb
   simp only [hb,cond_true,Option.some.injEq] at hg
   exact .inl ⟨this.symm,hg.symm⟩
  | false=>
   simp only [hb,cond_false] at hg
   have:=Zjr hg
   exact .inr ⟨fun e=>by subst e;simp at hb,this.1,this.2⟩
 have hgo:∀ m,m≠L->get ((L,blk)::Za5 rm σ) m=get (Za5 rm σ) m:=fun m hm=>by simp only [PW.get,Zdi (Ne.symm hm),cond_false]
 have hkeep:∀ m o,m∉rm->get σ m=some o->∀ b,Z3 β w m o b->w'.heap[b]?=w.heap[b]?:=fun m o hm hg b ho=>hheap b (h.sep m o b hg ho).1 (fun l o' hl hg' ho'=>by
  have:=h.inj m l o o' b hg hg' ho ho'
  subst this
  exact hm hl)
 have hO:∀ m o,m≠L->m∉rm->get σ m=some o->∀ b,Z3 (Zbh β L bL) w' m o b->Z3 β w m o b:=fun m o hm hr hg b ho=>ho.of (Zci β bL hm) (fun b hb=>hkeep m o hr hg b hb)
 have hI:∀ b,(ctx G β w σ).I b->(ctx G (Zbh β L bL) w' ((L,blk)::Za5 rm σ)).I b/\w'.heap[b]?=w.heap[b]?:=fun b hb=>by
  refine⟨⟨Nat.lt_of_lt_of_le hb.1 hsz,hb.2.1,fun m o hm ho=>?_⟩,hheap b hb.1 (fun l o _ hg ho=>hb.2.2 l o hg ho)⟩
  rcases hget m o hm with ⟨rfl,rfl⟩ | ⟨h1,h2,h3⟩
  .rcases hown b ho with ⟨h4,_⟩ | ⟨l,o,_,h5,h6⟩
   .have:=hb.1;omega
   .exact hb.2.2 l o h5 h6
  .exact hb.2.2 m o h3 (hO m o h1 h2 h3 b ho)
 have hL:∀ m,m≠L->Zac (ctx G β w σ) (ctx G (Zbh β L bL) w' ((L,blk)::Za5 rm σ)) m:=fun m hm=>by
  have hgm:get (ctx G (Zbh β L bL) w' ((L,blk)::Za5 rm σ)).σ m=get (Za5 rm σ) m:=hgo m hm
  cases hg:get (Za5 rm σ) m with
  | none=>exact Zac.none (hgm.trans hg)
  | some o=>
   obtain⟨h1,h2⟩:=Zjr hg
   exact Zac.same ((hgm.trans hg).trans h2.symm) (Zci β bL hm) (fun o b hg hb=>hkeep m o h1 hg b hb)
 obtain⟨hLt,hLs⟩:=hV hI hL
 exact { defers := h.defers, sz := h.sz, base := Nat.le_trans h.base hsz, os := hos.trans h.os, tape := htp.trans h.tape, output := hout.trans h.output,
         old:=fun b hb hn=>(hheap b (Nat.lt_of_lt_of_le hb h.base) (fun l o _ hg ho=>by
          rcases (h.sep l o b hg ho).2 with h1 | h1
          .omega
          .exact hn h1)).trans (h.old b hb hn),
         A:=h.A,gl:=h.gl,
         inj:=fun m m' o o' b hm hm' hb hb'=>by
          rcases hget m o hm with ⟨rfl,rfl⟩ | ⟨h1,h2,h3⟩<;>rcases hget m' o' hm' with ⟨rfl,rfl⟩ | ⟨h1',h2',h3'⟩
          .rfl
          .exfalso
           have hb':=hO m' o' h1' h2' h3' b hb'
           rcases hown b hb with ⟨h4,_⟩ | ⟨l,o,h4,h5,h6⟩
           .have:=(h.sep m' o' b h3' hb').1;omega
           .have:=h.inj m' l o' o b h3' h5 hb' h6
            subst this;exact h2' h4
          .exfalso
           have hb:=hO m o h1 h2 h3 b hb
           rcases hown b hb' with ⟨h4,_⟩ | ⟨l,o2,h4,h5,h6⟩
           .have:=(h.sep m o b h3 hb).1;omega
           .have:=h.inj m l o o2 b h3 h5 hb h6
            subst this;exact h2 h4
          .exact h.inj m m' o o' b h3 h3' (hO m o h1 h2 h3 b hb) (hO m' o' h1' h2' h3' b hb'),
         sep:=fun m o b hm hb=>by
          rcases hget m o hm with ⟨rfl,rfl⟩ | ⟨h1,h2,h3⟩
          .rcases hown b hb with ⟨h4,h5⟩ | ⟨l,o,_,h5,h6⟩
           .exact⟨h5,.inl (Nat.le_trans h.base h4)⟩
           .have:=h.sep l o b h5 h6
            exact⟨Nat.lt_of_lt_of_le this.1 hsz,this.2⟩
          .have:=h.sep m o b h3 (hO m o h1 h2 h3 b hb)
           exact⟨Nat.lt_of_lt_of_le this.1 hsz,this.2⟩,
         fix:=fun m cs h1 hm=>by
          rcases hget m _ hm with ⟨_,h2⟩ | ⟨h2,_,h3⟩
          .exact absurd h2.symm (hnb.1 cs)
          .rw [Zci β bL h2];exact h.fix m cs h1 h3,
         row0:=fun m k es' hm hg=>by
          by_cases e:m=L
          .rcases hget m _ hg with ⟨_,h2⟩ | ⟨h2,_,_⟩
           .exact hnb.2.elim (fun h=>by omega) (fun h=>absurd h2.symm (h k es'))
           .exact absurd e h2
          .exact h.row0.one (hL m e) hm hg,
         blk:=fun m o hm=>by
          rcases hget m o hm with ⟨rfl,rfl⟩ | ⟨h1,h2,h3⟩
          .exact hblk hI
          .exact hLs m o h1 h3 (fun b hb=>hkeep m o h2 h3 b hb) (h.blk m o h3),
         tm:=fun i p hp=>⟨(h.tm i p hp).1,hLt i p _ hp (h.tm i p hp).2⟩ }
theorem Ziz{G:Frm}{β:Nat->Option Nat}{n:Nat}{tm:List (Nat×PV)}{σ:List (Nat×Blk)}{a:Act}{w:World}(h:Zaw G β ⟨n,tm,σ⟩ a w)(w':World)(bL:Option Nat)(L:Nat)(blk:Blk)(rm:List Nat)
 (hsz:w.heap.size<=w'.heap.size) (hos:w'.os=w.os) (htp:w'.tape=w.tape) (hout:w'.output=w.output) (hnb:(∀ cs,blk ≠ .box cs)/\(1000<=L\/∀ k es,blk ≠ .row k es))
 (hheap:∀ b,b < w.heap.size->(∀ l o,l∈rm->get σ l=some o->¬ Z3 β w l o b)->w'.heap[b]?=w.heap[b]?)
 (hown:∀ c,Z3 (Zbh β L bL) w' L blk c->(w.heap.size<=c/\c < w'.heap.size)\/∃ l o,l∈rm/\get σ l=some o/\Z3 β w l o c)
 (hLL:Zac (ctx G β w σ) (ctx G (Zbh β L bL) w' ((L,blk)::Za5 rm σ)) L\/((∀ i q,get tm i=some q->q.has L=false)/\(∀ m y,get σ m=some y->y.has L=false)))
 (hblk:(∀ b,(ctx G β w σ).I b->(ctx G (Zbh β L bL) w' ((L,blk)::Za5 rm σ)).I b/\w'.heap[b]?=w.heap[b]?)->BR (ctx G (Zbh β L bL) w' ((L,blk)::Za5 rm σ)) L blk) :
 Zaw G (Zbh β L bL) ⟨n,tm,(L,blk)::Za5 rm σ⟩ a w':=
 Zxg h w' bL L blk rm hsz hos htp hout hnb hheap hown (fun hI hL=>⟨fun i p v hp hv=>VR.step hI p v (fun m hm=>by
  by_cases e:m=L
  .subst e
   rcases hLL with h1 | ⟨h1,_⟩
   .exact h1
   .rw [h1 i p hp] at hm;cases hm
  .exact hL m e) hv,fun q o hq hg hk hb=>BR.step hI (Zci β bL hq) hk (fun m hm=>by
  by_cases e:m=L
  .subst e
   rcases hLL with h1 | ⟨_,h1⟩
   .exact h1
   .rw [h1 q o hg] at hm;cases hm
  .exact hL m e) hb⟩) hblk
structure Zgj (w:World) (b:Nat) (es:List (List Zb)) (vs:List Value):Prop where
 len:vs.length=es.length
 cell:∀ (j:Nat) v,vs[j]?=some v->w.cell? ⟨b,j,none⟩=some v
 inn:∀ (j:Nat) e v,es[j]?=some e->vs[j]?=some v->∃ inner a cap,e=[.sl inner]/\v = .slice a inner.length cap/\inner.length<=cap/\cap<=maxLen/\(∀ x,x∈inner->∃ t,x=[t]/\t.scal=true) /\
  (inner=[]\/∃ d m,a=some ⟨d,0,none⟩/\d≠b/\Za7 w d m/\cap<=m/\Zm (fun _=>True) w d inner 0)
 dis:∀ (i j:Nat) d l l' c c',vs[i]?=some (.slice (some ⟨d,0,none⟩) l c)->vs[j]?=some (.slice (some ⟨d,0,none⟩) l' c')->l≠0->l'≠0->i=j
theorem Z34{inner:List (List Zb)}(h:∀ x,x∈inner->∃ t,x=[t]/\t.scal=true):∀ el,el∈inner->∀ x,x∈el->Zb.scal x=true:=fun el hel x hx=>by
 obtain⟨t,rfl,ht⟩:=h el hel
 simp only [List.mem_singleton] at hx
 subst hx;exact ht
theorem Zgj.br{c:Ctx}{L b m:Nat}{es:List (List Zb)}{vs:List Value}(h:Zgj c.w b es vs)(hb:c.β L=some b)(hr:Za7 c.w b m)(hm:es.length<=m):BR c L (.mat 1 0 es):=by
 have hcell:∀ (j:Nat) v,vs[j]?=some v->c.w.cell? ⟨b,j*1+0,none⟩=some v:=fun j v hv=>by rw [Nat.mul_one,Nat.add_zero];exact h.cell j v hv
 have hv:∀ j,j < es.length->∃ v,vs[j]?=some v:=fun j hj=>⟨vs[j]'(by rw [h.len];exact hj),List.getElem?_eq_getElem _⟩
 refine⟨Nat.zero_lt_one,fun el hel=>?_,.inr ⟨b,m,hb,hr,by rw [Nat.mul_one];exact hm,?_,?_,?_⟩⟩
 .obtain⟨j,hj,he⟩:=List.getElem_of_mem hel
  obtain⟨v,hv⟩:=hv j hj
  obtain⟨inner,a,cap,rfl,_⟩:=h.inn j el v (by rw [List.getElem?_eq_getElem hj,he]) hv
  rfl
 .have key:∀ (k:Nat) (fs:List (List Zb)),es.drop k=fs->Zm (fun d=>c.I d\/Subs c.w b 1 0 es.length d) c.w b fs k:=by
   intro k fs
   induction fs generalizing k with
   | nil=>intro _;simp [Zm]
   | cons e fs ih=>
    intro he
    have hk:k < es.length:=by
     rcases Nat.lt_or_ge k es.length with h | h
     .exact h
     .rw [List.drop_eq_nil_of_le h] at he;cases he
    have hek:es[k]?=some e:=by rw [<- List.head?_drop,he];rfl
    obtain⟨v,hv⟩:=hv k hk
    obtain⟨inner,a,cap,rfl,rfl,h1,h2,h3,h4⟩:=h.inn k e v hek hv
    simp only [Zm,Z1,and_true,List.length_cons,List.length_nil]
    refine⟨⟨_,h.cell k _ hv,?_⟩,ih (k+1) (by rw [<- List.drop_drop,he];rfl)⟩
    simp only [Zx]
    refine⟨a,cap,rfl,h1,h2,?_⟩
    rcases h4 with h4 | ⟨d,m',h5,h6,h7,h8,h9⟩
    .exact .inl h4
    .by_cases hi:inner=[]
     .exact .inl hi
     .exact .inr ⟨d,0,h5,.inr ⟨k,hk,inner.length,cap,fun e=>hi (List.eq_nil_of_length_eq_zero e),by rw [Nat.mul_one,Nat.add_zero,h.cell k _ hv,h5]⟩,Zm.scal inner 0 (Z34 h3) h9⟩
  exact key 0 es (by simp)
 .intro i j d len len' cap cap' hi hj hl hl' h1 h2
  obtain⟨v,hv1⟩:=hv i hi
  obtain⟨v',hv2⟩:=hv j hj
  rw [hcell i v hv1] at h1;rw [hcell j v' hv2] at h2
  cases h1;cases h2
  exact h.dis i j d len len' cap cap' hv1 hv2 hl hl'
 .intro j e he
  obtain⟨v,hv1⟩:=hv j (List.getElem?_eq_some_iff.1 he).1
  obtain⟨inner,a,cap,rfl,rfl,h1,h2,h3,h4⟩:=h.inn j e v he hv1
  refine⟨inner,a,inner.length,cap,rfl,h3,hcell j _ hv1,fun hl=>?_⟩
  rcases h4 with h4 | ⟨d,m',h5,h6,h7,h8,h9⟩
  .rw [h4] at hl;exact absurd rfl hl
  .exact⟨d,m',h5,h6,h7,h8⟩
theorem Zgj.of{c:Ctx}{L:Nat}{es:List (List Zb)}(h:BR c L (.mat 1 0 es)):(c.β L=none/\es=[])\/∃ b m vs,c.β L=some b/\Za7 c.w b m/\es.length<=m/\Zgj c.w b es vs:=by
 obtain⟨_,hk,h⟩:=h
 rcases h with h | ⟨b,m,hb,hr,hm,hel,hdis,hin⟩
 .exact .inl h
 refine .inr ⟨b,m,(List.range es.length).map (fun j=>(c.w.cell? ⟨b,j,none⟩).getD undef),hb,hr,by rwa [Nat.mul_one] at hm,?_⟩
 have hc:∀ (j:Nat) e,es[j]?=some e->∃ inner v,e=[.sl inner]/\c.w.cell? ⟨b,j,none⟩=some v/\Zx (fun d=>c.I d\/Subs c.w b 1 0 es.length d) c.w (.sl inner) v/\(∀ x,x∈inner->∃ t,x=[t]/\t.scal=true) /\
  (∀ a len cap,v = .slice a len cap->len≠0->∃ d m',a=some ⟨d,0,none⟩/\d≠b/\Za7 c.w d m'/\cap<=m'):=fun j e he=>by
  obtain⟨inner,a,len,cap,h1,h2,h3,h4⟩:=hin j e he
  have hl:=hk e (List.mem_of_getElem? he)
  have hee:e=[.sl inner]:=by
   match e,hl,h1 with
   | [x],_,h1=>simp at h1;rw [h1]
  subst hee
  have ht:=hel.get j _ hk he
  simp only [Z1,and_true,Nat.zero_add,Nat.mul_one] at ht
  obtain⟨v,hv,ht⟩:=ht
  rw [Nat.mul_one,Nat.add_zero] at h3
  refine⟨inner,v,rfl,hv,ht,h2,fun a' len' cap' he' hl'=>?_⟩
  rw [h3] at hv;cases hv
  cases he'
  exact h4 hl'
 have hvs:∀ (j:Nat) v,((List.range es.length).map (fun j=>(c.w.cell? ⟨b,j,none⟩).getD undef))[j]?=some v->j < es.length/\c.w.cell? ⟨b,j,none⟩=some v:=fun j v hv=>by
  simp only [List.getElem?_map,Option.map_eq_some_iff] at hv
  obtain⟨i,hi,hv⟩:=hv
  have hj:j < es.length:=by have:=(List.getElem?_eq_some_iff.1 hi).1;simpa using this
  have:i=j:=by rw [List.getElem?_range hj] at hi;cases hi;rfl
  subst this
  obtain⟨inner,v',_,h2,_⟩:=hc i _ (List.getElem?_eq_getElem hj)
  rw [h2] at hv⊢
  exact⟨hj,by simpa using hv⟩
 refine⟨by simp,fun j v hv=>(hvs j v hv).2,fun j e v he hv=>?_,fun i j d l l' cp cp' h1 h2 hl hl'=>?_⟩
 .obtain⟨inner,v',rfl,h2,h3,h4,h5⟩:=hc j e he
  rw [(hvs j v hv).2] at h2
  cases h2
  simp only [Zx] at h3
  obtain⟨a,cap,rfl,h6,h7,h8⟩:=h3
  refine⟨inner,a,cap,rfl,rfl,h6,h7,h4,?_⟩
  by_cases hi:inner=[]
  .exact .inl hi
  .obtain⟨d,m',e1,e2,e3,e4⟩:=h5 a inner.length cap rfl (fun e=>hi (List.eq_nil_of_length_eq_zero e))
   rcases h8 with h8 | ⟨d',off,e5,_,e6⟩
   .exact absurd h8 hi
   .rw [e1] at e5;cases e5
    exact .inr ⟨d,m',e1,e2,e3,e4,Zm.scal inner 0 (Z34 h4) e6⟩
 .obtain⟨a1,a2⟩:=hvs i _ h1
  obtain⟨a3,a4⟩:=hvs j _ h2
  exact hdis i j d l l' cp cp' a1 a3 hl hl' (by rw [Nat.mul_one,Nat.add_zero];exact a2) (by rw [Nat.mul_one,Nat.add_zero];exact a4)
theorem Zgj.subs{w:World}{b:Nat}{es:List (List Zb)}{vs:List Value}(h:Zgj w b es vs){d:Nat}:Subs w b 1 0 es.length d↔∃ (j l c:Nat),vs[j]?=some (Value.slice (some ⟨d,0,none⟩) l c)/\l≠0:=by
 constructor
 .rintro ⟨j,hj,len,cap,hl,hc⟩
  rw [Nat.mul_one,Nat.add_zero] at hc
  have hv:vs[j]?=some (vs[j]'(by rw [h.len];exact hj)):=List.getElem?_eq_getElem _
  rw [h.cell j _ hv] at hc
  cases hc2:vs[j]'(by rw [h.len];exact hj) with
  | slice a l c=>rw [hc2] at hc hv;cases hc;exact⟨j,len,cap,hv,hl⟩
  | _=>rw [hc2] at hc;cases hc
 .rintro ⟨j,l,c,hv,hl⟩
  exact⟨j,by rw [<- h.len];exact (List.getElem?_eq_some_iff.1 hv).1,l,c,hl,by rw [Nat.mul_one,Nat.add_zero];exact h.cell j _ hv⟩
theorem Zm.mono'{w w':World}{d:Nat}{es:List (List Zb)}(hh:w'.heap[d]?=w.heap[d]?)(hsc:∀ x,x∈es->∃ t,x=[t]/\t.scal=true)(h:Zm (fun _=>True) w d es 0):Zm (fun _=>True) w' d es 0:=by
 have hT:∀ {t:Zb} {v:Value},t.scal=true->Zx (fun _=>True) w t v->Zx (fun _=>True) w' t v:=fun {t v} hs h=>Zx.scal hs h
 have key:∀ (es:List (List Zb)) (off:Nat),(∀ x,x∈es->∃ t,x=[t]/\t.scal=true)->Zm (fun _=>True) w d es off->Zm (fun _=>True) w' d es off:=by
  intro es
  induction es with
  | nil=>intro off _ _;simp [Zm]
  | cons e es ih=>
   intro off hs h
   obtain⟨t,rfl,ht⟩:=hs e (by simp)
   simp only [Zm,Z1,and_true] at h⊢
   obtain⟨⟨c,h1,h2⟩,h3⟩:=h
   exact⟨⟨c,(World.cell?_of_block (w:=w) hh).trans h1,hT ht h2⟩,ih _ (fun x hx=>hs x (List.mem_cons_of_mem _ hx)) h3⟩
 exact key es 0 hsc h
def SC1(es:List (List Zb)):Prop:=∀ x,x∈es->∃ t,x=[t]/\t.scal=true
theorem Zgj.nil(w:World)(b:Nat):Zgj w b [] []:=⟨rfl,by simp,by simp,by simp⟩
theorem Zgj.app{w w':World}{b b3 bN:Nat}{es0 es3:List (List Zb)}{vs0 vs3:List Value}(h0:Zgj w b es0 vs0)(h3:Zgj w b3 es3 vs3)(hc:∀ (j:Nat) v,(vs0++vs3)[j]?=some v->w'.cell? ⟨bN,j,none⟩=some v)
 (hin:∀ d l c (j:Nat),(vs0++vs3)[j]?=some (Value.slice (some ⟨d,0,none⟩) l c)->l≠0->d≠bN/\w'.heap[d]?=w.heap[d]?)
 (hx:∀ (i j:Nat) d l l' c c',vs0[i]?=some (Value.slice (some ⟨d,0,none⟩) l c)->vs3[j]?=some (Value.slice (some ⟨d,0,none⟩) l' c')->l≠0->l'≠0->False):Zgj w' bN (es0++es3) (vs0++vs3):=by
 have hlen:=h0.len
 refine⟨by simp [h0.len,h3.len],hc,fun j e v he hv=>?_,fun i j d l l' c c' h1 h2 hl hl'=>?_⟩
 .have key:∃ inner a cap,e=[.sl inner]/\v = .slice a inner.length cap/\inner.length<=cap/\cap<=maxLen/\(∀ x,x∈inner->∃ t,x=[t]/\t.scal=true) /\
   (inner=[]\/∃ d m,a=some ⟨d,0,none⟩/\Za7 w d m/\cap<=m/\Zm (fun _=>True) w d inner 0):=by
   rcases Nat.lt_or_ge j es0.length with h | h
   .rw [List.getElem?_append_left h] at he
    rw [List.getElem?_append_left (by omega)] at hv
    obtain⟨inner,a,cap,e1,e2,e3,e4,e5,e6⟩:=h0.inn j e v he hv
    exact⟨inner,a,cap,e1,e2,e3,e4,e5,e6.imp id fun⟨d,m,f1,_,f2⟩=>⟨d,m,f1,f2⟩⟩
   .rw [List.getElem?_append_right h] at he
    rw [List.getElem?_append_right (by omega),hlen] at hv
    obtain⟨inner,a,cap,e1,e2,e3,e4,e5,e6⟩:=h3.inn _ e v he hv
    exact⟨inner,a,cap,e1,e2,e3,e4,e5,e6.imp id fun⟨d,m,f1,_,f2⟩=>⟨d,m,f1,f2⟩⟩
  obtain⟨inner,a,cap,e1,e2,e3,e4,e5,e6⟩:=key
  refine⟨inner,a,cap,e1,e2,e3,e4,e5,?_⟩
  by_cases hi:inner=[]
  .exact .inl hi
  .rcases e6 with h | ⟨d,m,f1,f2,f3,f4⟩
   .exact .inl h
   .obtain⟨g1,g2⟩:=hin d inner.length cap j (by rw [hv,e2,f1]) (fun e=>hi (List.eq_nil_of_length_eq_zero e))
    exact .inr ⟨d,m,f1,g1,f2.of_heap g2,f3,Zm.mono' g2 e5 f4⟩
 .rcases Nat.lt_or_ge i vs0.length with hi | hi<;>rcases Nat.lt_or_ge j vs0.length with hj | hj
  .rw [List.getElem?_append_left hi] at h1;rw [List.getElem?_append_left hj] at h2
   exact h0.dis i j d l l' c c' h1 h2 hl hl'
  .rw [List.getElem?_append_left hi] at h1;rw [List.getElem?_append_right hj] at h2
   exact (hx _ _ d l l' c c' h1 h2 hl hl').elim
  .rw [List.getElem?_append_right hi] at h1;rw [List.getElem?_append_left hj] at h2
   exact (hx _ _ d l' l c' c h2 h1 hl' hl).elim
  .rw [List.getElem?_append_right hi] at h1;rw [List.getElem?_append_right hj] at h2
   have:=h3.dis _ _ d l l' c c' h1 h2 hl hl'
   omega
section
variable {P:Program} {o:Oper} {ρ:List (Nat×PV)} {σ0:List (Nat×Blk)}
theorem opFn {need rm : List Nat} {p : PV} {news : List (Nat × Blk)} (h : ∀ (G : Frm) (β : Nat -> Option Nat) (n : Nat) (tm : List (Nat × PV)) (σ' : List (Nat × Blk)) (a : Act) (w : World),
      (∀ x q,x∈o.op.operands->Zi ρ x=some q->VR (ctx G β w σ') q (a.eval x))->(∀ l,l∈need->get σ' l=get σ0 l) ->
      (∀ l x,(l,x)∈news->l∉rm->(∀ i q,get tm i=some q->q.has l=false)/\(∀ m y,get σ' m=some y->m≠l/\y.has l=false))->Zaw G β ⟨n,tm,σ'⟩ a w ->
      ∃ v w',(execOp a.eval o).run P w = .ok (.value v) w'/\∃ β',Zaw G β' ⟨n,tm,news++Za5 rm σ'⟩ a w'/\VR (ctx G β' w' (news++Za5 rm σ')) p v):OpF P o ρ σ0 need rm p news:=by
 intro G n tm σ' a w K Q hag hneed hfr hr hK
 obtain⟨β,hr⟩:=hr
 obtain⟨v,w',hv,hp⟩:=h G β n tm σ' a w (fun x q hx hq=>Zh1 hr hq (fun t r ht hr'=>hag t r (ht▸hx) hr')) hneed hfr hr
 unfold Oper.wp
 rw [hv]
 exact hK v w' hp
theorem Zai9{G:Frm}{β:Nat->Option Nat}{n:Nat}{tm:List (Nat×PV)}{σ:List (Nat×Blk)}{a:Act}{w:World}(hr:Zaw G β ⟨n,tm,σ⟩ a w){l m:Nat}{es:List (List Zb)}(hg:get σ l=some (.row 1 es))(hm:es.length=m){v:Value}(hv:OSl (ctx G β w σ) l m v)(hsc:SC1 es) :
 ∃ ad cap,v = .slice ad es.length cap/\es.length<=cap/\cap<=maxLen/\(es=[]\/∃ d sz,ad=some ⟨d,0,none⟩/\β l=some d/\Za7 w d sz/\cap<=sz/\Zm (fun _=>True) w d es 0):=by
 obtain⟨ad,cap,hv,hmc,hcm,h3⟩:=(hv 1 es hg).2 hm.symm
 refine⟨ad,cap,by rw [hm];exact hv,by omega,hcm,?_⟩
 obtain⟨_,_,hb⟩:=hr.blk l _ hg
 rcases hb with ⟨_,he⟩ | ⟨b,sz,hb,_,_,hel⟩
 .exact .inl he
 .rcases h3 with ⟨hc,_⟩ | ⟨b',sz',ha,hb',hrow,hs⟩
  .exact .inl (List.eq_nil_of_length_eq_zero (by omega))
  .have:b'=b:=by have:=hb'.symm.trans hb;simpa using this
   subst this
   exact .inr ⟨b',sz',ha,hb,hrow,by simpa using hs,Zm.scal es 0 (Z34 hsc) hel⟩
theorem Zay2{t e:TypeId}{parts:Array (Nat×Operand)}{bytes l2 n2:Nat}{zero:List PV}{es2:List (List Zb)}(L:Nat)(hlab:1000<=L)(ho:o.op = .buildSlice t 1 parts)(hE:ElF P t e 1 bytes zero)(hp:Zg9 ρ parts.toList=some [(0,.osl l2 n2)])
 (hf:Zjc (Zjf 1 1) (rep 1 zero) [(0,.osl l2 n2)]=some [.osl l2 n2]) (hg0:get σ0 l2=some (.row 1 es2)) (hm:es2.length=n2) (hsc:SC1 es2) (hL:L≠l2):OpF P o ρ σ0 [l2] [l2] (.own L (.msl 1)) [(L,.mat 1 0 [[.sl es2]])]:=
 opFn fun G β n tm σ A w hop hnd hfr hr=>by
  have hg:get σ l2=some (.row 1 es2):=(hnd l2 (by simp)).trans hg0
  obtain⟨hf1,hf2⟩:=hfr L (.mat 1 0 [[.sl es2]]) (by simp) (by simpa using hL)
  have hv:=Zlj (ρ:=ρ) (c:=ctx G β w σ) A.eval parts.toList _ (fun x q hx hq=>hop x q (by simpa [ho,Op.operands] using hx) hq) hp
  obtain⟨us,h1,h2⟩:=Z2t hE (c:=ctx G β w σ) w (vals:=parts.map fun (i,x)=>(i,A.eval x)) (by rw [Zui];exact hv) (by omega) hf
  simp only [VRs] at h2
  obtain⟨v,rest,rfl,h2,rfl⟩:=h2
  simp only [VR] at h2
  obtain⟨ad,cap,rfl,hic,hcm,hin⟩:=Zai9 hr hg hm h2.1 hsc
  have hcell:(w.alloc (.cells [Value.slice ad es2.length cap].toArray e)).cell? ⟨w.heap.size,0,none⟩=some (.slice ad es2.length cap):=by rw [World.cell?_alloc_new];rfl
  have hmat:Zgj (w.alloc (.cells [Value.slice ad es2.length cap].toArray e)) w.heap.size [[.sl es2]] [.slice ad es2.length cap]:=by
   refine⟨rfl,fun j v hj=>?_,fun j e v he hj=>?_,fun i j d l l' c c' h1 h2 _ _=>?_⟩
   .match j,hj with
    | 0,hj=>cases hj;exact hcell
   .match j,hj,he with
    | 0,hj,he=>
     cases hj;cases he
     refine⟨es2,ad,cap,rfl,rfl,hic,hcm,hsc,hin.imp id fun⟨d,sz,g1,g2,g3,g4,g5⟩=>?_⟩
     have hlt:=(hr.sep l2 _ d hg (.inl g2)).1
     have hh:=Za4 w (.cells [Value.slice ad es2.length cap].toArray e) d hlt
     exact⟨d,sz,g1,by omega,g3.of_heap hh,g4,Zm.mono' hh hsc g5⟩
   .match i,j,h1,h2 with
    | 0,0,_,_=>rfl
  have hrow:Za7 (w.alloc (.cells [Value.slice ad es2.length cap].toArray e)) w.heap.size 1:=⟨_,e,(0,0),heap_alloc_new w _,rfl,.inl rfl⟩
  have habs:=Ziz hr (w.alloc (.cells [Value.slice ad es2.length cap].toArray e)) (some w.heap.size) L (.mat 1 0 [[.sl es2]]) [l2] (by simp) rfl rfl rfl (by simp)
   (fun b hb _=>Za4 w _ b hb) (fun c hc=>?_) (.inr ⟨hf1,fun m y hy=>(hf2 m y hy).2⟩) (fun _=>hmat.br (Z4 _ _ _) hrow (by simp))
  .refine⟨.slice (some ⟨w.heap.size,0,none⟩) 1 1,w.alloc (.cells [Value.slice ad es2.length cap].toArray e),?_,_,habs,?_⟩
   .simp only [execOp,ho,Sem.run_bind,h1,Result.andThen_ok,Sem.run_pure]
   .simp only [VR]
    refine⟨fun k q es' hg'=>?_,rfl⟩
    have:some (Blk.mat k q es')=some (.mat 1 0 [[.sl es2]]):=Eq.trans (Eq.symm hg') (by simp [ctx,PW.get])
    cases this
    exact⟨by simp,fun _=>⟨_,1,rfl,by simp,by simp [maxLen],.inr ⟨w.heap.size,1,rfl,Z4 _ _ _,hrow,by simp⟩⟩⟩
  .rcases hc with hc | ⟨b0,h4,h5⟩
   .rw [Z4] at hc;cases hc
    exact .inl ⟨Nat.le_refl _,by simp⟩
   .rw [Z4] at h4;cases h4
    obtain⟨j,l,c',hv,hl⟩:=hmat.subs.1 h5
    match j,hv with
    | 0,hv=>
     cases hv
     rcases hin with h | ⟨d,sz,g1,g2,_⟩
     .subst h;exact absurd rfl hl
     .cases g1
      exact .inr ⟨l2,_,by simp,hg,.inl g2⟩
theorem Zahm{G:Frm}{β:Nat->Option Nat}{n:Nat}{tm:List (Nat×PV)}{σ:List (Nat×Blk)}{a:Act}{w:World}(hr:Zaw G β ⟨n,tm,σ⟩ a w){l m:Nat}{es:List (List Zb)}(hg:get σ l=some (.mat 1 0 es))(hm:es.length=m){v:Value}(hv:ODR (ctx G β w σ) l v (.msl m)) :
 ∃ ad cap vs,v = .slice ad m cap/\m<=cap/\cap<=maxLen/\((cap=0/\β l=none/\es=[]/\vs=[])\/∃ b sz,ad=some ⟨b,0,none⟩/\β l=some b/\Za7 w b sz/\cap<=sz/\es.length<=sz/\Zgj w b es vs):=by
 obtain⟨ad,cap,hv,hmc,hcm,h3⟩:=(hv 1 0 es hg).2 hm.symm
 rcases Zgj.of (hr.blk l _ hg) with ⟨hb,he⟩ | ⟨b,sz,vs,hb,hrow,hsz,hmat⟩
 .rcases h3 with ⟨hc,_⟩ | ⟨b,sz,_,hb',_⟩
  .exact⟨ad,cap,[],hv,hmc,hcm,.inl ⟨hc,hb,he,rfl⟩⟩
  .exact absurd (hb.symm.trans hb') (by simp)
 .rcases h3 with ⟨_,hb'⟩ | ⟨b',sz',ha,hb',hrow',hs⟩
  .exact absurd (hb.symm.trans hb') (by simp)
  .have:b'=b:=by have:=hb'.symm.trans hb;simpa using this
   subst this
   have hss:sz'=sz:=by
    obtain⟨cs1,e1,f1,g1,g2,_⟩:=hrow
    obtain⟨cs2,e2,f2,g3,g4,_⟩:=hrow'
    have g1:w.heap[b']?=_:=g1
    have g3:w.heap[b']?=_:=g3
    rw [g1] at g3;cases g3
    omega
   subst hss
   exact⟨ad,cap,vs,hv,hmc,hcm,.inr ⟨b',sz',ha,hb,hrow,by simpa using hs,hsz,hmat⟩⟩
theorem Zgj.one{w:World}{b:Nat}{es:List (List Zb)}{vs:List Value}(h:Zgj w b es vs):∀ u,u∈vs->u.oneCell'=true:=fun u hu=>by
 obtain⟨j,hj,he⟩:=List.getElem_of_mem hu
 obtain⟨inner,a,cap,_,h2,_⟩:=h.inn j (es[j]'(by rw [<- h.len];exact hj)) u (List.getElem?_eq_getElem _) (by rw [List.getElem?_eq_getElem hj,he])
 subst h2;rfl
theorem Zgj.ne{w:World}{b:Nat}{es:List (List Zb)}{vs:List Value}(h:Zgj w b es vs){j d l c:Nat}(hv:vs[j]?=some (Value.slice (some ⟨d,0,none⟩) l c))(hl:l≠0):d≠b:=by
 have hj:j < es.length:=by rw [<- h.len];exact (List.getElem?_eq_some_iff.1 hv).1
 obtain⟨inner,a,cap,_,h2,_,_,_,h3⟩:=h.inn j _ _ (List.getElem?_eq_getElem hj) hv
 cases h2
 rcases h3 with h3 | ⟨d',m,h4,h5,_⟩
 .subst h3;exact absurd rfl hl
 .cases h4;exact h5
theorem Za0a{t tx e:TypeId}{x y:Operand}{bytes l m l3 m3:Nat}{zero:List PV}{es0 es3:List (List Zb)}(ho:o.op = .call { callee := .builtin .append,args := #[x,y],argTypes := #[t,tx] })
 (hE:ElF P t e 1 bytes zero) (htx:∃ e',P.underlying tx=some (.slice e')) (hx:Zi ρ x=some (.own l (.msl m))) (hg0:get σ0 l=some (.mat 1 0 es0)) (hm:es0.length=m) (hy:Zi ρ y=some (.own l3 (.msl m3))) (hg3:get σ0 l3=some (.mat 1 0 es3)) (hm3:es3.length=m3)
 (hpos:0 < m3) (hll:l≠l3) (h63:m+m3<=9223372036854775807) (hby:(m+m3)*bytes<=140737488355328) :
 OpF P o ρ σ0 [l,l3] [l,l3] (.own l (.msl (m+m3))) [(l,.mat 1 0 (es0++es3))]:=
 opF fun G β n tm σ A w hop hnd hr=>by
  have e1:=hop x _ (by simp [ho,Op.operands,Call.operands]) hx
  have e2:=hop y _ (by simp [ho,Op.operands,Call.operands]) hy
  have hg:get σ l=some (.mat 1 0 es0):=(hnd l (by simp)).trans hg0
  have hg':get σ l3=some (.mat 1 0 es3):=(hnd l3 (by simp)).trans hg3
  simp only [VR] at e1 e2
  obtain⟨a0,cap,vs0,hv,hmc,hcm0,h3⟩:=Zahm hr hg hm e1.1
  obtain⟨a3,cap3,vs3,hv3,hmc3,hcm3,h4⟩:=Zahm hr hg' hm3 e2.1
  rcases h4 with ⟨hc,_⟩ | ⟨b3,sz3,ha3,hb3,hrow3,hcs3,hes3,hmat3⟩
  .omega
  obtain⟨e',htx⟩:=htx
  have hO3:∀ (j d l c:Nat),vs3[j]?=some (Value.slice (some ⟨d,0,none⟩) l c)->l≠0->Z3 β w l3 (.mat 1 0 es3) d:=fun j d l c h hl => .inr ⟨b3,hb3,hmat3.subs.2 ⟨j,l,c,h,hl⟩⟩
  have hvl0:vs0.length=m:=by
   rcases h3 with ⟨_,_,he,hv0⟩ | ⟨b,sz,_,_,_,_,_,hmat⟩
   .subst he;subst hv0;simpa using hm
   .rw [hmat.len,hm]
  have hO0:∀ (j d l' c:Nat),vs0[j]?=some (Value.slice (some ⟨d,0,none⟩) l' c)->l'≠0->Z3 β w l (.mat 1 0 es0) d:=fun j d l' c h hl=>by
   rcases h3 with ⟨_,_,he,hv0⟩ | ⟨b,sz,_,hb,_,_,_,hmat⟩
   .subst hv0;simp at h
   .exact .inr ⟨b,hb,hmat.subs.2 ⟨j,l',c,h,hl⟩⟩
  have hcross:∀ d,Z3 β w l (.mat 1 0 es0) d->Z3 β w l3 (.mat 1 0 es3) d->False:=fun d h h'=>hll (hr.inj l l3 _ _ d hg hg' h h')
  have hvl3:vs3.length=m3:=by rw [hmat3.len,hm3]
  cases hi:P.info? e with
  | none=>have:=hE.info;simp [hi] at this
  | some i=>
   have hik:i.size=1/\i.bytes=bytes:=by have:=hE.info;simpa [hi] using this
   have hz:=hE.z
   unfold Zge at hz
   simp only [hi,Option.bind_some,Option.bind_eq_some_iff] at hz
   obtain⟨z,hiz,hz⟩:=hz
   have hzl:z.cells.size=1:=by have:=(Zgo (c:=ctx G β w σ) hz).length;rw [hE.len] at this;simpa using this
   have hexec:∀ r,(Builtin.append_ #[t,tx] o.type #[.slice a0 m cap,A.eval y]).run P w=r->(execOp A.eval o).run P w=r.andThen fun v w => .ok (.value v) w:=by
    intro r hr
    simp only [execOp,ho,resolve,invoke,builtin,Sem.run_bind,Sem.run_pure,Result.andThen_ok,List.map_toArray,List.map_cons,List.map_nil,hv,hr]
   have hs:Src P i.size tx (A.eval y) m3 vs3 w:=by
    rw [hv3,ha3]
    exact Src.ofSlice w htx ⟨b3,0,none⟩ m3 cap3 vs3 (by rw [hvl3,hik.1,Nat.mul_one]) (fun j u hu=>by rw [Addr.add_mid];simpa using hmat3.cell j u hu) hmat3.one
   have hLS:∀ (β':Nat->Option Nat) (w':World),Zac (ctx G β w σ) (ctx G β' w' ((l,.mat 1 0 (es0++es3))::Za5 [l,l3] σ)) l:=fun β' w'=>by
    have hgs:get (ctx G β' w' ((l,.mat 1 0 (es0++es3))::Za5 [l,l3] σ)).σ l=some (.mat 1 0 (es0++es3)):=by simp [ctx,PW.get]
    refine⟨fun k' es' h=>?_,fun cs' h=>?_,fun k' q' es' h=>?_,fun k' es' h=>?_,fun k' i' es' cs' h=>?_,fun h' h=>?_,fun k' i' r' es' h=>?_⟩
    .rw [hgs] at h;cases h
    .rw [hgs] at h;cases h
    .rw [hgs] at h;cases h
     exact⟨es0,hg,by simp,fun he=>by rw [List.length_append] at he;omega⟩
    .rw [hgs] at h;cases h
    .rw [hgs] at h;cases h
    .rw [hgs] at h;cases h
    .rw [hgs] at h;cases h
   by_cases hroom:m+m3<=cap
   .rcases h3 with ⟨hc0,_⟩ | ⟨b,sz,ha,hb,hrow,hcs,hes,hmat⟩
    .omega
    subst ha
    have hth:=Zka hrow (o:=m*1) (n:=m3) (by omega)
    have hrun:=run_append_room_src (P:=P) w t tx o.type e i hE.und hi b 0 m cap (A.eval y) m3 vs3 hs hroom (fun j hj=>by
     have:=(hth j (by omega)).1
     rwa [hik.1,Nat.zero_add]) (fun j hj=>by
     have:=(hth j (by omega)).2
     rwa [hik.1,Nat.zero_add])
    rw [hik.1,Nat.zero_add,Nat.mul_one] at hrun
    have hneb:∀ (j d l' c:Nat),(vs0++vs3)[j]?=some (Value.slice (some ⟨d,0,none⟩) l' c)->l'≠0->d≠b:=fun j d l' c h hl=>by
     rcases Nat.lt_or_ge j vs0.length with hj | hj
     .rw [List.getElem?_append_left hj] at h
      exact hmat.ne h hl
     .rw [List.getElem?_append_right hj] at h
      rintro rfl
      exact hcross d (.inl hb) (hO3 _ d l' c h hl)
    have hmatN:Zgj (w.setCells b m vs3) b (es0++es3) (vs0++vs3):=by
     refine Zgj.app hmat hmat3 (fun j v hj=>?_) (fun d l' c j h hl=>⟨hneb j d l' c h hl,Zc7 b vs3 m w d (hneb j d l' c h hl)⟩) (fun i j d l' l'' c c' h1 h2 hl hl'=>hcross d (hO0 i d l' c h1 hl) (hO3 j d l'' c' h2 hl'))
     rcases Nat.lt_or_ge j vs0.length with h | h
     .rw [List.getElem?_append_left h] at hj
      rw [World.cell?_setCells_out b vs3 m w ⟨b,j,none⟩ (fun _ _ => .inl (by simp;omega))]
      exact hmat.cell j v hj
     .rw [List.getElem?_append_right h] at hj
      have hjl:=(List.getElem?_eq_some_iff.1 hj).1
      have:=World.cell?_setCells_in b vs3 m w (fun j' hj'=>by have:=(hth j' (by omega)).1;rwa [Nat.mul_one] at this) (j - vs0.length) hjl
      rw [show m+(j - vs0.length)=j by omega] at this
      rw [this,<- hj,List.getElem?_eq_getElem hjl]
    have hrowN:=Zb0 b vs3 m w hrow
    have habs:=Ziz hr (w.setCells b m vs3) (some b) l (.mat 1 0 (es0++es3)) [l,l3] (by rw [Zf9];exact Nat.le_refl _) (Zga b vs3 m w).1 (Zga b vs3 m w).2.1 (Zga b vs3 m w).2.2 (by simp)
     (fun b' _ hn=>Zc7 b vs3 m w b' (fun e=>hn l _ (by simp) hg (.inl (by rw [e];exact hb)))) (fun c hc => .inr ?_) (.inl (hLS _ _)) (fun _=>hmatN.br (Z4 _ _ _) hrowN (by rw [List.length_append,hm,hm3];omega))
    .refine⟨.slice (some ⟨b,0,none⟩) (m+m3) cap,w.setCells b m vs3,(by rw [hexec _ hrun];rfl),_,habs,?_⟩
     simp only [VR]
     refine⟨fun k' q' es' hg''=>?_,rfl⟩
     have:some (Blk.mat k' q' es')=some (.mat 1 0 (es0++es3)):=Eq.trans (Eq.symm hg'') (by simp [ctx,PW.get])
     cases this
     exact⟨by simp;omega,fun _=>⟨_,cap,rfl,hroom,hcm0,.inr ⟨b,sz,rfl,Z4 _ _ _,hrowN,by omega⟩⟩⟩
    .rcases hc with hc | ⟨b0,g4,g5⟩
     .rw [Z4] at hc;cases hc
      exact⟨l,_,by simp,hg,.inl hb⟩
     .rw [Z4] at g4;cases g4
      obtain⟨j,l',c',hv,hl⟩:=hmatN.subs.1 g5
      rcases Nat.lt_or_ge j vs0.length with h | h
      .rw [List.getElem?_append_left h] at hv
       exact⟨l,_,by simp,hg,hO0 j c l' c' hv hl⟩
      .rw [List.getElem?_append_right h] at hv
       exact⟨l3,_,by simp,hg',hO3 _ c l' c' hv hl⟩
   .have hgt:cap < m+m3:=by omega
    have hold:(Builtin.firstCells i.size m (.slice a0 m cap)).run P w.drew = .ok vs0.toArray w.drew:=by
     rcases h3 with ⟨_,_,he,hv0⟩ | ⟨b,sz,ha,hb,hrow,hcs,hes,hmat⟩
     .subst he;subst hv0
      have hm0:m=0:=by simpa using hm.symm
      subst hm0
      cases a0<;>simp [Builtin.firstCells,loadCells,loadCellsFrom]
     .subst ha
      exact run_firstCells_some w.drew i.size m ⟨b,0,none⟩ m cap vs0 (by rw [hvl0,hik.1,Nat.mul_one]) (fun j v hj=>by rw [Addr.add_mid];simpa using hmat.cell j v hj)
    have hrun:=run_append_grow_src (P:=P) w t tx o.type e i z hE.und hi hiz a0 m cap vs0 hold (A.eval y) m3 vs3 hs hgt (by omega) (by rw [hik.2];exact growslice_fits hgt hby)
    generalize hcs:(vs0++vs3).toArray++Builtin.zeroCells z.cells (grownCap w (m+m3) cap e - (m+m3))=cs at hrun
    have hge:=grownCap_ge w (m+m3) cap e
    have hcm:grownCap w (m+m3) cap e<=maxLen:=grownCap_le_maxLen w (m+m3) cap e (by simp only [maxLen];omega)
    have hcsz:cs.size=grownCap w (m+m3) cap e:=by
     rw [<- hcs]
     simp only [Array.size_append,List.size_toArray,List.length_append,size_zeroCells,hzl,hvl0,hvl3]
     omega
    have hd:=Zaw.drew hr
    have hltO:∀ d l' o',get σ l'=some o'->Z3 β w l' o' d->d < w.heap.size:=fun d l' o' h1 h2=>(hr.sep l' o' d h1 h2).1
    have hOw:∀ (j d l' c:Nat),(vs0++vs3)[j]?=some (Value.slice (some ⟨d,0,none⟩) l' c)->l'≠0->d < w.heap.size:=fun j d l' c h hl=>by
     rcases Nat.lt_or_ge j vs0.length with hj | hj
     .rw [List.getElem?_append_left hj] at h
      exact hltO d l _ hg (hO0 j d l' c h hl)
     .rw [List.getElem?_append_right hj] at h
      exact hltO d l3 _ hg' (hO3 _ d l' c h hl)
    have hheap:∀ d,d < w.heap.size->(w.drew.alloc (.cells cs e)).heap[d]?=w.heap[d]?:=fun d hd=>Za4 w.drew _ d hd
    have hmat0:∃ b,Zgj w b es0 vs0:=by
     rcases h3 with ⟨_,_,he,hv0⟩ | ⟨b,sz,_,_,_,_,_,hmat⟩
     .subst he;subst hv0;exact⟨0,Zgj.nil w 0⟩
     .exact⟨b,hmat⟩
    obtain⟨bq,hmat0⟩:=hmat0
    have hmatN:Zgj (w.drew.alloc (.cells cs e)) w.heap.size (es0++es3) (vs0++vs3):=by
     refine Zgj.app hmat0 hmat3 (fun j v hj=>?_) (fun d l' c j h hl=>⟨by have:=hOw j d l' c h hl;omega,hheap d (hOw j d l' c h hl)⟩) (fun i j d l' l'' c c' h1 h2 hl hl'=>hcross d (hO0 i d l' c h1 hl) (hO3 j d l'' c' h2 hl'))
     show (w.drew.alloc _).cell? ⟨w.drew.heap.size,_,none⟩=_
     rw [World.cell?_alloc_new,<- hcs]
     have hlt:=(List.getElem?_eq_some_iff.1 hj).1
     rw [Array.getElem?_append_left (by simpa using hlt)]
     simpa using hj
    have hrowN:Za7 (w.drew.alloc (.cells cs e)) w.heap.size cs.size:=⟨cs,e,(0,0),heap_alloc_new w.drew _,rfl,.inl rfl⟩
    have habs:=Ziz hd (w.drew.alloc (.cells cs e)) (some w.heap.size) l (.mat 1 0 (es0++es3)) [l,l3] (by simp) rfl rfl rfl (by simp)
     (fun b' hb' _=>Za4 w.drew _ b' hb') (fun c hc=>?_) (.inl ?_) (fun _=>hmatN.br (Z4 _ _ _) hrowN (by rw [hcsz,List.length_append,hm,hm3];exact hge))
    .refine⟨.slice (some ⟨w.heap.size,0,none⟩) (m+m3) (grownCap w (m+m3) cap e),_,(by rw [hexec _ hrun];rfl),_,habs,?_⟩
     simp only [VR]
     refine⟨fun k' q' es' hg''=>?_,rfl⟩
     have:some (Blk.mat k' q' es')=some (.mat 1 0 (es0++es3)):=Eq.trans (Eq.symm hg'') (by simp [ctx,PW.get])
     cases this
     exact⟨by simp;omega,fun _=>⟨_,_,rfl,hge,hcm,.inr ⟨w.heap.size,cs.size,rfl,Z4 _ _ _,hrowN,by rw [hcsz];omega⟩⟩⟩
    .have hw:∀ l' o',Z3 β w l' o' c->Z3 β w.drew l' o' c:=fun l' o' h=>Z3.of_cell (w:=w.drew) (w':=w) (fun _=>rfl) h
     rcases hc with hc | ⟨b0,g4,g5⟩
     .rw [Z4] at hc;cases hc
      exact .inl ⟨Nat.le_refl _,by simp⟩
     .rw [Z4] at g4;cases g4
      obtain⟨j,l',c',hv,hl⟩:=hmatN.subs.1 g5
      refine .inr ?_
      rcases Nat.lt_or_ge j vs0.length with h | h
      .rw [List.getElem?_append_left h] at hv
       exact⟨l,_,by simp,hg,hw _ _ (hO0 j c l' c' hv hl)⟩
      .rw [List.getElem?_append_right h] at hv
       exact⟨l3,_,by simp,hg',hw _ _ (hO3 _ c l' c' hv hl)⟩
    .have hgs:get (ctx G (Zbh β l (some w.heap.size)) (w.drew.alloc (.cells cs e)) ((l,.mat 1 0 (es0++es3))::Za5 [l,l3] σ)).σ l=some (.mat 1 0 (es0++es3)):=by simp [ctx,PW.get]
     refine⟨fun k' es' h=>?_,fun cs' h=>?_,fun k' q' es' h=>?_,fun k' es' h=>?_,fun k' i' es' cs' h=>?_,fun h' h=>?_,fun k' i' r' es' h=>?_⟩
     .rw [hgs] at h;cases h
     .rw [hgs] at h;cases h
     .rw [hgs] at h;cases h
      exact⟨es0,hg,by simp,fun he=>by rw [List.length_append] at he;omega⟩
     .rw [hgs] at h;cases h
     .rw [hgs] at h;cases h
     .rw [hgs] at h;cases h
     .rw [hgs] at h;cases h
variable {σ:List (Nat×Blk)}
theorem Zau0{t:TypeId}{x y:Operand}{l m:Nat}{es:List (List Zb)}{ki:IntKind}{i:Int}(ho:o.op = .indexAddr t x y)(ha:slInfo P t=some 1)(hx:Zi ρ x=some (.own l (.msl m)))(hy:Zi ρ y=some (.t (.int ki i)))
 (hg:get σ l=some (.mat 1 0 es)) (hm:es.length=m) (h0:0<=i) (h1:i < m):Za3 P o ρ σ [l] (.own l (.mpt m i.toNat 0)) []:=
 Zb9 fun G β n tm σ' A w hop hneed hr=>by
  have e1:=hop x _ (by simp [ho,Op.operands]) hx
  have e2:=hop y _ (by simp [ho,Op.operands]) hy
  simp only [VR,Zx] at e1 e2⊢
  have hgl:get σ' l=some (.mat 1 0 es):=(hneed l (by simp)).trans hg
  obtain⟨ad,cap,vs,hv,hmc,hcm,h3⟩:=Zahm hr hgl hm e1.1
  rcases h3 with ⟨hc,_⟩ | ⟨b,sz,ha',hb,_⟩
  .omega
  .subst ha'
   refine⟨.pointer (some ⟨b,i.toNat*1,none⟩),?_,fun k q es' hg'=>?_,rfl⟩
   .simp only [execOp,ho,hv,e2,Sem.run_bind,Zi4 w ha h0 h1,Result.andThen_ok,Sem.run_pure,Nat.zero_add]
   .have:some (Blk.mat k q es')=some (.mat 1 0 es):=Eq.trans (Eq.symm hg') hgl
    cases this
    exact⟨by omega,fun _=>⟨b,hb,by simp⟩⟩
theorem Zaw1{t:TypeId}{x:Operand}{l m j:Nat}{es:List (List Zb)}(ho:o.op = .load t x)(hT:TyF P t false 1)(hx:Zi ρ x=some (.own l (.mpt m j 0)))(hg:get σ l=some (.mat 1 0 es))(hm:es.length=m)(hj:j < m):Za3 P o ρ σ [l] (.own l (.mrow m j)) []:=
 Zb9 fun G β n tm σ' A w hop hneed hr=>by
  have e1:=hop x _ (by simp [ho,Op.operands]) hx
  simp only [VR] at e1⊢
  have hgl:get σ' l=some (.mat 1 0 es):=(hneed l (by simp)).trans hg
  obtain⟨b,hb,hv⟩:=(e1.1 1 0 es hgl).2 hm.symm
  rcases Zgj.of (hr.blk l _ hgl) with ⟨hb',_⟩ | ⟨b',sz,vs,hb',hrow,hsz,hmat⟩
  .exact absurd (hb'.symm.trans hb) (by simp)
  .have:b'=b:=by have:=hb'.symm.trans hb;simpa using this
   subst this
   have hvj:vs[j]?=some (vs[j]'(by rw [hmat.len];omega)):=List.getElem?_eq_getElem _
   have hc:w.cell? ⟨b',j*1+0,none⟩=some (vs[j]'(by rw [hmat.len];omega)):=by rw [Nat.mul_one,Nat.add_zero];exact hmat.cell j _ hvj
   refine⟨vs[j]'(by rw [hmat.len];omega),?_,⟨hj,fun k q es' hg'=>?_⟩,hmat.one _ (List.getElem_mem _)⟩
   .have hrun:(Instr.loadAt t (.pointer (some ⟨b',j*1+0,none⟩))).run P w = .ok (vs[j]'(by rw [hmat.len];omega)) w:=by
     have hc':w.cell? ⟨b',j,none⟩=some (vs[j]'(by rw [hmat.len];omega)):=hmat.cell j _ hvj
     rw [Nat.mul_one,Nat.add_zero]
     simp [Instr.loadAt,Instr.sureAddr,loadVar,hT.run_isAgg w,hc']
    simp only [execOp,ho,hv,Sem.run_bind,hrun,Result.andThen_ok,Sem.run_pure]
   .have:some (Blk.mat k q es')=some (.mat 1 0 es):=Eq.trans (Eq.symm hg') hgl
    cases this
    exact⟨by omega,fun _=>⟨b',hb,hc⟩⟩
theorem Zass{t:TypeId}{x y:Operand}{l m j:Nat}{es inner:List (List Zb)}{ki:IntKind}{i:Int}(ho:o.op = .indexAddr t x y)(ha:slInfo P t=some 1)(hx:Zi ρ x=some (.own l (.mrow m j)))(hy:Zi ρ y=some (.t (.int ki i)))
 (hg:get σ l=some (.mat 1 0 es)) (hm:es.length=m) (he:es[j]?=some [.sl inner]) (h0:0<=i) (h1:i < inner.length):Za3 P o ρ σ [l] (.own l (.mel m j i.toNat)) []:=
 Zb9 fun G β n tm σ' A w hop hneed hr=>by
  have e1:=hop x _ (by simp [ho,Op.operands]) hx
  have e2:=hop y _ (by simp [ho,Op.operands]) hy
  simp only [VR,Zx] at e1 e2⊢
  have hgl:get σ' l=some (.mat 1 0 es):=(hneed l (by simp)).trans hg
  obtain⟨b,hb,hv⟩:=(e1.1.2 1 0 es hgl).2 hm.symm
  rw [Nat.mul_one,Nat.add_zero] at hv
  rcases Zgj.of (hr.blk l _ hgl) with ⟨hb',_⟩ | ⟨b',sz,vs,hb',hrow,hsz,hmat⟩
  .exact absurd (hb'.symm.trans hb) (by simp)
  .have:b'=b:=by have:=hb'.symm.trans hb;simpa using this
   subst this
   have hjl:j < es.length:=(List.getElem?_eq_some_iff.1 he).1
   have hvj:vs[j]?=some (vs[j]'(by rw [hmat.len];exact hjl)):=List.getElem?_eq_getElem _
   obtain⟨inner',a,cap,g1,g2,g3,g4,g5,g6⟩:=hmat.inn j _ _ he hvj
   have hc:=hmat.cell j _ hvj
   cases g1
   have hve:A.eval x = .slice a inner.length cap:=by
    have:some (A.eval x)=some (vs[j]'(by rw [hmat.len];exact hjl)):=hv.symm.trans hc
    rw [g2] at this;exact Option.some.inj this
   rcases g6 with g6 | ⟨d,sz',k1,k2,k3,k4,k5⟩
   .subst g6;simp at h1;omega
   .subst k1
    refine⟨.pointer (some ⟨d,0+i.toNat*1,none⟩),?_,⟨e1.1.1,fun k q es' hg'=>?_⟩,rfl⟩
    .simp only [execOp,ho,hve,e2,Sem.run_bind,Zi4 w ha h0 h1,Result.andThen_ok,Sem.run_pure]
    .have:some (Blk.mat k q es')=some (.mat 1 0 es):=Eq.trans (Eq.symm hg') hgl
     cases this
     exact⟨by omega,fun _=>⟨b',d,inner.length,cap,hb,by rw [Nat.mul_one,Nat.add_zero];exact hc.trans (by rw [g2]),by simp⟩⟩
end
theorem Zm.setCell{w:World}{d:Nat}{inner:List (List Zb)}{i:Nat}{z:Zb}{v:Value}(hsc:∀ x,x∈inner->∃ t,x=[t]/\t.scal=true)(hi:i < inner.length)(hz:z.scal=true)(hv:Zx (fun _=>True) w z v)(h:Zm (fun _=>True) w d inner 0) :
 Zm (fun _=>True) (w.setCells d i [v]) d (inner.set i [z]) 0:=by
 have hT:∀ {w':World} {t:Zb} {v:Value},t.scal=true->Zx (fun _=>True) w t v->Zx (fun _=>True) w' t v:=fun {w' t v} hs h=>Zx.scal hs h
 have hk:∀ el,el∈inner->el.length=1:=fun el hel=>by obtain⟨t,rfl,_⟩:=hsc el hel;rfl
 have hthere:(w.cell? ⟨d,i,none⟩).isSome=true:=by
  have:=h.get i _ hk (List.getElem?_eq_getElem hi)
  obtain⟨t,ht,_⟩:=hsc _ (List.getElem_mem hi)
  rw [ht] at this
  simp only [Z1,and_true,Nat.zero_add,Nat.mul_one] at this
  obtain⟨c,hc,_⟩:=this
  rw [hc];rfl
 have hin:(w.setCells d i [v]).cell? ⟨d,i,none⟩=some v:=by
  have:=World.cell?_setCells_in d [v] i w (fun j hj=>by
   have hj0:j=0:=by simpa using hj
   rw [hj0,Nat.add_zero];exact hthere) 0 (by simp)
  simpa using this
 have hout:∀ j,j≠i->(w.setCells d i [v]).cell? ⟨d,j,none⟩=w.cell? ⟨d,j,none⟩:=fun j hj=>World.cell?_setCells_out d [v] i w ⟨d,j,none⟩ (fun _ _=>by simp;omega)
 have key:∀ (k:Nat) (fs:List (List Zb)),(inner.set i [z]).drop k=fs->Zm (fun _=>True) (w.setCells d i [v]) d fs k:=by
  intro k fs
  induction fs generalizing k with
  | nil=>intro _;simp [Zm]
  | cons e fs ih=>
   intro he
   have hk':k < inner.length:=by
    rcases Nat.lt_or_ge k inner.length with h | h
    .exact h
    .rw [List.drop_eq_nil_of_le (by simpa using h)] at he;cases he
   have hek:(inner.set i [z])[k]?=some e:=by rw [<- List.head?_drop,he];rfl
   have hrest:(inner.set i [z]).drop (k+1)=fs:=by rw [<- List.drop_drop,he];rfl
   by_cases hki:k=i
   .subst hki
    rw [List.getElem?_set_self hk'] at hek
    cases hek
    simp only [Zm,Z1,and_true]
    exact⟨⟨v,hin,hT hz hv⟩,ih (k+1) hrest⟩
   .rw [List.getElem?_set_ne (fun e=>hki e.symm)] at hek
    have hget:=h.get k _ hk hek
    obtain⟨t,rfl,ht⟩:=hsc e (List.mem_of_getElem? hek)
    simp only [Zm,Z1,and_true,Nat.zero_add,Nat.mul_one] at hget⊢
    obtain⟨c,hc,hr⟩:=hget
    exact⟨⟨c,(hout k hki).trans hc,hT ht hr⟩,ih (k+1) hrest⟩
 exact key 0 _ rfl
section
variable {P:Program} {o:Oper} {n:Nat} {tm:List (Nat×PV)} {σ:List (Nat×Blk)}
theorem Zaqn{t:TypeId}{x y:Operand}{l m j i:Nat}{es inner:List (List Zb)}{p:PV}{z:Zb}(ho:o.op = .store t x y)(hd:o.dst=none)(hT:TyF P t false 1)(hx:Zi tm x=some (.own l (.mel m j i)))(hy:Zi tm y=some p)(hp:p = .t z)(hz:z.scal=true)
 (hg:get σ l=some (.mat 1 0 es)) (hm:es.length=m) (he:es[j]?=some [.sl inner]) (hi:i < inner.length):Zvr P o ⟨n,tm,σ⟩ ⟨n,tm,put σ l (.mat 1 0 (es.set j [.sl (inner.set i [z])]))⟩:=
 opup fun G β A w hop hr=>by
  subst hp
  have e1:=hop x _ hx
  have e2:=hop y _ hy
  simp only [VR] at e1
  obtain⟨b,d,len,cap,hb,hcell,hv⟩:=(e1.1.2 1 0 es hg).2 hm.symm
  rw [Nat.mul_one,Nat.add_zero] at hcell
  rcases Zgj.of (hr.blk l _ hg) with ⟨hb',_⟩ | ⟨b',sz,vs,hb',hrow,hsz,hmat⟩
  .exact absurd (hb'.symm.trans hb) (by simp)
  have:b'=b:=by have:=hb'.symm.trans hb;simpa using this
  subst this
  have hjl:j < es.length:=(List.getElem?_eq_some_iff.1 he).1
  have hvj:vs[j]?=some (vs[j]'(by rw [hmat.len];exact hjl)):=List.getElem?_eq_getElem _
  obtain⟨inner',a,cap',g1,g2,g3,g4,g5,g6⟩:=hmat.inn j _ _ he hvj
  have hc:=hmat.cell j _ hvj
  cases g1
  rw [g2] at hc hvj
  rw [hc] at hcell
  cases hcell
  rcases g6 with g6 | ⟨d',sz',k1,k2,k3,k4,k5⟩
  .subst g6;simp at hi
  cases k1
  have hstore:=Zhq (P:=P) (c:=ctx G β w σ) hT w e2 (by simp [Zz]) (by simp [Zz,PV.one]) k3 (q:=i) (by omega)
  have e2':Zx (ctx G β w σ).I w z (A.eval y):=e2
  have hcv:(A.eval y).cells.toList=[A.eval y]:=by
   have h1:=e2'.oneCell
   revert h1
   generalize A.eval y=u
   intro h1
   cases u<;>first | rfl | (simp [Value.oneCell'] at h1;done)
  rw [hcv] at hstore
  have hzv:Zx (fun _=>True) w z (A.eval y):=Zx.mono (I:=(ctx G β w σ).I) (fun _ _=>⟨trivial,rfl⟩) _ _ e2'
  have hdn:∀ (q d2 l' c:Nat),vs[q]?=some (Value.slice (some ⟨d2,0,none⟩) l' c)->l'≠0->q≠j->d2≠d:=fun q d2 l' c h hl hq e=>by
   subst e
   exact hq (hmat.dis q j d2 l' inner.length c cap h hvj hl (by omega))
  have hoth:∀ d2,d2≠d->(w.setCells d i [A.eval y]).heap[d2]?=w.heap[d2]?:=fun d2 h=>Zc7 d [A.eval y] i w d2 h
  have hmatN:Zgj (w.setCells d i [A.eval y]) b' (es.set j [.sl (inner.set i [z])]) vs:=by
   refine⟨by simpa using hmat.len,fun q v hq=>(World.cell?_of_block (w:=w) (hoth b' (Ne.symm k2))).trans (hmat.cell q v hq),fun q e v he' hq=>?_,hmat.dis⟩
   by_cases hqj:q=j
   .subst hqj
    rw [List.getElem?_set_self hjl] at he'
    cases he'
    rw [hvj] at hq
    cases hq
    refine⟨inner.set i [z],_,cap,rfl,by rw [List.length_set],by rw [List.length_set];exact g3,g4,fun x hx=>?_,.inr ⟨d,sz',rfl,k2,Zb0 d [A.eval y] i w k3,k4,Zm.setCell g5 hi hz hzv k5⟩⟩
    rcases List.mem_or_eq_of_mem_set hx with h | h
    .exact g5 x h
    .exact⟨z,h,hz⟩
   .rw [List.getElem?_set_ne (fun e=>hqj e.symm)] at he'
    obtain⟨inn,a2,cap2,f1,f2,f3,f4,f5,f6⟩:=hmat.inn q e v he' hq
    refine⟨inn,a2,cap2,f1,f2,f3,f4,f5,?_⟩
    by_cases hie:inn=[]
    .exact .inl hie
    .rcases f6 with f6 | ⟨d2,s2,m1,m2,m3,m4,m5⟩
     .exact .inl f6
     .have hne:d2≠d:=hdn q d2 inn.length cap2 (by rw [hq,f2,m1]) (fun e=>hie (List.eq_nil_of_length_eq_zero e)) hqj
      exact .inr ⟨d2,s2,m1,m2,m3.of_heap (hoth d2 hne),m4,Zm.mono' (hoth d2 hne) f5 m5⟩
  have hOd:Z3 β w l (.mat 1 0 es) d := .inr ⟨b',hb,hmat.subs.2 ⟨j,inner.length,cap,hvj,by omega⟩⟩
  have habs:=Ziz hr (w.setCells d i [A.eval y]) (some b') l (.mat 1 0 (es.set j [.sl (inner.set i [z])])) [l] (by rw [Zf9];exact Nat.le_refl _) (Zga d _ i w).1 (Zga d _ i w).2.1 (Zga d _ i w).2.2 (by simp)
   (fun b2 _ hn=>hoth b2 (fun e=>hn l _ (by simp) hg (by rw [e];exact hOd))) (fun c hc => .inr ?_) (.inl ?_) (fun _=>hmatN.br (Z4 _ _ _) (Zb0 d [A.eval y] i w hrow) (by simpa using hsz))
  .refine⟨undef,w.setCells d i [A.eval y],.inr ⟨?_,rfl⟩,Zbh β l (some b'),?_⟩
   .simp only [execOp,ho,hv,Sem.run_bind,hstore,Result.andThen_ok,Sem.run_pure]
   .rw [hd];exact habs
  .rcases hc with hc | ⟨b0,f2,f3⟩
   .rw [Z4] at hc;cases hc
    exact⟨l,_,by simp,hg,.inl hb⟩
   .rw [Z4] at f2;cases f2
    obtain⟨q,l',c',hv,hl⟩:=hmatN.subs.1 f3
    exact⟨l,_,by simp,hg,.inr ⟨b',hb,hmat.subs.2 ⟨q,l',c',hv,hl⟩⟩⟩
  .have hgs:get (ctx G (Zbh β l (some b')) (w.setCells d i [A.eval y]) ((l,.mat 1 0 (es.set j [.sl (inner.set i [z])]))::Za5 [l] σ)).σ l=some (.mat 1 0 (es.set j [.sl (inner.set i [z])])):=by simp [ctx,PW.get]
   refine⟨fun k' es' h=>?_,fun cs' h=>?_,fun k' q' es' h=>?_,fun k' es' h=>?_,fun k' i' es' cs' h=>?_,fun h' h=>?_,fun k' i' r' es' h=>?_⟩
   .rw [hgs] at h;cases h
   .rw [hgs] at h;cases h
   .rw [hgs] at h;cases h
    refine⟨es,hg,by simp,fun _=>⟨by show Zbh β l (some b') l=β l;rw [Z4];exact hb.symm,fun b2 hb2=>?_⟩⟩
    have:b'=b2:=by have:=hb.symm.trans hb2;simpa using this
    subst this
    exact⟨fun m hr=>Zb0 d [A.eval y] i w hr,fun q _=>by
     show (w.setCells d i [A.eval y]).cell? _=w.cell? _
     exact World.cell?_of_block (w:=w) (hoth b' (Ne.symm k2))⟩
   .rw [hgs] at h;cases h
   .rw [hgs] at h;cases h
   .rw [hgs] at h;cases h
   .rw [hgs] at h;cases h
end
section
variable {P:Program} {o:Oper} {ρ:List (Nat×PV)} {σ0:List (Nat×Blk)}
theorem Zaw2{t e:TypeId}{parts:Array (Nat×Operand)}{bytes:Nat}{zero:List PV}(L:Nat)(ho:o.op = .buildSlice t 0 parts)(hE:ElF P t e 1 bytes zero)(hp:Zg9 ρ parts.toList=some []):OpF P o ρ σ0 [] [] (.own L (.msl 0)) [(L,.mat 1 0 [])]:=
 opFn fun G β n tm σ A w hop hnd hfr hr=>by
  obtain⟨hf1,hf2⟩:=hfr L (.mat 1 0 []) (by simp) (by simp)
  have hv:=Zlj (ρ:=ρ) (c:=ctx G β w σ) A.eval parts.toList _ (fun x q hx hq=>hop x q (by simpa [ho,Op.operands] using hx) hq) hp
  obtain⟨us,h1,h2⟩:=Z2t hE (c:=ctx G β w σ) w (len:=0) (out:=[]) (vals:=parts.map fun (i,x)=>(i,A.eval x)) (by rw [Zui];exact hv) (by omega) rfl
  simp only [VRs] at h2
  subst h2
  have habs:=Ziz hr (w.alloc (.cells [].toArray e)) none L (.mat 1 0 []) [] (by simp) rfl rfl rfl (by simp)
   (fun b hb _=>Za4 w _ b hb) (fun c hc=>?_) (.inr ⟨hf1,fun m y hy=>(hf2 m y hy).2⟩) (fun _=>⟨Nat.zero_lt_one,by simp,.inl ⟨Z4 _ _ _,rfl⟩⟩)
  .refine⟨.slice (some ⟨w.heap.size,0,none⟩) 0 0,w.alloc (.cells [].toArray e),?_,_,habs,?_⟩
   .simp only [execOp,ho,Sem.run_bind,h1,Result.andThen_ok,Sem.run_pure]
   .simp only [VR]
    refine⟨fun k q es' hg'=>?_,rfl⟩
    have:some (Blk.mat k q es')=some (.mat 1 0 []):=Eq.trans (Eq.symm hg') (by simp [ctx,PW.get])
    cases this
    exact⟨by simp,fun _=>⟨_,0,rfl,by simp,by simp [maxLen],.inl ⟨rfl,Z4 _ _ _⟩⟩⟩
  .rcases hc with hc | ⟨b0,h4,h5⟩
   .rw [Z4] at hc;cases hc
   .rw [Z4] at h4;cases h4
end
end Go.PW
namespace Go.PW
open Go.RowKit
def Zs1{α:Type}:List (Int×α)->Int->Option α
 | [],_=>none
 | (j,x)::r,n=>bif j==n then some x else Zs1 r n
def Zhf{α:Type}:List (Int×α)->Int->α->List (Int×α)
 | [],n,x=>[(n,x)]
 | (j,y)::r,n,x=>bif j==n then (j,x)::r else (j,y)::Zhf r n x
def mlk{α:Type}(m:List (Int×α))(n:Int)(z:α):α×Bool:=match Zs1 m n with | some x=>(x,true) | none=>(z,false)
theorem Zho.length{c:Ctx}{ag:Bool}:∀ {es:List MapEntry} {xs:List (Int×List Zb)},Zho c ag es xs->es.length=xs.length
 | [],_,h=>by rw [show _=_ from h];rfl
 | e::es,xs,h=>by
  obtain⟨n,ts,r,rfl,_,_,h⟩:=h
  simp [Zho.length h]
theorem Zho.find{c:Ctx}{ag:Bool}{n:Int}:∀ {es:List MapEntry} {xs:List (Int×List Zb)} (i:Nat),Zho c ag es xs ->
 (Zs1 xs n=none/\Instr.findNow (.int .i64) (.int .i64 n) es i=some none/\∀ e:MapEntry,e.key = .int .i64 n->∀ ts,VR c (mvP ag ts) e.val->Zho c ag (es++[e]) (Zhf xs n ts)) \/
 ∃ ts j e,Zs1 xs n=some ts/\Instr.findNow (.int .i64) (.int .i64 n) es i=some (some (i+j,e.val))/\es[j]?=some e/\e.key = .int .i64 n/\VR c (mvP ag ts) e.val /\
  ∀ (g:MapEntry->MapEntry),(∀ x,x.key = .int .i64 n->(g x).key = .int .i64 n)->∀ ts',(∀ x,VR c (mvP ag ts') (g x).val)->Zho c ag (es.modify j g) (Zhf xs n ts')
 | [],xs,i,h=>by
  rw [show xs=[] from h]
  exact .inl ⟨rfl,rfl,fun e he ts hv=>⟨n,ts,[],rfl,he,hv,rfl⟩⟩
 | e::es,xs,i,h=>by
  obtain⟨m,ts,r,rfl,hk,hv,h⟩:=h
  by_cases hmn:m=n
  .subst hmn
   refine .inr ⟨ts,0,e,by simp [Zs1],by simp [Instr.findNow,Instr.sameNow,hk],rfl,hk,hv,fun g hg ts' hv'=>?_⟩
   simp only [List.modify_zero_cons,Zhf,beq_self_eq_true,cond_true]
   exact⟨m,ts',r,rfl,hg e hk,hv' e,h⟩
  .have hb:(m==n)=false:=by simpa using hmn
   have hs:Instr.findNow (.int .i64) (.int .i64 n) (e::es) i=Instr.findNow (.int .i64) (.int .i64 n) es (i+1):=by
    simp only [Instr.findNow,hk,Instr.sameNow,if_true]
    rw [show (n==m)=false by simpa using fun e=>hmn e.symm]
   rcases Zho.find (n:=n) (i+1) h with ⟨h1,h2,h3⟩ | ⟨ts2,j,e2,h1,h2,h3,h4,h5,h6⟩
   .refine .inl ⟨by simp only [Zs1,hb,cond_false];exact h1,hs.trans h2,fun e' he' ts' hv'=>?_⟩
    simp only [Zhf,hb,cond_false,List.cons_append]
    exact⟨m,ts,_,rfl,hk,hv,h3 e' he' ts' hv'⟩
   .refine .inr ⟨ts2,j+1,e2,by simp only [Zs1,hb,cond_false];exact h1,?_,by simpa using h3,h4,h5,fun g hg ts' hv'=>?_⟩
    .rw [hs,h2];congr 3;omega
    .simp only [Zhf,hb,cond_false,List.modify_succ_cons]
     exact⟨m,ts,_,rfl,hk,hv,h6 g hg ts' hv'⟩
def Zt7(P:Program)(ag:Bool)(e:TypeId):Option (List Zb):=
 match (P.info? e).bind (·.zero),ag with
 | some (.agg cs),true=>(cs.toList.mapM Zkr).bind Zfp
 | some (.agg _),false=>none
 | some v,false=>([v].mapM Zkr).bind Zfp
 | _,_=>none
theorem Zaw3{P:Program}{ag:Bool}{e:TypeId}{ts:List Zb}(h:Zt7 P ag e=some ts){c:Ctx}(w:World):∃ v,(zeroValue e).run P w = .ok v w/\VR c (mvP ag ts) v:=by
 have key:∀ v,(P.info? e).bind (·.zero)=some v->(zeroValue e).run P w = .ok v w:=fun v hv=>by
  obtain⟨i,h1,h2⟩:=Option.bind_eq_some_iff.1 hv
  simp [zeroValue,typeInfo,h1,h2]
 unfold Zt7 at h
 split at h
 .rename_i cs hz
  obtain⟨ps,h1,h2⟩:=Option.bind_eq_some_iff.1 h
  refine⟨_,key _ hz,?_⟩
  simp only [mvP,cond_true,VR]
  exact⟨cs.toList,by simp,Zm7 h2 (Zgo h1)⟩
 .cases h
 .rename_i v hna hz
  obtain⟨ps,h1,h2⟩:=Option.bind_eq_some_iff.1 h
  have hv:=Zm7 h2 (Zgo (c:=c) h1)
  refine⟨v,key _ hz,?_⟩
  have hl:=hv.length
  match ts,hl with
  | [t],_=>
   simp only [List.map_cons,List.map_nil,VRs] at hv
   obtain⟨u,rest,e1,e2,rfl⟩:=hv
   cases e1
   simp only [mvP,cond_false]
   exact e2
 .cases h
section
variable {P:Program} {o:Oper} {ρ:List (Nat×PV)} {σ0:List (Nat×Blk)}
theorem Zau1{t:TypeId}(ag:Bool)(L:Nat)(ho:o.op = .makeMap t none):OpF P o ρ σ0 [] [] (.own L .map) [(L,.map (.v ag) [])]:=
 opFn fun G β n tm σ A w hop hnd hfr hr=>by
  obtain⟨hf1,hf2⟩:=hfr L (.map (.v ag) []) (by simp) (by simp)
  have habs:=Ziz hr (w.alloc (.map #[] 0)) (some w.heap.size) L (.map (.v ag) []) [] (by simp) rfl rfl rfl (by simp)
   (fun b hb _=>Za4 w _ b hb) (fun c hc=>?_) (.inr ⟨hf1,fun m y hy=>(hf2 m y hy).2⟩) (fun _=>⟨w.heap.size,#[],0,Z4 _ _ _,heap_alloc_new w _,rfl⟩)
  .refine⟨.map (some w.heap.size),w.alloc (.map #[] 0),?_,_,habs,?_⟩
   .have:(Instr.makeMap t none).run P w = .ok (.map (some w.heap.size)) (w.alloc (.map #[] 0)):=rfl
    simp only [execOp,ho,Option.map_none,Sem.run_bind,this,Result.andThen_ok,Sem.run_pure]
   .simp only [VR]
    exact⟨fun ag' es' hg'=>⟨w.heap.size,Z4 _ _ _,rfl⟩,rfl⟩
  .have:=Z3.flat (o := .map (.v ag) []) trivial hc
   rw [Z4] at this;cases this
   exact .inl ⟨Nat.le_refl _,by simp⟩
theorem Z88{G:Frm}{β:Nat->Option Nat}{n:Nat}{tm:List (Nat×PV)}{σ:List (Nat×Blk)}{a:Act}{w:World}(hr:Zaw G β ⟨n,tm,σ⟩ a w){l:Nat}{ag:Bool}{es:List (Int×List Zb)}(hg:get σ l=some (.map (.v ag) es)){v:Value}(hv:VR (ctx G β w σ) (.own l .map) v) :
 ∃ b ents clock,β l=some b/\v = .map (some b)/\w.heap[b]?=some (.map ents clock)/\Zho (ctx G β w σ) ag ents.toList es:=by
 simp only [VR] at hv
 obtain⟨b,hb,rfl⟩:=hv.1 _ es hg
 obtain⟨b',ents,clock,hb',hm,he⟩:=hr.blk l _ hg
 have:b'=b:=by have:=hb'.symm.trans hb;simpa using this
 subst this
 exact⟨b',ents,clock,hb,rfl,hm,he⟩
variable {σ:List (Nat×Blk)}
theorem Z93{t k e:TypeId}(ht:P.underlying t=some (.map k e))(hk:P.underlying k=some (.int .i64)){ag:Bool}{zs:List Zb}(hz:Zt7 P ag e=some zs){c:Ctx}(w:World){b clock:Nat}{ents:Array MapEntry}(hm:w.heap[b]?=some (.map ents clock)){es:List (Int×List Zb)}(he:Zho c ag ents.toList es)(n:Int)(ok:Bool) :
 ∃ v,(Instr.lookup t (.map (some b)) (.int .i64 n) ok).run P w = .ok (if ok then .tuple #[v,.bool (mlk es n zs).2] else v) w/\VR c (mvP ag (mlk es n zs).1) v:=by
 have hkey:MapKept.IsKey (.int .i64) (.int .i64 n):=rfl
 rcases he.find (n:=n) 0 with ⟨h1,h2,_⟩ | ⟨ts,j,e2,h1,h2,h3,h4,h5,_⟩
 .obtain⟨z,hz1,hz2⟩:=Zaw3 (c:=c) hz w
  refine⟨z,?_,by simp only [mlk,h1];exact hz2⟩
  simp only [Instr.lookup,Sem.run_bind,run_underlying ht,Result.andThen_ok,MapKept.run_getObj_map hm,Sem.run_pure,MapKept.run_checkKey hk hkey,MapKept.run_findKey hk h2,hz1,mlk,h1]
 .refine⟨e2.val,?_,by simp only [mlk,h1];exact h5⟩
  simp only [Instr.lookup,Sem.run_bind,run_underlying ht,Result.andThen_ok,MapKept.run_getObj_map hm,Sem.run_pure,MapKept.run_checkKey hk hkey,MapKept.run_findKey hk h2,mlk,h1]
theorem Zau2{t k e:TypeId}{x y:Operand}{l:Nat}{ag:Bool}{es:List (Int×List Zb)}{zs:List Zb}{n:Int}(ho:o.op = .lookup t x y true)(ht:P.underlying t=some (.map k e))(hk:P.underlying k=some (.int .i64))(hz:Zt7 P ag e=some zs)
 (hx:Zi ρ x=some (.own l .map)) (hy:Zi ρ y=some (.t (.int .i64 n))) (hg0:get σ0 l=some (.map (.v ag) es)):OpF P o ρ σ0 [l] [] (.tup [mvP ag (mlk es n zs).1,.t (.bool (mlk es n zs).2)]) []:=
 opFn fun G β n' tm σ A w hop hnd hfr hr=>by
  have hg:get σ l=some (.map (.v ag) es):=(hnd l (by simp)).trans hg0
  have e1:=hop x _ (by simp [ho,Op.operands]) hx
  have e2:=hop y _ (by simp [ho,Op.operands]) hy
  simp only [VR,Zx] at e2
  obtain⟨b,ents,clock,hb,hv,hm,he⟩:=Z88 hr hg e1
  obtain⟨v,h1,h2⟩:=Z93 ht hk hz w hm he n true
  refine⟨.tuple #[v,.bool (mlk es n zs).2],w,?_,β,hr,?_⟩
  .simp only [execOp,ho,hv,e2,Sem.run_bind,h1,Result.andThen_ok,Sem.run_pure,if_true]
  .simp only [VR,VRs]
   exact⟨[v,.bool (mlk es n zs).2],rfl,v,_,rfl,h2,_,_,rfl,rfl,rfl⟩
theorem Zau3{t k e:TypeId}{x y:Operand}{l:Nat}{ag:Bool}{es:List (Int×List Zb)}{zs:List Zb}{n:Int}(ho:o.op = .lookup t x y false)(ht:P.underlying t=some (.map k e))(hk:P.underlying k=some (.int .i64))(hz:Zt7 P ag e=some zs)
 (hx:Zi ρ x=some (.own l .map)) (hy:Zi ρ y=some (.t (.int .i64 n))) (hg0:get σ0 l=some (.map (.v ag) es)):OpF P o ρ σ0 [l] [] (mvP ag (mlk es n zs).1) []:=
 opFn fun G β n' tm σ A w hop hnd hfr hr=>by
  have hg:get σ l=some (.map (.v ag) es):=(hnd l (by simp)).trans hg0
  have e1:=hop x _ (by simp [ho,Op.operands]) hx
  have e2:=hop y _ (by simp [ho,Op.operands]) hy
  simp only [VR,Zx] at e2
  obtain⟨b,ents,clock,hb,hv,hm,he⟩:=Z88 hr hg e1
  obtain⟨v,h1,h2⟩:=Z93 ht hk hz w hm he n false
  refine⟨v,w,?_,β,hr,h2⟩
  simp only [execOp,ho,hv,e2,Sem.run_bind,h1,Result.andThen_ok,Sem.run_pure]
  rfl
theorem Za0b{t:TypeId}{k e:TypeId}{x:Operand}{l:Nat}{ag:Bool}{es:List (Int×List Zb)}(ho:o.op = .call { callee := .builtin .len,args := #[x],argTypes := #[t] })(ht:P.underlying t=some (.map k e))
 (hx:Zi ρ x=some (.own l .map)) (hg0:get σ0 l=some (.map (.v ag) es)):OpF P o ρ σ0 [l] [] (.t (.int .i64 es.length)) []:=
 opFn fun G β n' tm σ A w hop hnd hfr hr=>by
  have hg:get σ l=some (.map (.v ag) es):=(hnd l (by simp)).trans hg0
  have e1:=hop x _ (by simp [ho,Op.operands,Call.operands]) hx
  obtain⟨b,ents,clock,hb,hv,hm,he⟩:=Z88 hr hg e1
  refine⟨.int .i64 es.length,w,?_,β,hr,by simp only [VR,Zx]⟩
  have hl:(Builtin.len_ #[t] o.type #[.map (some b)]).run P w = .ok (.int .i64 es.length) w:=by
   rw [<- he.length]
   simp [Builtin.len_,run_underlying ht,MapKept.run_getObj_map hm,goInt]
  simp only [execOp,ho,resolve,invoke,builtin,Sem.run_bind,Sem.run_pure,Result.andThen_ok,List.map_toArray,List.map_cons,List.map_nil,hv,hl]
end
section
variable {P:Program} {o:Oper} {n:Nat} {tm:List (Nat×PV)} {σ:List (Nat×Blk)}
theorem Zal9{t k e:TypeId}{x y z:Operand}{l:Nat}{ag:Bool}{es:List (Int×List Zb)}{i:Int}{p:PV}{ts:List Zb}(ho:o.op = .mapUpdate t x y z)(hd:o.dst=none)(ht:P.underlying t=some (.map k e))(hk:P.underlying k=some (.int .i64))
 (hx:Zi tm x=some (.own l .map)) (hy:Zi tm y=some (.t (.int .i64 i))) (hz:Zi tm z=some p) (hp:p=mvP ag ts) (hg:get σ l=some (.map (.v ag) es)):Zvr P o ⟨n,tm,σ⟩ ⟨n,tm,put σ l (.map (.v ag) (Zhf es i ts))⟩:=
 opup fun G β A w hop hr=>by
  subst hp
  have e1:=hop x _ hx
  have e2:=hop y _ hy
  have e3:=hop z _ hz
  simp only [VR,Zx] at e2
  obtain⟨b,ents,clock,hb,hv,hm,he⟩:=Z88 hr hg e1
  have hkey:MapKept.IsKey (.int .i64) (.int .i64 i):=rfl
  have main:∀ ents' clock',(∀ c':Ctx,(∀ q,(ctx G β w σ).I q->c'.I q/\c'.w.heap[q]?=(ctx G β w σ).w.heap[q]?)->Zho c' ag ents'.toList (Zhf es i ts)) ->
   (Instr.mapUpdate t (.map (some b)) (.int .i64 i) (A.eval z)).run P w = .ok () { w with heap:=w.heap.setIfInBounds b (.map ents' clock') } ->
   ∃ v w',((execOp A.eval o).run P w = .ok (.value v) w'\/((execOp A.eval o).run P w = .ok .skip w'/\v=undef))/\∃ β',Zaw G β' ⟨n,tm,put σ l (.map (.v ag) (Zhf es i ts))⟩ (A.put o.dst v) w':=by
   intro ents' clock' hE hrun
   obtain⟨hs1,hs2⟩:=MapKept.heap_set (o':=Obj.map ents' clock') hm
   have habs:=Ziz hr { w with heap:=w.heap.setIfInBounds b (.map ents' clock') } (some b) l (.map (.v ag) (Zhf es i ts)) [l] (by simp) rfl rfl rfl (by simp)
    (fun b2 _ hn=>hs2 b2 (fun e=>hn l _ (by simp) hg (by rw [e];exact .inl hb))) (fun c hc => .inr ⟨l,_,by simp,hg,?_⟩) (.inl ?_) (fun hI=>⟨b,ents',clock',Z4 _ _ _,hs1,hE _ (fun q hq=>hI q hq)⟩)
   .refine⟨undef,{ w with heap:=w.heap.setIfInBounds b (.map ents' clock') },.inr ⟨?_,rfl⟩,Zbh β l (some b),?_⟩
    .simp only [execOp,ho,hv,e2,Sem.run_bind,hrun,Result.andThen_ok,Sem.run_pure]
    .rw [hd];exact habs
   .have:=Z3.flat (o := .map (.v ag) _) trivial hc
    rw [Z4] at this;cases this
    exact .inl hb
   .have hgs:get (ctx G (Zbh β l (some b)) { w with heap:=w.heap.setIfInBounds b (.map ents' clock') } ((l,.map (.v ag) (Zhf es i ts))::Za5 [l] σ)).σ l=some (.map (.v ag) (Zhf es i ts)):=by simp [ctx,PW.get]
    refine⟨fun k' es' h=>?_,fun cs' h=>?_,fun k' q' es' h=>?_,fun k' es' h=>?_,fun k' i' es' cs' h=>?_,fun h' h=>?_,fun k' i' r' es' h=>?_⟩
    .rw [hgs] at h;cases h
    .rw [hgs] at h;cases h
    .rw [hgs] at h;cases h
    .rw [hgs] at h;cases h
     exact⟨_,es,hg,by show Zbh β l (some b) l=β l;rw [Z4];exact hb.symm⟩
    .rw [hgs] at h;cases h
    .rw [hgs] at h;cases h
    .rw [hgs] at h;cases h
  rcases he.find (n:=i) 0 with ⟨h1,h2,h3⟩ | ⟨ts0,j,e2',h1,h2,h3,h4,h5,h6⟩
  .refine main (ents.push { key := .int .i64 i,val:=A.eval z,born:=clock }) (clock+1) (fun c' hI=>?_) ?_
   .rw [Array.toList_push]
    exact Zho.step hI (h3 _ rfl ts e3)
   .simp only [Instr.mapUpdate,Sem.run_bind,run_underlying ht,Result.andThen_ok,MapKept.run_getObj_map hm,MapKept.run_checkKey hk hkey,MapKept.run_findKey hk h2,MapKept.run_setObj_map _ hm]
  .refine main (ents.modify j fun x=>{ x with key := .int .i64 i,val:=A.eval z }) clock (fun c' hI=>?_) ?_
   .rw [Array.toList_modify]
    exact Zho.step hI (h6 _ (fun _ _=>rfl) ts (fun _=>e3))
   .have hej:((ents[j]?).map (·.key)).getD (.int .i64 i) = .int .i64 i:=by
     rw [<- Array.getElem?_toList,h3,Option.map_some,Option.getD_some,h4]
    rw [Nat.zero_add] at h2
    simp only [Instr.mapUpdate,Sem.run_bind,run_underlying ht,Result.andThen_ok,MapKept.run_getObj_map hm,MapKept.run_checkKey hk hkey,MapKept.run_findKey hk h2,hej,MapKept.run_keyThatStays hkey,MapKept.run_setObj_map _ hm]
end
end Go.PW
namespace Go.PW
open Go.RowKit
mutual
def PV.mo(l:Nat):PV->Bool
 | .t _=>true
 | .nils=>true
 | .osl m _ => !Nat.beq m l
 | .bptr m _ => !Nat.beq m l
 | .rptr m _ _ _ => !Nat.beq m l
 | .vptr _=>true
 | .agg cs=>PV.moAll l cs
 | .tup cs=>PV.moAll l cs
 | .fn _ cs=>PV.moAll l cs
 | .own _ (.msl _)=>true
 | .own m _ => !Nat.beq m l
def PV.moAll(l:Nat):List PV->Bool
 | []=>true
 | p::ps=>p.mo l&&PV.moAll l ps
end
def Blk.mo(l:Nat):Blk->Bool
 | .box cs=>PV.moAll l cs
 | .prow _ _ _ _=>false
 | .xrow _ _ _ _=>false
 | _=>true
def Zzx(l:Nat):List (Nat×PV)->List (Nat×PV)
 | []=>[]
 | (i,p)::r=>bif p.mo l then (i,p)::Zzx l r else Zzx l r
theorem Zzy{l:Nat}:∀ {tm:List (Nat×PV)} {i:Nat} {p:PV},(i,p)∈Zzx l tm->(i,p)∈tm/\p.mo l=true
 | [],_,_,h=>by cases h
 | (j,q)::r,i,p,h=>by
  simp only [Zzx] at h
  cases hb:q.mo l with
  | false=>simp only [hb,cond_false] at h;have:=Zzy h;exact⟨List.mem_cons_of_mem _ this.1,this.2⟩
  | true=>
   simp only [hb,cond_true] at h
   rcases List.mem_cons.1 h with h | h
   .cases h;exact⟨by simp,hb⟩
   .have:=Zzy h;exact⟨List.mem_cons_of_mem _ this.1,this.2⟩
section
variable {c c':Ctx} {l:Nat}
theorem Zrl{m l:Nat}(h:(!Nat.beq m l)=true):m≠l:=fun e=>by subst e;simp at h
mutual
theorem VR.stepM(hI:∀ b,c.I b->c'.I b/\c'.w.heap[b]?=c.w.heap[b]?)(hL:∀ m,m≠l->Zac c c' m)(hM:∀ n v,ODR c l v (.msl n)->ODR c' l v (.msl n)):∀ (p:PV) (v:Value),p.mo l=true->VR c p v->VR c' p v
 | .t x,v,_,h=>VR.step hI (.t x) v (fun _ h=>by simp [PV.has] at h) h
 | .nils,v,_,h=>h
 | .osl m n,v,hm,h=>VR.step hI (.osl m n) v (fun q hq=>hL q (by rw [<- (Zu _ _).1 hq];exact Zrl hm)) h
 | .bptr m n,v,hm,h=>VR.step hI (.bptr m n) v (fun q hq=>hL q (by rw [<- (Zu _ _).1 hq];exact Zrl hm)) h
 | .rptr m n i o,v,hm,h=>VR.step hI (.rptr m n i o) v (fun q hq=>hL q (by rw [<- (Zu _ _).1 hq];exact Zrl hm)) h
 | .vptr cs,v,_,h=>VR.step hI (.vptr cs) v (fun _ h=>by simp [PV.has] at h) h
 | .agg cs,v,hm,h=>by
  simp only [VR] at h⊢
  obtain⟨vs,hv,hs⟩:=h
  exact⟨vs,hv,VRs.stepM hI hL hM cs vs hm hs⟩
 | .tup cs,v,hm,h=>by
  simp only [VR] at h⊢
  obtain⟨vs,hv,hs⟩:=h
  exact⟨vs,hv,VRs.stepM hI hL hM cs vs hm hs⟩
 | .fn f cs,v,hm,h=>by
  simp only [VR] at h⊢
  obtain⟨vs,hv,hs⟩:=h
  exact⟨vs,hv,VRs.stepM hI hL hM cs vs hm hs⟩
 | .own m d,v,hm,h=>by
  by_cases e:m=l
  .subst e
   cases d with
   | msl n=>simp only [VR] at h⊢;exact⟨hM n v h.1,h.2⟩
   | _=>exact absurd rfl (Zrl hm)
  .exact VR.step hI (.own m d) v (fun q hq=>hL q (by rw [<- (Zu _ _).1 hq];exact e)) h
theorem VRs.stepM(hI:∀ b,c.I b->c'.I b/\c'.w.heap[b]?=c.w.heap[b]?)(hL:∀ m,m≠l->Zac c c' m)(hM:∀ n v,ODR c l v (.msl n)->ODR c' l v (.msl n)):∀ (ps:List PV) (vs:List Value),PV.moAll l ps=true->VRs c ps vs->VRs c' ps vs
 | [],_,_,h=>h
 | p::ps,vs,hm,h=>by
  simp only [PV.moAll,Bool.and_eq_true] at hm
  simp only [VRs] at h⊢
  obtain⟨v,rest,rfl,hv,hr⟩:=h
  exact⟨v,rest,rfl,VR.stepM hI hL hM p v hm.1 hv,VRs.stepM hI hL hM ps rest hm.2 hr⟩
end
theorem BR.stepM(hI:∀ b,c.I b->c'.I b/\c'.w.heap[b]?=c.w.heap[b]?)(hL:∀ m,m≠l->Zac c c' m)(hM:∀ n v,ODR c l v (.msl n)->ODR c' l v (.msl n)){q:Nat}{o:Blk}(hβ:c'.β q=c.β q)(hh:∀ b,Z3 c.β c.w q o b->c'.w.heap[b]?=c.w.heap[b]?)
 (hm:o.mo l=true) (h:BR c q o):BR c' q o:=by
 cases o with
 | box ps=>
  obtain⟨b,vs,h1,h2,h3,h4,h5⟩:=h
  have hb:=hh b (.inl h1)
  exact⟨b,vs,hβ.trans h1,h2.of_heap hb,fun j v hj=>(World.cell?_of_block (w:=c.w) hb).trans (h3 j v hj),VRs.stepM hI hL hM ps vs hm h4,h5⟩
 | row k es=>exact BR.step hI hβ hh (fun _ h=>by simp [Blk.has] at h) h
 | mat k q es=>exact BR.step hI hβ hh (fun _ h=>by simp [Blk.has] at h) h
 | map ag es=>exact BR.step hI hβ hh (fun _ h=>by simp [Blk.has] at h) h
 | prow k i es cs=>cases hm
 | reg h0=>exact BR.step hI hβ hh (fun _ h=>by simp [Blk.has] at h) h
 | xrow k i r es=>cases hm
end
section
variable {P:Program} {o:Oper} {ρ:List (Nat×PV)} {σ:List (Nat×Blk)}
theorem Zau4{t:TypeId}{x:Operand}{e:TypeId}{l m k q:Nat}{es:List (List Zb)}(ho:o.op = .call { callee := .builtin .len,args := #[x],argTypes := #[t] })(hT:P.underlying t=some (.slice e))
 (hx:Zi ρ x=some (.own l (.msl m))) (hg:get σ l=some (.mat k q es)) (hm:es.length=m):Za3 P o ρ σ [l] (.t (.int .i64 m)) []:=
 Zb9 fun G β n tm σ' A w hop hneed _=>by
  have h1:=hop x _ (by simp [ho,Op.operands,Call.operands]) hx
  simp only [VR] at h1
  obtain⟨a,cap,hv,_⟩:=(h1.1 k q es (by rw [<- hg];exact hneed l (by simp))).2 hm.symm
  exact⟨.int .i64 m,by simp [execOp,ho,resolve,invoke,builtin,Builtin.len_,hv,run_underlying hT,goInt],by simp [VR,Zx]⟩
end
section
variable {P:Program} {o:Oper} {ρ:List (Nat×PV)} {σ:List (Nat×Blk)}
theorem Zast{t:TypeId}{x:Operand}{l m j i:Nat}{es inner:List (List Zb)}{z:Zb}(ho:o.op = .load t x)(hT:TyF P t false 1)(hx:Zi ρ x=some (.own l (.mel m j i)))(hg:get σ l=some (.mat 1 0 es))(hm:es.length=m)(he:es[j]?=some [.sl inner])(hi:inner[i]?=some [z])(hz:z.scal=true):Za3 P o ρ σ [l] (.t z) []:=
 Zb9 fun G β n tm σ' A w hop hneed hr=>by
  have e1:=hop x _ (by simp [ho,Op.operands]) hx
  simp only [VR] at e1⊢
  have hgl:get σ' l=some (.mat 1 0 es):=(hneed l (by simp)).trans hg
  obtain⟨b,d,len,cap,hb,hcell,hv⟩:=(e1.1.2 1 0 es hgl).2 hm.symm
  rw [Nat.mul_one,Nat.add_zero] at hcell
  rcases Zgj.of (hr.blk l _ hgl) with ⟨hb',_⟩ | ⟨b',sz,vs,hb',hrow,hsz,hmat⟩
  .exact absurd (hb'.symm.trans hb) (by simp)
  have:b'=b:=by have:=hb'.symm.trans hb;simpa using this
  subst this
  have hjl:j < es.length:=(List.getElem?_eq_some_iff.1 he).1
  have hvj:vs[j]?=some (vs[j]'(by rw [hmat.len];exact hjl)):=List.getElem?_eq_getElem _
  obtain⟨inner',a,cap',g1,g2,g3,g4,g5,g6⟩:=hmat.inn j _ _ he hvj
  have hc:=hmat.cell j _ hvj
  cases g1
  have hc:w.cell? ⟨b',j,none⟩=_:=hc
  have hcell:w.cell? ⟨b',j,none⟩=_:=hcell
  rw [g2,hcell] at hc
  have hil:=(List.getElem?_eq_some_iff.1 hi).1
  rcases g6 with g6 | ⟨d',sz',k1,k2,k3,k4,k5⟩
  .subst g6;simp at hil
  rw [k1] at hc
  cases hc
  have hk:∀ el,el∈inner->el.length=1:=fun el hel=>by obtain⟨t,rfl,_⟩:=g5 el hel;rfl
  have h5:=k5.get i _ hk hi
  simp only [Z1,and_true,Nat.zero_add,Nat.mul_one] at h5
  obtain⟨c,h6,h7⟩:=h5
  have h6:w.cell? ⟨d,i,none⟩=some c:=h6
  refine⟨c,?_,Zx.scal hz h7⟩
  have hrun:(Instr.loadAt t (.pointer (some ⟨d,i,none⟩))).run P w = .ok c w:=by
   simp [Instr.loadAt,Instr.sureAddr,loadVar,hT.run_isAgg w,h6]
  simp only [execOp,ho,hv,Sem.run_bind,hrun,Result.andThen_ok,Sem.run_pure]
end
section
variable {P:Program} {o:Oper} {n:Nat} {tm:List (Nat×PV)} {σ:List (Nat×Blk)}
theorem Zaqo{t:TypeId}{x y:Operand}{l m j l2 n2:Nat}{es es2:List (List Zb)}(ho:o.op = .store t x y)(hd:o.dst=none)(hT:TyF P t false 1)(hx:Zi tm x=some (.own l (.mpt m j 0)))(hy:Zi tm y=some (.osl l2 n2))
 (hg:get σ l=some (.mat 1 0 es)) (hm:es.length=m) (hj:j < m) (hg2:get σ l2=some (.row 1 es2)) (hm2:es2.length=n2) (hsc:SC1 es2) (hll:l≠l2) (hσ:(σ.all fun q=>q.2.mo l)=true) (hon:Zxf tm=true) :
 Zvr P o ⟨n,tm,σ⟩ ⟨n,Zzx l tm,(l,.mat 1 0 (es.set j [.sl es2]))::Za5 [l,l2] σ⟩:=
 opup fun G β A w hop hr=>by
  have e1:=hop x _ hx
  have e2:=hop y _ hy
  have e2v:=e2
  simp only [VR] at e1 e2
  obtain⟨b,hb,hv⟩:=(e1.1 1 0 es hg).2 hm.symm
  rw [Nat.mul_one,Nat.add_zero] at hv
  obtain⟨ad,cap,hv2,hic,hcm,hin⟩:=Zai9 hr hg2 hm2 e2.1 hsc
  rcases Zgj.of (hr.blk l _ hg) with ⟨hb',_⟩ | ⟨b',sz,vs,hb',hrow,hsz,hmat⟩
  .exact absurd (hb'.symm.trans hb) (by simp)
  have:b'=b:=by have:=hb'.symm.trans hb;simpa using this
  subst this
  have hmat:Zgj w b' es vs:=hmat
  have hb:β l=some b':=hb
  have hjl:j < es.length:=by omega
  have hjv:j < vs.length:=by rw [hmat.len];exact hjl
  have hstore:=Zhq (P:=P) (c:=ctx G β w σ) hT w e2v (by simp [Zz]) (by simp [Zz,PV.one]) hrow (q:=j) (by omega)
  have hcv:(A.eval y).cells.toList=[A.eval y]:=by rw [hv2];rfl
  rw [hcv] at hstore
  have hoth:∀ d2,d2≠b'->(w.setCells b' j [A.eval y]).heap[d2]?=w.heap[d2]?:=fun d2 h=>Zc7 b' [A.eval y] j w d2 h
  have hOd2:∀ d,β l2=some d->d≠b':=fun d h e=>by subst e;exact hll (hr.inj l l2 _ _ d hg hg2 (.inl hb) (.inl h))
  have hmatN:Zgj (w.setCells b' j [A.eval y]) b' (es.set j [.sl es2]) (vs.set j (A.eval y)):=by
   refine⟨by simpa using hmat.len,fun q v hq=>?_,fun q e v he hq=>?_,fun i k d l1 l1' c c' h1 h2 hl1 hl2=>?_⟩
   .by_cases hqj:q=j
    .subst hqj
     rw [List.getElem?_set_self hjv] at hq
     cases hq
     have:=World.cell?_setCells_in b' [A.eval y] q w (fun k hk=>by
      have hk0:k=0:=by simpa using hk
      rw [hk0,Nat.add_zero,hmat.cell q _ (List.getElem?_eq_getElem hjv)];rfl) 0 (by simp)
     simpa using this
    .rw [List.getElem?_set_ne (fun e=>hqj e.symm)] at hq
     rw [World.cell?_setCells_out b' [A.eval y] j w ⟨b',q,none⟩ (fun _ _=>by simp;omega)]
     exact hmat.cell q v hq
   .by_cases hqj:q=j
    .subst hqj
     rw [List.getElem?_set_self hjv] at hq
     rw [List.getElem?_set_self hjl] at he
     cases he;cases hq
     refine⟨es2,ad,cap,rfl,hv2,hic,hcm,hsc,hin.imp id fun⟨d,s2,g1,g2,g3,g4,g5⟩=>?_⟩
     have hne:=hOd2 d g2
     exact⟨d,s2,g1,hne,g3.of_heap (hoth d hne),g4,Zm.mono' (hoth d hne) hsc g5⟩
    .rw [List.getElem?_set_ne (fun e=>hqj e.symm)] at he hq
     obtain⟨inn,a2,cap2,f1,f2,f3,f4,f5,f6⟩:=hmat.inn q e v he hq
     refine⟨inn,a2,cap2,f1,f2,f3,f4,f5,f6.imp id fun⟨d2,s2,m1,m2,m3,m4,m5⟩=>?_⟩
     exact⟨d2,s2,m1,m2,m3.of_heap (hoth d2 m2),m4,Zm.mono' (hoth d2 m2) f5 m5⟩
   .have hne:∀ (q d l1 c:Nat),(vs.set j (A.eval y))[q]?=some (Value.slice (some ⟨d,0,none⟩) l1 c)->l1≠0->q≠j->Z3 β w l (.mat 1 0 es) d:=fun q d l1 c h hl hq=>by
     rw [List.getElem?_set_ne (fun e=>hq e.symm)] at h
     exact .inr ⟨b',hb,hmat.subs.2 ⟨q,l1,c,h,hl⟩⟩
    have hj1:∀ (d l1 c:Nat),(vs.set j (A.eval y))[j]?=some (Value.slice (some ⟨d,0,none⟩) l1 c)->l1≠0->β l2=some d:=fun d l1 c h hl=>by
     rw [List.getElem?_set_self hjv,hv2] at h
     simp only [Option.some.injEq,Value.slice.injEq] at h
     rcases hin with hin | ⟨d',s2,g1,g2,_⟩
     .subst hin;exact absurd h.2.1.symm hl
     .rw [g1] at h;have h1:=h.1;simp only [Option.some.injEq,Addr.mk.injEq] at h1;rw [<- h1.1];exact g2
    by_cases hi:i=j
    .by_cases hk:k=j
     .rw [hi,hk]
     .subst hi
      exact absurd (hr.inj l l2 _ _ d hg hg2 (hne k d l1' c' h2 hl2 hk) (.inl (hj1 d l1 c h1 hl1))) hll
    .by_cases hk:k=j
     .subst hk
      exact absurd (hr.inj l l2 _ _ d hg hg2 (hne i d l1 c h1 hl1 hi) (.inl (hj1 d l1' c' h2 hl2))) hll
     .rw [List.getElem?_set_ne (fun e=>hi e.symm)] at h1
      rw [List.getElem?_set_ne (fun e=>hk e.symm)] at h2
      exact hmat.dis i k d l1 l1' c c' h1 h2 hl1 hl2
  have hr0:Zaw G β ⟨n,Zzx l tm,σ⟩ A w:=
   { defers:=hr.defers,sz:=hr.sz,base:=hr.base,os:=hr.os,tape:=hr.tape,output:=hr.output,old:=hr.old,A:=hr.A,gl:=hr.gl,inj:=hr.inj,sep:=hr.sep,fix:=hr.fix,row0:=hr.row0,blk:=hr.blk,
     tm:=fun i p hp=>hr.tm i p (Zrk hon (Zzy (Zgu hp)).1) }
  have hmo:∀ i p,get (Zzx l tm) i=some p->p.mo l=true:=fun i p hp=>(Zzy (Zgu hp)).2
  have habs:=Zxg hr0 (w.setCells b' j [A.eval y]) (some b') l (.mat 1 0 (es.set j [.sl es2])) [l,l2] (by rw [Zf9];exact Nat.le_refl _) (Zga b' _ j w).1 (Zga b' _ j w).2.1 (Zga b' _ j w).2.2 (by simp)
   (fun b2 _ hn=>hoth b2 (fun e=>hn l _ (by simp) hg (by rw [e];exact .inl hb))) (fun c hc => .inr ?_) (fun hI hL=>?_) (fun _=>hmatN.br (Z4 _ _ _) (Zb0 b' [A.eval y] j w hrow) (by simpa using hsz))
  .refine⟨undef,w.setCells b' j [A.eval y],.inr ⟨?_,rfl⟩,Zbh β l (some b'),?_⟩
   .simp only [execOp,ho,hv,Sem.run_bind,hstore,Result.andThen_ok,Sem.run_pure]
   .rw [hd];exact habs
  .rcases hc with hc | ⟨b0,f2,f3⟩
   .rw [Z4] at hc;cases hc
    exact⟨l,_,by simp,hg,.inl hb⟩
   .rw [Z4] at f2;cases f2
    obtain⟨q,l',c',hv',hl'⟩:=hmatN.subs.1 f3
    by_cases hqj:q=j
    .subst hqj
     rw [List.getElem?_set_self hjv,hv2] at hv'
     simp only [Option.some.injEq,Value.slice.injEq] at hv'
     rcases hin with hin | ⟨d',s2,g1,g2,_⟩
     .subst hin;exact absurd hv'.2.1.symm hl'
     .rw [g1] at hv';have h1:=hv'.1;simp only [Option.some.injEq,Addr.mk.injEq] at h1
      exact⟨l2,_,by simp,hg2,.inl (by rw [<- h1.1];exact g2)⟩
    .rw [List.getElem?_set_ne (fun e=>hqj e.symm)] at hv'
     exact⟨l,_,by simp,hg,.inr ⟨b',hb,hmat.subs.2 ⟨q,l',c',hv',hl'⟩⟩⟩
  .have hgs:get (ctx G (Zbh β l (some b')) (w.setCells b' j [A.eval y]) ((l,.mat 1 0 (es.set j [.sl es2]))::Za5 [l,l2] σ)).σ l=some (.mat 1 0 (es.set j [.sl es2])):=by simp [ctx,PW.get]
   have hM:∀ k v,ODR (ctx G β w σ) l v (.msl k)->ODR (ctx G (Zbh β l (some b')) (w.setCells b' j [A.eval y]) ((l,.mat 1 0 (es.set j [.sl es2]))::Za5 [l,l2] σ)) l v (.msl k):=fun k v h k1 q1 es1 hg1=>by
    rw [hgs] at hg1;cases hg1
    obtain⟨h1,h2⟩:=h 1 0 es hg
    rw [List.length_set]
    refine⟨h1,fun hk=>?_⟩
    obtain⟨a,cp,g1,g2,g3,g4⟩:=h2 hk
    refine⟨a,cp,g1,g2,g3,?_⟩
    rcases g4 with ⟨_,g5⟩ | ⟨b2,m2,g5,g6,g7,g8⟩
    .exact absurd (g5.symm.trans hb) (by simp)
    .exact .inr ⟨b2,m2,g5,by show Zbh β l (some b') l=_;rw [Z4,<- hb];exact g6,Zb0 b' [A.eval y] j w g7,g8⟩
   exact⟨fun i p v hp hv=>VR.stepM hI hL hM p v (hmo i p hp) hv,fun q o hq hgq hk hbq=>BR.stepM hI hL hM (Zci β _ hq) hk (List.all_eq_true.1 hσ _ (Zgu hgq)) hbq⟩
end
def toM(l:Nat):List (Nat×PV)->List (Nat×PV)
 | []=>[]
 | (i,p)::r=>
  match p with
  | .osl m k=>bif Nat.beq m l then (i,.own l (.msl k))::toM l r else (i,.osl m k)::toM l r
  | p=>bif p.has l then toM l r else (i,p)::toM l r
theorem Zary{l:Nat}:∀ {tm:List (Nat×PV)} {i:Nat} {p:PV},(i,p)∈toM l tm->(∃ k,p = .own l (.msl k)/\(i,.osl l k)∈tm)\/((i,p)∈tm/\p.has l=false)
 | [],_,_,h=>by cases h
 | (j,q)::r,i,p,h=>by
  have up:(i,p)∈toM l r->(∃ k,p = .own l (.msl k)/\(i,.osl l k)∈(j,q)::r)\/((i,p)∈(j,q)::r/\p.has l=false):=fun h=>by
   rcases Zary h with ⟨k,h1,h2⟩ | ⟨h1,h2⟩
   .exact .inl ⟨k,h1,List.mem_cons_of_mem _ h2⟩
   .exact .inr ⟨List.mem_cons_of_mem _ h1,h2⟩
  simp only [toM] at h
  split at h
  .rename_i m k
   cases hb:Nat.beq m l with
   | true=>
    simp only [hb,cond_true] at h
    have hm:=(Zu _ _).1 hb
    subst hm
    rcases List.mem_cons.1 h with h | h
    .cases h;exact .inl ⟨k,rfl,by simp⟩
    .exact up h
   | false=>
    simp only [hb,cond_false] at h
    rcases List.mem_cons.1 h with h | h
    .cases h;exact .inr ⟨by simp,hb⟩
    .exact up h
  .cases hb:q.has l with
   | true=>simp only [hb,cond_true] at h;exact up h
   | false=>
    simp only [hb,cond_false] at h
    rcases List.mem_cons.1 h with h | h
    .cases h;exact .inr ⟨by simp,hb⟩
    .exact up h
theorem Wk.tomat{st:St}{l:Nat}{es:List (List Zb)}(hg:get st.σ l=some (.row 1 es))(he:∀ e,e∈es->e=[Zb.sl []])(hσ:(st.σ.all fun q => !q.2.has l)=true)(hon:Zxf st.tm=true) :
 Wk st ⟨st.n,toM l st.tm,put st.σ l (.mat 1 0 es)⟩:=by
 rintro G a w ⟨β,hr⟩
 obtain⟨n,tm,σ⟩:=st
 have hg:get σ l=some (.row 1 es):=hg
 refine⟨β,?_⟩
 have hgs:get (put σ l (.mat 1 0 es)) l=some (.mat 1 0 es):=Zb4 σ l _
 have hgo:∀ q,q≠l->get (put σ l (.mat 1 0 es)) q=get σ q:=fun q hq=>Zcf σ _ (Ne.symm hq)
 obtain⟨_,hk,hbr⟩:=hr.blk l _ hg
 have hcell:∀ b,β l=some b->∀ j,j < es.length->∃ a cap,w.cell? ⟨b,j*1+0,none⟩=some (.slice a 0 cap):=fun b hb j hj=>by
  rcases hbr with ⟨hb',_⟩ | ⟨b',m,hb',_,_,hel⟩
  .exact absurd (hb'.symm.trans hb) (by simp)
  .have:b'=b:=by have:=hb'.symm.trans hb;simpa using this
   subst this
   have h1:=hel.get j _ hk (List.getElem?_eq_getElem hj)
   rw [he _ (List.getElem_mem hj)] at h1
   simp only [Z1,and_true,Nat.zero_add] at h1
   obtain⟨c,h1,h2⟩:=h1
   simp only [Zx] at h2
   obtain⟨a,cap,rfl,_⟩:=h2
   exact⟨a,cap,by rw [Nat.add_zero];exact h1⟩
 have hns:∀ b d,β l=some b->¬ Subs w b 1 0 es.length d:=fun b d hb ⟨j,hj,len,cap,hl,hc⟩=>by
  obtain⟨a,cap',h1⟩:=hcell b hb j hj
  rw [h1] at hc;cases hc;exact hl rfl
 have hO:∀ q o b,get (put σ l (.mat 1 0 es)) q=some o->Z3 β w q o b->∃ o2,get σ q=some o2/\Z3 β w q o2 b:=fun q o b hq ho=>by
  by_cases hql:q=l
  .subst hql
   have:some o=some (Blk.mat 1 0 es):=Eq.trans (Eq.symm hq) hgs
   cases this
   rcases ho with ho | ⟨b0,h2,h3⟩
   .exact⟨_,hg,.inl ho⟩
   .exact absurd h3 (hns b0 b h2)
  .exact⟨o,by rw [<- hgo q hql];exact hq,ho⟩
 have hI:∀ b,(ctx G β w σ).I b->(ctx G β w (put σ l (.mat 1 0 es))).I b/\(ctx G β w (put σ l (.mat 1 0 es))).w.heap[b]?=(ctx G β w σ).w.heap[b]?:=fun b hb=>
  ⟨⟨hb.1,hb.2.1,fun q o hq ho=>by obtain⟨o2,h1,h2⟩:=hO q o b hq ho;exact hb.2.2 q o2 h1 h2⟩,rfl⟩
 have hL:∀ q,q≠l->Zac (ctx G β w σ) (ctx G β w (put σ l (.mat 1 0 es))) q:=fun q hq=>Zac.same (hgo q hq) rfl (fun _ _ _ _=>rfl)
 exact
  { defers:=hr.defers,sz:=hr.sz,base:=hr.base,os:=hr.os,tape:=hr.tape,output:=hr.output,old:=hr.old,A:=hr.A,gl:=hr.gl,
    inj:=fun q q' o o' b hq hq' hb hb'=>by
     obtain⟨o1,h1,h2⟩:=hO q o b hq hb
     obtain⟨o2,h3,h4⟩:=hO q' o' b hq' hb'
     exact hr.inj q q' o1 o2 b h1 h3 h2 h4,
    sep:=fun q o b hq hb=>by obtain⟨o1,h1,h2⟩:=hO q o b hq hb;exact hr.sep q o1 b h1 h2,
    fix:=fun q cs hq1 hq=>by
     by_cases hql:q=l
     .subst hql
      have:some (Blk.box cs)=some (Blk.mat 1 0 es):=Eq.trans (Eq.symm hq) hgs
      cases this
     .exact hr.fix q cs hq1 (by rw [<- hgo q hql];exact hq),
    row0:=fun q k es' hq hg=>by
     by_cases hql:q=l
     .subst hql
      have:some (Blk.row k es')=some (Blk.mat 1 0 es):=Eq.trans (Eq.symm hg) hgs
      cases this
     .exact hr.row0 q k es' hq (by rw [<- hgo q hql];exact hg),
    blk:=fun q ob hq=>by
     by_cases hql:q=l
     .subst hql
      have:some ob=some (Blk.mat 1 0 es):=Eq.trans (Eq.symm hq) hgs
      cases this
      refine⟨Nat.zero_lt_one,hk,?_⟩
      rcases hbr with h1 | ⟨b,m,h1,h2,h3,h4⟩
      .exact .inl h1
      .refine .inr ⟨b,m,h1,h2,h3,Zm.mono (fun d hd=>⟨.inl (hI d hd).1,rfl⟩) rfl _ _ h4,fun i j d len len' cap cap' hi _ hl _ hc _=>?_,fun j e hj=>?_⟩
       .obtain⟨a,cp,h5⟩:=hcell b h1 i hi
        have hc:w.cell? _=_:=hc
        rw [h5] at hc;cases hc;exact absurd rfl hl
       .have hj':=(List.getElem?_eq_some_iff.1 hj).1
        obtain⟨a,cp,h5⟩:=hcell b h1 j hj'
        have:=he e (List.mem_of_getElem? hj)
        subst this
        exact⟨[],a,0,cp,rfl,by simp,h5,fun h=>absurd rfl h⟩
     .have hq':get σ q=some ob:=by rw [<- hgo q hql];exact hq
      refine BR.step hI rfl (fun _ _=>rfl) (fun m hm=>hL m (fun e=>?_)) (hr.blk q ob hq')
      subst e
      have:=List.all_eq_true.1 hσ _ (Zgu hq')
      rw [hm] at this
      exact absurd this (by decide),
    tm:=fun j p hp=>by
     rcases Zary (Zgu hp) with ⟨k,rfl,h1⟩ | ⟨h1,h2⟩
     .have h3:=hr.tm j _ (Zrk hon h1)
      refine⟨h3.1,?_⟩
      have h4:=h3.2
      simp only [VR] at h4⊢
      obtain⟨h4,a,m,cp,h5⟩:=h4
      refine⟨fun k' q' es' hg'=>?_,by rw [h5];rfl⟩
      have:some (Blk.mat k' q' es')=some (Blk.mat 1 0 es):=Eq.trans (Eq.symm hg') hgs
      cases this
      exact h4 1 es hg
     .have h3:=Zrk hon h1
      exact⟨(hr.tm j p h3).1,VR.step hI p _ (fun m hm=>hL m (fun e=>by subst e;rw [h2] at hm;cases hm)) (hr.tm j p h3).2⟩ }
def Z35:Value->Zb
 | .bool b => .bool b
 | .int k n => .int k n
 | .string s => .str s.data.toList
 | v => .con v
theorem Zasu(c:Value):(Z35 c).scal=true:=by unfold Z35;split<;>rfl
theorem Zasv{J:Nat->Prop}{w:World}{c:Value}(h:c.oneCell'=true):Zx J w (Z35 c) c:=by
 unfold Z35
 split
 .rfl
 .rfl
 .simp [Zx]
 .rename_i h1 h2 h3
  refine⟨rfl,h,?_⟩
  unfold nsc
  split
  .exact absurd rfl (h1 _)
  .exact absurd rfl (h2 _ _)
  .exact absurd rfl (h3 _)
  .rfl
theorem Zaw4{J:Nat->Prop}{w:World}{c v:Value}(h:Zx J w (Z35 c) v):v=c:=by
 unfold Z35 at h
 split at h
 .exact h
 .exact h
 .simpa [Zx] using h
 .exact h.1
theorem Zama{I:Nat->Prop}{w:World}{b:Nat}:∀ (ts:List Zb) (off:Nat),Z1 I w b ts off->∃ us:List Zb,us.length=ts.length/\(∀ x,x∈us->x.scal=true)/\(∀ J,Z1 J w b us off) /\
 ∀ {J I':Nat->Prop} {w':World} {b' off':Nat},Z1 J w' b' us off'->(∀ c,I c->I' c/\w'.heap[c]?=w.heap[c]?)->Z1 I' w' b' ts off'
 | [],_,_=>⟨[],rfl,by simp,fun _=>trivial,fun _ _=>trivial⟩
 | t::ts,off,h=>by
  simp only [Z1] at h
  obtain⟨⟨c,hc,ht⟩,h⟩:=h
  obtain⟨us,h1,h2,h3,h4⟩:=Zama ts _ h
  refine⟨Z35 c::us,by simp [h1],fun x hx=>?_,fun J=>⟨⟨c,hc,Zasv ht.oneCell⟩,h3 J⟩,fun {J I' w' b' off'} hu hI=>?_⟩
  .rcases List.mem_cons.1 hx with rfl | hx
   .exact Zasu c
   .exact h2 x hx
  .simp only [Z1] at hu⊢
   obtain⟨⟨c',hc',hv⟩,hu⟩:=hu
   have hv:=Zaw4 hv
   subst hv
   exact⟨⟨_,hc',ht.mono hI⟩,h4 hu hI⟩
theorem Zamb{I:Nat->Prop}{w:World}{b k:Nat}:∀ (es:List (List Zb)) (off:Nat),(∀ el,el∈es->el.length=k)->Zm I w b es off->∃ es':List (List Zb),es'.length=es.length/\(∀ e,e∈es'->e.length=k)/\(∀ e,e∈es'->∀ x,x∈e->x.scal=true)/\(∀ J,Zm J w b es' off) /\
 ∀ {J I':Nat->Prop} {w':World} {b' off':Nat},Zm J w' b' es' off'->(∀ c,I c->I' c/\w'.heap[c]?=w.heap[c]?)->Zm I' w' b' es off'
 | [],_,_,_=>⟨[],rfl,by simp,by simp,fun _=>trivial,fun _ _=>trivial⟩
 | e::es,off,hk,h=>by
  simp only [Zm] at h
  obtain⟨us,a1,a2,a3,a4⟩:=Zama e off h.1
  obtain⟨es',b1,b2,b3,b4,b5⟩:=Zamb es _ (fun x hx=>hk x (List.mem_cons_of_mem _ hx)) h.2
  refine⟨us::es',by simp [b1],fun x hx=>?_,fun x hx=>?_,fun J=>⟨a3 J,by rw [a1];exact b4 J⟩,fun {J I' w' b' off'} hu hI=>?_⟩
  .rcases List.mem_cons.1 hx with rfl | hx
   .rw [a1];exact hk e (by simp)
   .exact b2 x hx
  .rcases List.mem_cons.1 hx with rfl | hx
   .exact a2
   .exact b3 x hx
  .simp only [Zm] at hu⊢
   refine⟨a4 hu.1 hI,?_⟩
   have:=hu.2
   rw [a1] at this
   exact b5 this hI
def Z2u(P:Program)(f:FuncId)(k bytes:Nat):Prop:=∀ es:List (List Zb),(∀ e,e∈es->e.length=k)->es.length*bytes<=140737488355328->FnG P f [] [.t (.sl es)] [(5000,.row k es)] (.osl 5000 es.length)
section
variable {P:Program} {o:Oper} {ρ:List (Nat×PV)} {σ0:List (Nat×Blk)}
theorem Zay3{f:FuncId}{fo x:Operand}{ats:Array TypeId}{l m L k bytes:Nat}{es:List (List Zb)}(hfn:Z2u P f k bytes)(ho:o.op = .call { callee := .value fo,args := #[x],argTypes:=ats })(hfo:Zi ρ fo=some (.fn f []))(hx:Zi ρ x=some (.osl l m))
 (hg0:get σ0 l=some (.row k es)) (hm:es.length=m) (hb:m*bytes<=140737488355328) (hL:L≠l) (h1000:1000<=L):OpF P o ρ σ0 [l] [] (.osl L m) [(L,.row k es)]:=by
 rintro G n tm σ a w K Q hag hnd hnews ⟨β,hr⟩ hK
 have hg:get σ l=some (.row k es):=(hnd l (by simp)).trans hg0
 obtain⟨hf1,hf2⟩:=hnews L (.row k es) (by simp) (by simp)
 have hps:(#[x].toList.mapM (Zi ρ)).map (· ++ ([]:List PV))=some [.osl l m]:=by simp [hx]
 obtain⟨vals,hvs,hrun⟩:=Z31 (P:=P) ho hfo hps hr hag
 simp only [VRs] at hvs
 obtain⟨v,rest,rfl,hv,rfl⟩:=hvs
 simp only [VR] at hv
 obtain⟨ad,cap,hv0,hmc,hcm,h3⟩:=(hv.1 k es hg).2 hm.symm
 obtain⟨hk0,hk,hbr⟩:=hr.blk l _ hg
 have key:∃ es':List (List Zb),es'.length=es.length/\(∀ e,e∈es'->e.length=k)/\(es'=[]\/∃ b,ad=some ⟨b,0,none⟩/\b < w.heap.size/\∀ J,Zm J w b es' 0) /\
  ∀ {J I':Nat->Prop} {w':World} {b':Nat},Zm J w' b' es' 0->(∀ c,(ctx G β w σ).I c->I' c/\w'.heap[c]?=w.heap[c]?)->Zm I' w' b' es 0:=by
  rcases hbr with ⟨_,he⟩ | ⟨b,sz,hb1,hb2,hb3,hel⟩
  .subst he
   exact⟨[],rfl,by simp,.inl rfl,fun _ _=>trivial⟩
  .obtain⟨es',a1,a2,_,a4,a5⟩:=Zamb es 0 hk hel
   refine⟨es',a1,a2,?_,fun h hI=>a5 h hI⟩
   rcases h3 with ⟨hc,_⟩ | ⟨b',sz',ha,hb',_,_⟩
   .exact .inl (List.eq_nil_of_length_eq_zero (by omega))
   .have:b'=b:=by have:=hb'.symm.trans hb1;simpa using this
    subst this
    exact .inr ⟨b',ha,(hr.sep l _ b' hg (.inl hb1)).1,a4⟩
 obtain⟨es',e1,e2,e3,e4⟩:=key
 have hfn':=hfn es' e2 (by rw [e1,hm];exact hb)
 have hent:Zaw (Zey β [] (fun b=>b < w.heap.size) w) β ⟨1,idx 0 [.t (.sl es')],[]⟩ ⟨[v].toArray,[]⟩ w:=by
  refine { defers := rfl, sz := by simp, base := Nat.le_refl _, os := rfl, tape := rfl, output := rfl, old := fun _ _ _ => rfl, A := fun b hb => ⟨hb, fun ⟨i, o, h, _⟩ => by simp [PW.get] at h⟩, gl := fun g q hg => ⟨(hr.glw g q hg).1, fun ⟨i, o, h, _⟩ => by simp [PW.get] at h, (hr.glw g q hg).1, (hr.glw g q hg).2⟩,
           inj:=fun i i' o o' b h=>by simp [PW.get] at h,sep:=fun i o b h=>by simp [PW.get] at h,fix:=fun _ _ _ _=>rfl,row0:=fun l _ _ _ h=>by simp [PW.get] at h,blk:=fun i o h=>by simp [PW.get] at h,tm:=fun i p hp=>?_ }
  rw [Z86] at hp
  match i,hp with
  | 0,hp=>
   simp only [Nat.le_refl,if_true,Nat.sub_self,List.getElem?_cons_zero,Option.some.injEq] at hp
   subst hp
   refine⟨Nat.zero_lt_one,?_⟩
   simp only [VR,Zx]
   refine⟨ad,cap,by rw [e1,hm];exact hv0,by omega,hcm,e3.imp id fun⟨b,h1,h2,h4⟩=>⟨b,0,h1,⟨h2,.inr (.inl h2),fun i o h=>by simp [PW.get] at h⟩,h4 _⟩⟩
  | i+1,hp=>simp at hp
 unfold Oper.wp
 rw [hrun hfn'.1,Oper.upon_enter]
 refine (hfn'.2 (fun b=>b < w.heap.size) β w [v] rfl hent).mono ?_
 rintro e w' ⟨v',β',rfl,hr'⟩
 have hold:∀ b,b < w.heap.size->w'.heap[b]?=w.heap[b]?:=fun b hb=>hr'.old b hb (fun⟨i,o,h,_⟩=>by simp [PW.get] at h)
 have hsz:w.heap.size<=w'.heap.size:=hr'.base
 have hgr:get ([(5000,Blk.row k es')]:List (Nat×Blk)) 5000=some (.row k es'):=by simp [PW.get]
 have habs:=Ziz hr w' (β' 5000) L (.row k es) [] hsz hr'.os hr'.tape hr'.output ⟨by simp,.inl h1000⟩ (fun b hb _=>hold b hb) (fun c hc => .inl ?_) (.inr ⟨hf1,fun m y hy=>(hf2 m y hy).2⟩) (fun hI=>?_)
 .refine hK v' w' ⟨_,habs,?_⟩
  have hres:=(hr'.tm 0 (.osl 5000 es'.length) rfl).2
  simp only [VR] at hres⊢
  refine⟨fun k2 es2 h2=>?_,hres.2⟩
  have:some (Blk.row k2 es2)=some (.row k es):=Eq.trans (Eq.symm h2) (by simp [ctx,PW.get])
  cases this
  refine⟨by omega,fun _=>?_⟩
  obtain⟨a2,cap2,q1,q2,q3,q4⟩:=(hres.1 k es' hgr).2 rfl
  have q1:v' = .slice a2 es'.length cap2:=q1
  refine⟨a2,cap2,by rw [q1,e1,hm],by omega,q3,?_⟩
  rcases q4 with ⟨q5,q6⟩ | ⟨b2,m2,q5,q6,q7,q8⟩
  .exact .inl ⟨q5,by show Zbh β L (β' 5000) L=none;rw [Z4];exact q6⟩
  .exact .inr ⟨b2,m2,q5,by show Zbh β L (β' 5000) L=some b2;rw [Z4];exact q6,q7,q8⟩
 .rcases hc with hc | ⟨b0,_,h1⟩
  .rw [Z4] at hc
   have:=hr'.sep 5000 _ c hgr (.inl hc)
   refine⟨?_,this.1⟩
   rcases this.2 with h | ⟨i,o,h,_⟩
   .exact h
   .simp [PW.get] at h
  .exact h1.elim
 .obtain⟨_,_,hb2⟩:=hr'.blk 5000 _ hgr
  refine⟨hk0,hk,?_⟩
  rcases hb2 with ⟨h1,h2⟩ | ⟨b2,m2,h1,h2,h3,h4⟩
  .refine .inl ⟨by show Zbh β L (β' 5000) L=none;rw [Z4];exact h1,?_⟩
   subst h2
   exact List.eq_nil_of_length_eq_zero (by simpa using e1.symm)
  .exact .inr ⟨b2,m2,by show Zbh β L (β' 5000) L=some b2;rw [Z4];exact h1,h2,by rw [<- e1];exact h3,e4 h4 hI⟩
end
end Go.PW
