import Derived.Test.YtchddhcajpagjaaGreatPwL
import Derived.Laws.Slices
import Derived.Laws.IdiomStrings
import Derived.Laws.Cover3
import Derived.Laws.Pointers
set_option linter.all false
namespace Go.PW
open Go.RowKit
section
variable {P:Program} {o:Oper} {ρ:List (Nat×PV)} {Z:List (Nat×Blk)} {n:Nat} {tm:List (Nat×PV)}
theorem Zr.drop{I:Nat->Prop}{w:World}{b k:Nat}:∀ {es:List (List Zf)} {off:Nat} (l:Nat),Zr I w b es off->(∀ el,el∈es->el.length=k)->l<=es.length->Zr I w b (es.drop l) (off+l*k)
 | es,off,0,h,_,_=>by simpa using h
 | [],off,l+1,h,_,hl=>by simp at hl
 | e::es,off,l+1,h,hk,hl=>by
  simp only [Zr] at h
  have h0:=hk e (by simp)
  have:=Zr.drop (k:=k) l h.2 (fun el hel=>hk el (List.mem_cons_of_mem _ hel)) (by simpa using hl)
  rw [h0] at this
  rwa [List.drop_succ_cons,show off+(l+1)*k=off+k+l*k by rw [Nat.add_mul,Nat.one_mul];omega]
theorem Zr.take{I:Nat->Prop}{w:World}{b:Nat}:∀ {es:List (List Zf)} {off:Nat} (l:Nat),Zr I w b es off->Zr I w b (es.take l) off
 | es,off,0,h=>by simp [Zr]
 | [],off,l+1,h=>by simp [Zr]
 | e::es,off,l+1,h=>by
  simp only [Zr] at h
  simp only [List.take_succ_cons,Zr]
  exact⟨h.1,Zr.take l h.2⟩
def Zqd(ρ:List (Nat×PV))(dflt:Int):Option Operand->Option Int
 | none=>some dflt
 | some x=>match Zp ρ x with | some (.t (.int _ i))=>some i | _=>none
theorem Zol{e:TypeId}{k:Nat}(h:(P.info? e).map (·.size)=some k)(w:World):(sizeOf e).run P w = .ok k w:=by
 cases hi:P.info? e with
 | none=>simp [hi] at h
 | some i=>simp [hi] at h;simp [sizeOf,typeInfo,hi,h]
theorem Za59{t:TypeId}{x:Operand}{lo hi:Option Operand}{k:Nat}{es:List (List Zf)}{l h:Int}(ho:o.op = .slice t x lo hi none)(ha:slInfo P t=some k)(hx:Zp ρ x=some (.t (.sl es)))
 (hl:Zqd ρ 0 lo=some l) (hh:Zqd ρ es.length hi=some h) (hk:∀ el,el∈es->el.length=k) (h0:0<=l) (h1:l<=h) (h2:h<=es.length) :
 Zas P o ρ Z [] (.t (.sl ((es.take h.toNat).drop l.toNat))) []:=
 Zbp fun G β n tm Z' A w hop _ _=>by
  have e1:=hop x _ (by simp [ho,Op.operands]) hx
  simp only [VR,Z0] at e1 ⊢
  obtain⟨a,cap,hv,hlc,hcm,hel⟩:=e1
  unfold slInfo at ha
  split at ha
  case h_2=>cases ha
  rename_i e hu
  have hsz:(P.info? e).map (·.size)=some k:=ha
  have hlo:(lo=none/\l=0)\/∃ y kk,lo=some y/\A.eval y = .int kk l:=by
   cases lo with
   | none=>simp only [Zqd,Option.some.injEq] at hl;exact .inl ⟨rfl,hl.symm⟩
   | some y=>
    simp only [Zqd] at hl
    split at hl
    .rename_i kk i hy
     cases hl
     have:=hop y _ (by simp [ho,Op.operands]) hy
     simp only [VR,Z0] at this
     exact .inr ⟨y,kk,rfl,this⟩
    .cases hl
  have hhi:(hi=none/\h=es.length)\/∃ y kk,hi=some y/\A.eval y = .int kk h:=by
   cases hi with
   | none=>simp only [Zqd,Option.some.injEq] at hh;exact .inl ⟨rfl,hh.symm⟩
   | some y=>
    simp only [Zqd] at hh
    split at hh
    .rename_i kk i hy
     cases hh
     have:=hop y _ (by simp [ho,Op.operands]) hy
     simp only [VR,Z0] at this
     exact .inr ⟨y,kk,rfl,this⟩
    .cases hh
  have hbounds:(Instr.sliceBounds true es.length cap (lo.map A.eval) (hi.map A.eval) none).run P w = .ok (l.toNat,h.toNat,cap) w:=by
   have eh:(h.toNat:Int)=h:=Int.toNat_of_nonneg O
   have hc:h<=(cap:Int):=by omega
   have hh0:0<=h:=by omega
   rcases hlo with ⟨hlo,hl0⟩ | ⟨y,kk,hlo,hy⟩<;>rcases hhi with ⟨hhi,hl1⟩ | ⟨z,kz,hhi,hz⟩
   .have:h.toNat=es.length:=by omega
    simp [Instr.sliceBounds,hlo,hhi,hl0,this]
   .simp [Instr.sliceBounds,hlo,hhi,hl0,hz,run_sliceBound,hh0,hc]
   .have e2:h.toNat=es.length:=by omega
    have e3:l<=(es.length:Int):=by omega
    simp [Instr.sliceBounds,hlo,hhi,hy,run_sliceBound,h0,e2,e3]
   .have e3:l<=(h.toNat:Int):=by omega
    have r1:=run_sliceBound (P:=P) w kk l h.toNat .sliceB h0 e3
    have r2:=run_sliceBound (P:=P) w kz h cap .sliceAcap hh0 hc
    simp only [Instr.sliceBounds,hlo,hhi,Option.map_some,hy,hz,Sem.run_bind,Sem.run_pure,Result.andThen_ok,if_true,r2,Option.isSome_none,if_false,Bool.false_eq_true,r1]
  have hrun:(execOp A.eval o).run P w = .ok (.value (.slice (if cap=l.toNat then a else a.map (·.add (l.toNat*k))) (h.toNat - l.toNat) (cap - l.toNat))) w:=by
   have hel':P.elem t=e:=by simp [Program.elem,hu]
   have hat:=run_sliceAt_slice (P:=P) w t (.slice a es.length cap) (lo.map A.eval) (hi.map A.eval) none (by rw [hel'];exact hu)
   have hsl:(Instr.slice t (.slice a es.length cap) (lo.map A.eval) (hi.map A.eval) none).run P w = .ok (.slice (if cap=l.toNat then a else a.map (·.add (l.toNat*k))) (h.toNat - l.toNat) (cap - l.toNat)) w:=by
    simp only [Instr.slice,Sem.run_bind,run_underlying hu,Result.andThen_ok,hbounds,Zol hsz,Sem.run_pure]
   simp only [execOp,ho,hv,Sem.run_bind,Option.map_none,hat,hsl,Result.andThen_ok,Sem.run_pure]
  have hlen:((es.take h.toNat).drop l.toNat).length=h.toNat - l.toNat:=by simp;omega
  refine⟨_,hrun,_,cap - l.toNat,by rw [hlen],by rw [hlen];omega,by omega,?_⟩
  by_cases he:(es.take h.toNat).drop l.toNat=[]
  .exact .inl he
  .rcases hel with hel | ⟨b,off,ha',hI,hel⟩
   .subst hel;simp at he
   .subst ha'
    have hlt:0 < h.toNat - l.toNat:=by rw [<- hlen];exact List.length_pos_iff.2 he
    have hne:¬ cap=l.toNat:=by omega
    rw [if_neg hne]
    refine .inr ⟨b,off+l.toNat*k,by simp [Addr.add_mid],hI,?_⟩
    refine Zr.drop (k:=k) _ (Zr.take _ hel) (fun el h=>hk el (List.mem_of_mem_take h)) (by simp;omega)
theorem Zauu(s:List UInt8)(l h:Nat):(⟨s.toArray⟩:ByteArray).extract l h=⟨((s.take h).drop l).toArray⟩:=by
 apply ByteArray.ext
 simp [List.drop_take]
theorem Za6a{t:TypeId}{x:Operand}{lo hi:Option Operand}{s:List UInt8}{l h:Int}(ho:o.op = .slice t x lo hi none)(hu:P.underlying t=some .string)(hx:Zp ρ x=some (.t (.str s)))
 (hl:Zqd ρ 0 lo=some l) (hh:Zqd ρ s.length hi=some h) (h0:0<=l) (h1:l<=h) (h2:h<=s.length) :
 Zas P o ρ Z [] (.t (.str ((s.take h.toNat).drop l.toNat))) []:=
 Zbp fun G β n tm Z' A w hop _ _=>by
  have hv:=hop x _ (by simp [ho,Op.operands]) hx
  simp only [VR,Z0] at hv ⊢
  have hsz:(⟨s.toArray⟩:ByteArray).size=s.length:=by simp [ByteArray.size]
  have hlo:(lo=none/\l=0)\/∃ y kk,lo=some y/\A.eval y = .int kk l:=by
   cases lo with
   | none=>simp only [Zqd,Option.some.injEq] at hl;exact .inl ⟨rfl,hl.symm⟩
   | some y=>
    simp only [Zqd] at hl
    split at hl
    .rename_i kk i hy
     cases hl
     have:=hop y _ (by simp [ho,Op.operands]) hy
     simp only [VR,Z0] at this
     exact .inr ⟨y,kk,rfl,this⟩
    .cases hl
  have hhi:(hi=none/\h=s.length)\/∃ y kk,hi=some y/\A.eval y = .int kk h:=by
   cases hi with
   | none=>simp only [Zqd,Option.some.injEq] at hh;exact .inl ⟨rfl,hh.symm⟩
   | some y=>
    simp only [Zqd] at hh
    split at hh
    .rename_i kk i hy
     cases hh
     have:=hop y _ (by simp [ho,Op.operands]) hy
     simp only [VR,Z0] at this
     exact .inr ⟨y,kk,rfl,this⟩
    .cases hh
  have hbounds:(Instr.sliceBounds false s.length s.length (lo.map A.eval) (hi.map A.eval) none).run P w = .ok (l.toNat,h.toNat,s.length) w:=by
   have eh:(h.toNat:Int)=h:=Int.toNat_of_nonneg O
   have hh0:0<=h:=by omega
   rcases hlo with ⟨hlo,hl0⟩ | ⟨y,kk,hlo,hy⟩<;>rcases hhi with ⟨hhi,hl1⟩ | ⟨z,kz,hhi,hz⟩
   .have:h.toNat=s.length:=by omega
    simp [Instr.sliceBounds,hlo,hhi,hl0,this]
   .simp [Instr.sliceBounds,hlo,hhi,hl0,hz,run_sliceBound,hh0,h2]
   .have e2:h.toNat=s.length:=by omega
    have e3:l<=(s.length:Int):=by omega
    simp [Instr.sliceBounds,hlo,hhi,hy,run_sliceBound,h0,e2,e3]
   .have e3:l<=(h.toNat:Int):=by omega
    have r1:=run_sliceBound (P:=P) w kk l h.toNat .sliceB h0 e3
    have r2:=run_sliceBound (P:=P) w kz h s.length .sliceAlen hh0 h2
    simp only [Instr.sliceBounds,hlo,hhi,Option.map_some,hy,hz,Sem.run_bind,Sem.run_pure,Result.andThen_ok,r2,Option.isSome_none,if_false,Bool.false_eq_true,r1]
  refine⟨.string ⟨((s.take h.toNat).drop l.toNat).toArray⟩,?_,rfl⟩
  have hat:=run_sliceAt_string (P:=P) w t (.string ⟨s.toArray⟩) (lo.map A.eval) (hi.map A.eval) none hu
  have hsl:(Instr.slice t (.string ⟨s.toArray⟩) (lo.map A.eval) (hi.map A.eval) none).run P w = .ok (.string ⟨((s.take h.toNat).drop l.toNat).toArray⟩) w:=by
   simp only [Instr.slice,Sem.run_bind,run_underlying hu,Result.andThen_ok,hsz,hbounds,Sem.run_pure,Zauu,Option.isSome_none,if_false,Bool.false_eq_true]
  simp only [execOp,ho,hv,Sem.run_bind,Option.map_none,hat,hsl,Result.andThen_ok,Sem.run_pure]
theorem Zbf6{ρ:List (Nat×PV)}{σ0:List (Nat×Blk)}{need:List Nat}{t tx e:TypeId}{x y:Operand}{k bytes l m:Nat}{zero:List PV}{es0 es:List (List Zf)}{p:PV}(ho:o.op = .call { callee := .builtin .copy,args := #[x,y],argTypes := #[t,tx] })
 (hE:ElF P t e k bytes zero) (htx:∃ e',P.underlying tx=some (.slice e')) (hx:Zp ρ x=some (.osl l m)) (hg0:get σ0 l=some (.row k es0)) (hm:es0.length=m) (hy:Zp ρ y=some p) (hsrc0:Zsz σ0 p es) (hneed:∀ q,(q=l\/p.has q=true)->q∈need)
 (hk:∀ el,el∈es->el.length=k) (hle:es.length<=m) :
 OpF P o ρ σ0 need [l] (.t (.int .i64 es.length)) [(l,.row k (es++es0.drop es.length))]:=
 opF fun G β n tm Z A w hop hnd hr=>by
  have e1:=hop x _ (by simp [ho,Op.operands,Call.operands]) hx
  have e2:=hop y _ (by simp [ho,Op.operands,Call.operands]) hy
  have hg:=(hnd l (hneed l (.inl rfl))).trans hg0
  have hsrc:=hsrc0.need (Z':=Z) (fun q hq=>hnd q (hneed q (.inr hq)))
  show ∃ v w',(execOp A.eval o).run P w = .ok (.value v) w'/\∃ β',Zan G β' ⟨n,tm,put Z l (.row k (es++es0.drop es.length))⟩ A w'/\VR (ctx G β' w' (put Z l (.row k (es++es0.drop es.length)))) (.t (.int .i64 es.length)) v
  simp only [VR] at e1
  obtain⟨a0,cap,hv,hmc,hcm0,h3⟩:=(e1.1 k es0 hg).2 hm.symm
  obtain⟨e',htx⟩:=htx
  obtain⟨news,hs,hnv⟩:=hsrc.src (P:=P) (tx:=tx) hr e2 hk htx
  have hnewsl:news.length=es.length*k:=hs.newsLen
  have hsz:(P.info? e).map (·.size)=some k:=by have:=hE.info;cases hi:P.info? e with | none=>simp [hi] at this | some i=>simp [hi] at this;simp [this.1]
  have hmin:Nat.min es.length m=es.length:=Nat.min_eq_left hle
  have hpre:∀ u w',(match a0 with | some a=>(storeCells a news).run P w | none => .ok () w) = .ok u w'->(execOp A.eval o).run P w = .ok (.value (goInt es.length)) w':=by
   intro u w' hst
   simp only [execOp,ho,resolve,invoke,builtin,Sem.run_bind,Sem.run_pure,Result.andThen_ok,List.map_toArray,List.map_cons,List.map_nil,hv,Builtin.copy_,List.getElem?_toArray,List.getElem?_cons_zero,List.getElem?_cons_succ,run_underlying hE.und,hs.len,hmin,Zol hsz,hs.cells]
   cases a0 with
   | none=>simp only at hst;cases hst;rfl
   | some a=>simp only at hst;simp [hst]
  obtain⟨hk0,hkl,hb⟩:=hr.blk l _ hg
  have putd:∀ (β':Nat->Option Nat) (w':World) (Z':List (Nat×Blk)),Zan G β' ⟨n,tm,Z'⟩ A w'->∃ β',Zan G β' ⟨n,tm,Z'⟩ A w'/\VR (ctx G β' w' Z') (.t (.int .i64 es.length)) (goInt es.length):=
   fun β' w' Z' hr'=>⟨β',hr',by simp [VR,Z0,goInt]⟩
  by_cases hem:es.length=0
  .have hes:es=[]:=List.eq_nil_of_length_eq_zero hem
   subst hes
   have hnil:news=[]:=List.eq_nil_of_length_eq_zero (by simpa using hnewsl)
   subst hnil
   refine⟨_,w,(hpre () w (by cases a0<;>simp [storeCells])),?_⟩
   refine putd β w _ ?_
   refine hr.sub (Nat.le_refl _) (fun i p hp=>⟨hp,(hr.tm i p hp).1⟩) (fun m o hm'=>?_)
   by_cases hml:l=m
   .subst hml;rw [Zca] at hm';cases hm';simpa using hg
   .rw [Zb5 _ _ hml] at hm';exact hm'
  .rcases hb with ⟨_,he⟩ | ⟨b,sz,hb,hrow,hszle,hel⟩
   .subst he;simp at hm;omega
   .rcases h3 with ⟨hc,hb'⟩ | ⟨b',sz',ha,hb',_,_⟩
    .omega
    .have:b'=b:=by have:=hb'.symm.trans hb;simpa using this
     subst this;subst ha
     have hle2:news.length<=sz:=by rw [hnewsl];exact Nat.le_trans (Nat.mul_le_mul_right _ O) hszle
     have hst:=run_storeCells_cells (P:=P) b' 0 news 0 w (fun j hj=>by
      have:=Zj8 (w:=w) hrow (o:=0) (n:=news.length) O j hj
      simp only [Nat.zero_add] at this ⊢;exact this.1) (fun j hj=>by
      have:=Zj8 (w:=w) hrow (o:=0) (n:=news.length) O j hj
      simp only [Nat.zero_add] at this ⊢;exact this.2) (fun u hu=>hs.one u hu)
     rw [Nat.add_zero] at hst
     obtain⟨vs,hvs,hcs⟩:=Zw.vals (c:=ctx G β w Z) (Zr.flat.1 hel)
     have hvl:vs.length=es0.length*k:=by rw [hvs.length,List.length_map,Zcz hkl]
     have hfl:(es++es0.drop es.length).flatten.map PV.t=splice (es0.flatten.map PV.t) 0 (es.flatten.map PV.t):=by
      have hdrop:∀ (q:Nat) (l:List (List Zf)),(∀ el,el∈l->el.length=k)->q<=l.length->(l.drop q).flatten=l.flatten.drop (q*k):=by
       intro q
       induction q with
       | zero=>intro l _ _;simp
       | succ q ih=>
        intro l hl hq
        cases l with
        | nil=>simp at hq
        | cons e0 l=>
         have he0:e0.length=k:=hl e0 (by simp)
         have e1:(q+1)*k=q*k+k:=by rw [Nat.add_mul,Nat.one_mul]
         rw [List.drop_succ_cons,ih l (fun el h=>hl el (List.mem_cons_of_mem _ h)) (by simpa using hq),List.flatten_cons,List.drop_append]
         have d0:e0.drop ((q+1)*k)=[]:=List.drop_eq_nil_of_le O
         rw [d0,List.nil_append,show (q+1)*k - e0.length=q*k by omega]
      unfold splice
      simp only [List.take_zero,List.nil_append,Nat.zero_add,List.length_map,Zcz hk]
      rw [List.flatten_append,hdrop _ _ hkl O,List.map_append,List.map_drop]
     obtain⟨hr',hI,hL⟩:=Zoi hr (off:=0) (blk' := .row k (es++es0.drop es.length)) news hg hb (.inl ⟨k,es0,_,rfl,rfl,by simp;omega⟩) (fun hI hL=>by
      refine⟨hk0,fun el hel'=>?_,.inr ⟨b',sz,hb,Za8 _ _ _ _ hrow,?_,Zr.flat.2 ?_⟩⟩
      .rcases List.mem_append.1 hel' with h | h
       .exact hk el h
       .exact hkl el (List.mem_of_mem_drop h)
      .have:(es++es0.drop es.length).length=es0.length:=by simp;omega
       rw [this];exact hszle
      .refine Zdx (vs:=splice vs 0 news) ?_ (fun j' v hj'=>?_)
       .have h1:=VRs.step hI _ _ (fun m _=>hL m) hvs
        have h2:=VRs.step hI _ _ (fun m _=>hL m) hnv
        rw [hfl]
        exact h1.splice 0 h2
       .rw [Nat.zero_add]
        exact Zi8 (w:=w) (fun j v hj=>by have:=hcs j v hj;rwa [Nat.zero_add] at this) (by rw [hvl,hnewsl,Nat.zero_add];exact Nat.mul_le_mul_right _ O) j' v hj')
     exact⟨_,w.setCells b' 0 news,(hpre () _ hst),putd β _ _ hr'⟩
theorem Zaa7{op:BinOp}{t e:TypeId}{x:Operand}{yT:TypeId}{a:Option Addr}{l c:Nat}(hu:P.underlying t=some (.slice e))(ho:o.op = .binOp op t x (.const (.slice none 0 0)) yT)(hop:op = .eql\/op = .neq)(A:Act)(w:World)(hx:A.eval x = .slice a l c) :
 (execOp A.eval o).run P w = .ok (.value (.bool (if op = .eql then a.isNone else !a.isNone))) w:=by
 have hg:=Ze3 (P:=P) (op:=op) (t:=t) (x:=x) (y := .const (.slice none 0 0)) (u := .slice a l c) (v := .slice none 0 0) w trivial
 have he:=run_equal_slice_nil (P:=P) w t e a l c hu
 have hy:A.eval (.const (.slice none 0 0)) = .slice none 0 0:=rfl
 rcases hop with rfl | rfl
 .simp only [execOp,ho,hx,hy,Sem.run_bind,hg,Result.andThen_ok,binOp,he,Sem.run_pure,if_true]
 .simp only [execOp,ho,hx,hy,Sem.run_bind,hg,Result.andThen_ok,binOp,he,Sem.run_pure]
  rfl
theorem Za1a{op:BinOp}{t e:TypeId}{x:Operand}{yT:TypeId}{es:List (List Zf)}(hu:P.underlying t=some (.slice e))(ho:o.op = .binOp op t x (.const (.slice none 0 0)) yT)(hop:op = .eql\/op = .neq)(hx:Zp ρ x=some (.t (.sl es)))(hne:es≠[]) :
 Zas P o ρ Z [] (.t (.bool (if op = .eql then false else true))) []:=
 Zbp fun G β n tm Z' A w hop' _ _=>by
  have e1:=hop' x _ (by simp [ho,Op.operands]) hx
  simp only [VR,Z0] at e1 ⊢
  obtain⟨a,cap,hv,_,_,h⟩:=e1
  rcases h with h | ⟨b,off,rfl,_⟩
  .exact absurd h hne
  .exact⟨_,Zaa7 hu ho hop A w hv,by rcases hop with rfl | rfl<;>rfl⟩
theorem Za1b{op:BinOp}{t e:TypeId}{x:Operand}{yT:TypeId}{a:Option Addr}{l c:Nat}(hu:P.underlying t=some (.slice e))(ho:o.op = .binOp op t x (.const (.slice none 0 0)) yT)(hop:op = .eql\/op = .neq)(hx:Zp ρ x=some (.t (.con (.slice a l c)))) :
 Zas P o ρ Z [] (.t (.bool (if op = .eql then a.isNone else !a.isNone))) []:=
 Zbp fun G β n tm Z' A w hop' _ _=>by
  have e1:=hop' x _ (by simp [ho,Op.operands]) hx
  simp only [VR,Z0] at e1 ⊢
  exact⟨_,Zaa7 hu ho hop A w e1.1,rfl⟩
theorem Zakc{op:BinOp}{t:TypeId}{x:Operand}{yT:TypeId}{a:Option Addr}(hu:P.underlying t=some (.pointer (P.pointee t)))(ho:o.op = .binOp op t x (.const (.pointer none)) yT)(hop:op = .eql\/op = .neq)(A:Act)(w:World)(hx:A.eval x = .pointer a) :
 (execOp A.eval o).run P w = .ok (.value (.bool (if op = .eql then a.isNone else !a.isNone))) w:=by
 have hg:=Ze3 (P:=P) (op:=op) (t:=t) (x:=x) (y := .const (.pointer none)) (u := .pointer a) (v := .pointer none) w trivial
 have he:=run_equal_pointer_nil (P:=P) w t a hu
 have hy:A.eval (.const (.pointer none)) = .pointer none:=rfl
 rcases hop with rfl | rfl
 .simp only [execOp,ho,hx,hy,Sem.run_bind,hg,Result.andThen_ok,binOp,he,Sem.run_pure,if_true]
 .simp only [execOp,ho,hx,hy,Sem.run_bind,hg,Result.andThen_ok,binOp,he,Sem.run_pure]
  rfl
theorem Zauv{op:BinOp}{t:TypeId}{x:Operand}{yT:TypeId}{a:Option Addr}(hu:P.underlying t=some (.pointer (P.pointee t)))(ho:o.op = .binOp op t x (.const (.pointer none)) yT)(hop:op = .eql\/op = .neq)(hx:Zp ρ x=some (.t (.con (.pointer a)))) :
 Zas P o ρ Z [] (.t (.bool (if op = .eql then a.isNone else !a.isNone))) []:=
 Zbp fun G β n tm Z' A w hop' _ _=>by
  have e1:=hop' x _ (by simp [ho,Op.operands]) hx
  simp only [VR,Z0] at e1 ⊢
  exact⟨_,Zakc hu ho hop A w e1.1,rfl⟩
theorem Zauw{op:BinOp}{t:TypeId}{x:Operand}{yT:TypeId}{l q:Nat}{cs:List PV}(hu:P.underlying t=some (.pointer (P.pointee t)))(ho:o.op = .binOp op t x (.const (.pointer none)) yT)(hop:op = .eql\/op = .neq)(hx:Zp ρ x=some (.bptr l q))(hg:get Z l=some (.box cs)) :
 Zas P o ρ Z [l] (.t (.bool (if op = .eql then false else true))) []:=
 Zbp fun G β n tm Z' A w hop' hn _=>by
  have e1:=hop' x _ (by simp [ho,Op.operands]) hx
  simp only [VR,Z0] at e1 ⊢
  obtain⟨b,_,hv⟩:=e1.1 cs ((hn l (by simp)).trans hg)
  exact⟨_,Zakc hu ho hop A w hv,by rcases hop with rfl | rfl<;>rfl⟩
theorem Zaux{x:Operand}{l q:Nat}{cs:List PV}(ho:o.op = .nilCheck x)(hx:Zp ρ x=some (.bptr l q))(hg:get Z l=some (.box cs)):Zas P o ρ Z [l] (.bptr l q) []:=
 Zbp fun G β n tm Z' A w hop hn _=>by
  have h1:=hop x _ (by simp [ho,Op.operands]) hx
  have h2:=h1
  simp only [VR] at h1
  obtain⟨b,_,hv⟩:=h1.1 cs ((hn l (by simp)).trans hg)
  exact⟨.pointer (some ⟨b,q,none⟩),by simp [execOp,ho,hv],by rw [<- hv];exact h2⟩
theorem Zauy{x:Operand}{l m i q k:Nat}{es:List (List Zf)}(ho:o.op = .nilCheck x)(hx:Zp ρ x=some (.rptr l m i q))(hg:get Z l=some (.row k es))(hm:es.length=m):Zas P o ρ Z [l] (.rptr l m i q) []:=
 Zbp fun G β n tm Z' A w hop hn _=>by
  have h1:=hop x _ (by simp [ho,Op.operands]) hx
  have h2:=h1
  simp only [VR] at h1
  obtain⟨b,_,hv⟩:=(h1.1 k es ((hn l (by simp)).trans hg)).2 hm.symm
  exact⟨.pointer (some ⟨b,i*k+q,none⟩),by simp [execOp,ho,hv],by rw [<- hv];exact h2⟩
def Zat0:PV->Bool
 | .t (.sl _)=>true
 | .osl _ _=>true
 | _=>false
theorem Za9g{p:PV}(h:Zat0 p=true){c:Ctx}{v:Value}(hv:VR c p v):∃ a n cap,v = .slice a n cap:=by
 unfold Zat0 at h
 split at h
 .simp only [VR,Z0] at hv;obtain⟨a,cap,hv,_⟩:=hv;exact⟨a,_,cap,hv⟩
 .simp only [VR] at hv;exact hv.2
 .cases h
theorem Za2w{t:TypeId}{x y z:Operand}{k:Nat}{p:PV}{k1 k2:IntKind}(ho:o.op = .slice t x none (some y) (some z))(ha:slInfo P t=some k)(hx:Zp ρ x=some p)(hp:Zat0 p=true)(hy:Zp ρ y=some (.t (.int k1 0)))(hz:Zp ρ z=some (.t (.int k2 0))) :
 Zas P o ρ Z [] .nils []:=
 Zbp fun G β n tm Z' A w hop _ _=>by
  have e1:=hop x _ (by simp [ho,Op.operands]) hx
  have e2:=hop y _ (by simp [ho,Op.operands]) hy
  have e3:=hop z _ (by simp [ho,Op.operands]) hz
  obtain⟨a,len,cap,hv⟩:=Za9g hp e1
  simp only [VR,Z0] at e2 e3 ⊢
  unfold slInfo at ha
  split at ha
  case h_2=>cases ha
  rename_i e hu
  have hsz:(P.info? e).map (·.size)=some k:=ha
  have r1:=run_sliceBound (P:=P) w k2 0 cap .slice3Acap O O
  have r2:=run_sliceBound (P:=P) w k1 0 0 .slice3B O O
  have hbounds:(Instr.sliceBounds true len cap none (some (.int k1 0)) (some (.int k2 0))).run P w = .ok (0,0,0) w:=by
   simp only [Instr.sliceBounds,Sem.run_bind,if_true,r1,Result.andThen_ok,Int.toNat_zero,r2,Sem.run_pure]
  have hel':P.elem t=e:=by simp [Program.elem,hu]
  have hat:=run_sliceAt_slice (P:=P) w t (.slice a len cap) none (some (.int k1 0)) (some (.int k2 0)) (by rw [hel'];exact hu)
  have hsl:∃ a',(Instr.slice t (.slice a len cap) none (some (.int k1 0)) (some (.int k2 0))).run P w = .ok (.slice a' 0 0) w:=by
   refine⟨a,?_⟩
   simp only [Instr.slice,Sem.run_bind,run_underlying hu,Result.andThen_ok,hbounds,Zol hsz,Sem.run_pure,if_true,Nat.sub_self]
  obtain⟨a',hsl⟩:=hsl
  refine⟨.slice a' 0 0,?_,a',rfl⟩
  simp only [execOp,ho,hv,Sem.run_bind,Option.map_none,Option.map_some,e2,e3,hat,hsl,Result.andThen_ok,Sem.run_pure]
def maxI(x y:Int):Int:=if x < y then y else x
def minI(x y:Int):Int:=if y < x then y else x
theorem Zbf7{x y:Operand}{ts:Array TypeId}{k k':IntKind}{a b:Int}(ho:o.op = .call { callee := .builtin .max,args := #[x,y],argTypes:=ts })(hx:Zp ρ x=some (.t (.int k a)))(hy:Zp ρ y=some (.t (.int k' b))) :
 Zas P o ρ Z [] (.t (.int k (maxI a b))) []:=
 Zbp fun G β n tm Z' A w hop _ _=>by
  have h1:=hop x _ (by simp [ho,Op.operands,Call.operands]) hx
  have h2:=hop y _ (by simp [ho,Op.operands,Call.operands]) hy
  simp only [VR,Z0] at h1 h2 ⊢
  exact⟨_,by simp [execOp,ho,resolve,invoke,builtin,Builtin.max_,Builtin.max2,h1,h2];rfl,rfl⟩
theorem Zbf8{x y:Operand}{ts:Array TypeId}{k k':IntKind}{a b:Int}(ho:o.op = .call { callee := .builtin .min,args := #[x,y],argTypes:=ts })(hx:Zp ρ x=some (.t (.int k a)))(hy:Zp ρ y=some (.t (.int k' b))) :
 Zas P o ρ Z [] (.t (.int k (minI a b))) []:=
 Zbp fun G β n tm Z' A w hop _ _=>by
  have h1:=hop x _ (by simp [ho,Op.operands,Call.operands]) hx
  have h2:=hop y _ (by simp [ho,Op.operands,Call.operands]) hy
  simp only [VR,Z0] at h1 h2 ⊢
  exact⟨_,by simp [execOp,ho,resolve,invoke,builtin,Builtin.min_,Builtin.min2,h1,h2];rfl,rfl⟩
def Zf2(s:List UInt8):List (List Zf):=s.map fun b=>[Zf.int .u8 b.toNat]
theorem Zafg{I:Nat->Prop}{w:World}{b:Nat}:∀ (s:List UInt8) (off:Nat),(∀ j x,s[j]?=some x->w.cell? ⟨b,off+j,none⟩=some (.int .u8 (x.toNat:Int)))->Zr I w b (Zf2 s) off
 | [],_,_=>by simp [Zf2,Zr]
 | x::s,off,h=>by
  simp only [Zf2,List.map_cons,Zr,Zw,List.length_cons,List.length_nil]
  refine⟨⟨⟨_,h 0 x rfl,by simp [Z0]⟩,trivial⟩,Zafg s (off+1) (fun j y hj=>?_)⟩
  have:=h (j+1) y (by simpa using hj)
  rwa [show off+(j+1)=off+1+j by omega] at this
theorem Za9h{st dt e:TypeId}{x:Operand}{s:List UInt8}(ho:o.op = .convert st dt x)(hs:P.underlying st=some .string)(hd:P.underlying dt=some (.slice e))(he:P.underlying e=some (.int .u8))
 (hx:Zp ρ x=some (.t (.str s))) (hl:s.length<=9223372036854775807):Zas P o ρ Z [] (.t (.sl (Zf2 s))) []:=
 Zbch fun G β n tm Z' A w hop _ hr=>by
  have hv:=hop x _ (by simp [ho,Op.operands]) hx
  simp only [VR,Z0] at hv
  have hrun:=run_bytes_of_string (P:=P) w st dt e ⟨s.toArray⟩ hs hd he
  have hsz:(⟨s.toArray⟩:ByteArray).size=s.length:=by simp [ByteArray.size]
  rw [hsz] at hrun
  have hge:=grownCap_ge w s.length 0 e
  have hcm:grownCap w s.length 0 e<=maxLen:=grownCap_le_maxLen w s.length 0 e (by simp only [maxLen];omega)
  generalize hC:grownCap w s.length 0 e=C at hrun hge hcm
  generalize hob:Obj.cells (bytesRow ⟨s.toArray⟩ C) e ((bytesRow ⟨s.toArray⟩ C).size,(bytesRow ⟨s.toArray⟩ C).size+1)=ob at hrun
  obtain⟨hr',hI,hnew,hL⟩:=(Zan.drew hr).allocImm ob
  refine⟨.slice (some ⟨w.heap.size,0,none⟩) s.length C,_,?_,hr',?_⟩
  .simp only [execOp,ho,hv,Sem.run_bind,hrun,Result.andThen_ok,Sem.run_pure]
  .simp only [VR,Z0]
   refine⟨some ⟨w.heap.size,0,none⟩,C,by simp [Zf2],by simpa [Zf2] using hge,hcm,.inr ⟨w.heap.size,0,rfl,hnew,Zafg s 0 (fun j y hj=>?_)⟩⟩
   show (w.drew.alloc ob).cell? ⟨w.drew.heap.size,_,none⟩=_
   rw [<- hob]
   have hlt:=(List.getElem?_eq_some_iff.1 hj).1
   unfold World.cell?
   have hh:(w.drew.alloc (Obj.cells (bytesRow ⟨s.toArray⟩ C) e ((bytesRow ⟨s.toArray⟩ C).size,(bytesRow ⟨s.toArray⟩ C).size+1))).heap[w.drew.heap.size]?=some (Obj.cells (bytesRow ⟨s.toArray⟩ C) e ((bytesRow ⟨s.toArray⟩ C).size,(bytesRow ⟨s.toArray⟩ C).size+1)):=by
    show (w.heap.push _)[w.heap.size]?=_
    simp
   simp only [hh]
   unfold bytesRow
   rw [Nat.zero_add]
   rw [Array.getElem?_append_left (by simpa using hlt)]
   simp [hj]
theorem Z9a{I:Nat->Prop}{w:World}{b:Nat}:∀ (s:List UInt8) (off:Nat),Zr I w b (Zf2 s) off->∀ j (hj:j < s.length),w.cell? ⟨b,off+j,none⟩=some (.int .u8 (s[j].toNat:Int))
 | [],_,_,j,hj=>by simp at hj
 | x::s,off,h,j,hj=>by
  simp only [Zf2,List.map_cons,Zr,Zw,List.length_cons,List.length_nil] at h
  obtain⟨⟨⟨c,h1,h2⟩,_⟩,h3⟩:=h
  cases j with
  | zero=>simp only [Z0] at h2;subst h2;simpa using h1
  | succ j=>
   have:=Z9a s (off+1) h3 j (by simpa using hj)
   rw [show off+(j+1)=off+1+j by omega]
   simpa using this
theorem Za9i{st dt e:TypeId}{x:Operand}{s:List UInt8}(ho:o.op = .convert st dt x)(hs:P.underlying st=some (.slice e))(hd:P.underlying dt=some .string)(he:P.underlying e=some (.int .u8))
 (hx:Zp ρ x=some (.t (.sl (Zf2 s)))) (hne:s≠[]):Zas P o ρ Z [] (.t (.str s)) []:=
 Zbp fun G β n tm Z' A w hop _ _=>by
  have hv:=hop x _ (by simp [ho,Op.operands]) hx
  simp only [VR,Z0] at hv
  obtain⟨a,cap,hv,_,_,h3⟩:=hv
  have hlen:(Zf2 s).length=s.length:=by simp [Zf2]
  rw [hlen] at hv
  rcases h3 with h3 | ⟨b,off,rfl,_,hel⟩
  .exact absurd (by simpa [Zf2] using h3) hne
  .have hrun:=run_convert_bytes_back (P:=P) w st dt e ⟨b,off,none⟩ cap s hs he hd (fun j hj=>by
    have h9:(⟨b,off,none⟩:Addr).add j=⟨b,off+j,none⟩:=by
     unfold Addr.add
     by_cases h0:j=0
     .subst h0;rfl
     .rw [if_neg h0]
    rw [h9]
    exact Z9a s off hel j hj)
   exact⟨.string ⟨s.toArray⟩,by simp only [execOp,ho,hv,hrun,Sem.run_bind,Result.andThen_ok,Sem.run_pure],by simp [VR,Z0]⟩
end
end Go.PW
