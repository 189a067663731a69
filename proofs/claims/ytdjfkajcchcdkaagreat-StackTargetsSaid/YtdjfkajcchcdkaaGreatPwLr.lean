import Derived.Test.YtdjfkajcchcdkaaGreatPwL
import Derived.Laws.Slices
import Derived.Laws.IdiomStrings
import Derived.Laws.Cover3
import Derived.Laws.Pointers
import Derived.MapKept
import Derived.Shelf.Spec.SlicesInsertGrow
set_option linter.all false
namespace Go.PW
open Go.RowKit
section
variable {P:Program} {o:Oper} {ρ:List (Nat×PV)} {Z:List (Nat×Blk)} {n:Nat} {tm:List (Nat×PV)}
def ao.drop{I:Nat->Prop}{w:World}{b k:Nat}:∀{es:List (List U)} {off:Nat} (l:Nat),ao I w b es off->(∀el,el∈es->el.length=k)->l<=es.length->ao I w b (es.drop l) (off+l*k)
 |es,off,0,h,_,_=>iS
 |[],off,l+1,h,_,hl=>lE
 |e::es,off,l+1,h,hk,hl=>by simp only[ao]at h;have h0:=hk e al;have:=ao.drop (k:=k) l h.2 (λel hel=>hk el (cK _ hel)) nz;rw[h0]at this;rwa[qK,show off+(l+1)*k=off+k+l*k by rw[dQ,eP];omega]
def ao.take{I:Nat->Prop}{w:World}{b:Nat}:∀{es:List (List U)} {off:Nat} (l:Nat),ao I w b es off->ao I w b (es.take l) off
 |es,off,0,h=>by simp[ao]
 |[],off,l+1,h=>by simp[ao]
 |e::es,off,l+1,h=>by simp only[ao]at h;simp only[uZ,ao];exact⟨h.1,ao.take l h.2⟩
def fU(ρ:List (Nat×PV))(dflt:Int):Option Operand->Option Int
 |none=>some dflt
 |some x=>match af ρ x with|some (.t (.int _ i))=>some i|_=>none
def Ce{e:TypeId}{k:Nat}(h:(P.info? e).map (·.size)=some k)(w:World):(sizeOf e).run P w = .ok k w:=by
 cases hi:P.info? e with
 |none=>simp[hi]at h
 |some i=>simp[hi]at h;simp[sizeOf,typeInfo,hi,h]
def Zjv{t:TypeId}{x:Operand}{lo hi:Option Operand}{k:Nat}{es:List (List U)}{l h:Int}(ho:o.op = .slice t x lo hi none)(ha:slInfo P t=some k)(hx:af ρ x=some (.t (.sl es)))
 (hl:fU ρ 0 lo=some l) (hh:fU ρ es.length hi=some h) (hk:∀el,el∈es->el.length=k) (h0:0<=l) (h1:l<=h) (h2:h<=es.length) :
 aQ P o ρ Z [] (.t (.sl ((es.take h.toNat).drop l.toNat))) []:=
 bE λG β n tm Z' A w hop _ _=>by
  have e1:=hop x _ aK hx;simp only[VR,Z9]at e1⊢;obtain⟨a,cap,hv,hlc,hcm,hel⟩:=e1;unfold slInfo at ha;split at ha
  case h_2=>cases ha
  rename_i e hu;have hsz:(P.info? e).map (·.size)=some k:=ha;have hlo:(lo=none/\l=0)\/∃y kk,lo=some y/\A.eval y = .int kk l:=by
   cases lo with
   |none=>simp only[fU,aq]at hl;exact .inl ⟨rfl,hl.symm⟩
   |some y=>
    simp only[fU]at hl;split at hl
    .rename_i kk i hy;cases hl;have:=hop y _ aK hy;simp only[VR,Z9]at this;exact .inr ⟨y,kk,rfl,this⟩
    cases hl
  have hhi:(hi=none/\h=es.length)\/∃y kk,hi=some y/\A.eval y = .int kk h:=by
   cases hi with
   |none=>simp only[fU,aq]at hh;exact .inl ⟨rfl,hh.symm⟩
   |some y=>
    simp only[fU]at hh;split at hh
    .rename_i kk i hy;cases hh;have:=hop y _ aK hy;simp only[VR,Z9]at this;exact .inr ⟨y,kk,rfl,this⟩
    cases hh
  have hbounds:(Instr.sliceBounds true es.length cap (lo.map A.eval) (hi.map A.eval) none).run P w = .ok (l.toNat,h.toNat,cap) w:=by
   have eh:(h.toNat:Int)=h:=oO O;have hc:h<=(cap:Int):=bg
   have hh0:0<=h:=bg
   rcases hlo with⟨hlo,hl0⟩|⟨y,kk,hlo,hy⟩<;>rcases hhi with⟨hhi,hl1⟩|⟨z,kz,hhi,hz⟩
   .have:h.toNat=es.length:=by omega
    simp[Instr.sliceBounds,hlo,hhi,hl0,this]
   .simp [Instr.sliceBounds,hlo,hhi,hl0,hz,run_sliceBound,hh0,hc]
   .have e2:h.toNat=es.length:=by omega
    have e3:l<=(es.length:Int):=bg
    simp[Instr.sliceBounds,hlo,hhi,hy,run_sliceBound,h0,e2,e3]
   have e3:l<=(h.toNat:Int):=bg
   have r1:=run_sliceBound (P:=P) w kk l h.toNat .sliceB h0 e3;have r2:=run_sliceBound (P:=P) w kz h cap .sliceAcap hh0 hc;simp only[Instr.sliceBounds,hlo,hhi,dW,hy,hz,aN,aT,aO,dK,r2,vC,fy,fb,r1]
  have hrun:(execOp A.eval o).run P w = .ok (.value (.slice (if cap=l.toNat then a else a.map (·.add (l.toNat*k))) (h.toNat-l.toNat) (cap-l.toNat))) w:=by
   have hel':P.elem t=e:=wo
   have hat:=run_sliceAt_slice (P:=P) w t (.slice a es.length cap) (lo.map A.eval) (hi.map A.eval) none wq;have hsl:(Instr.slice t (.slice a es.length cap) (lo.map A.eval) (hi.map A.eval) none).run P w = .ok (.slice (if cap=l.toNat then a else a.map (·.add (l.toNat*k))) (h.toNat-l.toNat) (cap-l.toNat)) w:=Cd
   simp only[execOp,ho,hv,aN,nO,hat,hsl,aO,aT]
  have hlen:((es.take h.toNat).drop l.toNat).length=h.toNat-l.toNat:=aZ
  refine⟨_,hrun,_,cap-l.toNat,by rw[hlen],by rw[hlen];omega,by omega,?_⟩;by_cases he:(es.take h.toNat).drop l.toNat=[]
  .exact .inl he
  rcases hel with hel|⟨b,off,ha',hI,hel⟩
  .subst hel;simp at he
  subst ha';have hlt:0<h.toNat-l.toNat:=by rw[<- hlen];exact List.length_pos_iff.2 he
  have hne:¬cap=l.toNat:=bg
  rw[aI hne];refine .inr ⟨b,off+l.toNat*k,by simp[gS],hI,?_⟩;refine ao.drop (k:=k) _ (ao.take _ hel) (λel h=>hk el (iw h)) aZ
def ZjY(s:List UInt8)(l h:Nat):(⟨s.toArray⟩:ByteArray).extract l h=⟨((s.take h).drop l).toArray⟩:=by apply ByteArray.ext;simp[List.drop_take]
def Zju{t:TypeId}{x:Operand}{lo hi:Option Operand}{s:List UInt8}{l h:Int}(ho:o.op = .slice t x lo hi none)(hu:P.underlying t=some .string)(hx:af ρ x=some (.t (.str s)))
 (hl:fU ρ 0 lo=some l) (hh:fU ρ s.length hi=some h) (h0:0<=l) (h1:l<=h) (h2:h<=s.length) :
 aQ P o ρ Z [] (.t (.str ((s.take h.toNat).drop l.toNat))) []:=
 bE λG β n tm Z' A w hop _ _=>by
  have hv:=hop x _ aK hx;simp only[VR,Z9]at hv⊢;have hsz:(⟨s.toArray⟩:ByteArray).size=s.length:=qI
  have hlo:(lo=none/\l=0)\/∃y kk,lo=some y/\A.eval y = .int kk l:=by
   cases lo with
   |none=>simp only[fU,aq]at hl;exact .inl ⟨rfl,hl.symm⟩
   |some y=>
    simp only[fU]at hl;split at hl
    .rename_i kk i hy;cases hl;have:=hop y _ aK hy;simp only[VR,Z9]at this;exact .inr ⟨y,kk,rfl,this⟩
    cases hl
  have hhi:(hi=none/\h=s.length)\/∃y kk,hi=some y/\A.eval y = .int kk h:=by
   cases hi with
   |none=>simp only[fU,aq]at hh;exact .inl ⟨rfl,hh.symm⟩
   |some y=>
    simp only[fU]at hh;split at hh
    .rename_i kk i hy;cases hh;have:=hop y _ aK hy;simp only[VR,Z9]at this;exact .inr ⟨y,kk,rfl,this⟩
    cases hh
  have hbounds:(Instr.sliceBounds false s.length s.length (lo.map A.eval) (hi.map A.eval) none).run P w = .ok (l.toNat,h.toNat,s.length) w:=by
   have eh:(h.toNat:Int)=h:=oO O;have hh0:0<=h:=bg
   rcases hlo with⟨hlo,hl0⟩|⟨y,kk,hlo,hy⟩<;>rcases hhi with⟨hhi,hl1⟩|⟨z,kz,hhi,hz⟩
   .have:h.toNat=s.length:=by omega
    simp[Instr.sliceBounds,hlo,hhi,hl0,this]
   .simp [Instr.sliceBounds,hlo,hhi,hl0,hz,run_sliceBound,hh0,h2]
   .have e2:h.toNat=s.length:=by omega
    have e3:l<=(s.length:Int):=bg
    simp[Instr.sliceBounds,hlo,hhi,hy,run_sliceBound,h0,e2,e3]
   have e3:l<=(h.toNat:Int):=bg
   have r1:=run_sliceBound (P:=P) w kk l h.toNat .sliceB h0 e3;have r2:=run_sliceBound (P:=P) w kz h s.length .sliceAlen hh0 h2;simp only[Instr.sliceBounds,hlo,hhi,dW,hy,hz,aN,aT,aO,r2,vC,fy,fb,r1]
  refine⟨.string ⟨((s.take h.toNat).drop l.toNat).toArray⟩,?_,rfl⟩;have hat:=run_sliceAt_string (P:=P) w t (.string ⟨s.toArray⟩) (lo.map A.eval) (hi.map A.eval) none hu;have hsl:(Instr.slice t (.string ⟨s.toArray⟩) (lo.map A.eval) (hi.map A.eval) none).run P w = .ok (.string ⟨((s.take h.toNat).drop l.toNat).toArray⟩) w:=by simp only[Instr.slice,aN,cy hu,aO,hsz,hbounds,aT,ZjY,vC,fy,fb]
  simp only[execOp,ho,hv,aN,nO,hat,hsl,aO,aT]
def ZjG{ρ:List (Nat×PV)}{σ0:List (Nat×Blk)}{need:List Nat}{t tx e:TypeId}{x y:Operand}{k bytes l m:Nat}{zero:List PV}{es0 es:List (List U)}{p:PV}(ho:o.op = .call { callee :=.builtin .copy,args := #[x,y],argTypes := #[t,tx] })
 (hE:ElF P t e k bytes zero) (htx:∃e',P.underlying tx=some (.slice e')) (hx:af ρ x=some (.osl l m)) (hg0:get σ0 l=some (.row k es0)) (hm:es0.length=m) (hy:af ρ y=some p) (hsrc0:gA σ0 p es) (hneed:∀q,(q=l\/p.has q=true)->q∈need)
 (hk:∀el,el∈es->el.length=k) (hle:es.length<=m) :
 OpF P o ρ σ0 need [l] (.t (.int .i64 es.length)) [(l,.row k (es++es0.drop es.length))]:=
 opF λG β n tm Z A w hop hnd hr=>by
  have e1:=hop x _ fc hx;have e2:=hop y _ fc hy;have hg:=(hnd l (hneed l (.inl rfl))).trans hg0;have hsrc:=hsrc0.need (Z':=Z) (λq hq=>hnd q (hneed q (.inr hq)));show ∃v w',(execOp A.eval o).run P w = .ok (.value v) w'/\∃β',aE G β' ⟨n,tm,put Z l (.row k (es++es0.drop es.length))⟩ A w'/\VR (ctx G β' w' (put Z l (.row k (es++es0.drop es.length)))) (.t (.int .i64 es.length)) v;simp only[VR]at e1;obtain⟨a0,cap,hv,hmc,hcm0,h3⟩:=(e1.1 k es0 hg).2 hm.symm;obtain⟨e',htx⟩:=htx;obtain⟨news,hs,hnv⟩:=hsrc.src (P:=P) (tx:=tx) hr e2 hk htx;have hnewsl:news.length=es.length*k:=hs.newsLen;have hsz:(P.info? e).map (·.size)=some k:=by have:=hE.info;cases hi:P.info? e with|none=>simp[hi]at this|some i=>simp[hi]at this;simp[this.1]
  have hmin:Nat.min es.length m=es.length:=tb hle;have hpre:∀u w',(match a0 with|some a=>(storeCells a news).run P w|none =>.ok () w) = .ok u w'->(execOp A.eval o).run P w = .ok (.value (goInt es.length)) w':=by
   intro u w' hst;simp only[execOp,ho,resolve,invoke,builtin,aN,aT,aO,nJ,cw,fI,hv,Builtin.copy_,sR,js,List.getElem?_cons_succ,cy hE.und,hs.len,hmin,Ce hsz,hs.cells];cases a0 with
   |none=>simp only at hst;cases hst;rfl
   |some a=>simp only at hst;simp[hst]
  obtain⟨hk0,hkl,hb⟩:=hr.blk l _ hg;have putd:∀(β':Nat->Option Nat) (w':World) (Z':List (Nat×Blk)),aE G β' ⟨n,tm,Z'⟩ A w'->∃β',aE G β' ⟨n,tm,Z'⟩ A w'/\VR (ctx G β' w' Z') (.t (.int .i64 es.length)) (goInt es.length):=λβ' w' Z' hr'=>⟨β',hr',by simp[VR,Z9,goInt]⟩;by_cases hem:es.length=0
  .have hes:es=[]:=du hem;subst hes;have hnil:news=[]:=du Cj;subst hnil;refine⟨_,w,(hpre () w (by cases a0<;>simp[storeCells])),?_⟩;refine putd β w _ ?_;refine hr.sub (aW _) (λi p hp=>⟨hp,(hr.tm i p hp).1⟩) (λm o hm'=>?_);by_cases hml:l=m
   .subst hml;rw[fO]at hm';cases hm';simpa using hg
   rw[gd _ _ hml]at hm';exact hm'
  rcases hb with⟨_,he⟩|⟨b,sz,hb,hrow,hszle,hel⟩
  .subst he;simp at hm;omega
  rcases h3 with⟨hc,hb'⟩|⟨b',sz',ha,hb',_,_⟩
  .omega
  have:b'=b:=c7
  subst this;subst ha;have hle2:news.length<=sz:=by rw[hnewsl];exact cX (gj _ O) hszle
  have hst:=run_storeCells_cells (P:=P) b' 0 news 0 w (λj hj=>by
   have:=jQ (w:=w) hrow (o:=0) (n:=news.length) O j hj;simp only[aM]at this⊢;exact this.1) (λj hj=>by
   have:=jQ (w:=w) hrow (o:=0) (n:=news.length) O j hj;simp only[aM]at this⊢;exact this.2) (λu hu=>hs.one u hu)
  rw[cZ]at hst;obtain⟨vs,hvs,hcs⟩:=Z6.vals (c:=ctx G β w Z) (ao.flat.1 hel);have hvl:vs.length=es0.length*k:=A9
  have hfl:(es++es0.drop es.length).flatten.map PV.t=splice (es0.flatten.map PV.t) 0 (es.flatten.map PV.t):=by
   have hdrop:∀(q:Nat) (l:List (List U)),(∀el,el∈l->el.length=k)->q<=l.length->(l.drop q).flatten=l.flatten.drop (q*k):=by
    intro q;induction q with
    |zero=>intro l _ _;simp
    |succ q ih=>
     intro l hl hq;cases l with
     |nil=>simp at hq
     |cons e0 l=>
      have he0:e0.length=k:=hl e0 al;have e1:(q+1)*k=q*k+k:=u3
      rw[qK,ih l (λel h=>hl el (cK _ h)) uH,gT,u1];have d0:e0.drop ((q+1)*k)=[]:=ir O;rw[d0,iT,show(q+1)*k-e0.length=q*k by omega]
   unfold splice;simp only[List.take_zero,iT,aM,da,jl hk];rw[oh,hdrop _ _ hkl O,eL,qg]
  obtain⟨hr',hI,hL⟩:=jx hr (off:=0) (blk' :=.row k (es++es0.drop es.length)) news hg hb (.inl ⟨k,es0,_,rfl,rfl,by simp;omega⟩) (λhI hL=>by
   refine⟨hk0,λel hel'=>?_,.inr ⟨b',sz,hb,dx _ _ _ _ hrow,?_,ao.flat.2 ?_⟩⟩
   .rcases cD.1 hel' with h|h
    .exact hk el h
    exact hkl el (ko h)
   .have:(es++es0.drop es.length).length=es0.length:=by simp;omega
    rw[this];exact hszle
   refine iH (vs:=splice vs 0 news) ?_ (λj' v hj'=>?_)
   .have h1:=VRs.step hI _ _ (λm _=>hL m) hvs;have h2:=VRs.step hI _ _ (λm _=>hL m) hnv;rw[hfl];exact h1.splice 0 h2
   rw[aM];exact jy (w:=w) (λj v hj=>by have:=hcs j v hj;rwa[aM]at this) (by rw[hvl,hnewsl,aM];exact gj _ O) j' v hj')
  exact⟨_,w.setCells b' 0 news,(hpre () _ hst),putd β _ _ hr'⟩
def VK{op:BinOp}{t e:TypeId}{x:Operand}{yT:TypeId}{a:Option Addr}{l c:Nat}(hu:P.underlying t=some (.slice e))(ho:o.op = .binOp op t x (.const (.slice none 0 0)) yT)(hop:op = .eql\/op = .neq)(A:Act)(w:World)(hx:A.eval x = .slice a l c) :
 (execOp A.eval o).run P w = .ok (.value (.bool (if op = .eql then a.isNone else !a.isNone))) w:=by
 have hg:=iR (P:=P) (op:=op) (t:=t) (x:=x) (y :=.const (.slice none 0 0)) (u :=.slice a l c) (v :=.slice none 0 0) w trivial;have he:=run_equal_slice_nil (P:=P) w t e a l c hu;have hy:A.eval (.const (.slice none 0 0)) = .slice none 0 0:=rfl;rcases hop with rfl|rfl
 .simp only[execOp,ho,hx,hy,aN,hg,aO,binOp,he,aT,dK]
 simp only[execOp,ho,hx,hy,aN,hg,aO,binOp,he,aT];rfl
def Vr{op:BinOp}{t e:TypeId}{x:Operand}{yT:TypeId}{es:List (List U)}(hu:P.underlying t=some (.slice e))(ho:o.op = .binOp op t x (.const (.slice none 0 0)) yT)(hop:op = .eql\/op = .neq)(hx:af ρ x=some (.t (.sl es)))(hne:es≠[]) :
 aQ P o ρ Z [] (.t (.bool (if op = .eql then false else true))) []:=
 bE λG β n tm Z' A w hop' _ _=>by
  have e1:=hop' x _ aK hx;simp only[VR,Z9]at e1⊢;obtain⟨a,cap,hv,_,_,h⟩:=e1;rcases h with h|⟨b,off,rfl,_⟩
  .exact absurd h hne
  exact⟨_,VK hu ho hop A w hv,by rcases hop with rfl|rfl<;>rfl⟩
def Vs{op:BinOp}{t e:TypeId}{x:Operand}{yT:TypeId}{a:Option Addr}{l c:Nat}(hu:P.underlying t=some (.slice e))(ho:o.op = .binOp op t x (.const (.slice none 0 0)) yT)(hop:op = .eql\/op = .neq)(hx:af ρ x=some (.t (.con (.slice a l c)))) :
 aQ P o ρ Z [] (.t (.bool (if op = .eql then a.isNone else !a.isNone))) []:=
 bE λG β n tm Z' A w hop' _ _=>by have e1:=hop' x _ aK hx;simp only[VR,Z9]at e1⊢;exact⟨_,VK hu ho hop A w e1.1,rfl⟩
def VL{op:BinOp}{t:TypeId}{x:Operand}{yT:TypeId}{a:Option Addr}(hu:P.underlying t=some (.pointer (P.pointee t)))(ho:o.op = .binOp op t x (.const (.pointer none)) yT)(hop:op = .eql\/op = .neq)(A:Act)(w:World)(hx:A.eval x = .pointer a) :
 (execOp A.eval o).run P w = .ok (.value (.bool (if op = .eql then a.isNone else !a.isNone))) w:=by
 have hg:=iR (P:=P) (op:=op) (t:=t) (x:=x) (y :=.const (.pointer none)) (u :=.pointer a) (v :=.pointer none) w trivial;have he:=run_equal_pointer_nil (P:=P) w t a hu;have hy:A.eval (.const (.pointer none)) = .pointer none:=rfl;rcases hop with rfl|rfl
 .simp only[execOp,ho,hx,hy,aN,hg,aO,binOp,he,aT,dK]
 simp only[execOp,ho,hx,hy,aN,hg,aO,binOp,he,aT];rfl
def Vt{op:BinOp}{t:TypeId}{x:Operand}{yT:TypeId}{a:Option Addr}(hu:P.underlying t=some (.pointer (P.pointee t)))(ho:o.op = .binOp op t x (.const (.pointer none)) yT)(hop:op = .eql\/op = .neq)(hx:af ρ x=some (.t (.con (.pointer a)))) :
 aQ P o ρ Z [] (.t (.bool (if op = .eql then a.isNone else !a.isNone))) []:=
 bE λG β n tm Z' A w hop' _ _=>by have e1:=hop' x _ aK hx;simp only[VR,Z9]at e1⊢;exact⟨_,VL hu ho hop A w e1.1,rfl⟩
def Vu{op:BinOp}{t:TypeId}{x:Operand}{yT:TypeId}{l q:Nat}{cs:List PV}(hu:P.underlying t=some (.pointer (P.pointee t)))(ho:o.op = .binOp op t x (.const (.pointer none)) yT)(hop:op = .eql\/op = .neq)(hx:af ρ x=some (.bptr l q))(hg:get Z l=some (.box cs)) :
 aQ P o ρ Z [l] (.t (.bool (if op = .eql then false else true))) []:=
 bE λG β n tm Z' A w hop' hn _=>by have e1:=hop' x _ aK hx;simp only[VR,Z9]at e1⊢;obtain⟨b,_,hv⟩:=e1.1 cs ((hn l al).trans hg);exact⟨_,VL hu ho hop A w hv,by rcases hop with rfl|rfl<;>rfl⟩
def Zjz{x:Operand}{l q:Nat}{cs:List PV}(ho:o.op = .nilCheck x)(hx:af ρ x=some (.bptr l q))(hg:get Z l=some (.box cs)):aQ P o ρ Z [l] (.bptr l q) []:=bE λG β n tm Z' A w hop hn _=>by have h1:=hop x _ aK hx;have h2:=h1;simp only[VR]at h1;obtain⟨b,_,hv⟩:=h1.1 cs ((hn l al).trans hg);exact⟨.pointer (some ⟨b,q,none⟩),by simp[execOp,ho,hv],by rw[<- hv];exact h2⟩
def ZjA{x:Operand}{l m i q k:Nat}{es:List (List U)}(ho:o.op = .nilCheck x)(hx:af ρ x=some (.rptr l m i q))(hg:get Z l=some (.row k es))(hm:es.length=m):aQ P o ρ Z [l] (.rptr l m i q) []:=bE λG β n tm Z' A w hop hn _=>by have h1:=hop x _ aK hx;have h2:=h1;simp only[VR]at h1;obtain⟨b,_,hv⟩:=(h1.1 k es ((hn l al).trans hg)).2 hm.symm;exact⟨.pointer (some ⟨b,i*k+q,none⟩),by simp[execOp,ho,hv],by rw[<- hv];exact h2⟩
def xg:PV->Bool
 |.t (.sl _)=>true
 |.osl _ _=>true
 |_=>false
def ZjZ{p:PV}(h:xg p=true){c:Ctx}{v:Value}(hv:VR c p v):∃a n cap,v = .slice a n cap:=by
 unfold xg at h;split at h
 .simp only[VR,Z9]at hv;obtain⟨a,cap,hv,_⟩:=hv;exact⟨a,_,cap,hv⟩
 .simp only[VR]at hv;exact hv.2
 cases h
def ZjB{t:TypeId}{x y z:Operand}{k:Nat}{p:PV}{k1 k2:IntKind}(ho:o.op = .slice t x none (some y) (some z))(ha:slInfo P t=some k)(hx:af ρ x=some p)(hp:xg p=true)(hy:af ρ y=some (.t (.int k1 0)))(hz:af ρ z=some (.t (.int k2 0))) :
 aQ P o ρ Z [] .nils []:=
 bE λG β n tm Z' A w hop _ _=>by
  have e1:=hop x _ aK hx;have e2:=hop y _ aK hy;have e3:=hop z _ aK hz;obtain⟨a,len,cap,hv⟩:=ZjZ hp e1;simp only[VR,Z9]at e2 e3⊢;unfold slInfo at ha;split at ha
  case h_2=>cases ha
  rename_i e hu;have hsz:(P.info? e).map (·.size)=some k:=ha;have r1:=run_sliceBound (P:=P) w k2 0 cap .slice3Acap O O;have r2:=run_sliceBound (P:=P) w k1 0 0 .slice3B O O;have hbounds:(Instr.sliceBounds true len cap none (some (.int k1 0)) (some (.int k2 0))).run P w = .ok (0,0,0) w:=by simp only[Instr.sliceBounds,aN,dK,r1,aO,Int.toNat_zero,r2,aT]
  have hel':P.elem t=e:=wo
  have hat:=run_sliceAt_slice (P:=P) w t (.slice a len cap) none (some (.int k1 0)) (some (.int k2 0)) wq;have hsl:∃a',(Instr.slice t (.slice a len cap) none (some (.int k1 0)) (some (.int k2 0))).run P w = .ok (.slice a' 0 0) w:=by refine⟨a,?_⟩;simp only[Instr.slice,aN,cy hu,aO,hbounds,Ce hsz,aT,dK,Nat.sub_self]
  obtain⟨a',hsl⟩:=hsl;refine⟨.slice a' 0 0,?_,a',rfl⟩;simp only[execOp,ho,hv,aN,nO,dW,e2,e3,hat,hsl,aO,aT]
def maxI(x y:Int):Int:=if x<y then y else x
def minI(x y:Int):Int:=if y<x then y else x
def Zjm{x y:Operand}{ts:Array TypeId}{k k':IntKind}{a b:Int}(ho:o.op = .call { callee :=.builtin .max,args := #[x,y],argTypes:=ts })(hx:af ρ x=some (.t (.int k a)))(hy:af ρ y=some (.t (.int k' b))) :
 aQ P o ρ Z [] (.t (.int k (maxI a b))) []:=
 bE λG β n tm Z' A w hop _ _=>by have h1:=hop x _ fc hx;have h2:=hop y _ fc hy;simp only[VR,Z9]at h1 h2⊢;exact⟨_,by simp[execOp,ho,resolve,invoke,builtin,Builtin.max_,Builtin.max2,h1,h2];rfl,rfl⟩
def Zjn{x y:Operand}{ts:Array TypeId}{k k':IntKind}{a b:Int}(ho:o.op = .call { callee :=.builtin .min,args := #[x,y],argTypes:=ts })(hx:af ρ x=some (.t (.int k a)))(hy:af ρ y=some (.t (.int k' b))) :
 aQ P o ρ Z [] (.t (.int k (minI a b))) []:=
 bE λG β n tm Z' A w hop _ _=>by have h1:=hop x _ fc hx;have h2:=hop y _ fc hy;simp only[VR,Z9]at h1 h2⊢;exact⟨_,by simp[execOp,ho,resolve,invoke,builtin,Builtin.min_,Builtin.min2,h1,h2];rfl,rfl⟩
def eF(s:List UInt8):List (List U):=s.map λb=>[U.int .u8 b.toNat]
def VM{I:Nat->Prop}{w:World}{b:Nat}:∀(s:List UInt8) (off:Nat),(∀j x,s[j]?=some x->w.cell? ⟨b,off+j,none⟩=some (.int .u8 (x.toNat:Int)))->ao I w b (eF s) off
 |[],_,_=>by simp[eF,ao]
 |x::s,off,h=>by simp only[eF,cw,ao,Z6,bT,cg];refine⟨⟨⟨_,h 0 x rfl,by simp[Z9]⟩,aa⟩,VM s (off+1) (λj y hj=>?_)⟩;have:=h (j+1) y iI;rwa[show off+(j+1)=off+1+j by omega]at this
def Zjx{st dt e:TypeId}{x:Operand}{s:List UInt8}(ho:o.op = .convert st dt x)(hs:P.underlying st=some .string)(hd:P.underlying dt=some (.slice e))(he:P.underlying e=some (.int .u8))
 (hx:af ρ x=some (.t (.str s))) (hl:s.length<=9223372036854775807):aQ P o ρ Z [] (.t (.sl (eF s))) []:=
 MZ λG β n tm Z' A w hop _ hr=>by
  have hv:=hop x _ aK hx;simp only[VR,Z9]at hv;have hrun:=run_bytes_of_string (P:=P) w st dt e ⟨s.toArray⟩ hs hd he;have hsz:(⟨s.toArray⟩:ByteArray).size=s.length:=qI
  rw[hsz]at hrun;have hge:=sj w s.length 0 e;have hcm:grownCap w s.length 0 e<=maxLen:=sk w s.length 0 e se;generalize hC:grownCap w s.length 0 e=C at hrun hge hcm;generalize hob:Obj.cells (bytesRow ⟨s.toArray⟩ C) e ((bytesRow ⟨s.toArray⟩ C).size,(bytesRow ⟨s.toArray⟩ C).size+1)=ob at hrun;obtain⟨hr',hI,hnew,hL⟩:=(aE.drew hr).allocImm ob;refine⟨.slice (some ⟨w.heap.size,0,none⟩) s.length C,_,?_,hr',?_⟩
  .simp only[execOp,ho,hv,aN,hrun,aO,aT]
  simp only[VR,Z9];refine⟨some ⟨w.heap.size,0,none⟩,C,by simp[eF],by simpa[eF]using hge,hcm,.inr ⟨w.heap.size,0,rfl,hnew,VM s 0 (λj y hj=>?_)⟩⟩;show(w.drew.alloc ob).cell? ⟨w.drew.heap.size,_,none⟩=_;rw[<- hob];have hlt:=(aJ.1 hj).1;unfold World.cell?;have hh:(w.drew.alloc (Obj.cells (bytesRow ⟨s.toArray⟩ C) e ((bytesRow ⟨s.toArray⟩ C).size,(bytesRow ⟨s.toArray⟩ C).size+1))).heap[w.drew.heap.size]?=some (Obj.cells (bytesRow ⟨s.toArray⟩ C) e ((bytesRow ⟨s.toArray⟩ C).size,(bytesRow ⟨s.toArray⟩ C).size+1)):=by show(w.heap.push _)[w.heap.size]?=_;simp
  simp only[hh];unfold bytesRow;rw[aM];rw[jz wy];simp[hj]
def VN{I:Nat->Prop}{w:World}{b:Nat}:∀(s:List UInt8) (off:Nat),ao I w b (eF s) off->∀j (hj:j<s.length),w.cell? ⟨b,off+j,none⟩=some (.int .u8 (s[j].toNat:Int))
 |[],_,_,j,hj=>by simp at hj
 |x::s,off,h,j,hj=>by
  simp only[eF,cw,ao,Z6,bT,cg]at h;obtain⟨⟨⟨c,h1,h2⟩,_⟩,h3⟩:=h;cases j with
  |zero=>simp only[Z9]at h2;subst h2;simpa using h1
  |succ j=>have:=VN s (off+1) h3 j iI;rw[show off+(j+1)=off+1+j by omega];simpa using this
def Zjy{st dt e:TypeId}{x:Operand}{s:List UInt8}(ho:o.op = .convert st dt x)(hs:P.underlying st=some (.slice e))(hd:P.underlying dt=some .string)(he:P.underlying e=some (.int .u8))
 (hx:af ρ x=some (.t (.sl (eF s)))) (hne:s≠[]):aQ P o ρ Z [] (.t (.str s)) []:=
 bE λG β n tm Z' A w hop _ _=>by
  have hv:=hop x _ aK hx;simp only[VR,Z9]at hv;obtain⟨a,cap,hv,_,_,h3⟩:=hv;have hlen:(eF s).length=s.length:=by simp[eF]
  rw[hlen]at hv;rcases h3 with h3|⟨b,off,rfl,_,hel⟩
  .exact absurd (by simpa[eF]using h3) hne
  have hrun:=run_convert_bytes_back (P:=P) w st dt e ⟨b,off,none⟩ cap s hs he hd (λj hj=>by
   have h9:(⟨b,off,none⟩:Addr).add j=⟨b,off+j,none⟩:=by
    unfold Addr.add;by_cases h0:j=0
    .subst h0;rfl
    rw[aI h0]
   rw[h9];exact VN s off hel j hj)
  exact⟨.string ⟨s.toArray⟩,by simp only[execOp,ho,hv,hrun,aN,aO,aT],by simp[VR,Z9]⟩
end
end Go.PW
namespace Go.PW
open Go.RowKit
def aG:List Prop->Prop
 |[]=>True
 |p::ps=>p/\aG ps
def bM{ps qs:List Prop}:aG (ps++qs)↔aG ps/\aG qs:=by
 induction ps with
 |nil=>simp[aG]
 |cons p ps ih=>simp[aG,ih,and_assoc]
mutual
def PV.ren(f:Nat->Nat):PV->PV
 |.t x =>.t x
 |.nils =>.nils
 |.osl l n =>.osl (f l) n
 |.bptr l o =>.bptr (f l) o
 |.rptr l n i o =>.rptr (f l) n i o
 |.vptr cs =>.vptr cs
 |.agg cs =>.agg (PV.rens f cs)
 |.tup cs =>.tup (PV.rens f cs)
 |.fn g cs =>.fn g (PV.rens f cs)
 |.own l d =>.own (f l) d
def PV.rens(f:Nat->Nat):List PV->List PV
 |[]=>[]
 |p::ps=>p.ren f::PV.rens f ps
end
def Blk.ren(f:Nat->Nat):Blk->Blk
 |.box cs =>.box (PV.rens f cs)
 |.row k es =>.row k es
 |.mat k q es =>.mat k q es
 |.map ag es =>.map ag es
 |.prow k i es cs =>.prow k i es (PV.rens f cs)
mutual
def PV.sc:PV->Bool
 |.t x=>x.scal
 |.vptr _=>false
 |.agg cs=>PV.scs cs
 |.tup cs=>PV.scs cs
 |.fn _ cs=>PV.scs cs
 |_=>true
def PV.scs:List PV->Bool
 |[]=>true
 |p::ps=>p.sc&&PV.scs ps
end
def Blk.SC:Blk->Prop
 |.box cs=>PV.scs cs=true
 |.row _ es=>∀el,el∈es->∀x,x∈el->U.scal x=true
 |.mat k q _=>k=1/\q=0
 |.map _ _=>False
 |.prow _ _ _ _=>False
def PV.rens_length{f:Nat->Nat}:∀(ps:List PV),(PV.rens f ps).length=ps.length
 |[]=>rfl
 |p::ps=>by simp[PV.rens,PV.rens_length ps]
def PV.rens_one{f:Nat->Nat}:∀(ps:List PV),(PV.rens f ps).all PV.one=ps.all PV.one
 |[]=>rfl
 |p::ps=>by simp only[PV.rens,jr,PV.rens_one ps];cases p<;>rfl
mutual
def PV.ren_free{f:Nat->Nat}:∀(p:PV),p.free=true->p.ren f=p
 |.t _,_=>rfl
 |.nils,_=>rfl
 |.vptr _,_=>rfl
 |.agg cs,h=>xi
 |.tup cs,h=>xi
 |.fn _ cs,h=>xi
 |.osl _ _,h=>kS
 |.bptr _ _,h=>kS
 |.rptr _ _ _ _,h=>kS
 |.own _ _,h=>kS
def PV.rens_free{f:Nat->Nat}:∀(ps:List PV),PV.frees ps=true->PV.rens f ps=ps
 |[],_=>rfl
 |p::ps,h=>by simp only[PV.frees,aL]at h;simp only[PV.rens];rw[PV.ren_free p h.1,PV.rens_free ps h.2]
end
def xk{f:Nat->Nat}:∀(ps qs:List PV),PV.rens f (ps++qs)=PV.rens f ps++PV.rens f qs
 |[],_=>rfl
 |p::ps,qs=>by simp only[eR,PV.rens,xk ps qs]
def xl{f:Nat->Nat}:∀(ts:List U),PV.rens f (ts.map .t)=ts.map .t
 |[]=>rfl
 |t::ts=>by simp only[cw,PV.rens,PV.ren,xl ts]
def DC{f:Nat->Nat}{i:Nat}{es:List (List U)}{cs:List PV}:PV.rens f (eE i es cs)=eE i es (PV.rens f cs):=by unfold eE;rw[xk,xk,xl,xl]
def mL(c c':Ctx)(l m:Nat):Prop:=
 (∀k es,get c'.Z m=some (.row k es)->get c.Z l=some (.row k es)/\c'.β m=c.β l/\∀b s,c.β l=some b->aY c.w b s->aY c'.w b s) /\
 (∀cs',get c'.Z m=some (.box cs')->∃cs,get c.Z l=some (.box cs)/\c'.β m=c.β l) /\
 (∀k q es,get c'.Z m=some (.mat k q es)->get c.Z l=some (.mat k q es)/\c'.β m=c.β l/\∀b,c.β l=some b->(∀s,aY c.w b s->aY c'.w b s)/\∀j,c'.w.cell? ⟨b,j,none⟩=c.w.cell? ⟨b,j,none⟩) /\
 (∀ag es,get c'.Z m=some (.map ag es)->get c.Z l=some (.map ag es)/\c'.β m=c.β l) /\
 (∀k i es cs',get c'.Z m=some (.prow k i es cs')->∃cs,get c.Z l=some (.prow k i es cs)/\c'.β m=c.β l/\∀b s,c.β l=some b->aY c.w b s->aY c'.w b s)
def ODR.ren{c c':Ctx}{l m:Nat}{v:Value}(hl:mL c c' l m):∀{d:OD},ODR c l v d->ODR c' m v d
 |.tail n i,h=>λk es hg=>by
  obtain⟨hg0,hβ,hh⟩:=hl.1 k es hg;obtain⟨h1,h2⟩:=h k es hg0;refine⟨h1,λhn=>?_⟩;obtain⟨a,cap,hv,hc2,h3⟩:=h2 hn;refine⟨a,cap,hv,hc2,?_⟩;rcases h3 with hc|⟨b,s,ha,hb,hcs,hsz⟩
  .exact .inl hc
  exact .inr ⟨b,s,ha,hβ.trans hb,hh b s hb hcs,hsz⟩
 |.msl n,h=>λk q es hg=>by
  obtain⟨hg0,hβ,hh⟩:=hl.2.2.1 k q es hg;obtain⟨h1,h2⟩:=h k q es hg0;refine⟨h1,λhn=>?_⟩;obtain⟨a,cap,hv,hc1,hc2,h3⟩:=h2 hn;refine⟨a,cap,hv,hc1,hc2,?_⟩;rcases h3 with⟨hc,hb⟩|⟨b,s,ha,hb,hcs,hsz⟩
  .exact .inl ⟨hc,hβ.trans hb⟩
  exact .inr ⟨b,s,ha,hβ.trans hb,(hh b hb).1 s hcs,hsz⟩
 |.mpt n j off,h=>λk q es hg=>by obtain⟨hg0,hβ,hh⟩:=hl.2.2.1 k q es hg;obtain⟨h1,h2⟩:=h k q es hg0;refine⟨h1,λhn=>?_⟩;obtain⟨b,hb,hv⟩:=h2 hn;exact⟨b,hβ.trans hb,hv⟩
 |.mrow n j,h=>⟨h.1,λk q es hg=>by obtain⟨hg0,hβ,hh⟩:=hl.2.2.1 k q es hg;obtain⟨h1,h2⟩:=h.2 k q es hg0;refine⟨h1,λhn=>?_⟩;obtain⟨b,hb,hv⟩:=h2 hn;exact⟨b,hβ.trans hb,((hh b hb).2 _).trans hv⟩⟩
 |.mel n j i,h=>⟨h.1,λk q es hg=>by obtain⟨hg0,hβ,hh⟩:=hl.2.2.1 k q es hg;obtain⟨h1,h2⟩:=h.2 k q es hg0;refine⟨h1,λhn=>?_⟩;obtain⟨b,d,len,cap,hb,hv,hp⟩:=h2 hn;exact⟨b,d,len,cap,hβ.trans hb,((hh b hb).2 _).trans hv,hp⟩⟩
 |.map,h=>λag es hg=>by obtain⟨hg0,hβ⟩:=hl.2.2.2.1 ag es hg;obtain⟨b,hb,hv⟩:=h ag es hg0;exact⟨b,hβ.trans hb,hv⟩
 |.pw n,h=>λk i es cs' hg=>by obtain⟨cs,hg0,hβ,hh⟩:=hl.2.2.2.2 k i es cs' hg;obtain⟨h1,h2⟩:=h k i es cs hg0;refine⟨h1,λhn=>?_⟩;obtain⟨b,s,cap,hv,hc1,hc2,hb,hr,hs⟩:=h2 hn;exact⟨b,s,cap,hv,hc1,hc2,hβ.trans hb,hh b s hb hr,hs⟩
 |.pp n off,h=>λk i es cs' hg=>by obtain⟨cs,hg0,hβ,_⟩:=hl.2.2.2.2 k i es cs' hg;obtain⟨h1,h2⟩:=h k i es cs hg0;refine⟨h1,λhn=>?_⟩;obtain⟨b,hb,hv⟩:=h2 hn;exact⟨b,hβ.trans hb,hv⟩
def aA.lab{β β':Nat->Option Nat}{w:World}{i l:Nat}{o:Blk}{b:Nat}(hβ:β' i=β l)(h:aA β' w i o b):aA β w l o b:=by
 rcases h with h|⟨b0,h2,h3⟩
 .exact .inl (hβ▸h)
 exact .inr ⟨b0,hβ▸h2,h3⟩
def aA.unren{β:Nat->Option Nat}{w:World}{l:Nat}{o:Blk}{b:Nat}{f:Nat->Nat}(h:aA β w l (o.ren f) b):aA β w l o b:=by
 cases o with
 |row k es=>exact h
 |mat k q es=>exact h
 |map ag es=>exact h
 |prow k i es cs=>exact .inl (aA.flat (o :=.prow k i es (PV.rens f cs)) trivial h)
 |box cs=>exact .inl (aA.flat (o :=.box (PV.rens f cs)) trivial h)
def Z9.scal{I I':Nat->Prop}{w w':World}{t:U}{v:Value}(hs:t.scal=true)(h:Z9 I w t v):Z9 I' w' t v:=by
 cases t
 case sl es=>
  cases es with
  |nil=>
   simp only[Z9]at h⊢;obtain⟨a,cap,hv,h1,h2,_⟩:=h;exact⟨a,cap,hv,h1,h2,.inl trivial⟩
  |cons e es=>simp[U.scal]at hs
 all_goals simpa[Z9]using h
def Z6.scal{I I':Nat->Prop}{w:World}{b:Nat}:∀(ts:List U) (off:Nat),(∀x,x∈ts->U.scal x=true)->Z6 I w b ts off->Z6 I' w b ts off
 |[],_,_,_=>trivial
 |t::ts,off,hs,h=>by simp only[Z6]at h⊢;obtain⟨⟨c,hc,ht⟩,hr⟩:=h;exact⟨⟨c,hc,ht.scal (hs t al)⟩,Z6.scal ts _ (λx hx=>hs x (cK _ hx)) hr⟩
def ao.scal{I I':Nat->Prop}{w:World}{b:Nat}:∀(es:List (List U)) (off:Nat),(∀el,el∈es->∀x,x∈el->U.scal x=true)->ao I w b es off->ao I' w b es off
 |[],_,_,_=>trivial
 |e::es,off,hs,h=>by simp only[ao]at h⊢;exact⟨Z6.scal e off (hs e al) h.1,ao.scal es _ (λel hel=>hs el (cK _ hel)) h.2⟩
mutual
def VR.ren{c c':Ctx}{f:Nat->Nat}{sc:Bool}(hI:sc=false->∀b,c.I b->c'.I b/\c'.w.heap[b]?=c.w.heap[b]?):∀(p:PV) (v:Value),(sc=true->p.sc=true)->(∀l,p.has l=true->mL c c' l (f l))->VR c p v->VR c' (p.ren f) v
 |.t x,v,hs,_,h=>by
  simp only[VR,PV.ren]at h⊢;cases sc with
  |false=>exact Z9.mono (hI rfl) x v h
  |true=>exact h.scal (by simpa[PV.sc]using hs rfl)
 |.nils,v,_,_,h=>h
 |.osl l n,v,_,hl,h=>by
  simp only[VR,PV.ren]at h⊢;refine⟨λk es hg=>?_,h.2⟩;obtain⟨h1,h2,h3⟩:=(hl l gn).1 k es hg;obtain⟨g1,g2⟩:=h.1 k es h1;refine⟨g1,λhn=>?_⟩;obtain⟨a,cap,hv,e1,e2,e3⟩:=g2 hn;refine⟨a,cap,hv,e1,e2,?_⟩;rcases e3 with⟨hc,hb⟩|⟨b,m,ha,hb,hr,hs⟩
  .exact .inl ⟨hc,h2.trans hb⟩
  exact .inr ⟨b,m,ha,h2.trans hb,h3 b m hb hr,hs⟩
 |.bptr l o,v,_,hl,h=>by simp only[VR,PV.ren]at h⊢;refine⟨λcs hg=>?_,h.2⟩;obtain⟨cs0,h1,h2⟩:=(hl l gn).2.1 cs hg;obtain⟨b,hb,hv⟩:=h.1 cs0 h1;exact⟨b,h2.trans hb,hv⟩
 |.rptr l n i o,v,_,hl,h=>by simp only[VR,PV.ren]at h⊢;refine⟨λk es hg=>?_,h.2⟩;obtain⟨h1,h2,h3⟩:=(hl l gn).1 k es hg;obtain⟨g1,g2⟩:=h.1 k es h1;refine⟨g1,λhn=>?_⟩;obtain⟨b,hb,hv⟩:=g2 hn;exact⟨b,h2.trans hb,hv⟩
 |.vptr cs,v,hs,_,h=>by
  cases sc with
  |false=>have:=VR.step (c:=c) (c':=c') (hI rfl) (.vptr cs) v (λl hl=>by simp[PV.has]at hl) h;simpa[PV.ren]using this
  |true=>have:=hs rfl;simp[PV.sc]at this
 |.agg cs,v,hs,hl,h=>xm
 |.tup cs,v,hs,hl,h=>xm
 |.fn _ cs,v,hs,hl,h=>xm
 |.own l d,v,_,hl,h=>by simp only[VR,PV.ren]at h⊢;exact⟨h.1.ren (hl l gn),h.2⟩
def VRs.ren{c c':Ctx}{f:Nat->Nat}{sc:Bool}(hI:sc=false->∀b,c.I b->c'.I b/\c'.w.heap[b]?=c.w.heap[b]?):∀(ps:List PV) (vs:List Value),(sc=true->PV.scs ps=true)->(∀l,PV.hasAny l ps=true->mL c c' l (f l))->VRs c ps vs->VRs c' (PV.rens f ps) vs
 |[],vs,_,_,h=>h
 |p::ps,vs,hs,hl,h=>by
  simp only[VRs,PV.rens]at h⊢;obtain⟨v,rest,rfl,hv,hr⟩:=h;have hs':sc=true->p.sc=true/\PV.scs ps=true:=λe=>by simpa[PV.scs]using hs e
  exact⟨v,rest,rfl,VR.ren hI p v (λe=>(hs' e).1) (λl h=>hl l sO) hv,VRs.ren hI ps rest (λe=>(hs' e).2) (λl h=>hl l sO) hr⟩
end
def b7(ls:List Nat)(d l:Nat):Nat:=match ls[l]? with|some L=>L|none=>l+d
def bY(f:Nat->Nat):List (Nat×Blk)->List (Nat×Blk)
 |[]=>[]
 |(l,b)::r=>(f l,b.ren f)::bY f r
def gB(f:Nat->Nat):List (Nat×Blk)->Nat->Option Nat
 |[],_=>none
 |(l,_)::r,m=>bif Nat.beq (f l) m then some l else gB f r m
def Z60{f:Nat->Nat}:∀{σ1:List (Nat×Blk)} {m:Nat} {o:Blk},get (bY f σ1) m=some o->∃l o1,gB f σ1 m=some l/\get σ1 l=some o1/\o=o1.ren f/\f l=m
 |[],m,o,h=>di
 |(l,b)::r,m,o,h=>by
  simp only[bY,PW.get]at h;cases hb:Nat.beq (f l) m with
  |true=>
   simp only[hb,av,aq]at h;exact⟨l,b,by simp[gB,hb],by simp[PW.get],h.symm,(aU _ _).1 hb⟩
  |false=>
   simp only[hb,au]at h;obtain⟨l',o1,h1,h2,h3,h4⟩:=Z60 h;refine⟨l',o1,by simp[gB,hb,h1],?_,h3,h4⟩;simp only[PW.get];rw[ed (λe=>by subst e;rw[h4]at hb;simp at hb),au,h2]
def ox{f:Nat->Nat}:∀{σ1:List (Nat×Blk)} {m l:Nat},gB f σ1 m=some l->f l=m/\(∃o1,get σ1 l=some o1)/\∃o,get (bY f σ1) m=some o
 |[],m,l,h=>di
 |(l0,b)::r,m,l,h=>by
  simp only[gB]at h;cases hb:Nat.beq (f l0) m with
  |true=>
   simp only[hb,av,aq]at h;subst h;exact⟨(aU _ _).1 hb,⟨b,by simp[PW.get]⟩,⟨b.ren f,by simp[bY,PW.get,hb]⟩⟩
  |false=>
   simp only[hb,au]at h;obtain⟨h1,⟨o1,h2⟩,⟨o,h3⟩⟩:=ox h;refine⟨h1,⟨o1,?_⟩,⟨o,by simp[bY,PW.get,hb,h3]⟩⟩;simp only[PW.get];rw[ed (λe=>by subst e;rw[h1]at hb;simp at hb),au,h2]
def Z61{f:Nat->Nat}:∀{σ1:List (Nat×Blk)} {l:Nat} {o1:Blk},get σ1 l=some o1->∃l',gB f σ1 (f l)=some l'
 |[],l,o1,h=>di
 |(l0,b)::r,l,o1,h=>by
  simp only[PW.get]at h;simp only[gB];cases hb:Nat.beq (f l0) (f l)with
  |true=>exact⟨l0,rfl⟩
  |false=>
   cases hb2:Nat.beq l0 l with
   |true=>have:=(aU _ _).1 hb2;subst this;simp at hb
   |false=>simp only[hb2,au]at h;exact Z61 h
def DD{f:Nat->Nat}:∀(a b:List (Nat×Blk)),bY f (a++b)=bY f a++bY f b
 |[],b=>rfl
 |(l,x)::a,b=>by simp only[eR,bY,DD a b]
def βc(β:Nat->Option Nat)(ls:List Nat)(i:Nat):Option Nat:=match ls[i]? with|some L=>β L|none=>none
def β2(β β':Nat->Option Nat)(f:Nat->Nat)(σ1:List (Nat×Blk))(m:Nat):Option Nat:=match gB f σ1 m with|some l=>β' l|none=>β m
def sP(o o':Blk):Prop:=o'=o\/∃cs cs',o = .box cs/\o' = .box cs'
def sP.own{β:Nat->Option Nat}{w:World}{l:Nat}{o o':Blk}{b:Nat}(h:sP o o')(hb:aA β w l o' b):aA β w l o b:=by
 rcases h with rfl|⟨cs,cs',rfl,rfl⟩
 .exact hb
 exact .inl (aA.flat (o :=.box cs') trivial hb)
structure sQ (ls:List Nat) (d:Nat) (tm:List (Nat×PV)) (Z σa σ1:List (Nat×Blk)) (res:PV):Prop where
 nd:∀(i j L:Nat),ls[i]?=some L->ls[j]?=some L->i=j
 len:ls.length<=1000
 sa:∀(i:Nat) o,get σa i=some o->∃L,ls[i]?=some L/\∃o0,get Z L=some o0/\sP o0 o
 all:∀(i L:Nat),ls[i]?=some L->∃o,get σa i=some o
 np:∀(i k j:Nat) es cs,get σa i≠some (.prow k j es cs)
 box:∀(l:Nat) o,get σ1 l=some o->∀L,ls[l]?=some L->(∃cs cs0,o = .box cs/\get Z L=some (.box cs0))\/∃k es es0,o = .row k es/\get Z L=some (.row k es0)
 fr:∀(l:Nat) o,get σ1 l=some o->ls[l]?=none->1000<=l+d/\(∀i q,get tm i=some q->q.has (l+d)=false)/\(∀m y,get Z m=some y->m≠l+d/\y.has (l+d)=false)
 cl:∀l,(res.has l=true\/∃m o,get σ1 m=some o/\o.has l=true)->∃o,get σ1 l=some o
def sQ.key{ls:List Nat}{d:Nat}{tm:List (Nat×PV)}{Z σa σ1:List (Nat×Blk)}{res:PV}(h:sQ ls d tm Z σa σ1 res){l:Nat}{o:Blk}(hg:get σ1 l=some o):gB (b7 ls d) σ1 (b7 ls d l)=some l:=by
 obtain⟨l',hl'⟩:=Z61 (f:=b7 ls d) hg;obtain⟨h1,⟨o',h2⟩,_⟩:=ox hl';suffices l'=l by rw[hl',this]
 unfold b7 at h1;cases e1:ls[l']? with
 |some L1=>
  cases e2:ls[l]? with
  |some L2=>simp only[e1,e2]at h1;subst h1;exact h.nd _ _ _ e1 e2
  |none=>
   simp only[e1,e2]at h1;obtain⟨o3,h3⟩:=h.all _ _ e1;obtain⟨L,h4,_,h5,_⟩:=h.sa _ _ h3;rw[e1]at h4;cases h4;exact absurd h1 ((h.fr l o hg e2).2.2 _ _ h5).1
 |none=>
  cases e2:ls[l]? with
  |some L2=>
   simp only[e1,e2]at h1;obtain⟨o3,h3⟩:=h.all _ _ e2;obtain⟨L,h4,_,h5,_⟩:=h.sa _ _ h3;rw[e2]at h4;cases h4;exact absurd h1.symm ((h.fr l' o' h2 e1).2.2 _ _ h5).1
  |none=>simp only[e1,e2]at h1;omega
def DE{I I':Nat->Prop}{w:World}{b n:Nat}:∀(es:List (List U)) (off:Nat),(∀el,el∈es->el.length=1)->off+es.length<=n->ao (λd=>I d\/Subs w b 1 0 n d) w b es off ->
 (∀j e,es[j]?=some e->∃inner a len cap,e[0]?=some (.sl inner)/\(∀x,x∈inner->∃t,x=[t]/\t.scal=true)/\w.cell? ⟨b,off+j,none⟩=some (.slice a len cap)/\(len≠0->∃d,a=some ⟨d,0,none⟩)) ->
 ao (λd=>I' d\/Subs w b 1 0 n d) w b es off
 |[],_,_,_,_,_=>trivial
 |e::es,off,h1,hn,h,hin=>by
  simp only[ao]at h⊢;have he:=h1 e al;simp only[bT]at hn;obtain⟨inner,a,len,cap,g1,g2,g3,g4⟩:=hin 0 e rfl;obtain⟨t,rfl⟩:=List.length_eq_one_iff.1 he;simp only[js,aq]at g1;subst g1;refine⟨?_,?_⟩
  .simp only[Z6]at h⊢;obtain⟨⟨c,hc,ht⟩,_⟩:=h.1;refine⟨⟨c,hc,?_⟩,aa⟩;rw[cZ]at g3;rw[g3]at hc;cases hc;simp only[Z9]at ht⊢;obtain⟨a',cap',hv,k1,k2,k3⟩:=ht;cases hv;refine⟨a,cap,rfl,k1,k2,?_⟩;rcases k3 with k3|⟨b',o',k3,k4,k5⟩
   .exact .inl k3
   by_cases hz:inner.length=0
   .exact .inl (du hz)
   obtain⟨d,hd⟩:=g4 hz;rw[k3]at hd;cases hd;refine .inr ⟨b',0,k3,.inr ⟨off,by omega,inner.length,cap,hz,by rw[df,cZ,g3,k3]⟩,?_⟩;exact ao.scal inner 0 (λel hel x hx=>by obtain⟨t,rfl,ht⟩:=g2 el hel;rw[gC.1 hx];exact ht) k5
  refine DE es _ (λel hel=>h1 el (cK _ hel)) (by simp only[List.length_singleton];omega) h.2 (λj e' hj=>?_);obtain⟨i2,a2,l2,c2,f1,f2,f3,f4⟩:=hin (j+1) e' hj;exact⟨i2,a2,l2,c2,f1,f2,by rw[<- f3];simp only[List.length_singleton];congr 2;omega,f4⟩
def callU{P:Program}{f:FuncId}{σa:List (Nat×Blk)}{qs:List PV}{σ1:List (Nat×Blk)}{res:PV}(hfn:FnG P f σa qs σ1 res)
 {G:Frm} {β:Nat->Option Nat} {n:Nat} {tm:List (Nat×PV)} {Z:List (Nat×Blk)} {a:Act} {w:World} (hr:aE G β ⟨n,tm,Z⟩ a w) {ls:List Nat} {d:Nat}
 (hok:sQ ls d tm Z σa σ1 res) {sc:Bool} {vals:List Value} (hlen:vals.length=qs.length) (A:Nat->Prop) (hA:∀b,A b->b<w.heap.size/\∀(i:Nat) (L:Nat) (o:Blk),ls[i]?=some L->get Z L=some o->¬aA β w L o b)
 (hAT:∀b,Imm G β w Z b->A b) (hA0:sc=false->∀b,A b->Imm G β w Z b) (hsc:sc=true->res.sc=true/\∀l o,get σ1 l=some o->o.SC)
 (hv:VRs (ctx (b9 (βc β ls) σa A w) (βc β ls) w σa) qs vals)
 (hbx:∀(i L:Nat) cs0 cs,ls[i]?=some L->get Z L=some (.box cs0)->get σa i=some (.box cs)->∀vs,VRs (ctx G β w Z) cs0 vs->cs0.all PV.one=true->VRs (ctx (b9 (βc β ls) σa A w) (βc β ls) w σa) cs vs/\cs.all PV.one=true) :
 Calls P f vals.toArray w λe w'=>∃v b2,e = .returned v/\aE G b2 ⟨n,tm,bY (b7 ls d) σ1++bb ls Z⟩ a w'/\VR (ctx G b2 w' (bY (b7 ls d) σ1++bb ls Z)) (res.ren (b7 ls d)) v:=by
 have hβc:∀(i L:Nat),ls[i]?=some L->βc β ls i=β L:=λi L h=>by simp[βc,h]
 have hownc:∀b,DF (βc β ls) w σa b->∃(i L:Nat) (o:Blk),ls[i]?=some L/\get Z L=some o/\aA β w L o b:=by rintro b ⟨i,o,ho,hb⟩;obtain⟨L,h1,o0,h2,h3⟩:=hok.sa i o ho;exact⟨i,L,o0,h1,h2,h3.own (hb.lab (hβc i L h1))⟩
 refine(hfn.2 A (βc β ls) w vals hlen ?_).mono ?_
 .refine { defers:=rfl,sz:=by simp[hlen],base:=aW _,os:=rfl,tape:=rfl,output:=rfl,old:=λ_ _ _=>rfl,A:=λb hb=>⟨(hA b hb).1,λh=>?_⟩,gl:=λg k hg=>⟨(hr.glw g k hg).1,λh=>?_,hAT g (hr.glI hg),(hr.glw g k hg).2⟩,inj:=λi i' o o' b h h' hb hb'=>?_,sep:=λi o b h hb=>⟨?_,.inr ⟨i,o,h,hb⟩⟩,fix:=λ_ _ _ _=>rfl,row0:=λl k es' _ h=>⟨es',h,aW _,λ_=>⟨rfl,λ_ _ _ h=>h⟩⟩,blk:=λi o h=>?_,tm:=λi p hp=>?_ }
  .obtain⟨i,L,o,h1,h2,h3⟩:=hownc b h;exact(hA b hb).2 i L o h1 h2 h3
  .obtain⟨i,L,cs,h1,h2,h3⟩:=hownc g h;obtain⟨g1,g2,_⟩:=hr.gl g k hg;rcases(hr.sep L _ g h2 h3).2 with h4|h4
   .omega
   exact g2 h4
  .obtain⟨L,h1,o0,h2,h3⟩:=hok.sa i o h;obtain⟨L',h1',o0',h2',h3'⟩:=hok.sa i' o' h';have:=hr.inj L L' _ _ b h2 h2' (h3.own (hb.lab (hβc i L h1))) (h3'.own (hb'.lab (hβc i' L' h1')));subst this;exact hok.nd _ _ _ h1 h1'
  .obtain⟨L,h1,o0,h2,h3⟩:=hok.sa i o h;exact(hr.sep L _ b h2 (h3.own (hb.lab (hβc i L h1)))).1
  .obtain⟨L,h1,o0,h2,h3⟩:=hok.sa i o h;have hII:∀b,Imm G β w Z b->Imm (b9 (βc β ls) σa A w) (βc β ls) w σa b:=λb hb=>⟨(hA b (hAT b hb)).1,.inr (.inl (hAT b hb)),λj o ho hb'=>by
    obtain⟨L',h1',o0',h2',h3'⟩:=hok.sa j o ho;exact(hA b (hAT b hb)).2 j L' o0' h1' h2' (h3'.own (hb'.lab (hβc j L' h1')))⟩
   cases o with
   |box cs=>
    obtain⟨cs0,rfl⟩:∃cs0,o0 = .box cs0:=by
     rcases h3 with h3|⟨cs0,_,h3,_⟩
     .exact⟨cs,h3.symm⟩
     exact⟨cs0,h3⟩
    obtain⟨b,vs,e1,e2,e3,e4,e5⟩:=hr.blk L _ h2;obtain⟨g1,g2⟩:=hbx i L cs0 cs h1 h2 h vs e4 e5;exact⟨b,vs,by rw[show(ctx (b9 (βc β ls) σa A w) (βc β ls) w σa).β i=β L from hβc i L h1];exact e1,by rw[<- g1.length,e4.length];exact e2,e3,g1,g2⟩
   |row k es=>
    obtain rfl:o0 = .row k es:=by
     rcases h3 with h3|⟨_,_,_,h3⟩
     .exact h3.symm
     cases h3
    obtain⟨e0,e1,e2⟩:=hr.blk L _ h2;refine⟨e0,e1,?_⟩;rcases e2 with⟨e2,e3⟩|⟨b,m,e2,e3,e4,e5⟩
    .exact .inl ⟨(show(ctx (b9 (βc β ls) σa A w) (βc β ls) w σa).β i=β L from hβc i L h1).trans e2,e3⟩
    exact .inr ⟨b,m,(show(ctx (b9 (βc β ls) σa A w) (βc β ls) w σa).β i=β L from hβc i L h1).trans e2,e3,e4,ao.mono (w:=w) (w':=w) (λb hb=>⟨hII b hb,rfl⟩) rfl es 0 e5⟩
   |prow k j es cs=>exact absurd h (hok.np i k j es cs)
   |map ag es=>
    obtain rfl:o0 = .map ag es:=by
     rcases h3 with h3|⟨_,_,_,h3⟩
     .exact h3.symm
     cases h3
    obtain⟨b,ents,clock,e1,e2,e3⟩:=hr.blk L _ h2;exact⟨b,ents,clock,(show(ctx (b9 (βc β ls) σa A w) (βc β ls) w σa).β i=β L from hβc i L h1).trans e1,e2,MapR.step (c:=ctx G β w Z) (c':=ctx (b9 (βc β ls) σa A w) (βc β ls) w σa) (λb hb=>⟨hII b hb,rfl⟩) (λ_ _=>rfl) e3⟩
   |mat k q es=>
    obtain rfl:o0 = .mat k q es:=by
     rcases h3 with h3|⟨_,_,_,h3⟩
     .exact h3.symm
     cases h3
    obtain⟨e0,e1,e2⟩:=hr.blk L _ h2;refine⟨e0,e1,?_⟩;rcases e2 with⟨e2,e3⟩|⟨b,m,e2,e3,e4,e5,e6⟩
    .exact .inl ⟨(show(ctx (b9 (βc β ls) σa A w) (βc β ls) w σa).β i=β L from hβc i L h1).trans e2,e3⟩
    exact .inr ⟨b,m,(show(ctx (b9 (βc β ls) σa A w) (βc β ls) w σa).β i=β L from hβc i L h1).trans e2,e3,e4,ao.mono (w:=w) (w':=w) (λb hb=>⟨hb.imp (hII b) id,rfl⟩) rfl es 0 e5,e6⟩
  rw[Z6u]at hp;simp only[fW,dK,Nat.sub_zero]at hp;obtain⟨v,hv1,hv2⟩:=hv.get i p hp;refine⟨(aJ.1 hp).1,?_⟩;simp only[Array.getD_eq_getD_getElem?,sR,hv1,gD];exact hv2
 rintro e w' ⟨v,β',he,hc⟩;have hsz:w.heap.size<=w'.heap.size:=hc.base;have hold:∀b,b<w.heap.size->(∀(i L:Nat) (o:Blk),ls[i]?=some L->get Z L=some o->¬aA β w L o b)->w'.heap[b]?=w.heap[b]?:=λb hb h=>hc.old b hb (λh'=>by obtain⟨i,L,o,h1,h2,h3⟩:=hownc b h';exact h i L o h1 h2 h3);have hOm:∀m o,m∉ls->get Z m=some o->∀b,aA β w m o b->w'.heap[b]?=w.heap[b]?:=λm o hm hg b ho=>hold b (hr.sep m o b hg ho).1 (λi L o' hL hg' ho'=>by have:=hr.inj m L _ _ b hg hg' ho ho';subst this;exact hm (cj hL));let ren:=b7 ls d
 let b2:=β2 β β' ren σ1
 let σ2:=bY ren σ1++bb ls Z
 have hb2k:∀l o,get σ1 l=some o->b2 (ren l)=β' l:=λl o h=>by show(match gB ren σ1 (ren l)with|some l=>β' l|none=>β (ren l))=β' l;rw[show gB ren σ1 (ren l)=some l from hok.key h]
 have hcase:∀m o,get σ2 m=some o->(∃l o1,get σ1 l=some o1/\o=o1.ren ren/\ren l=m/\b2 m=β' l)\/(m∉ls/\get Z m=some o/\b2 m=β m):=by
  intro m o h;simp only[σ2]at h;rw[j1]at h;cases hg:get (bY ren σ1) m with
  |some o'=>
   rw[hg]at h;cases h;obtain⟨l,o1,h1,h2,h3,h4⟩:=Z60 hg;exact .inl ⟨l,o1,h2,h3,h4,by rw[<- h4];exact hb2k l o1 h2⟩
  |none=>
   rw[hg]at h;obtain⟨h1,h2⟩:=kU h;refine .inr ⟨h1,h2,?_⟩;simp only[b2,β2];cases hk:gB ren σ1 m with
   |none=>rfl
   |some l=>obtain⟨_,_,o,h3⟩:=ox hk;rw[hg]at h3;cases h3
 have hOu:∀m o,m∉ls->get Z m=some o->b2 m=β m->∀b,aA b2 w' m o b->aA β w m o b:=λm o hm hg hβ b ho=>ho.of hβ (λb0 hb0=>hOm m o hm hg b0 (.inl hb0));have hOr:∀m l o1 b,b2 m=β' l->aA b2 w' m (o1.ren ren) b->aA β' w' l o1 b:=λm l o1 b hβ ho=>ho.unren.lab hβ;have hnew:∀l o b,get σ1 l=some o->aA β' w' l o b->b<w'.heap.size/\(w.heap.size<=b\/∃(i L:Nat) (o:Blk),ls[i]?=some L/\get Z L=some o/\aA β w L o b):=by intro l o b h hb;obtain⟨h1,h2⟩:=hc.sep l o b h hb;exact⟨h1,h2.imp id (hownc b)⟩
 have hnotσ:∀l o b m y,get σ1 l=some o->aA β' w' l o b->m∉ls->get Z m=some y->¬aA β w m y b:=by
  intro l o b m y h hb hm hy hbm;have hlt:=(hr.sep m y b hy hbm).1;rcases(hnew l o b h hb).2 with h1|⟨i,L,cs,h1,h2,h3⟩
  .omega
  have:=hr.inj m L _ _ b hy h2 hbm h3;subst this;exact hm (cj h1)
 have hpass:∀(i L:Nat),ls[i]?=some L->∃o,get Z L=some o:=λi L h=>by obtain⟨o,ho⟩:=hok.all i L h;obtain⟨L',h1,o0,h2,_⟩:=hok.sa i o ho;rw[h]at h1;cases h1;exact⟨o0,h2⟩
 have hlt1:∀(i L:Nat),ls[i]?=some L->i<1000:=λi L h=>dL (aJ.1 h).1 hok.len;have hkeep:∀l cs L,get σ1 l=some (.box cs)->ls[l]?=some L->β' l=β L:=λl cs L h hL=>by have:=hc.fix l cs (hlt1 l L hL) h;rw[this];exact hβc l L hL
 have hImm:∀b,Imm G β w Z b->Imm G b2 w' σ2 b/\w'.heap[b]?=w.heap[b]?:=by
  rintro b ⟨h1,h2,h3⟩;refine⟨⟨dL h1 hsz,h2,λm o hm hb=>?_⟩,hold b h1 (λi L o hL hg hb=>h3 L _ hg hb)⟩;rcases hcase m o hm with⟨l,o1,e1,rfl,_,e4⟩|⟨e1,e2,e3⟩
  .rcases (hnew l o1 b e1 (hOr m l o1 b e4 hb)).2 with h|⟨i,L,cs,f1,f2,f3⟩
   .omega
   exact h3 L _ f2 f3
  exact h3 m o e2 (hOu m o e1 e2 e3 b hb)
 have hLS:∀l,(∀m o,get σ1 m=some o->ls[m]?=none->m+d≠l)->aV (ctx G β w Z) (ctx G b2 w' σ2) l:=by
  intro l hl;refine⟨λk es' hg=>?_,λcs' hg=>?_,λk q es' hg=>?_,λk es' hg=>?_,λk i es' cs' hg=>?_⟩
  .rcases hcase l _ hg with⟨m,o1,e1,e2,e3,e4⟩|⟨e1,e2,e3⟩
   .cases hm:ls[m]? with
    |some L=>
     rcases hok.box m o1 e1 L hm with⟨cs,_,rfl,_⟩|⟨k1,es1,es0,rfl,hg0⟩
     .simp [Blk.ren]at e2
     simp only[Blk.ren,Blk.row.injEq]at e2;obtain⟨rfl,rfl⟩:=e2;have hLl:L=l:=kV
     subst hLl;obtain⟨es2,f1,f2,f3⟩:=hc.row0 m k es' (hlt1 m L hm) e1;have f1:get σa m=some (.row k es2):=f1;obtain⟨L',h1,o0,h2,h3⟩:=hok.sa m _ f1;rw[hm]at h1;cases h1;obtain rfl:o0 = .row k es2:=by
      rcases h3 with h3|⟨_,_,_,h3⟩
      .exact h3.symm
      cases h3
     refine⟨es2,h2,f2,λhe=>?_⟩;obtain⟨f4,f5⟩:=f3 he;exact⟨e4.trans (f4.trans (hβc m L hm)),λb q hb hrow=>f5 b q ((hβc m L hm).trans hb) hrow⟩
    |none=>exact(hl m o1 e1 hm kV).elim
   exact⟨es',e2,aW _,λ_=>⟨e3,λb m hb hrow=>hrow.of_heap (hOm l _ e1 e2 b (.inl hb))⟩⟩
  .rcases hcase l _ hg with⟨m,o1,e1,e2,e3,e4⟩|⟨e1,e2,e3⟩
   .cases hm:ls[m]? with
    |some L=>
     obtain⟨cs,cs0,rfl,hg0⟩:∃cs cs0,o1 = .box cs/\get Z L=some (.box cs0):=by
      rcases hok.box m o1 e1 L hm with h|⟨_,_,_,rfl,_⟩
      .exact h
      simp[Blk.ren]at e2
     have hLl:L=l:=kV
     subst hLl;exact⟨cs0,hg0,by rw[show(ctx G b2 w' σ2).β L=β' m from e4];exact hkeep m cs L e1 hm⟩
    |none=>exact(hl m o1 e1 hm kV).elim
   exact⟨cs',e2,e3⟩
  .rcases hcase l _ hg with⟨m,o1,e1,e2,e3,e4⟩|⟨e1,e2,e3⟩
   .exfalso;cases hm:ls[m]? with
    |some L=>rcases hok.box m o1 e1 L hm with⟨cs,_,rfl,_⟩|⟨_,_,_,rfl,_⟩<;>simp[Blk.ren]at e2
    |none=>exact hl m o1 e1 hm kV
   exact⟨es',e2,aW _,λ_=>⟨e3,λb hb=>⟨λm hrow=>hrow.of_heap (hOm l _ e1 e2 b (.inl hb)),λ_ _=>fj (w:=w) (hOm l _ e1 e2 b (.inl hb))⟩⟩⟩
  .rcases hcase l _ hg with⟨m,o1,e1,e2,e3,e4⟩|⟨e1,e2,e3⟩
   .exfalso;cases hm:ls[m]? with
    |some L=>rcases hok.box m o1 e1 L hm with⟨cs,_,rfl,_⟩|⟨_,_,_,rfl,_⟩<;>simp[Blk.ren]at e2
    |none=>exact hl m o1 e1 hm kV
   exact⟨_,es',e2,e3⟩
  rcases hcase l _ hg with⟨m,o1,e1,e2,e3,e4⟩|⟨e1,e2,e3⟩
  .exfalso;cases hm:ls[m]? with
   |some L=>rcases hok.box m o1 e1 L hm with⟨cs,_,rfl,_⟩|⟨_,_,_,rfl,_⟩<;>simp[Blk.ren]at e2
   |none=>exact hl m o1 e1 hm kV
  exact⟨es',cs',e2,rfl,e3,λb q hb hrow=>hrow.of_heap (hOm l _ e1 e2 b (.inl hb))⟩
 have hRS:∀l,(∃o,get σ1 l=some o)->mL (ctx (b9 (βc β ls) σa A w) β' w' σ1) (ctx G b2 w' σ2) l (ren l):=by
  rintro l ⟨o,ho⟩;have hg2:get σ2 (ren l)=some (o.ren ren):=by simp only[σ2];rw[j1];obtain⟨_,_,o',h'⟩:=ox (hok.key ho);obtain⟨l2,o2,g1,g2,g3,g4⟩:=Z60 h';have:=hok.key ho;rw[g1]at this;cases this;rw[ho]at g2;cases g2;rw[show get (bY ren σ1) (ren l)=some o' from h',g3]
  refine⟨λk es hg=>?_,λcs' hg=>?_,λk q es hg=>?_,λk es hg=>?_,λk i es cs' hg=>?_⟩
  .have:some (o.ren ren)=some (.row k es):=hg2.symm.trans hg;cases o with
   |box cs=>simp[Blk.ren]at this
   |mat k0 q0 es0=>simp[Blk.ren]at this
   |map k0 es0=>simp[Blk.ren]at this
   |prow k0 i0 es0 cs0=>simp[Blk.ren]at this
   |row k0 es0=>simp only[Blk.ren,aq,Blk.row.injEq]at this;obtain⟨rfl,rfl⟩:=this;exact⟨ho,hb2k l _ ho,λ_ _ _ h=>h⟩
  .have:some (o.ren ren)=some (.box cs'):=hg2.symm.trans hg;cases o with
   |box cs=>exact⟨cs,ho,hb2k l _ ho⟩
   |row k0 es0=>simp[Blk.ren]at this
   |mat k0 q0 es0=>simp[Blk.ren]at this
   |map k0 es0=>simp[Blk.ren]at this
   |prow k0 i0 es0 cs0=>simp[Blk.ren]at this
  .have:some (o.ren ren)=some (.mat k q es):=hg2.symm.trans hg;cases o with
   |box cs=>simp[Blk.ren]at this
   |row k0 es0=>simp[Blk.ren]at this
   |mat k0 q0 es0=>simp only[Blk.ren,aq,Blk.mat.injEq]at this;obtain⟨rfl,rfl,rfl⟩:=this;exact⟨ho,hb2k l _ ho,λ_ _=>⟨λ_ h=>h,λ_=>rfl⟩⟩
   |map k0 es0=>simp[Blk.ren]at this
   |prow k0 i0 es0 cs0=>simp[Blk.ren]at this
  .have:some (o.ren ren)=some (.map k es):=hg2.symm.trans hg;cases o with
   |box cs=>simp[Blk.ren]at this
   |row k0 es0=>simp[Blk.ren]at this
   |mat k0 q0 es0=>simp[Blk.ren]at this
   |map k0 es0=>simp only[Blk.ren,aq,Blk.map.injEq]at this;obtain⟨rfl,rfl⟩:=this;exact⟨ho,hb2k l _ ho⟩
   |prow k0 i0 es0 cs0=>simp[Blk.ren]at this
  have:some (o.ren ren)=some (.prow k i es cs'):=hg2.symm.trans hg;cases o with
  |box cs=>simp[Blk.ren]at this
  |row k0 es0=>simp[Blk.ren]at this
  |mat k0 q0 es0=>simp[Blk.ren]at this
  |map k0 es0=>simp[Blk.ren]at this
  |prow k0 i0 es0 cs0=>simp only[Blk.ren,aq,Blk.prow.injEq]at this;obtain⟨rfl,rfl,rfl,rfl⟩:=this;exact⟨cs0,ho,hb2k l _ ho,λ_ _ _ h=>h⟩
 have hIr:sc=false->∀b,Imm (b9 (βc β ls) σa A w) β' w' σ1 b->Imm G b2 w' σ2 b/\w'.heap[b]?=w'.heap[b]?:=by
  rintro hs b ⟨h1,h2,h3⟩;have hA':=hA0 hs;refine⟨⟨h1,?_,λm o hm hb=>?_⟩,rfl⟩
  .rcases h2 with h2|h2|h2
   .exact .inl (cX hr.base h2)
   .exact (hA' b h2).2.1
   obtain⟨i,L,cs,f1,f2,f3⟩:=hownc b h2;exact(hr.sep L _ b f2 f3).2.imp id .inr
  rcases hcase m o hm with⟨l,o1,e1,rfl,_,e4⟩|⟨e1,e2,e3⟩
  .exact h3 l o1 e1 (hOr m l o1 b e4 hb)
  have hb:=hOu m o e1 e2 e3 b hb;rcases h2 with h2|h2|h2
  .have:=(hr.sep m o b e2 hb).1;exact absurd h2 (Nat.not_le_of_lt this)
  .exact (hA' b h2).2.2 m o e2 hb
  obtain⟨i,L,cs,f1,f2,f3⟩:=hownc b h2;have:=hr.inj m L _ _ b e2 f2 hb f3;subst this;exact e1 (cj f1)
 refine⟨v,b2,he,?_,?_⟩
 .refine { defers:=hr.defers,sz:=hr.sz,base:=cX hr.base hsz,os:=hc.os.trans hr.os,tape:=hc.tape.trans hr.tape,output:=hc.output.trans hr.output,old:=λb hb hno=>?_,A:=hr.A,gl:=hr.gl,inj:=λm m' o o' b hm hm' hb hb'=>?_,sep:=λm o b hm hb=>?_,fix:=λm cs hm hg=>?_,row0:=hr.row0.step (λl hl=>hLS l (λm o h hn=>by have:=(hok.fr m o h hn).1;omega)),blk:=λm o hm=>?_,tm:=λi p hp=>⟨(hr.tm i p hp).1,?_⟩ }
  .refine (hold b (dL hb hr.base) (λi L o hL hg hb'=>?_)).trans (hr.old b hb hno);rcases(hr.sep L _ b hg hb').2 with h|h
   .omega
   exact hno h
  .rcases hcase m o hm with⟨l,o1,e1,rfl,e3,e4⟩|⟨e1,e2,e3⟩<;>rcases hcase m' o' hm' with⟨l',o1',e1',rfl,e3',e4'⟩|⟨e1',e2',e3'⟩
   .have:=hc.inj l l' o1 o1' b e1 e1' (hOr m l o1 b e4 hb) (hOr m' l' o1' b e4' hb');rw[<- e3,<- e3',this]
   .exact absurd (hOu m' o' e1' e2' e3' b hb') (hnotσ l o1 b m' o' e1 (hOr m l o1 b e4 hb) e1' e2')
   .exact absurd (hOu m o e1 e2 e3 b hb) (hnotσ l' o1' b m o e1' (hOr m' l' o1' b e4' hb') e1 e2)
   exact hr.inj m m' o o' b e2 e2' (hOu m o e1 e2 e3 b hb) (hOu m' o' e1' e2' e3' b hb')
  .rcases hcase m o hm with⟨l,o1,e1,rfl,e3,e4⟩|⟨e1,e2,e3⟩
   .obtain⟨h1,h2⟩:=hnew l o1 b e1 (hOr m l o1 b e4 hb);refine⟨h1,?_⟩;rcases h2 with h2|⟨i,L,cs,f1,f2,f3⟩
    .exact .inl (cX hr.base h2)
    exact(hr.sep L _ b f2 f3).2
   obtain⟨h1,h2⟩:=hr.sep m o b e2 (hOu m o e1 e2 e3 b hb);exact⟨dL h1 hsz,h2⟩
  .rcases hcase m _ hg with⟨l,o1,e1,e2,e3,e4⟩|⟨e1,e2,e3⟩
   .cases hl:ls[l]? with
    |some L=>
     obtain⟨cs1,cs0,rfl,hg0⟩:∃cs cs0,o1 = .box cs/\get Z L=some (.box cs0):=by
      rcases hok.box l o1 e1 L hl with h|⟨_,_,_,rfl,_⟩
      .exact h
      simp[Blk.ren]at e2
     have hLm:L=m:=by simpa[ren,b7,hl]using e3
     subst hLm;rw[e4,hkeep l cs1 L e1 hl];exact hr.fix L cs0 hm hg0
    |none=>
     have:=(hok.fr l o1 e1 hl).1;have h5:l+d=m:=by simpa[ren,b7,hl]using e3
     omega
   rw[e3];exact hr.fix m cs hm e2
  .rcases hcase m o hm with⟨l,o1,e1,rfl,e3,e4⟩|⟨e1,e2,e3⟩
   .have hb:=hc.blk l o1 e1;cases o1 with
    |box cs=>
     obtain⟨b,vs,f1,f2,f3,f4,f5⟩:=hb;exact⟨b,vs,e4.trans f1,by rw[PV.rens_length];exact f2,f3,VRs.ren (sc:=sc) hIr cs vs (λe=>(hsc e).2 l _ e1) (λl' hl'=>hRS l' (hok.cl l' (.inr ⟨l,_,e1,hl'⟩))) f4,by rw[PV.rens_one];exact f5⟩
    |row k es=>
     obtain⟨f0,f1,f2⟩:=hb;refine⟨f0,f1,?_⟩;rcases f2 with⟨f2,f3⟩|⟨b,s,f2,f3,f4,f5⟩
     .exact .inl ⟨e4.trans f2,f3⟩
     refine .inr ⟨b,s,e4.trans f2,f3,f4,?_⟩;have hcell:=f5;cases sc with
     |false=>exact ao.mono (w:=w') (w':=w') (hIr rfl) rfl es 0 f5
     |true=>exact ao.scal es 0 ((hsc rfl).2 l _ e1) f5
    |map ag es=>
     obtain⟨b,ents,clock,f1,f2,f3⟩:=hb;cases hs:sc with
     |false=>exact⟨b,ents,clock,e4.trans f1,f2,MapR.step (c:=ctx (b9 (βc β ls) σa A w) β' w' σ1) (c':=ctx G b2 w' σ2) (hIr hs) (λ_ _=>rfl) f3⟩
     |true=>exact((hsc hs).2 l _ e1).elim
    |prow k i es cs=>
     obtain⟨g0,g1,g2,g3,g4,b,s,vs,f1,f2,f3,f4,f5⟩:=hb;cases hs:sc with
     |false=>
      refine⟨g0,g1,g2,by rw[PV.rens_length];exact g3,by rw[PV.rens_one];exact g4,b,s,vs,e4.trans f1,f2,f3,f4,?_⟩;rw[<- DC];exact VRs.ren (sc:=false) (λ_=>hIr hs) _ vs (λe=>by cases e) (λl' hl'=>hRS l' (hok.cl l' (.inr ⟨l,_,e1,by rw[xn]at hl';exact hl'⟩))) f5
     |true=>exact((hsc hs).2 l _ e1).elim
    |mat k q es=>
     obtain⟨f0,f1,f2⟩:=hb;refine⟨f0,f1,?_⟩;rcases f2 with⟨f2,f3⟩|⟨b,s,f2,f3,f4,f5,f6⟩
     .exact .inl ⟨e4.trans f2,f3⟩
     refine .inr ⟨b,s,e4.trans f2,f3,f4,?_,f6⟩;cases hs:sc with
     |false=>exact ao.mono (w:=w') (w':=w') (λd hd=>⟨hd.imp (λh=>(hIr hs d h).1) id,rfl⟩) rfl es 0 f5
     |true=>
      obtain⟨k1,k2⟩:=(hsc hs).2 l _ e1;subst k1;subst k2;refine DE es 0 f1 O f5 (λj e he=>?_);obtain⟨inner,a,len,cap,g1,g2,g3,g4⟩:=f6.2 j e he;exact⟨inner,a,len,cap,g1,g2,by rw[aM];rw[df,cZ]at g3;exact g3,λhl=>by obtain⟨d,m',h1,_⟩:=g4 hl;exact⟨d,h1⟩⟩
   refine BR.step (c:=ctx G β w Z) (c':=ctx G b2 w' σ2) hImm e3 (λb hb=>?_) (λl hl=>?_) (hr.blk m o e2)
   .exact hOm m o e1 e2 b hb
   refine hLS l (λm' o' hm' hn e=>?_);have:=((hok.fr m' o' hm' hn).2.2 m o e2).2;rw[e,hl]at this;cases this
  refine VR.step (c:=ctx G β w Z) (c':=ctx G b2 w' σ2) hImm p _ (λl hl=>?_) (hr.tm i p hp).2;refine hLS l (λm' o' hm' hn e=>?_);have:=(hok.fr m' o' hm' hn).2.1 i p hp;rw[e,hl]at this;cases this
 have hv0:=(hc.tm 0 res (by simp[PW.get])).2;exact VR.ren (sc:=sc) hIr res v (λe=>(hsc e).1) (λl hl=>hRS l (hok.cl l (.inl hl))) (by simpa using hv0)
end Go.PW
namespace Go.PW
open Go.RowKit
def fB:List Nat->Nat->Option Nat
 |[],_=>none
 |L::ls,m=>bif Nat.beq L m then some 0 else(fB ls m).map (· + 1)
def Z62:∀{ls:List Nat} {m i:Nat},fB ls m=some i->ls[i]?=some m
 |[],m,i,h=>di
 |L::ls,m,i,h=>by
  simp only[fB]at h;cases hb:Nat.beq L m with
  |true=>
   simp only[hb,av,aq]at h;subst h;simp[(aU _ _).1 hb]
  |false=>
   simp only[hb,au,cA]at h;obtain⟨j,hj,rfl⟩:=h;simpa using Z62 hj
def U6:∀{ls:List Nat} {m:Nat},fB ls m=none->∀(i:Nat),ls[i]?≠some m
 |[],m,_,i,h=>jb
 |L::ls,m,hn,i,h=>by
  simp only[fB]at hn;cases hb:Nat.beq L m with
  |true=>simp[hb]at hn
  |false=>
   simp only[hb,au,Option.map_eq_none_iff]at hn;cases i with
   |zero=>simp only[js,aq]at h;subst h;simp at hb
   |succ i=>exact U6 hn i iS
def mI(ls:List Nat)(Z:List (Nat×Blk)):PV->Option (List Prop×U)
 |.t x=>some ([],x)
 |.nils=>some ([],.sl [])
 |.osl l n=>
  match fB ls l,get Z l with
  |none,some (.row _ es)=>some ([es.length=n],.sl es)
  |_,_=>none
 |.own l (.msl n)=>
  match fB ls l,get Z l with
  |none,some (.mat _ _ es)=>some ([es.length=n],.sl es)
  |_,_=>none
 |_=>none
def Z2g(ls:List Nat)(Z:List (Nat×Blk)):List PV->Option (List Prop×List U)
 |[]=>some ([],[])
 |c::cs=>
  match mI ls Z c,Z2g ls Z cs with
  |some (ps,d),some (qs,ds)=>some (ps++qs,d::ds)
  |_,_=>none
def ZiP{ls:List Nat}{Z Z':List (Nat×Blk)}(p:PV)(h:∀m,p.has m=true->get Z' m=get Z m):mI ls Z' p=mI ls Z p:=by
 cases p with
 |osl l n=>simp only[mI];rw[h l gn]
 |own l d=>cases d<;>simp only[mI];rw[h l gn]
 |_=>rfl
def U7{ls:List Nat}{Z Z':List (Nat×Blk)}:∀(ps:List PV),(∀m,PV.hasAny m ps=true->get Z' m=get Z m)->Z2g ls Z' ps=Z2g ls Z ps
 |[],_=>rfl
 |p::ps,h=>by simp only[Z2g];rw[ZiP p (λm hm=>h m (by simp[PV.hasAny,hm])),U7 ps (λm hm=>h m (by simp[PV.hasAny,hm]))]
mutual
def PV.deep(Z:List (Nat×Blk))(m:Nat):PV->Bool
 |.bptr L _=>match get Z L with|some (.box cs)=>PV.hasAny m cs|_=>false
 |.agg cs=>PV.deeps Z m cs
 |.tup cs=>PV.deeps Z m cs
 |.fn _ cs=>PV.deeps Z m cs
 |_=>false
def PV.deeps(Z:List (Nat×Blk))(m:Nat):List PV->Bool
 |[]=>false
 |p::ps=>p.deep Z m||PV.deeps Z m ps
end
mutual
def eb(S:Bool)(ls:List Nat)(Z:List (Nat×Blk)):PV->Option (List Prop×PV)
 |.t x=>some ([],.t x)
 |.nils=>some ([],.t (.sl []))
 |.osl l n=>
  match fB ls l with
  |some i=>some ([],.osl i n)
  |none=>
   match S,get Z l with
   |true,some (.row _ es)=>some ([es.length=n],.t (.sl es))
   |_,_=>none
 |.bptr L o=>
  match fB ls L with
  |some i=>some ([],.bptr i o)
  |none=>
   match S,get Z L with
   |true,some (.box cs)=>match Z2g ls Z cs with|some (ps,ts)=>some (ps,.vptr (ts.drop o))|none=>none
   |_,_=>none
 |.rptr _ _ _ _=>none
 |.vptr cs=>some ([],.vptr cs)
 |.agg cs=>match dJ S ls Z cs with|some (ps,ds)=>some (ps,.agg ds)|none=>none
 |.tup cs=>match dJ S ls Z cs with|some (ps,ds)=>some (ps,.tup ds)|none=>none
 |.fn f cs=>match dJ S ls Z cs with|some (ps,ds)=>some (ps,.fn f ds)|none=>none
 |.own l d=>
  match fB ls l with
  |some i=>some ([],.own i d)
  |none=>
   match S,d,get Z l with
   |true,.msl n,some (.mat _ _ es)=>some ([es.length=n],.t (.sl es))
   |_,_,_=>none
def dJ(S:Bool)(ls:List Nat)(Z:List (Nat×Blk)):List PV->Option (List Prop×List PV)
 |[]=>some ([],[])
 |c::cs=>
  match eb S ls Z c,dJ S ls Z cs with
  |some (ps,d),some (qs,ds)=>some (ps++qs,d::ds)
  |_,_=>none
end
mutual
def ZiQ{S:Bool}{ls:List Nat}{Z Z':List (Nat×Blk)}:∀(p:PV),(∀m,p.has m=true\/p.deep Z m=true->get Z' m=get Z m)->eb S ls Z' p=eb S ls Z p
 |.t _,_=>iK
 |.nils,_=>iK
 |.osl l n,h=>Tr
 |.bptr l o,h=>by
  simp only[eb];rw[h l (.inl gn)];cases fB ls l with
  |some i=>rfl
  |none=>
   cases S with
   |false=>rfl
   |true=>
    cases hg:get Z l with
    |none=>rfl
    |some b=>
     cases b with
     |box cs=>simp only;rw[U7 cs (λm hm=>h m (.inr (by simp only[PV.deep,hg];exact hm)))]
     |row k es=>rfl
     |mat k q es=>rfl
     |map ag es=>rfl
     |prow k i es cs=>rfl
 |.rptr _ _ _ _,_=>iK
 |.vptr _,_=>iK
 |.agg cs,h=>B9
 |.tup cs,h=>B9
 |.fn _ cs,h=>B9
 |.own l d,h=>Tr
def Ca{S:Bool}{ls:List Nat}{Z Z':List (Nat×Blk)}:∀(ps:List PV),(∀m,PV.hasAny m ps=true\/PV.deeps Z m ps=true->get Z' m=get Z m)->dJ S ls Z' ps=dJ S ls Z ps
 |[],_=>by simp only[dJ]
 |p::ps,h=>by simp only[dJ];rw[ZiQ p (λm hm=>h m Tq),Ca ps (λm hm=>h m Tq)]
end
structure ArgC (S:Bool) (ls:List Nat) (Z:List (Nat×Blk)) (c c':Ctx):Prop where
 cσ:c.Z=Z
 I:∀b,c.I b->c'.I b/\c'.w.heap[b]?=c.w.heap[b]?
 S:S=true->∀l o,fB ls l=none->get Z l=some o->∀b,aA c.β c.w l o b->c'.I b/\c'.w.heap[b]?=c.w.heap[b]?
 blk:∀l o,get Z l=some o->BR c l o
 box:∀(i L:Nat) cs,ls[i]?=some L->get c'.Z i=some (.box cs)->(∃cs0,get Z L=some (.box cs0))/\c'.β i=c.β L
 rowp:∀(i L:Nat) k es,ls[i]?=some L->get c'.Z i=some (.row k es)->get Z L=some (.row k es)/\c'.β i=c.β L/\∀b m,aY c.w b m->aY c'.w b m
 matp:∀(i L:Nat) k q es,ls[i]?=some L->get c'.Z i=some (.mat k q es)->get Z L=some (.mat k q es)/\c'.β i=c.β L/\(∀b m,aY c.w b m->aY c'.w b m)/\∀a,c'.w.cell? a=c.w.cell? a
 mapp:∀(i L:Nat) ag es,ls[i]?=some L->get c'.Z i=some (.map ag es)->get Z L=some (.map ag es)/\c'.β i=c.β L
 np:∀(i k j:Nat) es cs,get c'.Z i≠some (.prow k j es cs)
def ArgC.rstep{S:Bool}{ls:List Nat}{Z:List (Nat×Blk)}{c c':Ctx}(h:ArgC S ls Z c c'){i L:Nat}(hi:ls[i]?=some L):mL c c' L i:=
 ⟨λk es hg=>by obtain⟨h1,h2,h3⟩:=h.rowp i L k es hi hg;exact⟨by rw[h.cσ];exact h1,h2,λb s _ hr=>h3 b s hr⟩,
  λcs hg=>by obtain⟨⟨cs0,h1⟩,h2⟩:=h.box i L cs hi hg;exact⟨cs0,by rw[h.cσ];exact h1,h2⟩,
  λk q es hg=>by obtain⟨h1,h2,h3,h4⟩:=h.matp i L k q es hi hg;exact⟨by rw[h.cσ];exact h1,h2,λb _=>⟨h3 b,λj=>h4 _⟩⟩,
  λag es hg=>by obtain⟨h1,h2⟩:=h.mapp i L ag es hi hg;exact⟨by rw[h.cσ];exact h1,h2⟩,
  λk j es cs hg=>absurd hg (h.np i k j es cs)⟩
def ZiR{ls:List Nat}{Z:List (Nat×Blk)}{c c':Ctx}(h:ArgC true ls Z c c'){l n k:Nat}{es:List (List U)}{v:Value}(hpn:fB ls l=none)(hg:get Z l=some (.row k es))(hn:es.length=n)(hv:VR c (.osl l n) v):Z9 c'.I c'.w (.sl es) v:=by
 simp only[VR]at hv;obtain⟨a,cap,rfl,hc1,hc2,h3⟩:=(hv.1 k es sh).2 hn.symm;simp only[Z9];subst hn;refine⟨a,cap,rfl,hc1,hc2,?_⟩;obtain⟨_,_,hb⟩:=h.blk l _ hg;rcases hb with⟨_,he⟩|⟨b,sz,hb,_,_,hel⟩
 .exact .inl he
 rcases h3 with⟨_,hb'⟩|⟨b',sz',ha,hb',_,_⟩
 .exact absurd (hb.symm.trans hb') al
 have:b'=b:=c7
 subst this;obtain⟨hI,hh⟩:=h.S rfl l _ hpn hg b' (.inl hb);exact .inr ⟨b',0,ha,hI,ao.mono h.I hh es 0 hel⟩
def ZiS{ls:List Nat}{Z:List (Nat×Blk)}{c c':Ctx}(h:ArgC true ls Z c c'){l n k q0:Nat}{es:List (List U)}{v:Value}(hpn:fB ls l=none)(hg:get Z l=some (.mat k q0 es))(hn:es.length=n)(hv:VR c (.own l (.msl n)) v):Z9 c'.I c'.w (.sl es) v:=by
 simp only[VR]at hv;obtain⟨a,cap,rfl,hc1,hc2,h3⟩:=(hv.1 k q0 es sh).2 hn.symm;simp only[Z9];subst hn;refine⟨a,cap,rfl,hc1,hc2,?_⟩;obtain⟨_,_,hb⟩:=h.blk l _ hg;rcases hb with⟨_,he⟩|⟨b,sz,hb,_,_,hel,_⟩
 .exact .inl he
 rcases h3 with⟨_,hb'⟩|⟨b',sz',ha,hb',_,_⟩
 .exact absurd (hb.symm.trans hb') al
 have:b'=b:=c7
 subst this;obtain⟨hI,hh⟩:=h.S rfl l _ hpn hg b' (.inl hb);refine .inr ⟨b',0,ha,hI,ao.mono (λd hd=>?_) hh es 0 hel⟩;rcases hd with hd|hd
 .exact h.I d hd
 exact h.S rfl l _ hpn hg d (.inr ⟨b',hb,hd⟩)
def ZiT{ls:List Nat}{Z:List (Nat×Blk)}{c c':Ctx}(h:ArgC true ls Z c c'){p:PV}{ps:List Prop}{x:U}{v:Value}(hf:mI ls Z p=some (ps,x))(hc:aG ps)(hv:VR c p v):Z9 c'.I c'.w x v:=by
 unfold mI at hf;split at hf
 .cases hf;have:=VR.step (c:=c) (c':=c') h.I (.t x) v (λl hl=>by simp[PV.has]at hl) hv;simpa only[VR]using this
 .cases hf;simp only[VR]at hv;obtain⟨a,rfl⟩:=hv;simp only[Z9];exact⟨a,0,rfl,by simp,by simp[maxLen],.inl trivial⟩
 .split at hf
  .rename_i _ k es hp hg;cases hf;exact ZiR h hp hg hc.1 hv
  cases hf
 .split at hf
  .rename_i _ k q es hp hg;cases hf;exact ZiS h hp hg hc.1 hv
  cases hf
 cases hf
def U8{ls:List Nat}{Z:List (Nat×Blk)}{c c':Ctx}(h:ArgC true ls Z c c'){b:Nat}:∀{cs:List PV} {ps:List Prop} {ts:List U} {vs:List Value} (off:Nat),Z2g ls Z cs=some (ps,ts)->aG ps->VRs c cs vs ->
 (∀(j:Nat) v,vs[j]?=some v->c'.w.cell? ⟨b,off+j,none⟩=some v)->Z6 c'.I c'.w b ts off
 |[],ps,ts,vs,off,hf,_,_,_=>by simp only[Z2g,aq,bG]at hf;rw[<- hf.2];trivial
 |p::cs,ps,ts,vs,off,hf,hc,hv,hcl=>by
  simp only[Z2g]at hf;split at hf
  .rename_i ps1 d ps2 ds h1 h2;cases hf;obtain⟨c1,c2⟩:=bM.1 hc;simp only[VRs]at hv;obtain⟨v,rest,rfl,hv,hr⟩:=hv;simp only[Z6];refine⟨⟨v,by simpa using hcl 0 v rfl,ZiT h h1 c1 hv⟩,U8 h (off+1) h2 c2 hr (λj u hj=>?_)⟩;rw[l9,Nat.add_comm 1 j];exact hcl (j+1) u iI
  cases hf
mutual
def ZiU{S:Bool}{ls:List Nat}{Z:List (Nat×Blk)}{c c':Ctx}(h:ArgC S ls Z c c'):∀(p q:PV) (ps:List Prop) (v:Value),eb S ls Z p=some (ps,q)->aG ps->VR c p v->VR c' q v
 |.t x,q,ps,v,ha,_,hv=>by simp only[eb,aq,bG]at ha;rw[<- ha.2];exact VR.step h.I (.t x) v (λl hl=>by simp[PV.has]at hl) hv
 |.nils,q,ps,v,ha,_,hv=>by simp only[eb,aq,bG]at ha;rw[<- ha.2];simp only[VR]at hv⊢;obtain⟨a,rfl⟩:=hv;simp only[Z9];exact⟨a,0,rfl,by simp,by simp[maxLen],.inl trivial⟩
 |.osl l n,q,ps,v,ha,hc,hv=>by
  simp only[eb]at ha;split at ha
  .rename_i i hi;cases ha;simp only[VR]at hv⊢;refine⟨λk es hg=>?_,hv.2⟩;obtain⟨h1,h2,h3⟩:=h.rowp i l k es (Z62 hi) hg;obtain⟨g1,g2⟩:=hv.1 k es (by rw[h.cσ];exact h1);refine⟨g1,λhn=>?_⟩;obtain⟨a,cap,hv',e1,e2,e3⟩:=g2 hn;refine⟨a,cap,hv',e1,e2,?_⟩;rcases e3 with⟨hc,hb⟩|⟨b,m,ha,hb,hr,hs⟩
   .exact .inl ⟨hc,h2.trans hb⟩
   exact .inr ⟨b,m,ha,h2.trans hb,h3 b m hr,hs⟩
  rename_i hpn;split at ha
  .rename_i k es hg;cases ha;have hn:es.length=n:=hc.1;simp only[VR]at hv⊢;obtain⟨a,cap,rfl,hc1,hc2,h3⟩:=(hv.1 k es sh).2 hn.symm;simp only[Z9];subst hn;refine⟨a,cap,rfl,hc1,hc2,?_⟩;obtain⟨_,_,hb⟩:=h.blk l _ hg;rcases hb with⟨_,he⟩|⟨b,sz,hb,_,_,hel⟩
   .exact .inl he
   rcases h3 with⟨_,hb'⟩|⟨b',sz',ha,hb',_,_⟩
   .exact absurd (hb.symm.trans hb') al
   have:b'=b:=c7
   subst this;obtain⟨hI,hh⟩:=h.S rfl l _ hpn hg b' (.inl hb);exact .inr ⟨b',0,ha,hI,ao.mono h.I hh es 0 hel⟩
  cases ha
 |.bptr L o,q,ps,v,ha,hc,hv=>by
  simp only[eb]at ha;split at ha
  .rename_i i hi;cases ha;simp only[VR]at hv⊢;refine⟨λcs hg=>?_,hv.2⟩;obtain⟨⟨cs0,h1⟩,h2⟩:=h.box i L cs (Z62 hi) hg;obtain⟨b,hb,hv'⟩:=hv.1 cs0 (by rw[h.cσ];exact h1);exact⟨b,h2.trans hb,hv'⟩
  rename_i hpn;split at ha
  .rename_i cs hg;split at ha
   .rename_i ts hts;cases ha;simp only[VR]at hv⊢;obtain⟨b,hb1,hv⟩:=hv.1 _ sh;obtain⟨b',vs,hb',_,hcs,hvs,_⟩:=h.blk L _ hg;have:b'=b:=by have:=hb'.symm.trans hb1;simpa using this
    subst this;obtain⟨hI,hh⟩:=h.S rfl L _ hpn hg b' (.inl hb1);have h1:=U8 h (b:=b') 0 hts hc hvs (λj v hj=>by rw[aM];exact(fj (w:=c.w) hh).trans (hcs j v hj));have h2:=Z6.drop o ts 0 h1;rw[aM]at h2;exact⟨b',o,hv,λ_=>hI,h2⟩
   cases ha
  cases ha
 |.rptr _ _ _ _,q,ps,v,ha,_,hv=>by simp[eb]at ha
 |.vptr cs,q,ps,v,ha,_,hv=>by simp only[eb,aq,bG]at ha;rw[<- ha.2];exact VR.step h.I (.vptr cs) v (λl hl=>by simp[PV.has]at hl) hv
 |.agg cs,q,ps,v,ha,hc,hv=>by
  simp only[eb]at ha;split at ha
  .rename_i ps' ds hd;cases ha;simp only[VR]at hv⊢;obtain⟨vs,hv,hs⟩:=hv;exact⟨vs,hv,Z0v h cs ds ps vs hd hc hs⟩
  cases ha
 |.tup cs,q,ps,v,ha,hc,hv=>by
  simp only[eb]at ha;split at ha
  .rename_i ps' ds hd;cases ha;simp only[VR]at hv⊢;obtain⟨vs,hv,hs⟩:=hv;exact⟨vs,hv,Z0v h cs ds ps vs hd hc hs⟩
  cases ha
 |.fn f cs,q,ps,v,ha,hc,hv=>by
  simp only[eb]at ha;split at ha
  .rename_i ps' ds hd;cases ha;simp only[VR]at hv⊢;obtain⟨vs,hv,hs⟩:=hv;exact⟨vs,hv,Z0v h cs ds ps vs hd hc hs⟩
  cases ha
 |.own l d,q,ps,v,ha,hc,hv=>by
  simp only[eb]at ha;split at ha
  .rename_i i hi;cases ha;simp only[VR]at hv⊢;exact⟨hv.1.ren (h.rstep (Z62 hi)),hv.2⟩
  rename_i hpn;split at ha
  .rename_i n k q0 es hg;cases ha;have hn:es.length=n:=hc.1;simp only[VR]at hv⊢;obtain⟨a,cap,rfl,hc1,hc2,h3⟩:=(hv.1 k q0 es sh).2 hn.symm;simp only[Z9];subst hn;refine⟨a,cap,rfl,hc1,hc2,?_⟩;obtain⟨_,_,hb⟩:=h.blk l _ hg;rcases hb with⟨_,he⟩|⟨b,sz,hb,_,_,hel,_⟩
   .exact .inl he
   rcases h3 with⟨_,hb'⟩|⟨b',sz',ha,hb',_,_⟩
   .exact absurd (hb.symm.trans hb') al
   have:b'=b:=c7
   subst this;obtain⟨hI,hh⟩:=h.S rfl l _ hpn hg b' (.inl hb);refine .inr ⟨b',0,ha,hI,ao.mono (λd hd=>?_) hh es 0 hel⟩;rcases hd with hd|hd
   .exact h.I d hd
   exact h.S rfl l _ hpn hg d (.inr ⟨b',hb,hd⟩)
  cases ha
def Z0v{S:Bool}{ls:List Nat}{Z:List (Nat×Blk)}{c c':Ctx}(h:ArgC S ls Z c c'):∀(cs qs:List PV) (ps:List Prop) (vs:List Value),dJ S ls Z cs=some (ps,qs)->aG ps->VRs c cs vs->VRs c' qs vs
 |[],qs,ps,vs,ha,_,hv=>by simp only[dJ,aq,bG]at ha;rw[<- ha.2];exact hv
 |p::cs,qs,ps,vs,ha,hc,hv=>by
  simp only[dJ]at ha;split at ha
  .rename_i ps1 d ps2 ds h1 h2;cases ha;obtain⟨c1,c2⟩:=bM.1 hc;simp only[VRs]at hv⊢;obtain⟨v,rest,rfl,hv,hr⟩:=hv;exact⟨v,rest,rfl,ZiU h p d ps1 v h1 c1 hv,Z0v h cs ds ps2 rest h2 c2 hr⟩
  cases ha
end
mutual
def ZiV{ls:List Nat}{Z Z':List (Nat×Blk)}:∀(p:PV),eb false ls Z' p=eb false ls Z p
 |.t _=>iK
 |.nils=>iK
 |.osl l n=>iK
 |.bptr l _=>iK
 |.rptr _ _ _ _=>iK
 |.vptr _=>iK
 |.agg cs=>Ci
 |.tup cs=>Ci
 |.fn _ cs=>Ci
 |.own l d=>iK
def Z2h{ls:List Nat}{Z Z':List (Nat×Blk)}:∀(ps:List PV),dJ false ls Z' ps=dJ false ls Z ps
 |[]=>by simp only[dJ]
 |p::ps=>by simp only[dJ];rw[ZiV p,Z2h ps]
end
def sK(ls:List Nat)(cs:List PV):Option (List PV):=
 bif PV.frees cs then some cs else
 match dJ false ls [] cs with
 |some ([],ds)=>bif ds.all PV.one then some ds else none
 |_=>none
def iN(ls0:List Nat)(Z:List (Nat×Blk)):Nat->List Nat->Option (List (Nat×Blk))
 |_,[]=>some []
 |i,L::ls=>
  match get Z L,iN ls0 Z (i+1) ls with
  |some (.box cs),some r=>match sK ls0 cs with|some ds=>some ((i,.box ds)::r)|none=>none
  |some (.row k es),some r=>some ((i,.row k es)::r)
  |_,_=>none
def Z17(ls0:List Nat)(o o':Blk):Prop:=(o'=o/\∀cs,o ≠ .box cs/\∀k i es,o ≠ .prow k i es cs)\/∃cs ds,o = .box cs/\o' = .box ds/\sK ls0 cs=some ds
def Z17.same{ls0:List Nat}{o o':Blk}(h:Z17 ls0 o o'):sP o o':=by
 rcases h with⟨h,_⟩|⟨cs,ds,h1,h2,_⟩
 .exact .inl h
 exact .inr ⟨cs,ds,h1,h2⟩
def U9{ls0:List Nat}{Z:List (Nat×Blk)}:∀{ls:List Nat} {i:Nat} {σa:List (Nat×Blk)},iN ls0 Z i ls=some σa ->
 (∀j o,get σa j=some o->∃m L o0,j=i+m/\ls[m]?=some L/\get Z L=some o0/\Z17 ls0 o0 o)/\(∀(m L:Nat),ls[m]?=some L->∃o,get σa (i+m)=some o)
 |[],i,σa,h=>by simp only[iN,aq]at h;subst h;exact⟨(λj o h=>nomatch h),(λm L h=>by simp at h)⟩
 |L0::ls,i,σa,h=>by
  have key:∀(b:Blk) (o0:Blk) (r:List (Nat×Blk)),get Z L0=some o0->Z17 ls0 o0 b->iN ls0 Z (i+1) ls=some r->σa=(i,b)::r ->
   (∀j o,get σa j=some o->∃m L o0,j=i+m/\(L0::ls)[m]?=some L/\get Z L=some o0/\Z17 ls0 o0 o)/\(∀(m L:Nat),(L0::ls)[m]?=some L->∃o,get σa (i+m)=some o):=by
   intro b o0 r hg hp hr hσ;subst hσ;obtain⟨h1,h2⟩:=U9 hr;refine⟨λj o ho=>?_,λm L hm=>?_⟩
   .simp only[PW.get]at ho;cases hb:Nat.beq i j with
    |true=>
     simp only[hb,av,aq]at ho;subst ho;exact⟨0,L0,o0,((aU _ _).1 hb).symm,rfl,hg,hp⟩
    |false=>
     simp only[hb,au]at ho;obtain⟨m,L,o1,e1,e2,e3⟩:=h1 j o ho;exact⟨m+1,L,o1,by omega,by simpa using e2,e3⟩
   cases m with
   |zero=>exact⟨b,by simp[PW.get]⟩
   |succ m=>
    obtain⟨o,ho⟩:=h2 m L (by simpa using hm);refine⟨o,?_⟩;simp only[PW.get];rw[ed O,au,show i+(m+1)=i+1+m by omega];exact ho
  simp only[iN]at h;split at h
  .rename_i cs r hg hr;split at h
   .rename_i ds hd;exact key _ _ r hg (.inr ⟨cs,ds,rfl,rfl,hd⟩) hr (c9 h).symm
   cases h
  .rename_i k es r hg hr;exact key _ _ r hg (.inl ⟨rfl,λcs=>by simp⟩) hr (c9 h).symm
  cases h
def Va{ls0:List Nat}{Z Z':List (Nat×Blk)}:∀{ls:List Nat} {i:Nat},(∀m,m∈ls->get Z' m=get Z m)->iN ls0 Z' i ls=iN ls0 Z i ls
 |[],i,_=>rfl
 |L::ls,i,h=>by simp only[iN];rw[h L al,Va (λm hm=>h m (cK _ hm))]
def okB(ls:List Nat):List PV->Bool
 |[]=>true
 |.t _::ps=>okB ls ps
 |.osl l _::ps=>(match fB ls l with|some _=>true|none=>false)&&okB ls ps
 |_::_=>false
def ij(ls:List Nat):List PV->List PV
 |[]=>[]
 |.osl l n::ps =>.osl ((fB ls l).getD 0) n::ij ls ps
 |p::ps=>p::ij ls ps
def C4{ls:List Nat}{d:Nat}:∀{cs:List PV},okB ls cs=true->dJ false ls [] cs=some ([],ij ls cs)/\PV.rens (b7 ls d) (ij ls cs)=cs/\(ij ls cs).all PV.one=true
 |[],_=>⟨rfl,rfl,rfl⟩
 |p::cs,h=>by
  cases p<;>simp only[okB,aL,fb]at h
  case t x=>
   obtain⟨h1,h2,h3⟩:=C4 (d:=d) h;refine⟨by simp only[dJ,eb,h1,ij];rfl,by simp only[ij,PV.rens,PV.ren,h2],by simp only[ij,jr,h3];rfl⟩
  case osl l n=>
   obtain⟨h1,h2,h3⟩:=C4 (d:=d) h.2;cases hp:fB ls l with
   |none=>rw[hp]at h;exact absurd h.1 aS
   |some i=>
    refine⟨by simp only[dJ,eb,hp,h1,ij,gD];rfl,?_,by simp only[ij,jr,h3];rfl⟩;simp only[ij,hp,gD,PV.rens,PV.ren,h2,b7,Z62 hp]
def iO(ls0:List Nat)(Z:List (Nat×Blk)):Nat->List Nat->Option (List (Nat×Blk))
 |_,[]=>some []
 |i,L::ls=>
  match get Z L,iO ls0 Z (i+1) ls with
  |some (.box cs),some r=>bif PV.frees cs then some ((i,.box cs)::r)else bif okB ls0 cs then some ((i,.box (ij ls0 cs))::r)else none
  |some (.row k es),some r=>some ((i,.row k es)::r)
  |_,_=>none
def Vb{ls0:List Nat}{d:Nat}{Z:List (Nat×Blk)}:∀{ls:List Nat} {i:Nat} {σa:List (Nat×Blk)},iO ls0 Z i ls=some σa ->
 (∀j o,get σa j=some o->∃m L o0,j=i+m/\ls[m]?=some L/\get Z L=some o0/\Z17 ls0 o0 o/\o.ren (b7 ls0 d)=o0)/\(∀(m L:Nat),ls[m]?=some L->∃o,get σa (i+m)=some o)
 |[],i,σa,h=>by simp only[iO,aq]at h;subst h;exact⟨(λj o h=>nomatch h),(λm L h=>by simp at h)⟩
 |L0::ls,i,σa,h=>by
  have key:∀(b:Blk) (o0:Blk) (r:List (Nat×Blk)),get Z L0=some o0->Z17 ls0 o0 b->b.ren (b7 ls0 d)=o0->iO ls0 Z (i+1) ls=some r->σa=(i,b)::r ->
   (∀j o,get σa j=some o->∃m L o0,j=i+m/\(L0::ls)[m]?=some L/\get Z L=some o0/\Z17 ls0 o0 o/\o.ren (b7 ls0 d)=o0)/\(∀(m L:Nat),(L0::ls)[m]?=some L->∃o,get σa (i+m)=some o):=by
   intro b o0 r hg hp hb0 hr hσ;subst hσ;obtain⟨h1,h2⟩:=Vb (d:=d) hr;refine⟨λj o ho=>?_,λm L hm=>?_⟩
   .simp only[PW.get]at ho;cases hb:Nat.beq i j with
    |true=>
     simp only[hb,av,aq]at ho;subst ho;exact⟨0,L0,o0,((aU _ _).1 hb).symm,rfl,hg,hp,hb0⟩
    |false=>
     simp only[hb,au]at ho;obtain⟨m,L,o1,e1,e2,e3⟩:=h1 j o ho;exact⟨m+1,L,o1,by omega,by simpa using e2,e3⟩
   cases m with
   |zero=>exact⟨b,by simp[PW.get]⟩
   |succ m=>
    obtain⟨o,ho⟩:=h2 m L (by simpa using hm);refine⟨o,?_⟩;simp only[PW.get];rw[ed O,au,show i+(m+1)=i+1+m by omega];exact ho
  simp only[iO]at h;split at h
  .rename_i cs r hg hr;cases hf:PV.frees cs with
   |true=>
    simp only[hf,av,aq]at h;exact key _ _ r hg (.inr ⟨cs,cs,rfl,rfl,by unfold sK;rw[hf];rfl⟩) (by simp only[Blk.ren,PV.rens_free cs hf]) hr h.symm
   |false=>
    simp only[hf,au]at h;cases ho:okB ls0 cs with
    |false=>simp[ho]at h
    |true=>
     simp only[ho,av,aq]at h;obtain⟨b1,b2,b3⟩:=C4 (d:=d) ho;exact key _ _ r hg (.inr ⟨cs,_,rfl,rfl,by unfold sK;rw[hf,au,b1];simp only[b3,av]⟩) (by simp only[Blk.ren,b2]) hr h.symm
  .rename_i k es r hg hr;simp only[aq]at h;exact key _ _ r hg (.inl ⟨rfl,λcs=>⟨λe=>(by cases e),λ_ _ _ e=>(by cases e)⟩⟩) rfl hr h.symm
  cases h
def Vc{ls0:List Nat}{Z Z':List (Nat×Blk)}:∀{ls:List Nat} {i:Nat},(∀m,m∈ls->get Z' m=get Z m)->iO ls0 Z' i ls=iO ls0 Z i ls
 |[],i,_=>rfl
 |L::ls,i,h=>by simp only[iO];rw[h L al,Vc (λm hm=>h m (cK _ hm))]
section
variable {P:Program} {o:Oper}
structure w7 (ls:List Nat) (d:Nat) (σa σ1:List (Nat×Blk)) (res:PV):Prop where
 nd:∀(i j L:Nat),ls[i]?=some L->ls[j]?=some L->i=j
 len:ls.length<=1000
 box:∀(l:Nat) o,get σ1 l=some o->∀L,ls[l]?=some L->(∃cs cs0,o = .box cs/\get σa l=some (.box cs0))\/∃k es es0,o = .row k es/\get σa l=some (.row k es0)
 ge:∀(l:Nat) o,get σ1 l=some o->ls[l]?=none->1000<=l+d
 cl:∀l,(res.has l=true\/∃m o,get σ1 m=some o/\o.has l=true)->∃o,get σ1 l=some o
def Vd{f:FuncId}{fo:Operand}{xs:Array Operand}{ats:Array TypeId}{caps ps qs:List PV}{res:PV}{σa σ1:List (Nat×Blk)}{ls:List Nat}{d:Nat}{S:Bool}{cs:List Prop}(hfn:FnG P f σa qs σ1 res)(ho:o.op = .call { callee :=.value fo,args:=xs,argTypes:=ats })
 {ρ:List (Nat×PV)} (hfo:af ρ fo=some (.fn f caps)) (hps:(xs.toList.mapM (af ρ)).map (· ++ caps)=some ps) {G:Frm} {n:Nat} {tm:List (Nat×PV)} {Z:List (Nat×Blk)} {a:Act} {w:World} {β:Nat->Option Nat} (hr:aE G β ⟨n,tm,Z⟩ a w)
 (hag:∀t q,Operand.tmp t∈o.op.operands->PW.get ρ t=some q->PW.get tm t=some q)
 (hq:dJ S ls Z ps=some (cs,qs)) (hcs:aG cs) (hp:(∀j o,PW.get σa j=some o->∃m L o0,j=0+m/\ls[m]?=some L/\PW.get Z L=some o0/\Z17 ls o0 o)/\(∀(m L:Nat),ls[m]?=some L->∃o,PW.get σa (0+m)=some o)) (hok:w7 ls d σa σ1 res) (hfr:∀(l:Nat) o,get σ1 l=some o->ls[l]?=none->(∀i q,get tm i=some q->q.has (l+d)=false)/\(∀m y,get Z m=some y->m≠l+d/\y.has (l+d)=false))
 (hS:S=true->res.sc=true/\∀l o,get σ1 l=some o->o.SC) {K:Act->World->Prop} {Q:Exit->Act->World->Prop}
 (hK:∀v w',(∃b2,aE G b2 ⟨n,tm,bY (b7 ls d) σ1++bb ls Z⟩ a w'/\VR (ctx G b2 w' (bY (b7 ls d) σ1++bb ls Z)) (res.ren (b7 ls d)) v)->K (a.put o.dst v) w'):o.wp P a w K Q:=by
 obtain⟨p1,p2⟩:=hp;have hbox:∀(l:Nat) o,get σ1 l=some o->∀L,ls[l]?=some L->(∃cs cs0,o = .box cs/\get Z L=some (.box cs0))\/∃k es es0,o = .row k es/\get Z L=some (.row k es0):=λl o h L hL=>by
  rcases hok.box l o h L hL with⟨cs,cs0,h1,h2⟩|⟨k,es,es0,h1,h2⟩
  .obtain⟨m,L',o0,e1,e2,e3,e4⟩:=p1 l _ h2;rw[aM]at e1;subst e1;rw[hL]at e2;cases e2;rcases e4 with⟨e4,_⟩|⟨cs1,_,rfl,_⟩
   .exact .inl ⟨cs,cs0,h1,e4▸e3⟩
   exact .inl ⟨cs,cs1,h1,e3⟩
  obtain⟨m,L',o0,e1,e2,e3,e4⟩:=p1 l _ h2;rw[aM]at e1;subst e1;rw[hL]at e2;cases e2;rcases e4 with⟨e4,_⟩|⟨_,_,_,e4,_⟩
  .exact .inr ⟨k,es,es0,h1,e4▸e3⟩
  cases e4
 have hnp:∀(i k j:Nat) es cs,get σa i≠some (.prow k j es cs):=λi k j es cs h=>by
  obtain⟨m,L,o0,_,_,_,e4⟩:=p1 i _ h;rcases e4 with⟨e5,e6⟩|⟨_,_,_,e5,_⟩
  .subst e5;exact(e6 cs).2 k j es rfl
  cases e5
 have hC:sQ ls d tm Z σa σ1 res:={ nd:=hok.nd,len:=hok.len,sa:=λi o h=>by obtain⟨m,L,o0,e1,e2,e3,e4⟩:=p1 i o h;rw[aM]at e1;subst e1;exact⟨L,e2,o0,e3,e4.same⟩,all:=λi L h=>by simpa using p2 i L h,np:=hnp,box:=hbox,fr:=λl o h hn=>⟨hok.ge l o h hn,hfr l o h hn⟩,cl:=hok.cl };have hpass:∀(i L:Nat),ls[i]?=some L->∃o,get Z L=some o:=λi L h=>by obtain⟨o,ho⟩:=hC.all i L h;obtain⟨L',h1,o0,h2,_⟩:=hC.sa i o ho;rw[h]at h1;cases h1;exact⟨o0,h2⟩
 obtain⟨vals,hv,hrun⟩:=vt (P:=P) ho hfo hps hr hag;let A:Nat->Prop:=λb=>bif S then b<w.heap.size/\∀(i L:Nat) (o:Blk),ls[i]?=some L->get Z L=some o->¬aA β w L o b else Imm G β w Z b
 have hAT:∀b,Imm G β w Z b->A b:=λb hb=>by
  cases S with
  |true=>exact⟨hb.1,λi L o hL hg=>hb.2.2 L o hg⟩
  |false=>exact hb
 have hA:∀b,A b->b<w.heap.size/\∀(i L:Nat) (o:Blk),ls[i]?=some L->get Z L=some o->¬aA β w L o b:=λb hb=>by
  cases S with
  |true=>exact hb
  |false=>exact⟨hb.1,λi L o hL hg=>hb.2.2 L o hg⟩
 have hAc:∀b,A b->Imm (b9 (βc β ls) σa A w) (βc β ls) w σa b:=λb hb=>⟨(hA b hb).1,.inr (.inl hb),λi o ho hb'=>by obtain⟨L,h1,o0,h2,h3⟩:=hC.sa i o ho;exact(hA b hb).2 i L o0 h1 h2 (h3.own (hb'.lab (show βc β ls i=β L by simp[βc,h1])))⟩;have hAC:∀S',(S'=true->S=true)->ArgC S' ls Z (ctx G β w Z) (ctx (b9 (βc β ls) σa A w) (βc β ls) w σa):=by
  intro S' hS';refine⟨rfl,λb hb=>⟨hAc b (hAT b hb),rfl⟩,λhs l o hpn hg b hb=>⟨hAc b (?_:A b),rfl⟩,λl o hg=>hr.blk l _ hg,λi L cs hL hg=>?_,λi L k es hL hg=>?_,λi L k q es hL hg=>?_,λi L ag es hL hg=>?_,λi k j es cs=>?_⟩
  .simp only[A,hS' hs,av];refine⟨(hr.sep l _ b hg hb).1,λi L o' hL hg' hb'=>?_⟩;have:=hr.inj l L _ _ b hg hg' hb hb';subst this;exact U6 hpn i hL
  .obtain⟨L',h1,o0,h3,h4⟩:=hC.sa i _ hg;rw[hL]at h1;cases h1;refine⟨?_,by simp[ctx,βc,hL]⟩;rcases h4 with h4|⟨cs0,_,h4,_⟩
   .exact⟨cs,h4▸h3⟩
   exact⟨cs0,h4▸h3⟩
  .obtain⟨L',h1,o0,h3,h4⟩:=hC.sa i _ hg;rw[hL]at h1;cases h1;obtain rfl:o0 = .row k es:=by
    rcases h4 with h4|⟨_,_,_,h4⟩
    .exact h4.symm
    cases h4
   exact⟨h3,by simp[ctx,βc,hL],λ_ _ h=>h⟩
  .obtain⟨L',h1,o0,h3,h4⟩:=hC.sa i _ hg;rw[hL]at h1;cases h1;obtain rfl:o0 = .mat k q es:=by
    rcases h4 with h4|⟨_,_,_,h4⟩
    .exact h4.symm
    cases h4
   exact⟨h3,by simp[ctx,βc,hL],λ_ _ h=>h,λ_=>rfl⟩
  .obtain⟨L',h1,o0,h3,h4⟩:=hC.sa i _ hg;rw[hL]at h1;cases h1;obtain rfl:o0 = .map ag es:=by
    rcases h4 with h4|⟨_,_,_,h4⟩
    .exact h4.symm
    cases h4
   exact⟨h3,by simp[ctx,βc,hL]⟩
  exact hC.np i k j es cs
 have hv2:VRs (ctx (b9 (βc β ls) σa A w) (βc β ls) w σa) qs vals:=by exact Z0v (hAC S id) ps qs cs _ hq hcs hv
 have hlen:vals.length=qs.length:=hv2.length;have hcall:=callU hfn hr hC (sc:=S) hlen A hA hAT (λhs b hb=>by simpa only[A,hs,au]using hb) hS hv2 (λi L cs0 cs hL hg ha vs hvs h1=>by
  obtain⟨m,L',o0,e1,e2,e3,e4⟩:=p1 i _ ha;rw[aM]at e1;subst e1;rw[hL]at e2;cases e2;rw[hg]at e3;cases e3;rcases e4 with⟨_,e4⟩|⟨_,_,e5,e6,e7⟩
  .exact absurd rfl (e4 _).1
  cases e5;cases e6;unfold sK at e7;cases hf:PV.frees cs0 with
  |true=>
   simp only[hf,av,aq]at e7;subst e7;exact⟨VRs.step (c:=ctx G β w Z) (c':=ctx (b9 (βc β ls) σa A w) (βc β ls) w σa) (λb hb=>⟨hAc b (hAT b hb),rfl⟩) cs0 vs (λl hl=>by rw[PV.frees_has l cs0 hf]at hl;cases hl) hvs,h1⟩
  |false=>
   simp only[hf,au]at e7;split at e7
   .rename_i ds hd;cases ho:ds.all PV.one with
    |false=>simp[ho]at e7
    |true=>
     simp only[ho,av,aq]at e7;subst e7;rw[Z2h (Z:=Z)]at hd;exact⟨Z0v (hAC false (λh=>by cases h)) cs0 ds [] vs hd trivial hvs,ho⟩
   cases e7)
 unfold Oper.wp;rw[hrun hfn.1,vu];refine hcall.mono ?_;rintro e w' ⟨v,b2,rfl,h1,h2⟩;exact hK v w' ⟨b2,h1,h2⟩
def Ve{f:Nat->Nat}{l:Nat}{o:Blk}:∀{fr:List (Nat×Blk)},get fr l=some o->(f l,o.ren f)∈bY f fr
 |[],h=>di
 |(j,b)::r,h=>by
  simp only[PW.get]at h;cases hb:Nat.beq j l with
  |true=>
   simp only[hb,av,aq]at h;have:=(aU _ _).1 hb;subst this;subst h;simp[bY]
  |false=>simp only[hb,au]at h;simp only[bY];exact cK _ (Ve h)
def ZiW{f:FuncId}{fo:Operand}{xs:Array Operand}{ats:Array TypeId}{caps ps qs:List PV}{res:PV}{σa σ1:List (Nat×Blk)}{ls:List Nat}{d:Nat}{S:Bool}{cs:List Prop}{ρ:List (Nat×PV)}{Z:List (Nat×Blk)}{need:List Nat}(hfn:FnG P f σa qs σ1 res)(ho:o.op = .call { callee :=.value fo,args:=xs,argTypes:=ats })
 (hfo:af ρ fo=some (.fn f caps)) (hps:(xs.toList.mapM (af ρ)).map (· ++ caps)=some ps) (hq:dJ S ls Z ps=some (cs,qs)) (hcs:aG cs) (hσa:iN ls Z 0 ls=some σa) (hok:w7 ls d σa σ1 res)
 (hS:S=true->res.sc=true/\∀l o,get σ1 l=some o->o.SC) (hneed:∀m,(m∈ls\/PV.hasAny m ps=true\/PV.deeps Z m ps=true)->m∈need) (hnin:∀(l:Nat) o,get σ1 l=some o->ls[l]?=none->l+d∉ls):OpF P o ρ Z need ls (res.ren (b7 ls d)) (bY (b7 ls d) σ1):=by
 rintro G n tm Z' a w K Q hag hnd hnews ⟨β,hr⟩ hK;have hq':dJ S ls Z' ps=some (cs,qs):=Sv
 have hσa':iN ls Z' 0 ls=some σa:=by rw[Va (λm hm=>hnd m (hneed m (.inl hm)))];exact hσa
 refine Vd hfn ho hfo hps hr hag hq' hcs (U9 hσa') hok (λl o h hn=>?_) hS hK;have:=hnews _ _ (Ve h);simp only[b7,hn]at this;exact this (hnin l o h hn)
def ZiX{f:FuncId}{fo:Operand}{xs:Array Operand}{ats:Array TypeId}{caps ps qs:List PV}{res:PV}{σa fr:List (Nat×Blk)}{ls:List Nat}{d:Nat}{S:Bool}{cs:List Prop}{ρ:List (Nat×PV)}{Z:List (Nat×Blk)}{need:List Nat}(hfn:FnG P f σa qs (fr++σa) res)(ho:o.op = .call { callee :=.value fo,args:=xs,argTypes:=ats })
 (hfo:af ρ fo=some (.fn f caps)) (hps:(xs.toList.mapM (af ρ)).map (· ++ caps)=some ps) (hq:dJ S ls Z ps=some (cs,qs)) (hcs:aG cs) (hσa:iO ls Z 0 ls=some σa) (hok:w7 ls d σa (fr++σa) res)
 (hS:S=true->res.sc=true/\∀l o,get (fr++σa) l=some o->o.SC) (hneed:∀m,(m∈ls\/PV.hasAny m ps=true\/PV.deeps Z m ps=true)->m∈need):aQ P o ρ Z need (res.ren (b7 ls d)) (bY (b7 ls d) fr):=by
 intro G n tm Z' a w K Q hag hnd hnews hr hK;obtain⟨β,hr⟩:=hr;have hq':dJ S ls Z' ps=some (cs,qs):=Sv
 have hσa':iO ls Z' 0 ls=some σa:=by rw[Vc (λm hm=>hnd m (hneed m (.inl hm)))];exact hσa
 obtain⟨p1,p2⟩:=Vb (d:=d) hσa';have hpG:(∀j o,get σa j=some o->∃m L o0,j=0+m/\ls[m]?=some L/\get Z' L=some o0/\Z17 ls o0 o)/\(∀(m L:Nat),ls[m]?=some L->∃o,get σa (0+m)=some o):=⟨λj o h=>by obtain⟨m,L,o0,e1,e2,e3,e4,_⟩:=p1 j o h;exact⟨m,L,o0,e1,e2,e3,e4⟩,p2⟩;have hfrget:∀l o,get (fr++σa) l=some o->ls[l]?=none->∃o',get fr l=some o':=λl o h hn=>by
  rw[j1]at h;cases hg:get fr l with
  |some o'=>exact⟨o',rfl⟩
  |none=>
   rw[hg]at h;obtain⟨m,L,_,e1,e2,_⟩:=p1 l o h;rw[aM]at e1;subst e1;rw[hn]at e2;cases e2
 have hmem:∀l o,get fr l=some o->(b7 ls d l,o.ren (b7 ls d))∈bY (b7 ls d) fr:=λl o h=>by
  have:∀(l:Nat) (o:Blk) (fr:List (Nat×Blk)),get fr l=some o->(b7 ls d l,o.ren (b7 ls d))∈bY (b7 ls d) fr:=by
   intro l o fr;induction fr with
   |nil=>intro h;cases h
   |cons x r ih=>
    obtain⟨j,b⟩:=x;intro h;simp only[PW.get]at h;cases hb:Nat.beq j l with
    |true=>
     simp only[hb,av,aq]at h;have:=(aU _ _).1 hb;subst this;subst h;simp[bY]
    |false=>simp only[hb,au]at h;simp only[bY];exact cK _ (ih h)
  exact this l o fr h
 refine Vd hfn ho hfo hps hr hag hq' hcs hpG hok (λl o h hn=>?_) hS ?_
 .obtain⟨o',h'⟩:=hfrget l o h hn;have:=hnews _ _ (hmem l o' h');simpa[b7,hn]using this
 rintro v w' ⟨b2,h1,h2⟩;have hsub:∀l o,get (bY (b7 ls d) fr++Z') l=some o->get (bY (b7 ls d) (fr++σa)++bb ls Z') l=some o:=by
  intro m o hm;rw[DD,gI,j1];rw[j1]at hm;cases hg:get (bY (b7 ls d) fr) m with
  |some o'=>rw[hg]at hm;exact hm
  |none=>
   rw[hg]at hm;simp only at hm⊢;rw[j1];cases hg2:get (bY (b7 ls d) σa) m with
   |some o2=>
    obtain⟨l,o1,_,e2,e3,e4⟩:=Z60 hg2;obtain⟨i,L,o0,f1,f2,f4,_,f5⟩:=p1 l o1 e2;rw[aM]at f1;subst f1;have:L=m:=by simpa[b7,f2]using e4
    subst this;rw[f4]at hm;have hoo:o0=o:=c9 hm;rw[e3,f5,hoo]
   |none=>
    simp only;by_cases hin:m∈ls
    .obtain⟨i,hi⟩:=List.getElem?_of_mem hin;obtain⟨o3,ho3⟩:=p2 i m hi;rw[aM]at ho3;obtain⟨l',hk⟩:=Z61 (f:=b7 ls d) ho3;rw[show b7 ls d i=m by simp[b7,hi]]at hk;obtain⟨_,_,o4,ho4⟩:=ox hk;rw[hg2]at ho4;cases ho4
    rw[Z6d hin];exact hm
 refine hK v w' ⟨b2,h1.sub (aW _) (λi p hp=>⟨hp,(h1.tm i p hp).1⟩) hsub,?_⟩;exact VR.step (c:=ctx G b2 w' (bY (b7 ls d) (fr++σa)++bb ls Z')) (c':=ctx G b2 w' (bY (b7 ls d) fr++Z')) (λb hb=>⟨Imm.sub hsub b hb,rfl⟩) _ v (λl _=>aV.sub hsub l) h2
end
def FnG.frz{P:Program}{f:FuncId}{Z σ1 σ2:List (Nat×Blk)}{args:List PV}{res q:PV}(h:FnG P f Z args σ1 res)(hσ:Z4a σ1 σ2)(hq:Frz σ1 σ2 res q):FnG P f Z args σ2 q:=by
 refine⟨h.1,λA β w vals hl hr=>(h.2 A β w vals hl hr).mono ?_⟩;rintro e w' ⟨v,β',he,hc⟩;refine⟨v,β',he,tq hc hσ (λi p hp=>?_)⟩;simp only[PW.get]at hp⊢;cases hb:Nat.beq 0 i with
 |true=>simp only[hb,av,aq]at hp⊢;subst hp;exact⟨_,rfl,hq⟩
 |false=>simp[hb]at hp
def FnG.toFn{P:Program}{f:FuncId}{args:List PV}{σ1:List (Nat×Blk)}{res q:PV}(h:FnG P f [] args σ1 res)(hq:Frz σ1 [] res q):Fn P f args q:=h.frz (Z4a.nil _) hq
def ZP{G:Frm}{β:Nat->Option Nat}{n:Nat}{tm:List (Nat×PV)}{Z:List (Nat×Blk)}{a:Act}{w:World}(h:aE G β ⟨n,tm,Z⟩ a w)(l m:Nat)(hm:1000<=m)
 (hf1:∀i q,get tm i=some q->q.has m=false) (hf2:∀j y,get Z j=some y->j≠m/\y.has m=false) :
 ∃β',aE G β' ⟨n,tm.map (λx=>(x.1,x.2.ren (λj=>bif Nat.beq j l then m else j))),bY (λj=>bif Nat.beq j l then m else j) Z⟩ a w:=by
 let f:Nat->Nat:=λj=>bif Nat.beq j l then m else j
 have hfl:f l=m:=by simp[f]
 have hfo:∀j,j≠l->f j=j:=λj h=>by simp[f,ed h]
 let β':Nat->Option Nat:=λj=>bif Nat.beq j m then β l else β j
 have hβm:β' m=β l:=by simp[β']
 have hβo:∀j,j≠m->β' j=β j:=λj h=>by simp[β',ed h]
 have hget:∀j o,get (bY f Z) j=some o->∃l0 o0,get Z l0=some o0/\o=o0.ren f/\f l0=j/\β' j=β l0:=by
  intro j o hg;obtain⟨l0,o0,_,h2,h3,h4⟩:=Z60 hg;refine⟨l0,o0,h2,h3,h4,?_⟩;by_cases e:l0=l
  .subst e;rw[hfl]at h4;subst h4;exact hβm
  rw[hfo _ e]at h4;subst h4;exact hβo _ (hf2 _ _ h2).1
 have hI:∀b,Imm G β w Z b->Imm G β' w (bY f Z) b:=λb hb=>⟨hb.1,hb.2.1,λj o hj hb'=>by obtain⟨l0,o0,h2,rfl,_,h5⟩:=hget j o hj;exact hb.2.2 l0 o0 h2 (hb'.unren.lab h5)⟩;have hR:∀j,j≠m->mL (ctx G β w Z) (ctx G β' w (bY f Z)) j (f j):=by
  intro j hj;have key:∀o,get (bY f Z) (f j)=some o->∃o0,get Z j=some o0/\o=o0.ren f/\β' (f j)=β j:=by
   intro o hg;obtain⟨l0,o0,h2,h3,h4,h5⟩:=hget _ o hg;have:l0=j:=by
    by_cases e:l0=l
    .subst e;rw[hfl]at h4;by_cases e2:j=l0
     .exact e2.symm
     rw[hfo _ e2]at h4;exact absurd h4.symm hj
    rw[hfo _ e]at h4;by_cases e2:j=l
    .subst e2;rw[hfl]at h4;exact absurd h4 (hf2 _ _ h2).1
    rw[hfo _ e2]at h4;exact h4
   subst this;exact⟨o0,h2,h3,h5⟩
  refine⟨λk es hg=>?_,λcs hg=>?_,λk q es hg=>?_,λag es hg=>?_,λk i es cs hg=>?_⟩
  .obtain⟨o0,h1,h2,h3⟩:=key _ hg;cases o0 with
   |box cs=>simp[Blk.ren]at h2
   |mat k0 q0 es0=>simp[Blk.ren]at h2
   |map k0 es0=>simp[Blk.ren]at h2
   |prow k0 i0 es0 cs0=>simp[Blk.ren]at h2
   |row k0 es0=>simp only[Blk.ren,Blk.row.injEq]at h2;obtain⟨rfl,rfl⟩:=h2;exact⟨h1,h3,λ_ _ _ h=>h⟩
  .obtain⟨o0,h1,h2,h3⟩:=key _ hg;cases o0 with
   |box cs0=>exact⟨cs0,h1,h3⟩
   |row k0 es0=>simp[Blk.ren]at h2
   |mat k0 q0 es0=>simp[Blk.ren]at h2
   |map k0 es0=>simp[Blk.ren]at h2
   |prow k0 i0 es0 cs0=>simp[Blk.ren]at h2
  .obtain⟨o0,h1,h2,h3⟩:=key _ hg;cases o0 with
   |box cs=>simp[Blk.ren]at h2
   |row k0 es0=>simp[Blk.ren]at h2
   |mat k0 q0 es0=>simp only[Blk.ren,Blk.mat.injEq]at h2;obtain⟨rfl,rfl,rfl⟩:=h2;exact⟨h1,h3,λ_ _=>⟨λ_ h=>h,λ_=>rfl⟩⟩
   |map k0 es0=>simp[Blk.ren]at h2
   |prow k0 i0 es0 cs0=>simp[Blk.ren]at h2
  .obtain⟨o0,h1,h2,h3⟩:=key _ hg;cases o0 with
   |box cs=>simp[Blk.ren]at h2
   |row k0 es0=>simp[Blk.ren]at h2
   |mat k0 q0 es0=>simp[Blk.ren]at h2
   |map k0 es0=>simp only[Blk.ren,Blk.map.injEq]at h2;obtain⟨rfl,rfl⟩:=h2;exact⟨h1,h3⟩
   |prow k0 i0 es0 cs0=>simp[Blk.ren]at h2
  obtain⟨o0,h1,h2,h3⟩:=key _ hg;cases o0 with
  |box cs=>simp[Blk.ren]at h2
  |row k0 es0=>simp[Blk.ren]at h2
  |mat k0 q0 es0=>simp[Blk.ren]at h2
  |map k0 es0=>simp[Blk.ren]at h2
  |prow k0 i0 es0 cs0=>simp only[Blk.ren,Blk.prow.injEq]at h2;obtain⟨rfl,rfl,rfl,rfl⟩:=h2;exact⟨cs0,h1,h3,λ_ _ _ h=>h⟩
 have hV:∀p v,p.has m=false->VR (ctx G β w Z) p v->VR (ctx G β' w (bY f Z)) (p.ren f) v:=λp v hp hv=>VR.ren (c:=ctx G β w Z) (c':=ctx G β' w (bY f Z)) (sc:=false) (λ_ b hb=>⟨hI b hb,rfl⟩) p v (λe=>by cases e) (λj hj=>hR j (λe=>by subst e;rw[hp]at hj;cases hj)) hv;refine⟨β',{ defers:=h.defers,sz:=h.sz,base:=h.base,os:=h.os,tape:=h.tape,output:=h.output,old:=h.old,A:=h.A,gl:=h.gl,inj:=λj j' o o' b hj hj' hb hb'=>?_,sep:=λj o b hj hb=>?_,fix:=λj cs hj hg=>?_,row0:=λj k es' hj hg=>?_,blk:=λj o hj=>?_,tm:=λi p hp=>?_ }⟩
 .obtain⟨l0,o0,h2,h3,h4,h5⟩:=hget j o hj;obtain⟨l1,o1,h2',h3',h4',h5'⟩:=hget j' o' hj';subst h3;subst h3';have:=h.inj l0 l1 _ _ b h2 h2' (hb.unren.lab h5) (hb'.unren.lab h5');subst this;exact h4.symm.trans h4'
 .obtain⟨l0,o0,h2,h3,h4,h5⟩:=hget j o hj;subst h3;exact h.sep l0 o0 b h2 (hb.unren.lab h5)
 .obtain⟨l0,o0,h2,h3,h4,h5⟩:=hget j _ hg;cases o0 with
  |row k es=>simp[Blk.ren]at h3
  |mat k q es=>simp[Blk.ren]at h3
  |map ag es=>simp[Blk.ren]at h3
  |prow k0 i0 es0 cs0=>simp[Blk.ren]at h3
  |box cs0=>
   by_cases e:l0=l
   .subst e;rw[hfl]at h4;omega
   rw[hfo _ e]at h4;subst h4;rw[h5];exact h.fix l0 cs0 hj h2
 .obtain⟨l0,o0,h2,h3,h4,h5⟩:=hget j _ hg;cases o0 with
  |box cs=>simp[Blk.ren]at h3
  |mat k q es=>simp[Blk.ren]at h3
  |map ag es=>simp[Blk.ren]at h3
  |prow k0 i0 es0 cs0=>simp[Blk.ren]at h3
  |row k0 es0=>
   simp only[Blk.ren,Blk.row.injEq]at h3;obtain⟨rfl,rfl⟩:=h3;by_cases e:l0=l
   .subst e;rw[hfl]at h4;omega
   rw[hfo _ e]at h4;subst h4;rw[h5];exact h.row0 l0 _ _ hj h2
 .obtain⟨l0,o0,h2,h3,h4,h5⟩:=hget j o hj;have hb:=h.blk l0 o0 h2;subst h3;cases o0 with
  |box cs=>
   obtain⟨b,vs,f1,f2,f3,f4,f5⟩:=hb;refine⟨b,vs,h5.trans f1,by rw[PV.rens_length];exact f2,f3,?_,by rw[PV.rens_one];exact f5⟩;have hh:=(hf2 l0 _ h2).2;exact VRs.ren (c:=ctx G β w Z) (c':=ctx G β' w (bY f Z)) (sc:=false) (λ_ b hb=>⟨hI b hb,rfl⟩) cs vs (λe=>by cases e) (λj hj2=>hR j (λe=>by subst e;simp only[Blk.has]at hh;rw[hh]at hj2;cases hj2)) f4
  |row k es=>
   obtain⟨f0,f1,f2⟩:=hb;refine⟨f0,f1,?_⟩;rcases f2 with⟨f2,f3⟩|⟨b,s,f2,f3,f4,f5⟩
   .exact .inl ⟨h5.trans f2,f3⟩
   exact .inr ⟨b,s,h5.trans f2,f3,f4,ao.mono (w:=w) (w':=w) (λb hb=>⟨hI b hb,rfl⟩) rfl es 0 f5⟩
  |mat k q es=>
   obtain⟨f0,f1,f2⟩:=hb;refine⟨f0,f1,?_⟩;rcases f2 with⟨f2,f3⟩|⟨b,s,f2,f3,f4,f5,f6⟩
   .exact .inl ⟨h5.trans f2,f3⟩
   exact .inr ⟨b,s,h5.trans f2,f3,f4,ao.mono (w:=w) (w':=w) (λd hd=>⟨hd.imp (hI d) id,rfl⟩) rfl es 0 f5,f6⟩
  |prow k0 i0 es0 cs0=>
   obtain⟨g0,g1,g2,g3,g4,b,s,vs,f1,f2,f3,f4,f5⟩:=hb;refine⟨g0,g1,g2,by rw[PV.rens_length];exact g3,by rw[PV.rens_one];exact g4,b,s,vs,h5.trans f1,f2,f3,f4,?_⟩;have hh:=(hf2 l0 _ h2).2;rw[<- DC];exact VRs.ren (c:=ctx G β w Z) (c':=ctx G β' w (bY f Z)) (sc:=false) (λ_ b hb=>⟨hI b hb,rfl⟩) _ vs (λe=>by cases e) (λj hj2=>hR j (λe=>by subst e;rw[xn]at hj2;simp only[Blk.has]at hh;rw[hh]at hj2;cases hj2)) f5
  |map ag es=>
   obtain⟨b,ents,clock,f1,f2,f3⟩:=hb;exact⟨b,ents,clock,h5.trans f1,f2,MapR.step (c:=ctx G β w Z) (c':=ctx G β' w (bY f Z)) (λb hb=>⟨hI b hb,rfl⟩) (λ_ _=>rfl) f3⟩
 have hmap:∀(tm:List (Nat×PV)),get (tm.map (λx=>(x.1,x.2.ren f))) i=(get tm i).map (·.ren f):=by
  intro tm;induction tm with
  |nil=>rfl
  |cons x r ih=>
   obtain⟨j,q⟩:=x;simp only[cw,PW.get];cases Nat.beq j i<;>simp[ih]
 rw[hmap]at hp;simp only[cA]at hp;obtain⟨q,hq,rfl⟩:=hp;exact⟨(h.tm i q hq).1,hV q _ (hf1 i q hq) (h.tm i q hq).2⟩
end Go.PW
namespace Go.PW
open Go.RowKit
section
variable {P:Program} {o:Oper} {ρ:List (Nat×PV)} {Z:List (Nat×Blk)}
def Zj0{t e:TypeId}{x y:Operand}{k m cap:Nat}{a:Option Addr}{ki:IntKind}{i:Int}(ho:o.op = .slice t x (some y) none none)(hu:P.underlying t=some (.slice e))(hsz:(P.info? e).map (·.size)=some k)(A:Act)(w:World)
 (hv:A.eval x = .slice a m cap) (hy:A.eval y = .int ki i) (h0:0<=i) (h1:i<=m) :
 (execOp A.eval o).run P w = .ok (.value (.slice (if cap=i.toNat then a else a.map (·.add (i.toNat*k))) (m-i.toNat) (cap-i.toNat))) w:=by
 have hbounds:(Instr.sliceBounds true m cap (some (.int ki i)) none none).run P w = .ok (i.toNat,m,cap) w:=Sx
 have hel':P.elem t=e:=wo
 have hat:=run_sliceAt_slice (P:=P) w t (.slice a m cap) (some (.int ki i)) none none wq;have hsl:(Instr.slice t (.slice a m cap) (some (.int ki i)) none none).run P w = .ok (.slice (if cap=i.toNat then a else a.map (·.add (i.toNat*k))) (m-i.toNat) (cap-i.toNat)) w:=Cd
 simp only[execOp,ho,hv,aN,nO,dW,hy,hat,hsl,aO,aT]
def Zj1{t e:TypeId}{x y:Operand}{k m cap:Nat}{a:Option Addr}{ki:IntKind}{i:Int}(ho:o.op = .slice t x none (some y) none)(hu:P.underlying t=some (.slice e))(hsz:(P.info? e).map (·.size)=some k)(A:Act)(w:World)
 (hv:A.eval x = .slice a m cap) (hy:A.eval y = .int ki i) (h0:0<=i) (h1:i<=cap) :
 (execOp A.eval o).run P w = .ok (.value (.slice (if cap=0 then a else a.map (·.add (0*k))) (i.toNat-0) (cap-0))) w:=by
 have hbounds:(Instr.sliceBounds true m cap none (some (.int ki i)) none).run P w = .ok (0,i.toNat,cap) w:=Sx
 have hel':P.elem t=e:=wo
 have hat:=run_sliceAt_slice (P:=P) w t (.slice a m cap) none (some (.int ki i)) none wq;have hsl:(Instr.slice t (.slice a m cap) none (some (.int ki i)) none).run P w = .ok (.slice (if cap=0 then a else a.map (·.add (0*k))) (i.toNat-0) (cap-0)) w:=Cd
 simp only[execOp,ho,hv,aN,nO,dW,hy,hat,hsl,aO,aT]
def VO{t k:Nat}(ha:slInfo P t=some k):∃e,P.underlying t=some (.slice e)/\(P.info? e).map (·.size)=some k:=by
 unfold slInfo at ha;split at ha
 .rename_i e hu;exact⟨e,hu,ha⟩
 cases ha
def ZjI{t:TypeId}{x y:Operand}{k l m:Nat}{es:List (List U)}{ki:IntKind}{i:Int}(ho:o.op = .slice t x (some y) none none)(ha:slInfo P t=some k)(hx:af ρ x=some (.osl l m))(hy:af ρ y=some (.t (.int ki i)))
 (hg:get Z l=some (.row k es)) (hm:es.length=m) (h0:0<=i) (h1:i<=m):aQ P o ρ Z [l] (.own l (.tail m i.toNat)) []:=
 bE λG β n tm Z' A w hop hneed _=>by
  have e1:=hop x _ aK hx;have e2:=hop y _ aK hy;simp only[VR,Z9]at e1 e2⊢;have hgl:get Z' l=some (.row k es):=(hneed l al).trans hg;obtain⟨a,cap,hv,hmc,hcm,h⟩:=(e1.1 k es hgl).2 hm.symm;obtain⟨e,hu,hsz⟩:=VO ha;refine⟨_,Zj0 ho hu hsz A w hv e2 h0 h1,?_,rfl⟩;intro k' es' hg';have:some (Blk.row k' es')=some (.row k es):=bP (bQ hg') hgl;cases this;refine⟨by omega,λ_=>⟨_,_,rfl,by omega,?_⟩⟩;rcases h with⟨hc,_⟩|⟨b,sz,ha',hb,hrow,hs⟩
  .exact .inl ⟨by omega,by omega⟩
  by_cases hci:cap=i.toNat
  .exact .inl ⟨by omega,by omega⟩
  refine .inr ⟨b,sz,by rw[aI hci,ha'];simp[gS],hb,hrow,?_⟩;rw[<- dQ];exact cX (gj _ O) hs
end
section
variable {P:Program} {o:Oper} {n:Nat} {tm:List (Nat×PV)} {Z:List (Nat×Blk)}
def Zj2(z:Array Value)(c k i j:Nat)(hz:z.size=k)(hi:i<c)(hj:j<k):(Builtin.zeroCells z c)[i*k+j]?=z[j]?:=by
 have hlt:i*k+j<c*k:=by have:(i+1)*k<=c*k:=gj _ hi;rw[dQ,eP]at this;omega
 unfold Builtin.zeroCells;simp only[Array.getElem?_map,hz];rw[Array.getElem?_range];simp only[hlt,dK,dW];rw[Nat.mul_comm i k,Nat.mul_add_mod,qP hj];have:j<z.size:=bg
 simp[this]
def Zj3(z:Array Value)(c:Nat):(Builtin.zeroCells z c).size=c*z.size:=by simp[Builtin.zeroCells]
def VP{k:Nat}:∀{es:List (List U)} (i:Nat),(∀el,el∈es->el.length=k)->(es.take i).flatten=es.flatten.take (i*k)
 |[],i,_=>al
 |e::es,0,_=>al
 |e::es,i+1,h=>by
  have he:e.length=k:=h e al;have e1:(i+1)*k-e.length=i*k:=by rw[dQ,eP,he];omega
  have e2:e.take ((i+1)*k)=e:=fC (by rw[dQ,eP,he];omega);rw[uZ,gT,gT,VP i (λel hel=>h el (cK _ hel)),u0,e1,e2]
def ZU{t e:TypeId}{x:Operand}{k bytes l m i:Nat}{zero:List PV}{zs:List U}{es:List (List U)}(ho:o.op = .call { callee :=.builtin .clear,args := #[x],argTypes := #[t] })(hd:o.dst=none)(hE:ElF P t e k bytes zero)(hzs:cH zero=some zs)
 (hx:af tm x=some (.own l (.tail m i))) (hg:get Z l=some (.row k es)) (hm:es.length=m) (hi:i<=m) :
 Z38 P o ⟨n,tm,Z⟩ ⟨n,tm,put Z l (.row k (es.take i++List.replicate (m-i) zs))⟩:=
 opup λG β A w hop hr=>by
  have e1:=hop x _ hx;simp only[VR]at e1;obtain⟨a,cap,hv,hcm,h3⟩:=(e1.1 k es hg).2 hm.symm;have hexec:∀w',(Builtin.clear_ #[t] o.type #[.slice a (m-i) cap]).run P w = .ok (.tuple #[]) w'->(execOp A.eval o).run P w = .ok (.value (.tuple #[])) w':=by intro w' h;simp only[execOp,ho,resolve,invoke,builtin,aN,aT,aO,nJ,cw,fI,hv,h]
  obtain⟨hk0,hkl,hb0⟩:=hr.blk l _ hg;by_cases hmi:m-i=0
  .have hes:es.take i++List.replicate (m-i) zs=es:=by rw[hmi,List.replicate_zero,cC,fC O]
   refine⟨.tuple #[],w,.inl (hexec w ?_),β,?_⟩
   .rw [hmi];cases a<;>simp[Builtin.clear_,cy hE.und]
   rw[hd,hes];refine aE.sub (st:=⟨n,tm,Z⟩) hr (aW _) (λj p hp=>⟨hp,(hr.tm j p hp).1⟩) (λq ob hq=>?_);by_cases hql:q=l
   .subst hql;rw[fO]at hq;rw[hg];exact hq
   rwa[gd _ _ (de hql)]at hq
  rcases h3 with⟨hc,_⟩|⟨b,sz,ha,hb,hrow,hsz⟩
  .exact absurd hc hmi
  rcases hb0 with⟨hb',_⟩|⟨b',sz',hb',hrow',hszle,hel⟩
  .exact absurd (hb.symm.trans hb') al
  have:b'=b:=c7
  subst this;have hszz:sz'=sz:=by obtain⟨cs1,e1,f1,g1,g2,_⟩:=hrow;obtain⟨cs2,e2,f2,g3,g4,_⟩:=hrow';rw[g1]at g3;cases g3;omega
  subst hszz;cases hin:P.info? e with
  |none=>have:=hE.info;simp[hin]at this
  |some inf=>
   have hik:inf.size=k/\inf.bytes=bytes:=by have:=hE.info;simpa[hin]using this
   have hz:=hE.z;unfold fk at hz;simp only[hin,bp,dC]at hz;obtain⟨z,hiz,hz⟩:=hz;have hzv:∀c,VRs c zero z.cells.toList:=λc=>iD hz;have hzl:z.cells.size=k:=by have:=(hzv (ctx G β w Z)).length;rw[hE.len]at this;simpa using this
   have hzsl:zs.length=k:=by rw[<- hE.len];exact A0 hzs
   have hflat:((List.replicate (m-i) zs).flatten).length=(m-i)*k:=by rw[jl (k:=k) (λel hel=>by rw[vF hel];exact hzsl),rk]
   have hms:m*k<=sz':=by rw[<- hm];exact hszle
   have hik2:i*k+(m-i)*k=m*k:=by rw[<- dQ];congr 1;omega
   let us:List Value:=(Builtin.zeroCells z.cells (m-i)).toList
   have husl:us.length=(m-i)*k:=by simp only[us,iV,Zj3,hzl]
   have hone:∀v,v∈us->v.oneCell'=true:=by
    intro v hv';simp only[us,Builtin.zeroCells,qJ,gJ]at hv';obtain⟨q,hq,rfl⟩:=hv';have hkpos:=hE.pos;have hlt:q%z.cells.size<z.cells.size:=Nat.mod_lt _ O;have hall:∀{c:Ctx} {ps:List PV} {ts:List U} {vs:List Value},cH ps=some ts->VRs c ps vs->∀v,v∈vs->v.oneCell'=true:=by intro c ps ts vs h1 h2 v hv;have h3:=lX h1 h2;refine rp h3 ?_ v hv;rw[bU];intro x hx;obtain⟨t,_,rfl⟩:=gJ.1 hx;rfl
    refine hall hzs (hzv (ctx G β w Z)) _ ?_;rw[getElem!_pos z.cells _ hlt];exact Array.getElem_mem_toList hlt
   have hst:=run_storeCells_cells (P:=P) b' (i*k) us 0 w (λj hj=>by
    have:=jQ hrow (o:=i*k) (n:=(m-i)*k) O j O;rw[cZ];exact this.1) (λj hj=>by
    have:=jQ hrow (o:=i*k) (n:=(m-i)*k) O j O;rw[cZ];exact this.2) hone
   rw[cZ]at hst;have hrun:(Builtin.clear_ #[t] o.type #[.slice a (m-i) cap]).run P w = .ok (.tuple #[]) (w.setCells b' (i*k) us):=by
    rw[ha];have:∃q,m-i=q+1:=⟨m-i-1,by omega⟩;obtain⟨q,hq⟩:=this;have hst':(storeCells ⟨b',i*k,none⟩ (Builtin.zeroCells z.cells (q+1)).toList).run P w = .ok () (w.setCells b' (i*k) us):=by rw[<- hq];exact hst
    simp only[Builtin.clear_,hq,cy hE.und,aN,aT,aO,zeroValue,typeInfo,hin,hiz];simp[cy hE.und,hst',typeInfo,hin,hiz]
   obtain⟨vs,hvs,hcs⟩:=Z6.vals (c:=ctx G β w Z) (ao.flat.1 hel);have hvl:vs.length=m*k:=by rw[hvs.length,da,jl hkl,hm]
   obtain⟨hr',hI,hL⟩:=jx hr (off:=i*k) (blk' :=.row k (es.take i++List.replicate (m-i) zs)) us hg hb (.inl ⟨k,es,_,rfl,rfl,by simp;omega⟩) (λhI hL=>by
    refine⟨hk0,λel hel'=>?_,.inr ⟨b',sz',hb,dx _ _ _ _ hrow',by simp;rw[show min i es.length+(m-i)=m by omega];exact hms,ao.flat.2 ?_⟩⟩
    .rcases cD.1 hel' with h|h
     .exact hkl el (iw h)
     rw[vF h];exact hzsl
    have h1:=VRs.step hI _ _ (λm _=>hL m) hvs;have hzz:VRs (ctx G β (w.setCells b' (i*k) us) (put Z l (.row k (es.take i++List.replicate (m-i) zs)))) ((List.replicate (m-i) zs).flatten.map .t) us:=by
     refine VRs.of_get (by rw[husl,da,hflat]) (λj p v hp hv=>?_);have hj:j<(m-i)*k:=by rw[<- husl];exact(aJ.1 hv).1
     have hkpos:=hE.pos;have hq1:j/k<m-i:=by rw[Nat.div_lt_iff_lt_mul hkpos];exact hj
     have hq2:j%k<k:=Nat.mod_lt _ hkpos;have hjd:j=j/k*k+j%k:=by rw[Nat.mul_comm];exact(Nat.div_add_mod j k).symm
     have hv':z.cells[j%k]?=some v:=by rw[<- Zj2 z.cells (m-i) k (j/k) (j%k) hzl hq1 hq2,<- hjd];simpa[us]using hv
     have hp':(zs.map PV.t)[j%k]?=some p:=by
      have hfl:∀(c:Nat) (q:Nat),q<c->((List.replicate c zs).flatten.map PV.t)[q*k+j%k]?=(zs.map PV.t)[j%k]?:=by
       intro c;induction c with
       |zero=>intro q h;omega
       |succ c ih=>
        intro q hq;rw[List.replicate_succ,gT,eL];cases q with
        |zero=>rw[u5,aM,dy aZ]
        |succ q=>
         rw[dU (by simp;rw[hzsl,dQ,eP];omega)];have:(q+1)*k+j%k-(zs.map PV.t).length=q*k+j%k:=by rw[da,hzsl,dQ,eP];omega
         rw[this];exact ih q O
      rw[<- hfl (m-i) (j/k) hq1,<- hjd];exact hp
     have hvz:=lX hzs (hzv (ctx G β (w.setCells b' (i*k) us) (put Z l (.row k (es.take i++List.replicate (m-i) zs)))));obtain⟨v2,h2,h3⟩:=hvz.get (j%k) p hp';have:z.cells[j%k]?=some v2:=AL
     rw[this]at hv';cases hv';exact h3
    have hti:(es.take i).flatten=es.flatten.take (i*k):=VP i hkl;refine iH (vs:=splice vs (i*k) us) ?_ (λj v hj=>?_)
    .rw [oh,eL,hti,ny];unfold splice;have hdrop:vs.drop (i*k+us.length)=[]:=ir (by rw[husl,hvl];omega);rw[hdrop,cC];exact(h1.take _).append hzz
    rw[aM];exact jy (w:=w) (λj v hj=>by have:=hcs j v hj;rwa[aM]at this) (by rw[husl,hvl];omega) j v hj)
   exact⟨.tuple #[],w.setCells b' (i*k) us,.inl (hexec _ hrun),β,by rw[hd];exact hr'⟩
def lH(l:Nat):List (Nat×PV)->List (Nat×PV)
 |[]=>[]
 |(i,p)::r=>bif p.has l then lH l r else(i,p)::lH l r
def Dz{l:Nat}:∀{tm:List (Nat×PV)} {i:Nat} {p:PV},(i,p)∈lH l tm->(i,p)∈tm/\p.has l=false
 |[],_,_,h=>di
 |(j,q)::r,i,p,h=>by
  simp only[lH]at h;cases hb:q.has l with
  |true=>simp only[hb,av]at h;have:=Dz h;exact⟨cK _ this.1,this.2⟩
  |false=>
   simp only[hb,au]at h;rcases cn.1 h with h|h
   .cases h;exact⟨by simp,hb⟩
   have:=Dz h;exact⟨cK _ this.1,this.2⟩
def Z6f:List (Nat×PV)->Bool
 |[]=>true
 |(i,_)::r=>(match get r i with|none=>true|some _=>false)&&Z6f r
def rb:∀{tm:List (Nat×PV)} {i:Nat} {p:PV},Z6f tm=true->(i,p)∈tm->get tm i=some p
 |[],_,_,_,h=>di
 |(j,q)::r,i,p,ho,h=>by
  simp only[Z6f,aL]at ho;simp only[PW.get];rcases cn.1 h with h|h
  .cases h;simp
  have hr:=rb ho.2 h;have:j≠i:=λe=>by subst e;rw[hr]at ho;simp at ho
  rw[ed this,au];exact hr
def ZV{t:TypeId}{x y:Operand}{k l m d:Nat}{es:List (List U)}{ki:IntKind}{i:Int}(ho:o.op = .slice t x none (some y) none)(hd:o.dst=some d)(hdn:d<n)(ha:slInfo P t=some k)(hx:af tm x=some (.osl l m))(hy:af tm y=some (.t (.int ki i)))
 (hg:get Z l=some (.row k es)) (hm:es.length=m) (h0:0<=i) (h1:i<=m) (hlab:1000<=l) (hσ:(Z.all λq => !q.2.has l)=true) (hon:Z6f tm=true) :
 Z38 P o ⟨n,tm,Z⟩ ⟨n,put (lH l tm) d (.osl l i.toNat),put Z l (.row k (es.take i.toNat))⟩:=
 opup λG β A w hop hr=>by
  have e1:=hop x _ hx;have e2:=hop y _ hy;simp only[VR,Z9]at e1 e2;obtain⟨a,cap,hv,hmc,hcm,h3⟩:=(e1.1 k es hg).2 hm.symm;obtain⟨e,hu,hsz⟩:=VO ha;refine⟨_,w,.inl (Zj1 ho hu hsz A w hv e2 h0 O),β,?_⟩;have hgs:get (put Z l (.row k (es.take i.toNat))) l=some (.row k (es.take i.toNat)):=fO Z l _;have hgo:∀q,q≠l->get (put Z l (.row k (es.take i.toNat))) q=get Z q:=λq hq=>gd Z _ (de hq);have hO:∀q o b,get (put Z l (.row k (es.take i.toNat))) q=some o->aA β w q o b->∃o2,get Z q=some o2/\aA β w q o2 b:=λq o b hq ho=>by
   by_cases hql:q=l
   .subst hql;have:some o=some (Blk.row k (es.take i.toNat)):=bP (bQ hq) hgs;cases this;exact⟨_,hg,.inl (aA.flat (o :=.row _ _) trivial ho)⟩
   exact⟨o,by rw[<- hgo q hql];exact hq,ho⟩
  have hI:∀b,(ctx G β w Z).I b->(ctx G β w (put Z l (.row k (es.take i.toNat)))).I b/\(ctx G β w (put Z l (.row k (es.take i.toNat)))).w.heap[b]?=(ctx G β w Z).w.heap[b]?:=λb hb=>⟨⟨hb.1,hb.2.1,λq o hq ho=>by obtain⟨o2,h1,h2⟩:=hO q o b hq ho;exact hb.2.2 q o2 h1 h2⟩,rfl⟩;have hL:∀q,q≠l->aV (ctx G β w Z) (ctx G β w (put Z l (.row k (es.take i.toNat)))) q:=λq hq=>aV.same (hgo q hq) rfl (λ_ _=>rfl);have hr1:aE G β ⟨n,lH l tm,put Z l (.row k (es.take i.toNat))⟩ A w:=
   { defers:=hr.defers,sz:=hr.sz,base:=hr.base,os:=hr.os,tape:=hr.tape,output:=hr.output,old:=hr.old,A:=hr.A,gl:=hr.gl,
     inj:=λq q' o o' b hq hq' hb hb'=>by obtain⟨o1,h1,h2⟩:=hO q o b hq hb;obtain⟨o2,h3,h4⟩:=hO q' o' b hq' hb';exact hr.inj q q' o1 o2 b h1 h3 h2 h4,
     sep:=λq o b hq hb=>by obtain⟨o1,h1,h2⟩:=hO q o b hq hb;exact hr.sep q o1 b h1 h2,
     fix:=λq cs hq1 hq=>by
      by_cases hql:q=l
      .subst hql;have:some (Blk.box cs)=some (Blk.row k (es.take i.toNat)):=bP (bQ hq) hgs;cases this
      exact hr.fix q cs hq1 vr,
     row0:=hr.row0.step (λq hq=>hL q O),
     blk:=λq ob hq=>by
      by_cases hql:q=l
      .subst hql;have:some ob=some (Blk.row k (es.take i.toNat)):=bP (bQ hq) hgs;cases this;obtain⟨g0,g1,g2⟩:=hr.blk q _ hg;refine⟨g0,λel hel=>g1 el (iw hel),?_⟩;rcases g2 with⟨g2,g3⟩|⟨b,sz,g2,g3,g4,g5⟩
       .exact .inl ⟨g2,by rw[g3];simp⟩
       refine .inr ⟨b,sz,g2,g3,cX (gj _ aZ) g4,ao.mono (λb hb=>hI b hb) rfl _ _ (ao.take _ g5)⟩
      have hq':get Z q=some ob:=vr
      refine BR.step hI rfl (λ_ _=>rfl) (λm hm=>hL m (λe=>?_)) (hr.blk q ob hq');subst e;have:=bU.1 hσ _ (ew hq');rw[hm]at this;exact absurd this aS,
     tm:=λj p hp=>by obtain⟨h1,h2⟩:=Dz (ew hp);have h3:=rb hon h1;exact⟨(hr.tm j p h3).1,VR.step hI p _ (λm hm=>hL m (λe=>by subst e;rw[h2]at hm;cases hm)) (hr.tm j p h3).2⟩ }
  rw[hd];refine hr1.put hdn ?_;simp only[VR];refine⟨λk' es' hg'=>?_,_,_,_,rfl⟩;have:some (Blk.row k' es')=some (Blk.row k (es.take i.toNat)):=bP (bQ hg') hgs;cases this;have hlen:(es.take i.toNat).length=i.toNat:=aZ
  refine⟨by rw[hlen];exact aW _,λ_=>⟨_,cap,rfl,by omega,hcm,?_⟩⟩;rcases h3 with⟨hc,hb⟩|⟨b,sz,ha',hb,hrow,hs⟩
  .exact .inl ⟨hc,hb⟩
  refine .inr ⟨b,sz,?_,hb,hrow,hs⟩;rw[ha'];split
  .rfl
  simp[gS]
end
end Go.PW
namespace Go.PW
open Go.RowKit
def bH(β:Nat->Option Nat)(l:Nat)(b:Option Nat):Nat->Option Nat:=λm=>if m=l then b else β m
def bI(β:Nat->Option Nat)(l:Nat)(b:Option Nat):bH β l b l=b:=by simp[bH]
def ff(β:Nat->Option Nat){l m:Nat}(b:Option Nat)(h:m≠l):bH β l b m=β m:=by simp[bH,h]
def MM{G:Frm}{β:Nat->Option Nat}{n:Nat}{tm:List (Nat×PV)}{Z:List (Nat×Blk)}{a:Act}{w:World}(h:aE G β ⟨n,tm,Z⟩ a w)(w':World)(bL:Option Nat)(L:Nat)(blk:Blk)(rm:List Nat)
 (hsz:w.heap.size<=w'.heap.size) (hos:w'.os=w.os) (htp:w'.tape=w.tape) (hout:w'.output=w.output) (hnb:(∀cs,blk ≠ .box cs)/\(1000<=L\/∀k es,blk ≠ .row k es))
 (hheap:∀b,b<w.heap.size->(∀l o,l∈rm->get Z l=some o->¬aA β w l o b)->w'.heap[b]?=w.heap[b]?)
 (hown:∀c,aA (bH β L bL) w' L blk c->(w.heap.size<=c/\c<w'.heap.size)\/∃l o,l∈rm/\get Z l=some o/\aA β w l o c)
 (hV:(∀b,(ctx G β w Z).I b->(ctx G (bH β L bL) w' ((L,blk)::bb rm Z)).I b/\w'.heap[b]?=w.heap[b]?)->(∀m,m≠L->aV (ctx G β w Z) (ctx G (bH β L bL) w' ((L,blk)::bb rm Z)) m) ->
  (∀i p v,get tm i=some p->VR (ctx G β w Z) p v->VR (ctx G (bH β L bL) w' ((L,blk)::bb rm Z)) p v) /\
  (∀q o,q≠L->get Z q=some o->(∀b,aA β w q o b->w'.heap[b]?=w.heap[b]?)->BR (ctx G β w Z) q o->BR (ctx G (bH β L bL) w' ((L,blk)::bb rm Z)) q o))
 (hblk:(∀b,(ctx G β w Z).I b->(ctx G (bH β L bL) w' ((L,blk)::bb rm Z)).I b/\w'.heap[b]?=w.heap[b]?)->BR (ctx G (bH β L bL) w' ((L,blk)::bb rm Z)) L blk) :
 aE G (bH β L bL) ⟨n,tm,(L,blk)::bb rm Z⟩ a w':=by
 have hget:∀m o,get ((L,blk)::bb rm Z) m=some o->(m=L/\o=blk)\/(m≠L/\m∉rm/\get Z m=some o):=λm o hg=>by
  simp only[PW.get]at hg;cases hb:Nat.beq L m with
  |true=>have:L=m:=(aU _ _).1 hb;simp only[hb,av,aq]at hg;exact .inl ⟨this.symm,hg.symm⟩
  |false=>
   simp only[hb,au]at hg;have:=kU hg;exact .inr ⟨λe=>by subst e;simp at hb,this.1,this.2⟩
 have hgo:∀m,m≠L->get ((L,blk)::bb rm Z) m=get (bb rm Z) m:=λm hm=>by simp only[PW.get,ed (de hm),au]
 have hkeep:∀m o,m∉rm->get Z m=some o->∀b,aA β w m o b->w'.heap[b]?=w.heap[b]?:=λm o hm hg b ho=>hheap b (h.sep m o b hg ho).1 (λl o' hl hg' ho'=>by have:=h.inj m l o o' b hg hg' ho ho';subst this;exact hm hl);have hO:∀m o,m≠L->m∉rm->get Z m=some o->∀b,aA (bH β L bL) w' m o b->aA β w m o b:=λm o hm hr hg b ho=>ho.of (ff β bL hm) (λb hb=>hkeep m o hr hg b (.inl hb));have hI:∀b,(ctx G β w Z).I b->(ctx G (bH β L bL) w' ((L,blk)::bb rm Z)).I b/\w'.heap[b]?=w.heap[b]?:=λb hb=>by
  refine⟨⟨dL hb.1 hsz,hb.2.1,λm o hm ho=>?_⟩,hheap b hb.1 (λl o _ hg ho=>hb.2.2 l o hg ho)⟩;rcases hget m o hm with⟨rfl,rfl⟩|⟨h1,h2,h3⟩
  .rcases hown b ho with⟨h4,_⟩|⟨l,o,_,h5,h6⟩
   .have:=hb.1;omega
   exact hb.2.2 l o h5 h6
  exact hb.2.2 m o h3 (hO m o h1 h2 h3 b ho)
 have hL:∀m,m≠L->aV (ctx G β w Z) (ctx G (bH β L bL) w' ((L,blk)::bb rm Z)) m:=λm hm=>by
  have hgm:get (ctx G (bH β L bL) w' ((L,blk)::bb rm Z)).Z m=get (bb rm Z) m:=hgo m hm;cases hg:get (bb rm Z) m with
  |none=>exact aV.none (hgm.trans hg)
  |some o=>
   obtain⟨h1,h2⟩:=kU hg;exact aV.same ((hgm.trans hg).trans h2.symm) (ff β bL hm) (λb hb=>hkeep m o h1 h2 b (.inl hb))
 obtain⟨hLt,hLs⟩:=hV hI hL
 exact { defers:=h.defers,sz:=h.sz,base:=cX h.base hsz,os:=hos.trans h.os,tape:=htp.trans h.tape,output:=hout.trans h.output,
         old:=λb hb hn=>(hheap b (dL hb h.base) (λl o _ hg ho=>by
          rcases(h.sep l o b hg ho).2 with h1|h1
          .omega
          exact hn h1)).trans (h.old b hb hn),
         A:=h.A,gl:=h.gl,
         inj:=λm m' o o' b hm hm' hb hb'=>by
          rcases hget m o hm with⟨rfl,rfl⟩|⟨h1,h2,h3⟩<;>rcases hget m' o' hm' with⟨rfl,rfl⟩|⟨h1',h2',h3'⟩
          .rfl
          .exfalso;have hb':=hO m' o' h1' h2' h3' b hb';rcases hown b hb with⟨h4,_⟩|⟨l,o,h4,h5,h6⟩
           .have:=(h.sep m' o' b h3' hb').1;omega
           have:=h.inj m' l o' o b h3' h5 hb' h6;subst this;exact h2' h4
          .exfalso;have hb:=hO m o h1 h2 h3 b hb;rcases hown b hb' with⟨h4,_⟩|⟨l,o2,h4,h5,h6⟩
           .have:=(h.sep m o b h3 hb).1;omega
           have:=h.inj m l o o2 b h3 h5 hb h6;subst this;exact h2 h4
          exact h.inj m m' o o' b h3 h3' (hO m o h1 h2 h3 b hb) (hO m' o' h1' h2' h3' b hb'),
         sep:=λm o b hm hb=>by
          rcases hget m o hm with⟨rfl,rfl⟩|⟨h1,h2,h3⟩
          .rcases hown b hb with⟨h4,h5⟩|⟨l,o,_,h5,h6⟩
           .exact⟨h5,.inl (cX h.base h4)⟩
           have:=h.sep l o b h5 h6;exact⟨dL this.1 hsz,this.2⟩
          have:=h.sep m o b h3 (hO m o h1 h2 h3 b hb);exact⟨dL this.1 hsz,this.2⟩,
         fix:=λm cs h1 hm=>by
          rcases hget m _ hm with⟨_,h2⟩|⟨h2,_,h3⟩
          .exact absurd h2.symm (hnb.1 cs)
          rw[ff β bL h2];exact h.fix m cs h1 h3,
         row0:=λm k es' hm hg=>by
          by_cases e:m=L
          .rcases hget m _ hg with⟨_,h2⟩|⟨h2,_,_⟩
           .exact hnb.2.elim (λh=>by omega) (λh=>absurd h2.symm (h k es'))
           exact absurd e h2
          exact h.row0.one (hL m e) hm hg,
         blk:=λm o hm=>by
          rcases hget m o hm with⟨rfl,rfl⟩|⟨h1,h2,h3⟩
          .exact hblk hI
          exact hLs m o h1 h3 (λb hb=>hkeep m o h2 h3 b hb) (h.blk m o h3),
         tm:=λi p hp=>⟨(h.tm i p hp).1,hLt i p _ hp (h.tm i p hp).2⟩ }
def hQ{G:Frm}{β:Nat->Option Nat}{n:Nat}{tm:List (Nat×PV)}{Z:List (Nat×Blk)}{a:Act}{w:World}(h:aE G β ⟨n,tm,Z⟩ a w)(w':World)(bL:Option Nat)(L:Nat)(blk:Blk)(rm:List Nat)
 (hsz:w.heap.size<=w'.heap.size) (hos:w'.os=w.os) (htp:w'.tape=w.tape) (hout:w'.output=w.output) (hnb:(∀cs,blk ≠ .box cs)/\(1000<=L\/∀k es,blk ≠ .row k es))
 (hheap:∀b,b<w.heap.size->(∀l o,l∈rm->get Z l=some o->¬aA β w l o b)->w'.heap[b]?=w.heap[b]?)
 (hown:∀c,aA (bH β L bL) w' L blk c->(w.heap.size<=c/\c<w'.heap.size)\/∃l o,l∈rm/\get Z l=some o/\aA β w l o c)
 (hLL:aV (ctx G β w Z) (ctx G (bH β L bL) w' ((L,blk)::bb rm Z)) L\/((∀i q,get tm i=some q->q.has L=false)/\(∀m y,get Z m=some y->y.has L=false)))
 (hblk:(∀b,(ctx G β w Z).I b->(ctx G (bH β L bL) w' ((L,blk)::bb rm Z)).I b/\w'.heap[b]?=w.heap[b]?)->BR (ctx G (bH β L bL) w' ((L,blk)::bb rm Z)) L blk) :
 aE G (bH β L bL) ⟨n,tm,(L,blk)::bb rm Z⟩ a w':=
 MM h w' bL L blk rm hsz hos htp hout hnb hheap hown (λhI hL=>⟨λi p v hp hv=>VR.step hI p v (λm hm=>by
  by_cases e:m=L
  .subst e;rcases hLL with h1|⟨h1,_⟩
   .exact h1
   rw[h1 i p hp]at hm;cases hm
  .exact hL m e) hv,λq o hq hg hk hb=>BR.step hI (ff β bL hq) hk (λm hm=>by
  by_cases e:m=L
  .subst e;rcases hLL with h1|⟨_,h1⟩
   .exact h1
   rw[h1 q o hg]at hm;cases hm
  exact hL m e) hb⟩) hblk
structure cW (w:World) (b:Nat) (es:List (List U)) (vs:List Value):Prop where
 len:vs.length=es.length
 cell:∀(j:Nat) v,vs[j]?=some v->w.cell? ⟨b,j,none⟩=some v
 inn:∀(j:Nat) e v,es[j]?=some e->vs[j]?=some v->∃inner a cap,e=[.sl inner]/\v = .slice a inner.length cap/\inner.length<=cap/\cap<=maxLen/\(∀x,x∈inner->∃t,x=[t]/\t.scal=true) /\
  (inner=[]\/∃d m,a=some ⟨d,0,none⟩/\d≠b/\aY w d m/\cap<=m/\ao (λ_=>True) w d inner 0)
 dis:∀(i j:Nat) d l l' c c',vs[i]?=some (.slice (some ⟨d,0,none⟩) l c)->vs[j]?=some (.slice (some ⟨d,0,none⟩) l' c')->l≠0->l'≠0->i=j
def C5{inner:List (List U)}(h:∀x,x∈inner->∃t,x=[t]/\t.scal=true):∀el,el∈inner->∀x,x∈el->U.scal x=true:=λel hel x hx=>by obtain⟨t,rfl,ht⟩:=h el hel;simp only[gC]at hx;subst hx;exact ht
def cW.br{c:Ctx}{L b m:Nat}{es:List (List U)}{vs:List Value}(h:cW c.w b es vs)(hb:c.β L=some b)(hr:aY c.w b m)(hm:es.length<=m):BR c L (.mat 1 0 es):=by
 have hcell:∀(j:Nat) v,vs[j]?=some v->c.w.cell? ⟨b,j*1+0,none⟩=some v:=λj v hv=>by rw[df,cZ];exact h.cell j v hv
 have hv:∀j,j<es.length->∃v,vs[j]?=some v:=λj hj=>⟨vs[j]'(by rw[h.len];exact hj),bn _⟩;refine⟨nP,λel hel=>?_,.inr ⟨b,m,hb,hr,by rw[df];exact hm,?_,?_,?_⟩⟩
 .obtain⟨j,hj,he⟩:=lh hel;obtain⟨v,hv⟩:=hv j hj;obtain⟨inner,a,cap,rfl,_⟩:=h.inn j el v (by rw[bn hj,he]) hv;rfl
 .have key:∀(k:Nat) (fs:List (List U)),es.drop k=fs->ao (λd=>c.I d\/Subs c.w b 1 0 es.length d) c.w b fs k:=by
   intro k fs;induction fs generalizing k with
   |nil=>intro _;simp[ao]
   |cons e fs ih=>
    intro he;have hk:k<es.length:=by
     rcases dY k es.length with h|h
     .exact h
     rw[ir h]at he;cases he
    have hek:es[k]?=some e:=by rw[<- List.head?_drop,he];rfl
    obtain⟨v,hv⟩:=hv k hk;obtain⟨inner,a,cap,rfl,rfl,h1,h2,h3,h4⟩:=h.inn k e v hek hv;simp only[ao,Z6,jw,bT,cg];refine⟨⟨_,h.cell k _ hv,?_⟩,ih (k+1) (by rw[<- gQ,he];rfl)⟩;simp only[Z9];refine⟨a,cap,rfl,h1,h2,?_⟩;rcases h4 with h4|⟨d,m',h5,h6,h7,h8,h9⟩
    .exact .inl h4
    by_cases hi:inner=[]
    .exact .inl hi
    exact .inr ⟨d,0,h5,.inr ⟨k,hk,inner.length,cap,λe=>hi (du e),by rw[df,cZ,h.cell k _ hv,h5]⟩,ao.scal inner 0 (C5 h3) h9⟩
  exact key 0 es al
 .intro i j d len len' cap cap' hi hj hl hl' h1 h2;obtain⟨v,hv1⟩:=hv i hi;obtain⟨v',hv2⟩:=hv j hj;rw[hcell i v hv1]at h1;rw[hcell j v' hv2]at h2;cases h1;cases h2;exact h.dis i j d len len' cap cap' hv1 hv2 hl hl'
 intro j e he;obtain⟨v,hv1⟩:=hv j (aJ.1 he).1;obtain⟨inner,a,cap,rfl,rfl,h1,h2,h3,h4⟩:=h.inn j e v he hv1;refine⟨inner,a,inner.length,cap,rfl,h3,hcell j _ hv1,λhl=>?_⟩;rcases h4 with h4|⟨d,m',h5,h6,h7,h8,h9⟩
 .rw [h4]at hl;exact absurd rfl hl
 exact⟨d,m',h5,h6,h7,h8⟩
def cW.of{c:Ctx}{L:Nat}{es:List (List U)}(h:BR c L (.mat 1 0 es)):(c.β L=none/\es=[])\/∃b m vs,c.β L=some b/\aY c.w b m/\es.length<=m/\cW c.w b es vs:=by
 obtain⟨_,hk,h⟩:=h;rcases h with h|⟨b,m,hb,hr,hm,hel,hdis,hin⟩
 .exact .inl h
 refine .inr ⟨b,m,(List.range es.length).map (λj=>(c.w.cell? ⟨b,j,none⟩).getD undef),hb,hr,by rwa[df]at hm,?_⟩;have hc:∀(j:Nat) e,es[j]?=some e->∃inner v,e=[.sl inner]/\c.w.cell? ⟨b,j,none⟩=some v/\Z9 (λd=>c.I d\/Subs c.w b 1 0 es.length d) c.w (.sl inner) v/\(∀x,x∈inner->∃t,x=[t]/\t.scal=true) /\
  (∀a len cap,v = .slice a len cap->len≠0->∃d m',a=some ⟨d,0,none⟩/\d≠b/\aY c.w d m'/\cap<=m'):=λj e he=>by
  obtain⟨inner,a,len,cap,h1,h2,h3,h4⟩:=hin j e he;have hl:=hk e (cj he);have hee:e=[.sl inner]:=by
   match e,hl,h1 with
   |[x],_,h1=>simp at h1;rw[h1]
  subst hee;have ht:=hel.get j _ hk he;simp only[Z6,jw,aM,df]at ht;obtain⟨v,hv,ht⟩:=ht;rw[df,cZ]at h3;refine⟨inner,v,rfl,hv,ht,h2,λa' len' cap' he' hl'=>?_⟩;rw[h3]at hv;cases hv;cases he';exact h4 hl'
 have hvs:∀(j:Nat) v,((List.range es.length).map (λj=>(c.w.cell? ⟨b,j,none⟩).getD undef))[j]?=some v->j<es.length/\c.w.cell? ⟨b,j,none⟩=some v:=λj v hv=>by
  simp only[fX,cA]at hv;obtain⟨i,hi,hv⟩:=hv;have hj:j<es.length:=by have:=(aJ.1 hi).1;simpa using this
  have:i=j:=by rw[oR hj]at hi;cases hi;rfl
  subst this;obtain⟨inner,v',_,h2,_⟩:=hc i _ (bn hj);rw[h2]at hv⊢;exact⟨hj,by simpa using hv⟩
 refine⟨by simp,λj v hv=>(hvs j v hv).2,λj e v he hv=>?_,λi j d l l' cp cp' h1 h2 hl hl'=>?_⟩
 .obtain⟨inner,v',rfl,h2,h3,h4,h5⟩:=hc j e he;rw[(hvs j v hv).2]at h2;cases h2;simp only[Z9]at h3;obtain⟨a,cap,rfl,h6,h7,h8⟩:=h3;refine⟨inner,a,cap,rfl,rfl,h6,h7,h4,?_⟩;by_cases hi:inner=[]
  .exact .inl hi
  obtain⟨d,m',e1,e2,e3,e4⟩:=h5 a inner.length cap rfl (λe=>hi (du e));rcases h8 with h8|⟨d',off,e5,_,e6⟩
  .exact absurd h8 hi
  rw[e1]at e5;cases e5;exact .inr ⟨d,m',e1,e2,e3,e4,ao.scal inner 0 (C5 h4) e6⟩
 obtain⟨a1,a2⟩:=hvs i _ h1;obtain⟨a3,a4⟩:=hvs j _ h2;exact hdis i j d l l' cp cp' a1 a3 hl hl' (by rw[df,cZ];exact a2) (by rw[df,cZ];exact a4)
def cW.subs{w:World}{b:Nat}{es:List (List U)}{vs:List Value}(h:cW w b es vs){d:Nat}:Subs w b 1 0 es.length d↔∃(j l c:Nat),vs[j]?=some (Value.slice (some ⟨d,0,none⟩) l c)/\l≠0:=by
 constructor
 .rintro ⟨j,hj,len,cap,hl,hc⟩;rw[df,cZ]at hc;have hv:vs[j]?=some (vs[j]'(by rw[h.len];exact hj)):=bn _;rw[h.cell j _ hv]at hc;cases hc2:vs[j]'(by rw[h.len];exact hj)with
  |slice a l c=>rw[hc2]at hc hv;cases hc;exact⟨j,len,cap,hv,hl⟩
  |_=>rw[hc2]at hc;cases hc
 rintro⟨j,l,c,hv,hl⟩;exact⟨j,by rw[<- h.len];exact(aJ.1 hv).1,l,c,hl,by rw[df,cZ];exact h.cell j _ hv⟩
def ao.mono'{w w':World}{d:Nat}{es:List (List U)}(hh:w'.heap[d]?=w.heap[d]?)(hsc:∀x,x∈es->∃t,x=[t]/\t.scal=true)(h:ao (λ_=>True) w d es 0):ao (λ_=>True) w' d es 0:=by
 have hT:∀{t:U} {v:Value},t.scal=true->Z9 (λ_=>True) w t v->Z9 (λ_=>True) w' t v:=λ{t v} hs h=>Z9.scal hs h;have key:∀(es:List (List U)) (off:Nat),(∀x,x∈es->∃t,x=[t]/\t.scal=true)->ao (λ_=>True) w d es off->ao (λ_=>True) w' d es off:=by
  intro es;induction es with
  |nil=>intro off _ _;simp[ao]
  |cons e es ih=>
   intro off hs h;obtain⟨t,rfl,ht⟩:=hs e al;simp only[ao,Z6,jw]at h⊢;obtain⟨⟨c,h1,h2⟩,h3⟩:=h;exact⟨⟨c,(fj (w:=w) hh).trans h1,hT ht h2⟩,ih _ (λx hx=>hs x (cK _ hx)) h3⟩
 exact key es 0 hsc h
def SC1(es:List (List U)):Prop:=∀x,x∈es->∃t,x=[t]/\t.scal=true
def cW.nil(w:World)(b:Nat):cW w b [] []:=⟨rfl,by simp,by simp,by simp⟩
def cW.app{w w':World}{b b3 bN:Nat}{es0 es3:List (List U)}{vs0 vs3:List Value}(h0:cW w b es0 vs0)(h3:cW w b3 es3 vs3)(hc:∀(j:Nat) v,(vs0++vs3)[j]?=some v->w'.cell? ⟨bN,j,none⟩=some v)
 (hin:∀d l c (j:Nat),(vs0++vs3)[j]?=some (Value.slice (some ⟨d,0,none⟩) l c)->l≠0->d≠bN/\w'.heap[d]?=w.heap[d]?)
 (hx:∀(i j:Nat) d l l' c c',vs0[i]?=some (Value.slice (some ⟨d,0,none⟩) l c)->vs3[j]?=some (Value.slice (some ⟨d,0,none⟩) l' c')->l≠0->l'≠0->False):cW w' bN (es0++es3) (vs0++vs3):=by
 have hlen:=h0.len;refine⟨by simp[h0.len,h3.len],hc,λj e v he hv=>?_,λi j d l l' c c' h1 h2 hl hl'=>?_⟩
 .have key:∃inner a cap,e=[.sl inner]/\v = .slice a inner.length cap/\inner.length<=cap/\cap<=maxLen/\(∀x,x∈inner->∃t,x=[t]/\t.scal=true) /\
   (inner=[]\/∃d m,a=some ⟨d,0,none⟩/\aY w d m/\cap<=m/\ao (λ_=>True) w d inner 0):=by
   rcases dY j es0.length with h|h
   .rw [dy h]at he;rw[dy O]at hv;obtain⟨inner,a,cap,e1,e2,e3,e4,e5,e6⟩:=h0.inn j e v he hv;exact⟨inner,a,cap,e1,e2,e3,e4,e5,e6.imp id λ⟨d,m,f1,_,f2⟩=>⟨d,m,f1,f2⟩⟩
   rw[dU h]at he;rw[dU O,hlen]at hv;obtain⟨inner,a,cap,e1,e2,e3,e4,e5,e6⟩:=h3.inn _ e v he hv;exact⟨inner,a,cap,e1,e2,e3,e4,e5,e6.imp id λ⟨d,m,f1,_,f2⟩=>⟨d,m,f1,f2⟩⟩
  obtain⟨inner,a,cap,e1,e2,e3,e4,e5,e6⟩:=key;refine⟨inner,a,cap,e1,e2,e3,e4,e5,?_⟩;by_cases hi:inner=[]
  .exact .inl hi
  rcases e6 with h|⟨d,m,f1,f2,f3,f4⟩
  .exact .inl h
  obtain⟨g1,g2⟩:=hin d inner.length cap j (by rw[hv,e2,f1]) (λe=>hi (du e));exact .inr ⟨d,m,f1,g1,f2.of_heap g2,f3,ao.mono' g2 e5 f4⟩
 rcases dY i vs0.length with hi|hi<;>rcases dY j vs0.length with hj|hj
 .rw [dy hi]at h1;rw[dy hj]at h2;exact h0.dis i j d l l' c c' h1 h2 hl hl'
 .rw [dy hi]at h1;rw[dU hj]at h2;exact(hx _ _ d l l' c c' h1 h2 hl hl').elim
 .rw [dU hi]at h1;rw[dy hj]at h2;exact(hx _ _ d l' l c' c h2 h1 hl' hl).elim
 rw[dU hi]at h1;rw[dU hj]at h2;have:=h3.dis _ _ d l l' c c' h1 h2 hl hl';omega
section
variable {P:Program} {o:Oper} {ρ:List (Nat×PV)} {σ0:List (Nat×Blk)}
def opFn {need rm:List Nat} {p:PV} {news:List (Nat×Blk)} (h:∀(G:Frm) (β:Nat->Option Nat) (n:Nat) (tm:List (Nat×PV)) (Z':List (Nat×Blk)) (a:Act) (w:World),
      (∀x q,x∈o.op.operands->af ρ x=some q->VR (ctx G β w Z') q (a.eval x))->(∀l,l∈need->get Z' l=get σ0 l) ->
      (∀l x,(l,x)∈news->l∉rm->(∀i q,get tm i=some q->q.has l=false)/\(∀m y,get Z' m=some y->m≠l/\y.has l=false))->aE G β ⟨n,tm,Z'⟩ a w ->
      ∃v w',(execOp a.eval o).run P w = .ok (.value v) w'/\∃β',aE G β' ⟨n,tm,news++bb rm Z'⟩ a w'/\VR (ctx G β' w' (news++bb rm Z')) p v):OpF P o ρ σ0 need rm p news:=by
 intro G n tm Z' a w K Q hag hneed hfr hr hK;obtain⟨β,hr⟩:=hr;obtain⟨v,w',hv,hp⟩:=h G β n tm Z' a w (λx q hx hq=>hP hr hq (λt r ht hr'=>hag t r (ht▸hx) hr')) hneed hfr hr;unfold Oper.wp;rw[hv];exact hK v w' hp
def MJ{G:Frm}{β:Nat->Option Nat}{n:Nat}{tm:List (Nat×PV)}{Z:List (Nat×Blk)}{a:Act}{w:World}(hr:aE G β ⟨n,tm,Z⟩ a w){l m:Nat}{es:List (List U)}(hg:get Z l=some (.row 1 es))(hm:es.length=m){v:Value}(hv:OSl (ctx G β w Z) l m v)(hsc:SC1 es) :
 ∃ad cap,v = .slice ad es.length cap/\es.length<=cap/\cap<=maxLen/\(es=[]\/∃d sz,ad=some ⟨d,0,none⟩/\β l=some d/\aY w d sz/\cap<=sz/\ao (λ_=>True) w d es 0):=by
 obtain⟨ad,cap,hv,hmc,hcm,h3⟩:=(hv 1 es hg).2 hm.symm;refine⟨ad,cap,by rw[hm];exact hv,by omega,hcm,?_⟩;obtain⟨_,_,hb⟩:=hr.blk l _ hg;rcases hb with⟨_,he⟩|⟨b,sz,hb,_,_,hel⟩
 .exact .inl he
 rcases h3 with⟨hc,_⟩|⟨b',sz',ha,hb',hrow,hs⟩
 .exact .inl (du O)
 have:b'=b:=c7
 subst this;exact .inr ⟨b',sz',ha,hb,hrow,by simpa using hs,ao.scal es 0 (C5 hsc) hel⟩
def Zi2{t e:TypeId}{parts:Array (Nat×Operand)}{bytes l2 n2:Nat}{zero:List PV}{es2:List (List U)}(L:Nat)(hlab:1000<=L)(ho:o.op = .buildSlice t 1 parts)(hE:ElF P t e 1 bytes zero)(hp:gi ρ parts.toList=some [(0,.osl l2 n2)])
 (hf:gu (kC 1 1) (rep 1 zero) [(0,.osl l2 n2)]=some [.osl l2 n2]) (hg0:get σ0 l2=some (.row 1 es2)) (hm:es2.length=n2) (hsc:SC1 es2) (hL:L≠l2):OpF P o ρ σ0 [l2] [l2] (.own L (.msl 1)) [(L,.mat 1 0 [[.sl es2]])]:=
 opFn λG β n tm Z A w hop hnd hfr hr=>by
  have hg:get Z l2=some (.row 1 es2):=(hnd l2 al).trans hg0;obtain⟨hf1,hf2⟩:=hfr L (.mat 1 0 [[.sl es2]]) al (by simpa using hL);have hv:=nK (ρ:=ρ) (c:=ctx G β w Z) A.eval parts.toList _ (λx q hx hq=>hop x q qL hq) hp;obtain⟨us,h1,h2⟩:=u4 hE (c:=ctx G β w Z) w (vals:=parts.map λ(i,x)=>(i,A.eval x)) vD O hf;simp only[VRs]at h2;obtain⟨v,rest,rfl,h2,rfl⟩:=h2;simp only[VR]at h2;obtain⟨ad,cap,rfl,hic,hcm,hin⟩:=MJ hr hg hm h2.1 hsc;have hcell:(w.alloc (.cells [Value.slice ad es2.length cap].toArray e)).cell? ⟨w.heap.size,0,none⟩=some (.slice ad es2.length cap):=by rw[iU];rfl
  have hmat:cW (w.alloc (.cells [Value.slice ad es2.length cap].toArray e)) w.heap.size [[.sl es2]] [.slice ad es2.length cap]:=by
   refine⟨rfl,λj v hj=>?_,λj e v he hj=>?_,λi j d l l' c c' h1 h2 _ _=>?_⟩
   .match j,hj with
    |0,hj=>cases hj;exact hcell
   .match j,hj,he with
    |0,hj,he=>
     cases hj;cases he;refine⟨es2,ad,cap,rfl,rfl,hic,hcm,hsc,hin.imp id λ⟨d,sz,g1,g2,g3,g4,g5⟩=>?_⟩;have hlt:=(hr.sep l2 _ d hg (.inl g2)).1;have hh:=dZ w (.cells [Value.slice ad es2.length cap].toArray e) d hlt;exact⟨d,sz,g1,by omega,g3.of_heap hh,g4,ao.mono' hh hsc g5⟩
   .match i,j,h1,h2 with
    |0,0,_,_=>rfl
  have hrow:aY (w.alloc (.cells [Value.slice ad es2.length cap].toArray e)) w.heap.size 1:=⟨_,e,(0,0),j6 w _,rfl,.inl rfl⟩;have habs:=hQ hr (w.alloc (.cells [Value.slice ad es2.length cap].toArray e)) (some w.heap.size) L (.mat 1 0 [[.sl es2]]) [l2] al rfl rfl rfl al
   (λb hb _=>dZ w _ b hb) (λc hc=>?_) (.inr ⟨hf1,λm y hy=>(hf2 m y hy).2⟩) (λ_=>hmat.br (bI _ _ _) hrow al)
  .refine⟨.slice (some ⟨w.heap.size,0,none⟩) 1 1,w.alloc (.cells [Value.slice ad es2.length cap].toArray e),?_,_,habs,?_⟩
   .simp only[execOp,ho,aN,h1,aO,aT]
   simp only[VR];refine⟨λk q es' hg'=>?_,rfl⟩;have:some (Blk.mat k q es')=some (.mat 1 0 [[.sl es2]]):=bP (bQ hg') gO;cases this;exact⟨by simp,λ_=>⟨_,1,rfl,by simp,by simp[maxLen],.inr ⟨w.heap.size,1,rfl,bI _ _ _,hrow,by simp⟩⟩⟩
  rcases hc with hc|⟨b0,h4,h5⟩
  .rw [bI]at hc;cases hc;exact .inl ⟨aW _,by simp⟩
  rw[bI]at h4;cases h4;obtain⟨j,l,c',hv,hl⟩:=hmat.subs.1 h5
  match j,hv with
  |0,hv=>
   cases hv;rcases hin with h|⟨d,sz,g1,g2,_⟩
   .subst h;exact absurd rfl hl
   cases g1;exact .inr ⟨l2,_,by simp,hg,.inl g2⟩
def C6{G:Frm}{β:Nat->Option Nat}{n:Nat}{tm:List (Nat×PV)}{Z:List (Nat×Blk)}{a:Act}{w:World}(hr:aE G β ⟨n,tm,Z⟩ a w){l m:Nat}{es:List (List U)}(hg:get Z l=some (.mat 1 0 es))(hm:es.length=m){v:Value}(hv:ODR (ctx G β w Z) l v (.msl m)) :
 ∃ad cap vs,v = .slice ad m cap/\m<=cap/\cap<=maxLen/\((cap=0/\β l=none/\es=[]/\vs=[])\/∃b sz,ad=some ⟨b,0,none⟩/\β l=some b/\aY w b sz/\cap<=sz/\es.length<=sz/\cW w b es vs):=by
 obtain⟨ad,cap,hv,hmc,hcm,h3⟩:=(hv 1 0 es hg).2 hm.symm;rcases cW.of (hr.blk l _ hg)with⟨hb,he⟩|⟨b,sz,vs,hb,hrow,hsz,hmat⟩
 .rcases h3 with⟨hc,_⟩|⟨b,sz,_,hb',_⟩
  .exact⟨ad,cap,[],hv,hmc,hcm,.inl ⟨hc,hb,he,rfl⟩⟩
  exact absurd (hb.symm.trans hb') al
 rcases h3 with⟨_,hb'⟩|⟨b',sz',ha,hb',hrow',hs⟩
 .exact absurd (hb.symm.trans hb') al
 have:b'=b:=c7
 subst this;have hss:sz'=sz:=by obtain⟨cs1,e1,f1,g1,g2,_⟩:=hrow;obtain⟨cs2,e2,f2,g3,g4,_⟩:=hrow';have g1:w.heap[b']?=_:=g1;have g3:w.heap[b']?=_:=g3;rw[g1]at g3;cases g3;omega
 subst hss;exact⟨ad,cap,vs,hv,hmc,hcm,.inr ⟨b',sz',ha,hb,hrow,by simpa using hs,hsz,hmat⟩⟩
def cW.one{w:World}{b:Nat}{es:List (List U)}{vs:List Value}(h:cW w b es vs):∀u,u∈vs->u.oneCell'=true:=λu hu=>by obtain⟨j,hj,he⟩:=lh hu;obtain⟨inner,a,cap,_,h2,_⟩:=h.inn j (es[j]'(by rw[<- h.len];exact hj)) u (bn _) (by rw[bn hj,he]);subst h2;rfl
def cW.ne{w:World}{b:Nat}{es:List (List U)}{vs:List Value}(h:cW w b es vs){j d l c:Nat}(hv:vs[j]?=some (Value.slice (some ⟨d,0,none⟩) l c))(hl:l≠0):d≠b:=by
 have hj:j<es.length:=by rw[<- h.len];exact(aJ.1 hv).1
 obtain⟨inner,a,cap,_,h2,_,_,_,h3⟩:=h.inn j _ _ (bn hj) hv;cases h2;rcases h3 with h3|⟨d',m,h4,h5,_⟩
 .subst h3;exact absurd rfl hl
 cases h4;exact h5
def Zi3{t tx e:TypeId}{x y:Operand}{bytes l m l3 m3:Nat}{zero:List PV}{es0 es3:List (List U)}(ho:o.op = .call { callee :=.builtin .append,args := #[x,y],argTypes := #[t,tx] })
 (hE:ElF P t e 1 bytes zero) (htx:∃e',P.underlying tx=some (.slice e')) (hx:af ρ x=some (.own l (.msl m))) (hg0:get σ0 l=some (.mat 1 0 es0)) (hm:es0.length=m) (hy:af ρ y=some (.own l3 (.msl m3))) (hg3:get σ0 l3=some (.mat 1 0 es3)) (hm3:es3.length=m3)
 (hpos:0<m3) (hll:l≠l3) (h63:m+m3<=9223372036854775807) (hby:(m+m3)*bytes<=140737488355328) :
 OpF P o ρ σ0 [l,l3] [l,l3] (.own l (.msl (m+m3))) [(l,.mat 1 0 (es0++es3))]:=
 opF λG β n tm Z A w hop hnd hr=>by
  have e1:=hop x _ fc hx;have e2:=hop y _ fc hy;have hg:get Z l=some (.mat 1 0 es0):=(hnd l al).trans hg0;have hg':get Z l3=some (.mat 1 0 es3):=(hnd l3 al).trans hg3;simp only[VR]at e1 e2;obtain⟨a0,cap,vs0,hv,hmc,hcm0,h3⟩:=C6 hr hg hm e1.1;obtain⟨a3,cap3,vs3,hv3,hmc3,hcm3,h4⟩:=C6 hr hg' hm3 e2.1;rcases h4 with⟨hc,_⟩|⟨b3,sz3,ha3,hb3,hrow3,hcs3,hes3,hmat3⟩
  .omega
  obtain⟨e',htx⟩:=htx;have hO3:∀(j d l c:Nat),vs3[j]?=some (Value.slice (some ⟨d,0,none⟩) l c)->l≠0->aA β w l3 (.mat 1 0 es3) d:=λj d l c h hl =>.inr ⟨b3,hb3,hmat3.subs.2 ⟨j,l,c,h,hl⟩⟩;have hvl0:vs0.length=m:=by
   rcases h3 with⟨_,_,he,hv0⟩|⟨b,sz,_,_,_,_,_,hmat⟩
   .subst he;subst hv0;simpa using hm
   rw[hmat.len,hm]
  have hO0:∀(j d l' c:Nat),vs0[j]?=some (Value.slice (some ⟨d,0,none⟩) l' c)->l'≠0->aA β w l (.mat 1 0 es0) d:=λj d l' c h hl=>by
   rcases h3 with⟨_,_,he,hv0⟩|⟨b,sz,_,hb,_,_,_,hmat⟩
   .subst hv0;simp at h
   exact .inr ⟨b,hb,hmat.subs.2 ⟨j,l',c,h,hl⟩⟩
  have hcross:∀d,aA β w l (.mat 1 0 es0) d->aA β w l3 (.mat 1 0 es3) d->False:=λd h h'=>hll (hr.inj l l3 _ _ d hg hg' h h');have hvl3:vs3.length=m3:=by rw[hmat3.len,hm3]
  cases hi:P.info? e with
  |none=>have:=hE.info;simp[hi]at this
  |some i=>
   have hik:i.size=1/\i.bytes=bytes:=vE
   have hz:=hE.z;unfold fk at hz;simp only[hi,bp,dC]at hz;obtain⟨z,hiz,hz⟩:=hz;have hzl:z.cells.size=1:=Ss
   have hexec:∀r,(Builtin.append_ #[t,tx] o.type #[.slice a0 m cap,A.eval y]).run P w=r->(execOp A.eval o).run P w=r.andThen λv w =>.ok (.value v) w:=Sq
   have hs:Src P i.size tx (A.eval y) m3 vs3 w:=by rw[hv3,ha3];exact Src.ofSlice w htx ⟨b3,0,none⟩ m3 cap3 vs3 (by rw[hvl3,hik.1,df]) (λj u hu=>by rw[gS];simpa using hmat3.cell j u hu) hmat3.one
   have hLS:∀(β':Nat->Option Nat) (w':World),aV (ctx G β w Z) (ctx G β' w' ((l,.mat 1 0 (es0++es3))::bb [l,l3] Z)) l:=λβ' w'=>by
    have hgs:get (ctx G β' w' ((l,.mat 1 0 (es0++es3))::bb [l,l3] Z)).Z l=some (.mat 1 0 (es0++es3)):=gO
    refine⟨λk' es' h=>?_,λcs' h=>?_,λk' q' es' h=>?_,λk' es' h=>?_,λk' i' es' cs' h=>?_⟩
    .rw [hgs]at h;cases h
    .rw [hgs]at h;cases h
    .rw [hgs]at h;cases h;exact⟨es0,hg,by simp,λhe=>by rw[bF]at he;omega⟩
    .rw [hgs]at h;cases h
    rw[hgs]at h;cases h
   by_cases hroom:m+m3<=cap
   .rcases h3 with⟨hc0,_⟩|⟨b,sz,ha,hb,hrow,hcs,hes,hmat⟩
    .omega
    subst ha;have hth:=jQ hrow (o:=m*1) (n:=m3) O;have hrun:=run_append_room_src (P:=P) w t tx o.type e i hE.und hi b 0 m cap (A.eval y) m3 vs3 hs hroom (λj hj=>by
     have:=(hth j O).1;rwa[hik.1,aM]) (λj hj=>by
     have:=(hth j O).2;rwa[hik.1,aM])
    rw[hik.1,aM,df]at hrun;have hneb:∀(j d l' c:Nat),(vs0++vs3)[j]?=some (Value.slice (some ⟨d,0,none⟩) l' c)->l'≠0->d≠b:=λj d l' c h hl=>by
     rcases dY j vs0.length with hj|hj
     .rw [dy hj]at h;exact hmat.ne h hl
     rw[dU hj]at h;rintro rfl;exact hcross d (.inl hb) (hO3 _ d l' c h hl)
    have hmatN:cW (w.setCells b m vs3) b (es0++es3) (vs0++vs3):=by
     refine cW.app hmat hmat3 (λj v hj=>?_) (λd l' c j h hl=>⟨hneb j d l' c h hl,eM b vs3 m w d (hneb j d l' c h hl)⟩) (λi j d l' l'' c c' h1 h2 hl hl'=>hcross d (hO0 i d l' c h1 hl) (hO3 j d l'' c' h2 hl'));rcases dY j vs0.length with h|h
     .rw [dy h]at hj;rw[gv b vs3 m w ⟨b,j,none⟩ (λ_ _ =>.inl aZ)];exact hmat.cell j v hj
     rw[dU h]at hj;have hjl:=(aJ.1 hj).1;have:=ji b vs3 m w (λj' hj'=>by have:=(hth j' O).1;rwa[df]at this) (j-vs0.length) hjl;rw[show m+(j-vs0.length)=j by omega]at this;rw[this,<- hj,bn hjl]
    have hrowN:=dx b vs3 m w hrow;have habs:=hQ hr (w.setCells b m vs3) (some b) l (.mat 1 0 (es0++es3)) [l,l3] vq (dH b vs3 m w).1 (dH b vs3 m w).2.1 (dH b vs3 m w).2.2 al
     (λb' _ hn=>eM b vs3 m w b' (λe=>hn l _ al hg (.inl (by rw[e];exact hb)))) (λc hc =>.inr ?_) (.inl (hLS _ _)) (λ_=>hmatN.br (bI _ _ _) hrowN (by rw[bF,hm,hm3];omega))
    .refine⟨.slice (some ⟨b,0,none⟩) (m+m3) cap,w.setCells b m vs3,sf,_,habs,?_⟩;simp only[VR];refine⟨λk' q' es' hg''=>?_,rfl⟩;have:some (Blk.mat k' q' es')=some (.mat 1 0 (es0++es3)):=bP (bQ hg'') gO;cases this;exact⟨by simp;omega,λ_=>⟨_,cap,rfl,hroom,hcm0,.inr ⟨b,sz,rfl,bI _ _ _,hrowN,by omega⟩⟩⟩
    rcases hc with hc|⟨b0,g4,g5⟩
    .rw [bI]at hc;cases hc;exact⟨l,_,by simp,hg,.inl hb⟩
    rw[bI]at g4;cases g4;obtain⟨j,l',c',hv,hl⟩:=hmatN.subs.1 g5;rcases dY j vs0.length with h|h
    .rw [dy h]at hv;exact⟨l,_,by simp,hg,hO0 j c l' c' hv hl⟩
    rw[dU h]at hv;exact⟨l3,_,by simp,hg',hO3 _ c l' c' hv hl⟩
   have hgt:cap<m+m3:=bg
   have hold:(Builtin.firstCells i.size m (.slice a0 m cap)).run P w.drew = .ok vs0.toArray w.drew:=by
    rcases h3 with⟨_,_,he,hv0⟩|⟨b,sz,ha,hb,hrow,hcs,hes,hmat⟩
    .subst he;subst hv0;have hm0:m=0:=by simpa using hm.symm
     subst hm0;cases a0<;>simp[Builtin.firstCells,loadCells,loadCellsFrom]
    subst ha;exact run_firstCells_some w.drew i.size m ⟨b,0,none⟩ m cap vs0 (by rw[hvl0,hik.1,df]) (λj v hj=>by rw[gS];simpa using hmat.cell j v hj)
   have hrun:=run_append_grow_src (P:=P) w t tx o.type e i z hE.und hi hiz a0 m cap vs0 hold (A.eval y) m3 vs3 hs hgt O Sz;generalize hcs:(vs0++vs3).toArray++Builtin.zeroCells z.cells (grownCap w (m+m3) cap e-(m+m3))=cs at hrun;have hge:=sj w (m+m3) cap e;have hcm:grownCap w (m+m3) cap e<=maxLen:=sk w (m+m3) cap e se;have hcsz:cs.size=grownCap w (m+m3) cap e:=by rw[<- hcs];simp only[sn,so,bF,sq,hzl,hvl0,hvl3];omega
   have hd:=aE.drew hr;have hltO:∀d l' o',get Z l'=some o'->aA β w l' o' d->d<w.heap.size:=λd l' o' h1 h2=>(hr.sep l' o' d h1 h2).1;have hOw:∀(j d l' c:Nat),(vs0++vs3)[j]?=some (Value.slice (some ⟨d,0,none⟩) l' c)->l'≠0->d<w.heap.size:=λj d l' c h hl=>by
    rcases dY j vs0.length with hj|hj
    .rw [dy hj]at h;exact hltO d l _ hg (hO0 j d l' c h hl)
    rw[dU hj]at h;exact hltO d l3 _ hg' (hO3 _ d l' c h hl)
   have hheap:∀d,d<w.heap.size->(w.drew.alloc (.cells cs e)).heap[d]?=w.heap[d]?:=λd hd=>dZ w.drew _ d hd;have hmat0:∃b,cW w b es0 vs0:=by
    rcases h3 with⟨_,_,he,hv0⟩|⟨b,sz,_,_,_,_,_,hmat⟩
    .subst he;subst hv0;exact⟨0,cW.nil w 0⟩
    exact⟨b,hmat⟩
   obtain⟨bq,hmat0⟩:=hmat0;have hmatN:cW (w.drew.alloc (.cells cs e)) w.heap.size (es0++es3) (vs0++vs3):=by refine cW.app hmat0 hmat3 (λj v hj=>?_) (λd l' c j h hl=>⟨by have:=hOw j d l' c h hl;omega,hheap d (hOw j d l' c h hl)⟩) (λi j d l' l'' c c' h1 h2 hl hl'=>hcross d (hO0 i d l' c h1 hl) (hO3 j d l'' c' h2 hl'));show(w.drew.alloc _).cell? ⟨w.drew.heap.size,_,none⟩=_;rw[iU,<- hcs];have hlt:=(aJ.1 hj).1;rw[jz wy];simpa using hj
   have hrowN:aY (w.drew.alloc (.cells cs e)) w.heap.size cs.size:=⟨cs,e,(0,0),j6 w.drew _,rfl,.inl rfl⟩;have habs:=hQ hd (w.drew.alloc (.cells cs e)) (some w.heap.size) l (.mat 1 0 (es0++es3)) [l,l3] al rfl rfl rfl al
    (λb' hb' _=>dZ w.drew _ b' hb') (λc hc=>?_) (.inl ?_) (λ_=>hmatN.br (bI _ _ _) hrowN (by rw[hcsz,bF,hm,hm3];exact hge))
   .refine⟨.slice (some ⟨w.heap.size,0,none⟩) (m+m3) (grownCap w (m+m3) cap e),_,sf,_,habs,?_⟩;simp only[VR];refine⟨λk' q' es' hg''=>?_,rfl⟩;have:some (Blk.mat k' q' es')=some (.mat 1 0 (es0++es3)):=bP (bQ hg'') gO;cases this;exact⟨by simp;omega,λ_=>⟨_,_,rfl,hge,hcm,.inr ⟨w.heap.size,cs.size,rfl,bI _ _ _,hrowN,by rw[hcsz];omega⟩⟩⟩
   .have hw:∀l' o',aA β w l' o' c->aA β w.drew l' o' c:=λl' o' h=>h.of_cell (λ_=>rfl);rcases hc with hc|⟨b0,g4,g5⟩
    .rw [bI]at hc;cases hc;exact .inl ⟨aW _,by simp⟩
    rw[bI]at g4;cases g4;obtain⟨j,l',c',hv,hl⟩:=hmatN.subs.1 g5;refine .inr ?_;rcases dY j vs0.length with h|h
    .rw [dy h]at hv;exact⟨l,_,by simp,hg,hw _ _ (hO0 j c l' c' hv hl)⟩
    rw[dU h]at hv;exact⟨l3,_,by simp,hg',hw _ _ (hO3 _ c l' c' hv hl)⟩
   have hgs:get (ctx G (bH β l (some w.heap.size)) (w.drew.alloc (.cells cs e)) ((l,.mat 1 0 (es0++es3))::bb [l,l3] Z)).Z l=some (.mat 1 0 (es0++es3)):=gO
   refine⟨λk' es' h=>?_,λcs' h=>?_,λk' q' es' h=>?_,λk' es' h=>?_,λk' i' es' cs' h=>?_⟩
   .rw [hgs]at h;cases h
   .rw [hgs]at h;cases h
   .rw [hgs]at h;cases h;exact⟨es0,hg,by simp,λhe=>by rw[bF]at he;omega⟩
   .rw [hgs]at h;cases h
   rw[hgs]at h;cases h
variable {Z:List (Nat×Blk)}
def Zi4{t:TypeId}{x y:Operand}{l m:Nat}{es:List (List U)}{ki:IntKind}{i:Int}(ho:o.op = .indexAddr t x y)(ha:slInfo P t=some 1)(hx:af ρ x=some (.own l (.msl m)))(hy:af ρ y=some (.t (.int ki i)))
 (hg:get Z l=some (.mat 1 0 es)) (hm:es.length=m) (h0:0<=i) (h1:i<m):aQ P o ρ Z [l] (.own l (.mpt m i.toNat 0)) []:=
 bE λG β n tm Z' A w hop hneed hr=>by
  have e1:=hop x _ aK hx;have e2:=hop y _ aK hy;simp only[VR,Z9]at e1 e2⊢;have hgl:get Z' l=some (.mat 1 0 es):=(hneed l al).trans hg;obtain⟨ad,cap,vs,hv,hmc,hcm,h3⟩:=C6 hr hgl hm e1.1;rcases h3 with⟨hc,_⟩|⟨b,sz,ha',hb,_⟩
  .omega
  subst ha';refine⟨.pointer (some ⟨b,i.toNat*1,none⟩),?_,λk q es' hg'=>?_,rfl⟩
  .simp only[execOp,ho,hv,e2,aN,oQ w ha h0 h1,aO,aT,aM]
  have:some (Blk.mat k q es')=some (.mat 1 0 es):=bP (bQ hg') hgl;cases this;exact⟨by omega,λ_=>⟨b,hb,by simp⟩⟩
def Zi5{t:TypeId}{x:Operand}{l m j:Nat}{es:List (List U)}(ho:o.op = .load t x)(hT:TyF P t false 1)(hx:af ρ x=some (.own l (.mpt m j 0)))(hg:get Z l=some (.mat 1 0 es))(hm:es.length=m)(hj:j<m):aQ P o ρ Z [l] (.own l (.mrow m j)) []:=
 bE λG β n tm Z' A w hop hneed hr=>by
  have e1:=hop x _ aK hx;simp only[VR]at e1⊢;have hgl:get Z' l=some (.mat 1 0 es):=(hneed l al).trans hg;obtain⟨b,hb,hv⟩:=(e1.1 1 0 es hgl).2 hm.symm;rcases cW.of (hr.blk l _ hgl)with⟨hb',_⟩|⟨b',sz,vs,hb',hrow,hsz,hmat⟩
  .exact absurd (hb'.symm.trans hb) al
  have:b'=b:=c7
  subst this;have hvj:vs[j]?=some (vs[j]'(by rw[hmat.len];omega)):=bn _;have hc:w.cell? ⟨b',j*1+0,none⟩=some (vs[j]'(by rw[hmat.len];omega)):=by rw[df,cZ];exact hmat.cell j _ hvj
  refine⟨vs[j]'(by rw[hmat.len];omega),?_,⟨hj,λk q es' hg'=>?_⟩,hmat.one _ (kZ _)⟩
  .have hrun:(Instr.loadAt t (.pointer (some ⟨b',j*1+0,none⟩))).run P w = .ok (vs[j]'(by rw[hmat.len];omega)) w:=by
    have hc':w.cell? ⟨b',j,none⟩=some (vs[j]'(by rw[hmat.len];omega)):=hmat.cell j _ hvj;rw[df,cZ];simp[Instr.loadAt,Instr.sureAddr,loadVar,hT.run_isAgg w,hc']
   simp only[execOp,ho,hv,aN,hrun,aO,aT]
  have:some (Blk.mat k q es')=some (.mat 1 0 es):=bP (bQ hg') hgl;cases this;exact⟨by omega,λ_=>⟨b',hb,hc⟩⟩
def Zi6{t:TypeId}{x y:Operand}{l m j:Nat}{es inner:List (List U)}{ki:IntKind}{i:Int}(ho:o.op = .indexAddr t x y)(ha:slInfo P t=some 1)(hx:af ρ x=some (.own l (.mrow m j)))(hy:af ρ y=some (.t (.int ki i)))
 (hg:get Z l=some (.mat 1 0 es)) (hm:es.length=m) (he:es[j]?=some [.sl inner]) (h0:0<=i) (h1:i<inner.length):aQ P o ρ Z [l] (.own l (.mel m j i.toNat)) []:=
 bE λG β n tm Z' A w hop hneed hr=>by
  have e1:=hop x _ aK hx;have e2:=hop y _ aK hy;simp only[VR,Z9]at e1 e2⊢;have hgl:get Z' l=some (.mat 1 0 es):=(hneed l al).trans hg;obtain⟨b,hb,hv⟩:=(e1.1.2 1 0 es hgl).2 hm.symm;rw[df,cZ]at hv;rcases cW.of (hr.blk l _ hgl)with⟨hb',_⟩|⟨b',sz,vs,hb',hrow,hsz,hmat⟩
  .exact absurd (hb'.symm.trans hb) al
  have:b'=b:=c7
  subst this;have hjl:j<es.length:=(aJ.1 he).1;have hvj:vs[j]?=some (vs[j]'(by rw[hmat.len];exact hjl)):=bn _;obtain⟨inner',a,cap,g1,g2,g3,g4,g5,g6⟩:=hmat.inn j _ _ he hvj;have hc:=hmat.cell j _ hvj;cases g1;have hve:A.eval x = .slice a inner.length cap:=by have:some (A.eval x)=some (vs[j]'(by rw[hmat.len];exact hjl)):=hv.symm.trans hc;rw[g2]at this;exact c9 this
  rcases g6 with g6|⟨d,sz',k1,k2,k3,k4,k5⟩
  .subst g6;simp at h1;omega
  subst k1;refine⟨.pointer (some ⟨d,0+i.toNat*1,none⟩),?_,⟨e1.1.1,λk q es' hg'=>?_⟩,rfl⟩
  .simp only[execOp,ho,hve,e2,aN,oQ w ha h0 h1,aO,aT]
  have:some (Blk.mat k q es')=some (.mat 1 0 es):=bP (bQ hg') hgl;cases this;exact⟨by omega,λ_=>⟨b',d,inner.length,cap,hb,by rw[df,cZ];exact hc.trans (by rw[g2]),by simp⟩⟩
end
def ao.setCell{w:World}{d:Nat}{inner:List (List U)}{i:Nat}{z:U}{v:Value}(hsc:∀x,x∈inner->∃t,x=[t]/\t.scal=true)(hi:i<inner.length)(hz:z.scal=true)(hv:Z9 (λ_=>True) w z v)(h:ao (λ_=>True) w d inner 0) :
 ao (λ_=>True) (w.setCells d i [v]) d (inner.set i [z]) 0:=by
 have hT:∀{w':World} {t:U} {v:Value},t.scal=true->Z9 (λ_=>True) w t v->Z9 (λ_=>True) w' t v:=λ{w' t v} hs h=>Z9.scal hs h;have hk:∀el,el∈inner->el.length=1:=λel hel=>by obtain⟨t,rfl,_⟩:=hsc el hel;rfl
 have hthere:(w.cell? ⟨d,i,none⟩).isSome=true:=by have:=h.get i _ hk (bn hi);obtain⟨t,ht,_⟩:=hsc _ (kZ hi);rw[ht]at this;simp only[Z6,jw,aM,df]at this;obtain⟨c,hc,_⟩:=this;rw[hc];rfl
 have hin:(w.setCells d i [v]).cell? ⟨d,i,none⟩=some v:=by
  have:=ji d [v] i w (λj hj=>by
   have hj0:j=0:=iI
   rw[hj0,cZ];exact hthere) 0 al
  simpa using this
 have hout:∀j,j≠i->(w.setCells d i [v]).cell? ⟨d,j,none⟩=w.cell? ⟨d,j,none⟩:=λj hj=>gv d [v] i w ⟨d,j,none⟩ (λ_ _=>by simp;omega);have key:∀(k:Nat) (fs:List (List U)),(inner.set i [z]).drop k=fs->ao (λ_=>True) (w.setCells d i [v]) d fs k:=by
  intro k fs;induction fs generalizing k with
  |nil=>intro _;simp[ao]
  |cons e fs ih=>
   intro he;have hk':k<inner.length:=by
    rcases dY k inner.length with h|h
    .exact h
    rw[ir iS]at he;cases he
   have hek:(inner.set i [z])[k]?=some e:=by rw[<- List.head?_drop,he];rfl
   have hrest:(inner.set i [z]).drop (k+1)=fs:=by rw[<- gQ,he];rfl
   by_cases hki:k=i
   .subst hki;rw[kG hk']at hek;cases hek;simp only[ao,Z6,jw];exact⟨⟨v,hin,hT hz hv⟩,ih (k+1) hrest⟩
   rw[iG (λe=>hki e.symm)]at hek;have hget:=h.get k _ hk hek;obtain⟨t,rfl,ht⟩:=hsc e (cj hek);simp only[ao,Z6,jw,aM,df]at hget⊢;obtain⟨c,hc,hr⟩:=hget;exact⟨⟨c,(hout k hki).trans hc,hT ht hr⟩,ih (k+1) hrest⟩
 exact key 0 _ rfl
section
variable {P:Program} {o:Oper} {n:Nat} {tm:List (Nat×PV)} {Z:List (Nat×Blk)}
def ZW{t:TypeId}{x y:Operand}{l m j i:Nat}{es inner:List (List U)}{p:PV}{z:U}(ho:o.op = .store t x y)(hd:o.dst=none)(hT:TyF P t false 1)(hx:af tm x=some (.own l (.mel m j i)))(hy:af tm y=some p)(hp:p = .t z)(hz:z.scal=true)
 (hg:get Z l=some (.mat 1 0 es)) (hm:es.length=m) (he:es[j]?=some [.sl inner]) (hi:i<inner.length):Z38 P o ⟨n,tm,Z⟩ ⟨n,tm,put Z l (.mat 1 0 (es.set j [.sl (inner.set i [z])]))⟩:=
 opup λG β A w hop hr=>by
  subst hp;have e1:=hop x _ hx;have e2:=hop y _ hy;simp only[VR]at e1;obtain⟨b,d,len,cap,hb,hcell,hv⟩:=(e1.1.2 1 0 es hg).2 hm.symm;rw[df,cZ]at hcell;rcases cW.of (hr.blk l _ hg)with⟨hb',_⟩|⟨b',sz,vs,hb',hrow,hsz,hmat⟩
  .exact absurd (hb'.symm.trans hb) al
  have:b'=b:=c7
  subst this;have hjl:j<es.length:=(aJ.1 he).1;have hvj:vs[j]?=some (vs[j]'(by rw[hmat.len];exact hjl)):=bn _;obtain⟨inner',a,cap',g1,g2,g3,g4,g5,g6⟩:=hmat.inn j _ _ he hvj;have hc:=hmat.cell j _ hvj;cases g1;rw[g2]at hc hvj;rw[hc]at hcell;cases hcell;rcases g6 with g6|⟨d',sz',k1,k2,k3,k4,k5⟩
  .subst g6;simp at hi
  cases k1;have hstore:=gU (P:=P) (c:=ctx G β w Z) hT w e2 (by simp[Z7]) (by simp[Z7,PV.one]) k3 (q:=i) O;have e2':Z9 (ctx G β w Z).I w z (A.eval y):=e2;have hcv:(A.eval y).cells.toList=[A.eval y]:=by have h1:=e2'.oneCell;revert h1;generalize A.eval y=u;intro h1;cases u<;>first|rfl|(simp[Value.oneCell']at h1;done)
  rw[hcv]at hstore;have hzv:Z9 (λ_=>True) w z (A.eval y):=Z9.mono (I:=(ctx G β w Z).I) (λ_ _=>⟨aa,rfl⟩) _ _ e2';have hdn:∀(q d2 l' c:Nat),vs[q]?=some (Value.slice (some ⟨d2,0,none⟩) l' c)->l'≠0->q≠j->d2≠d:=λq d2 l' c h hl hq e=>by subst e;exact hq (hmat.dis q j d2 l' inner.length c cap h hvj hl O)
  have hoth:∀d2,d2≠d->(w.setCells d i [A.eval y]).heap[d2]?=w.heap[d2]?:=λd2 h=>eM d [A.eval y] i w d2 h;have hmatN:cW (w.setCells d i [A.eval y]) b' (es.set j [.sl (inner.set i [z])]) vs:=by
   refine⟨by simpa using hmat.len,λq v hq=>(fj (w:=w) (hoth b' (de k2))).trans (hmat.cell q v hq),λq e v he' hq=>?_,hmat.dis⟩;by_cases hqj:q=j
   .subst hqj;rw[kG hjl]at he';cases he';rw[hvj]at hq;cases hq;refine⟨inner.set i [z],_,cap,rfl,by rw[gq],by rw[gq];exact g3,g4,λx hx=>?_,.inr ⟨d,sz',rfl,k2,dx d [A.eval y] i w k3,k4,ao.setCell g5 hi hz hzv k5⟩⟩;rcases lV hx with h|h
    .exact g5 x h
    exact⟨z,h,hz⟩
   rw[iG (λe=>hqj e.symm)]at he';obtain⟨inn,a2,cap2,f1,f2,f3,f4,f5,f6⟩:=hmat.inn q e v he' hq;refine⟨inn,a2,cap2,f1,f2,f3,f4,f5,?_⟩;by_cases hie:inn=[]
   .exact .inl hie
   rcases f6 with f6|⟨d2,s2,m1,m2,m3,m4,m5⟩
   .exact .inl f6
   have hne:d2≠d:=hdn q d2 inn.length cap2 (by rw[hq,f2,m1]) (λe=>hie (du e)) hqj;exact .inr ⟨d2,s2,m1,m2,m3.of_heap (hoth d2 hne),m4,ao.mono' (hoth d2 hne) f5 m5⟩
  have hOd:aA β w l (.mat 1 0 es) d :=.inr ⟨b',hb,hmat.subs.2 ⟨j,inner.length,cap,hvj,by omega⟩⟩;have habs:=hQ hr (w.setCells d i [A.eval y]) (some b') l (.mat 1 0 (es.set j [.sl (inner.set i [z])])) [l] vq (dH d _ i w).1 (dH d _ i w).2.1 (dH d _ i w).2.2 al
   (λb2 _ hn=>hoth b2 (λe=>hn l _ al hg (by rw[e];exact hOd))) (λc hc =>.inr ?_) (.inl ?_) (λ_=>hmatN.br (bI _ _ _) (dx d [A.eval y] i w hrow) (by simpa using hsz))
  .refine⟨undef,w.setCells d i [A.eval y],.inr ⟨?_,rfl⟩,bH β l (some b'),?_⟩
   .simp only[execOp,ho,hv,aN,hstore,aO,aT]
   rw[hd];exact habs
  .rcases hc with hc|⟨b0,f2,f3⟩
   .rw [bI]at hc;cases hc;exact⟨l,_,by simp,hg,.inl hb⟩
   rw[bI]at f2;cases f2;obtain⟨q,l',c',hv,hl⟩:=hmatN.subs.1 f3;exact⟨l,_,by simp,hg,.inr ⟨b',hb,hmat.subs.2 ⟨q,l',c',hv,hl⟩⟩⟩
  have hgs:get (ctx G (bH β l (some b')) (w.setCells d i [A.eval y]) ((l,.mat 1 0 (es.set j [.sl (inner.set i [z])]))::bb [l] Z)).Z l=some (.mat 1 0 (es.set j [.sl (inner.set i [z])])):=gO
  refine⟨λk' es' h=>?_,λcs' h=>?_,λk' q' es' h=>?_,λk' es' h=>?_,λk' i' es' cs' h=>?_⟩
  .rw [hgs]at h;cases h
  .rw [hgs]at h;cases h
  .rw [hgs]at h;cases h;refine⟨es,hg,by simp,λ_=>⟨by show bH β l (some b') l=β l;rw[bI];exact hb.symm,λb2 hb2=>?_⟩⟩;have:b'=b2:=by have:=hb.symm.trans hb2;simpa using this
   subst this;exact⟨λm hr=>dx d [A.eval y] i w hr,λq _=>by show(w.setCells d i [A.eval y]).cell? _=w.cell? _;exact fj (w:=w) (hoth b' (de k2))⟩
  .rw [hgs]at h;cases h
  rw[hgs]at h;cases h
end
section
variable {P:Program} {o:Oper} {ρ:List (Nat×PV)} {σ0:List (Nat×Blk)}
def Zi7{t e:TypeId}{parts:Array (Nat×Operand)}{bytes:Nat}{zero:List PV}(L:Nat)(ho:o.op = .buildSlice t 0 parts)(hE:ElF P t e 1 bytes zero)(hp:gi ρ parts.toList=some []):OpF P o ρ σ0 [] [] (.own L (.msl 0)) [(L,.mat 1 0 [])]:=
 opFn λG β n tm Z A w hop hnd hfr hr=>by
  obtain⟨hf1,hf2⟩:=hfr L (.mat 1 0 []) al al;have hv:=nK (ρ:=ρ) (c:=ctx G β w Z) A.eval parts.toList _ (λx q hx hq=>hop x q qL hq) hp;obtain⟨us,h1,h2⟩:=u4 hE (c:=ctx G β w Z) w (len:=0) (out:=[]) (vals:=parts.map λ(i,x)=>(i,A.eval x)) vD O rfl;simp only[VRs]at h2;subst h2;have habs:=hQ hr (w.alloc (.cells [].toArray e)) none L (.mat 1 0 []) [] al rfl rfl rfl al
   (λb hb _=>dZ w _ b hb) (λc hc=>?_) (.inr ⟨hf1,λm y hy=>(hf2 m y hy).2⟩) (λ_=>⟨nP,by simp,.inl ⟨bI _ _ _,rfl⟩⟩)
  .refine⟨.slice (some ⟨w.heap.size,0,none⟩) 0 0,w.alloc (.cells [].toArray e),?_,_,habs,?_⟩
   .simp only[execOp,ho,aN,h1,aO,aT]
   simp only[VR];refine⟨λk q es' hg'=>?_,rfl⟩;have:some (Blk.mat k q es')=some (.mat 1 0 []):=bP (bQ hg') gO;cases this;exact⟨by simp,λ_=>⟨_,0,rfl,by simp,by simp[maxLen],.inl ⟨rfl,bI _ _ _⟩⟩⟩
  rcases hc with hc|⟨b0,h4,h5⟩
  .rw [bI]at hc;cases hc
  rw[bI]at h4;cases h4
end
end Go.PW
namespace Go.PW
open Go.RowKit
def dR{α:Type}:List (Int×α)->Int->Option α
 |[],_=>none
 |(j,x)::r,n=>bif j==n then some x else dR r n
def bZ{α:Type}:List (Int×α)->Int->α->List (Int×α)
 |[],n,x=>[(n,x)]
 |(j,y)::r,n,x=>bif j==n then(j,x)::r else(j,y)::bZ r n x
def mlk{α:Type}(m:List (Int×α))(n:Int)(z:α):α×Bool:=match dR m n with|some x=>(x,true)|none=>(z,false)
def AQ{α β:Type}(f:α->β)(n:Int):∀m:List (Int×α),dR (m.map λp=>(p.1,f p.2)) n=(dR m n).map f
 |[]=>rfl
 |(j,x)::r=>by
  simp only[cw,dR];cases j==n with
  |true=>rfl
  |false=>simp only[au];exact AQ f n r
def AR{α β:Type}(f:α->β)(n:Int)(x:α):∀m:List (Int×α),(bZ m n x).map (λp=>(p.1,f p.2))=bZ (m.map λp=>(p.1,f p.2)) n (f x)
 |[]=>rfl
 |(j,y)::r=>by
  simp only[cw,bZ];cases j==n with
  |true=>rfl
  |false=>simp only[au,cw];rw[AR f n x r]
def MC{α β:Type}(f:α->β)(m:List (Int×α))(n:Int)(z:α):mlk (m.map λp=>(p.1,f p.2)) n (f z)=(f (mlk m n z).1,(mlk m n z).2):=by unfold mlk;rw[AQ];cases dR m n<;>rfl
def MD{α:Type}{n:Int}{x:α}{p:Int×α}:∀{m:List (Int×α)},p∈bZ m n x->p∈m\/p.2=x
 |[],h=>by simp only[bZ,gC]at h;subst h;exact .inr rfl
 |(j,y)::r,h=>by
  simp only[bZ]at h;cases hb:j==n with
  |true=>
   simp only[hb,av,cn]at h;rcases h with h|h
   .subst h;exact .inr rfl
   exact .inl (cK _ h)
  |false=>
   simp only[hb,au,cn]at h;rcases h with h|h
   .subst h;exact .inl al
   rcases MD h with h|h
   .exact .inl (cK _ h)
   exact .inr h
def ea.length{c:Ctx}{ag:Bool}:∀{es:List MapEntry} {xs:List (Int×List U)},ea c ag es xs->es.length=xs.length
 |[],_,h=>by rw[show _=_ from h];rfl
 |e::es,xs,h=>by obtain⟨n,ts,r,rfl,_,_,h⟩:=h;simp[ea.length h]
def ea.find{c:Ctx}{ag:Bool}{n:Int}:∀{es:List MapEntry} {xs:List (Int×List U)} (i:Nat),ea c ag es xs ->
 (dR xs n=none/\Instr.findNow (.int .i64) (.int .i64 n) es i=some none/\∀e:MapEntry,e.key = .int .i64 n->∀ts,VR c (mvP ag ts) e.val->ea c ag (es++[e]) (bZ xs n ts)) \/
 ∃ts j e,dR xs n=some ts/\Instr.findNow (.int .i64) (.int .i64 n) es i=some (some (i+j,e.val))/\es[j]?=some e/\e.key = .int .i64 n/\VR c (mvP ag ts) e.val /\
  ∀(g:MapEntry->MapEntry),(∀x,x.key = .int .i64 n->(g x).key = .int .i64 n)->∀ts',(∀x,VR c (mvP ag ts') (g x).val)->ea c ag (es.modify j g) (bZ xs n ts')
 |[],xs,i,h=>by rw[show xs=[]from h];exact .inl ⟨rfl,rfl,λe he ts hv=>⟨n,ts,[],rfl,he,hv,rfl⟩⟩
 |e::es,xs,i,h=>by
  obtain⟨m,ts,r,rfl,hk,hv,h⟩:=h;by_cases hmn:m=n
  .subst hmn;refine .inr ⟨ts,0,e,by simp[dR],by simp[Instr.findNow,Instr.sameNow,hk],rfl,hk,hv,λg hg ts' hv'=>?_⟩;simp only[List.modify_zero_cons,bZ,beq_self_eq_true,av];exact⟨m,ts',r,rfl,hg e hk,hv' e,h⟩
  have hb:(m==n)=false:=by simpa using hmn
  have hs:Instr.findNow (.int .i64) (.int .i64 n) (e::es) i=Instr.findNow (.int .i64) (.int .i64 n) es (i+1):=by simp only[Instr.findNow,hk,Instr.sameNow,dK];rw[show(n==m)=false by simpa using λe=>hmn e.symm]
  rcases ea.find (n:=n) (i+1) h with⟨h1,h2,h3⟩|⟨ts2,j,e2,h1,h2,h3,h4,h5,h6⟩
  .refine .inl ⟨by simp only[dR,hb,au];exact h1,hs.trans h2,λe' he' ts' hv'=>?_⟩;simp only[bZ,hb,au,eR];exact⟨m,ts,_,rfl,hk,hv,h3 e' he' ts' hv'⟩
  refine .inr ⟨ts2,j+1,e2,by simp only[dR,hb,au];exact h1,?_,by simpa using h3,h4,h5,λg hg ts' hv'=>?_⟩
  .rw [hs,h2];congr 3;omega
  simp only[bZ,hb,au,List.modify_succ_cons];exact⟨m,ts,_,rfl,hk,hv,h6 g hg ts' hv'⟩
def Z18(P:Program)(ag:Bool)(e:TypeId):Option (List U):=
 match(P.info? e).bind (·.zero),ag with
 |some (.agg cs),true=>(cs.toList.mapM jf).bind cH
 |some (.agg _),false=>none
 |some v,false=>([v].mapM jf).bind cH
 |_,_=>none
def Zdk{P:Program}{ag:Bool}{e:TypeId}{ts:List U}(h:Z18 P ag e=some ts){c:Ctx}(w:World):∃v,(zeroValue e).run P w = .ok v w/\VR c (mvP ag ts) v:=by
 have key:∀v,(P.info? e).bind (·.zero)=some v->(zeroValue e).run P w = .ok v w:=λv hv=>by obtain⟨i,h1,h2⟩:=dC.1 hv;simp[zeroValue,typeInfo,h1,h2]
 unfold Z18 at h;split at h
 .rename_i cs hz;obtain⟨ps,h1,h2⟩:=dC.1 h;refine⟨_,key _ hz,?_⟩;simp only[mvP,av,VR];exact⟨cs.toList,by simp,lX h2 (iD h1)⟩
 .cases h
 .rename_i v hna hz;obtain⟨ps,h1,h2⟩:=dC.1 h;have hv:=lX h2 (iD (c:=c) h1);refine⟨v,key _ hz,?_⟩;have hl:=hv.length
  match ts,hl with
  |[t],_=>
   simp only[cw,fI,VRs]at hv;obtain⟨u,rest,e1,e2,rfl⟩:=hv;cases e1;simp only[mvP,au];exact e2
 cases h
section
variable {P:Program} {o:Oper} {ρ:List (Nat×PV)} {σ0:List (Nat×Blk)}
def Zdl{t:TypeId}(ag:Bool)(L:Nat)(ho:o.op = .makeMap t none):OpF P o ρ σ0 [] [] (.own L .map) [(L,.map (.v ag) [])]:=
 opFn λG β n tm Z A w hop hnd hfr hr=>by
  obtain⟨hf1,hf2⟩:=hfr L (.map (.v ag) []) al al;have habs:=hQ hr (w.alloc (.map #[] 0)) (some w.heap.size) L (.map (.v ag) []) [] al rfl rfl rfl al
   (λb hb _=>dZ w _ b hb) (λc hc=>?_) (.inr ⟨hf1,λm y hy=>(hf2 m y hy).2⟩) (λ_=>⟨w.heap.size,#[],0,bI _ _ _,j6 w _,rfl⟩)
  .refine⟨.map (some w.heap.size),w.alloc (.map #[] 0),?_,_,habs,?_⟩
   .have:(Instr.makeMap t none).run P w = .ok (.map (some w.heap.size)) (w.alloc (.map #[] 0)):=rfl;simp only[execOp,ho,nO,aN,this,aO,aT]
   simp only[VR];exact⟨λag' es' hg'=>⟨w.heap.size,bI _ _ _,rfl⟩,rfl⟩
  have:=aA.flat (o :=.map (.v ag) []) trivial hc;rw[bI]at this;cases this;exact .inl ⟨aW _,by simp⟩
def vn{G:Frm}{β:Nat->Option Nat}{n:Nat}{tm:List (Nat×PV)}{Z:List (Nat×Blk)}{a:Act}{w:World}(hr:aE G β ⟨n,tm,Z⟩ a w){l:Nat}{ag:Bool}{es:List (Int×List U)}(hg:get Z l=some (.map (.v ag) es)){v:Value}(hv:VR (ctx G β w Z) (.own l .map) v) :
 ∃b ents clock,β l=some b/\v = .map (some b)/\w.heap[b]?=some (.map ents clock)/\ea (ctx G β w Z) ag ents.toList es:=by
 simp only[VR]at hv;obtain⟨b,hb,rfl⟩:=hv.1 _ es hg;obtain⟨b',ents,clock,hb',hm,he⟩:=hr.blk l _ hg;have:b'=b:=c7
 subst this;exact⟨b',ents,clock,hb,rfl,hm,he⟩
variable {Z:List (Nat×Blk)}
def ME{t k e:TypeId}(ht:P.underlying t=some (.map k e))(hk:P.underlying k=some (.int .i64)){ag:Bool}{zs:List U}(hz:Z18 P ag e=some zs){c:Ctx}(w:World){b clock:Nat}{ents:Array MapEntry}(hm:w.heap[b]?=some (.map ents clock)){es:List (Int×List U)}(he:ea c ag ents.toList es)(n:Int)(ok:Bool) :
 ∃v,(Instr.lookup t (.map (some b)) (.int .i64 n) ok).run P w = .ok (if ok then .tuple #[v,.bool (mlk es n zs).2]else v) w/\VR c (mvP ag (mlk es n zs).1) v:=by
 have hkey:MapKept.IsKey (.int .i64) (.int .i64 n):=rfl;rcases he.find (n:=n) 0 with⟨h1,h2,_⟩|⟨ts,j,e2,h1,h2,h3,h4,h5,_⟩
 .obtain⟨z,hz1,hz2⟩:=Zdk (c:=c) hz w;refine⟨z,?_,by simp only[mlk,h1];exact hz2⟩;simp only[Instr.lookup,aN,cy ht,aO,jM hm,aT,kE hk hkey,kF hk h2,hz1,mlk,h1]
 refine⟨e2.val,?_,by simp only[mlk,h1];exact h5⟩;simp only[Instr.lookup,aN,cy ht,aO,jM hm,aT,kE hk hkey,kF hk h2,mlk,h1]
def Zdm{t k e:TypeId}{x y:Operand}{l:Nat}{ag:Bool}{es:List (Int×List U)}{zs:List U}{n:Int}(ho:o.op = .lookup t x y true)(ht:P.underlying t=some (.map k e))(hk:P.underlying k=some (.int .i64))(hz:Z18 P ag e=some zs)
 (hx:af ρ x=some (.own l .map)) (hy:af ρ y=some (.t (.int .i64 n))) (hg0:get σ0 l=some (.map (.v ag) es)):OpF P o ρ σ0 [l] [] (.tup [mvP ag (mlk es n zs).1,.t (.bool (mlk es n zs).2)]) []:=
 opFn λG β n' tm Z A w hop hnd hfr hr=>by
  have hg:get Z l=some (.map (.v ag) es):=(hnd l al).trans hg0;have e1:=hop x _ aK hx;have e2:=hop y _ aK hy;simp only[VR,Z9]at e2;obtain⟨b,ents,clock,hb,hv,hm,he⟩:=vn hr hg e1;obtain⟨v,h1,h2⟩:=ME ht hk hz w hm he n true;refine⟨.tuple #[v,.bool (mlk es n zs).2],w,?_,β,hr,?_⟩
  .simp only[execOp,ho,hv,e2,aN,h1,aO,aT,dK]
  simp only[VR,VRs];exact⟨[v,.bool (mlk es n zs).2],rfl,v,_,rfl,h2,_,_,rfl,rfl,rfl⟩
def Zdn{t k e:TypeId}{x y:Operand}{l:Nat}{ag:Bool}{es:List (Int×List U)}{zs:List U}{n:Int}(ho:o.op = .lookup t x y false)(ht:P.underlying t=some (.map k e))(hk:P.underlying k=some (.int .i64))(hz:Z18 P ag e=some zs)
 (hx:af ρ x=some (.own l .map)) (hy:af ρ y=some (.t (.int .i64 n))) (hg0:get σ0 l=some (.map (.v ag) es)):OpF P o ρ σ0 [l] [] (mvP ag (mlk es n zs).1) []:=
 opFn λG β n' tm Z A w hop hnd hfr hr=>by have hg:get Z l=some (.map (.v ag) es):=(hnd l al).trans hg0;have e1:=hop x _ aK hx;have e2:=hop y _ aK hy;simp only[VR,Z9]at e2;obtain⟨b,ents,clock,hb,hv,hm,he⟩:=vn hr hg e1;obtain⟨v,h1,h2⟩:=ME ht hk hz w hm he n false;refine⟨v,w,?_,β,hr,h2⟩;simp only[execOp,ho,hv,e2,aN,h1,aO,aT];rfl
def Zdo{t:TypeId}{k e:TypeId}{x:Operand}{l:Nat}{ag:Bool}{es:List (Int×List U)}(ho:o.op = .call { callee :=.builtin .len,args := #[x],argTypes := #[t] })(ht:P.underlying t=some (.map k e))
 (hx:af ρ x=some (.own l .map)) (hg0:get σ0 l=some (.map (.v ag) es)):OpF P o ρ σ0 [l] [] (.t (.int .i64 es.length)) []:=
 opFn λG β n' tm Z A w hop hnd hfr hr=>by
  have hg:get Z l=some (.map (.v ag) es):=(hnd l al).trans hg0;have e1:=hop x _ fc hx;obtain⟨b,ents,clock,hb,hv,hm,he⟩:=vn hr hg e1;refine⟨.int .i64 es.length,w,?_,β,hr,by simp only[VR,Z9]⟩;have hl:(Builtin.len_ #[t] o.type #[.map (some b)]).run P w = .ok (.int .i64 es.length) w:=by rw[<- he.length];simp[Builtin.len_,cy ht,jM hm,goInt]
  simp only[execOp,ho,resolve,invoke,builtin,aN,aT,aO,nJ,cw,fI,hv,hl]
end
section
variable {P:Program} {o:Oper} {n:Nat} {tm:List (Nat×PV)} {Z:List (Nat×Blk)}
def ZY{t k e:TypeId}{x y z:Operand}{l:Nat}{ag:Bool}{es:List (Int×List U)}{i:Int}{p:PV}{ts:List U}(ho:o.op = .mapUpdate t x y z)(hd:o.dst=none)(ht:P.underlying t=some (.map k e))(hk:P.underlying k=some (.int .i64))
 (hx:af tm x=some (.own l .map)) (hy:af tm y=some (.t (.int .i64 i))) (hz:af tm z=some p) (hp:p=mvP ag ts) (hg:get Z l=some (.map (.v ag) es)):Z38 P o ⟨n,tm,Z⟩ ⟨n,tm,put Z l (.map (.v ag) (bZ es i ts))⟩:=
 opup λG β A w hop hr=>by
  subst hp;have e1:=hop x _ hx;have e2:=hop y _ hy;have e3:=hop z _ hz;simp only[VR,Z9]at e2;obtain⟨b,ents,clock,hb,hv,hm,he⟩:=vn hr hg e1;have hkey:MapKept.IsKey (.int .i64) (.int .i64 i):=rfl;have main:∀ents' clock',(∀c':Ctx,(∀q,(ctx G β w Z).I q->c'.I q/\c'.w.heap[q]?=(ctx G β w Z).w.heap[q]?)->ea c' ag ents'.toList (bZ es i ts)) ->
   (Instr.mapUpdate t (.map (some b)) (.int .i64 i) (A.eval z)).run P w = .ok () { w with heap:=w.heap.setIfInBounds b (.map ents' clock') } ->
   ∃v w',((execOp A.eval o).run P w = .ok (.value v) w'\/((execOp A.eval o).run P w = .ok .skip w'/\v=undef))/\∃β',aE G β' ⟨n,tm,put Z l (.map (.v ag) (bZ es i ts))⟩ (A.put o.dst v) w':=by
   intro ents' clock' hE hrun;obtain⟨hs1,hs2⟩:=MapKept.heap_set (o':=Obj.map ents' clock') hm;have habs:=hQ hr { w with heap:=w.heap.setIfInBounds b (.map ents' clock') } (some b) l (.map (.v ag) (bZ es i ts)) [l] al rfl rfl rfl al
    (λb2 _ hn=>hs2 b2 (λe=>hn l _ al hg AO)) (λc hc =>.inr ⟨l,_,by simp,hg,?_⟩) (.inl ?_) (λhI=>⟨b,ents',clock',bI _ _ _,hs1,hE _ (λq hq=>hI q hq)⟩)
   .refine⟨undef,{ w with heap:=w.heap.setIfInBounds b (.map ents' clock') },.inr ⟨?_,rfl⟩,bH β l (some b),?_⟩
    .simp only[execOp,ho,hv,e2,aN,hrun,aO,aT]
    rw[hd];exact habs
   .have:=aA.flat (o :=.map (.v ag) _) trivial hc;rw[bI]at this;cases this;exact .inl hb
   have hgs:get (ctx G (bH β l (some b)) { w with heap:=w.heap.setIfInBounds b (.map ents' clock') } ((l,.map (.v ag) (bZ es i ts))::bb [l] Z)).Z l=some (.map (.v ag) (bZ es i ts)):=gO
   refine⟨λk' es' h=>?_,λcs' h=>?_,λk' q' es' h=>?_,λk' es' h=>?_,λk' i' es' cs' h=>?_⟩
   .rw [hgs]at h;cases h
   .rw [hgs]at h;cases h
   .rw [hgs]at h;cases h
   .rw [hgs]at h;cases h;exact⟨_,es,hg,by show bH β l (some b) l=β l;rw[bI];exact hb.symm⟩
   rw[hgs]at h;cases h
  rcases he.find (n:=i) 0 with⟨h1,h2,h3⟩|⟨ts0,j,e2',h1,h2,h3,h4,h5,h6⟩
  .refine main (ents.push { key :=.int .i64 i,val:=A.eval z,born:=clock }) (clock+1) (λc' hI=>?_) ?_
   .rw [Array.toList_push];exact ea.step hI (h3 _ rfl ts e3)
   simp only[Instr.mapUpdate,aN,cy ht,aO,jM hm,kE hk hkey,kF hk h2,vl _ hm]
  refine main (ents.modify j λx=>{ x with key :=.int .i64 i,val:=A.eval z }) clock (λc' hI=>?_) ?_
  .rw [Array.toList_modify];exact ea.step hI (h6 _ (λ_ _=>rfl) ts (λ_=>e3))
  have hej:((ents[j]?).map (·.key)).getD (.int .i64 i) = .int .i64 i:=by rw[<- vm,h3,dW,gD,h4]
  rw[aM]at h2;simp only[Instr.mapUpdate,aN,cy ht,aO,jM hm,kE hk hkey,kF hk h2,hej,MapKept.run_keyThatStays hkey,vl _ hm]
end
end Go.PW
namespace Go.PW
open Go.RowKit
mutual
def PV.mo(l:Nat):PV->Bool
 |.t _=>true
 |.nils=>true
 |.osl m _ => !Nat.beq m l
 |.bptr m _ => !Nat.beq m l
 |.rptr m _ _ _ => !Nat.beq m l
 |.vptr _=>true
 |.agg cs=>PV.moAll l cs
 |.tup cs=>PV.moAll l cs
 |.fn _ cs=>PV.moAll l cs
 |.own _ (.msl _)=>true
 |.own m _ => !Nat.beq m l
def PV.moAll(l:Nat):List PV->Bool
 |[]=>true
 |p::ps=>p.mo l&&PV.moAll l ps
end
def Blk.mo(l:Nat):Blk->Bool
 |.box cs=>PV.moAll l cs
 |.prow _ _ _ _=>false
 |_=>true
def Z9q(l:Nat):List (Nat×PV)->List (Nat×PV)
 |[]=>[]
 |(i,p)::r=>bif p.mo l then(i,p)::Z9q l r else Z9q l r
def Z9r{l:Nat}:∀{tm:List (Nat×PV)} {i:Nat} {p:PV},(i,p)∈Z9q l tm->(i,p)∈tm/\p.mo l=true
 |[],_,_,h=>di
 |(j,q)::r,i,p,h=>by
  simp only[Z9q]at h;cases hb:q.mo l with
  |false=>simp only[hb,au]at h;have:=Z9r h;exact⟨cK _ this.1,this.2⟩
  |true=>
   simp only[hb,av]at h;rcases cn.1 h with h|h
   .cases h;exact⟨by simp,hb⟩
   have:=Z9r h;exact⟨cK _ this.1,this.2⟩
section
variable {c c':Ctx} {l:Nat}
def uN{m l:Nat}(h:(!Nat.beq m l)=true):m≠l:=λe=>by subst e;simp at h
mutual
def VR.stepM(hI:∀b,c.I b->c'.I b/\c'.w.heap[b]?=c.w.heap[b]?)(hL:∀m,m≠l->aV c c' m)(hM:∀n v,ODR c l v (.msl n)->ODR c' l v (.msl n)):∀(p:PV) (v:Value),p.mo l=true->VR c p v->VR c' p v
 |.t x,v,_,h=>VR.step hI (.t x) v (λ_ h=>by simp[PV.has]at h) h
 |.nils,v,_,h=>h
 |.osl m n,v,hm,h=>VR.step hI (.osl m n) v (λq hq=>hL q AU) h
 |.bptr m n,v,hm,h=>VR.step hI (.bptr m n) v (λq hq=>hL q AU) h
 |.rptr m n i o,v,hm,h=>VR.step hI (.rptr m n i o) v (λq hq=>hL q AU) h
 |.vptr cs,v,_,h=>VR.step hI (.vptr cs) v (λ_ h=>by simp[PV.has]at h) h
 |.agg cs,v,hm,h=>AV
 |.tup cs,v,hm,h=>AV
 |.fn f cs,v,hm,h=>AV
 |.own m d,v,hm,h=>by
  by_cases e:m=l
  .subst e;cases d with
   |msl n=>simp only[VR]at h⊢;exact⟨hM n v h.1,h.2⟩
   |_=>exact absurd rfl (uN hm)
  exact VR.step hI (.own m d) v (λq hq=>hL q (by rw[<- (aU _ _).1 hq];exact e)) h
def VRs.stepM(hI:∀b,c.I b->c'.I b/\c'.w.heap[b]?=c.w.heap[b]?)(hL:∀m,m≠l->aV c c' m)(hM:∀n v,ODR c l v (.msl n)->ODR c' l v (.msl n)):∀(ps:List PV) (vs:List Value),PV.moAll l ps=true->VRs c ps vs->VRs c' ps vs
 |[],_,_,h=>h
 |p::ps,vs,hm,h=>by simp only[PV.moAll,aL]at hm;simp only[VRs]at h⊢;obtain⟨v,rest,rfl,hv,hr⟩:=h;exact⟨v,rest,rfl,VR.stepM hI hL hM p v hm.1 hv,VRs.stepM hI hL hM ps rest hm.2 hr⟩
end
def BR.stepM(hI:∀b,c.I b->c'.I b/\c'.w.heap[b]?=c.w.heap[b]?)(hL:∀m,m≠l->aV c c' m)(hM:∀n v,ODR c l v (.msl n)->ODR c' l v (.msl n)){q:Nat}{o:Blk}(hβ:c'.β q=c.β q)(hh:∀b,aA c.β c.w q o b->c'.w.heap[b]?=c.w.heap[b]?)
 (hm:o.mo l=true) (h:BR c q o):BR c' q o:=by
 cases o with
 |box ps=>
  obtain⟨b,vs,h1,h2,h3,h4,h5⟩:=h;have hb:=hh b (.inl h1);exact⟨b,vs,hβ.trans h1,h2.of_heap hb,λj v hj=>(fj (w:=c.w) hb).trans (h3 j v hj),VRs.stepM hI hL hM ps vs hm h4,h5⟩
 |row k es=>exact BR.step hI hβ hh (λ_ h=>by simp[Blk.has]at h) h
 |mat k q es=>exact BR.step hI hβ hh (λ_ h=>by simp[Blk.has]at h) h
 |map ag es=>exact BR.step hI hβ hh (λ_ h=>by simp[Blk.has]at h) h
 |prow k i es cs=>cases hm
end
section
variable {P:Program} {o:Oper} {ρ:List (Nat×PV)} {Z:List (Nat×Blk)}
def Zds{t:TypeId}{x:Operand}{e:TypeId}{l m k q:Nat}{es:List (List U)}(ho:o.op = .call { callee :=.builtin .len,args := #[x],argTypes := #[t] })(hT:P.underlying t=some (.slice e))
 (hx:af ρ x=some (.own l (.msl m))) (hg:get Z l=some (.mat k q es)) (hm:es.length=m):aQ P o ρ Z [l] (.t (.int .i64 m)) []:=
 bE λG β n tm Z' A w hop hneed _=>by have h1:=hop x _ fc hx;simp only[VR]at h1;obtain⟨a,cap,hv,_⟩:=(h1.1 k q es K1).2 hm.symm;exact⟨.int .i64 m,by simp[execOp,ho,resolve,invoke,builtin,Builtin.len_,hv,cy hT,goInt],by simp[VR,Z9]⟩
end
section
variable {P:Program} {o:Oper} {ρ:List (Nat×PV)} {Z:List (Nat×Blk)}
def Zdt{t:TypeId}{x:Operand}{l m j i:Nat}{es inner:List (List U)}{z:U}(ho:o.op = .load t x)(hT:TyF P t false 1)(hx:af ρ x=some (.own l (.mel m j i)))(hg:get Z l=some (.mat 1 0 es))(hm:es.length=m)(he:es[j]?=some [.sl inner])(hi:inner[i]?=some [z])(hz:z.scal=true):aQ P o ρ Z [l] (.t z) []:=
 bE λG β n tm Z' A w hop hneed hr=>by
  have e1:=hop x _ aK hx;simp only[VR]at e1⊢;have hgl:get Z' l=some (.mat 1 0 es):=(hneed l al).trans hg;obtain⟨b,d,len,cap,hb,hcell,hv⟩:=(e1.1.2 1 0 es hgl).2 hm.symm;rw[df,cZ]at hcell;rcases cW.of (hr.blk l _ hgl)with⟨hb',_⟩|⟨b',sz,vs,hb',hrow,hsz,hmat⟩
  .exact absurd (hb'.symm.trans hb) al
  have:b'=b:=c7
  subst this;have hjl:j<es.length:=(aJ.1 he).1;have hvj:vs[j]?=some (vs[j]'(by rw[hmat.len];exact hjl)):=bn _;obtain⟨inner',a,cap',g1,g2,g3,g4,g5,g6⟩:=hmat.inn j _ _ he hvj;have hc:=hmat.cell j _ hvj;cases g1;have hc:w.cell? ⟨b',j,none⟩=_:=hc;have hcell:w.cell? ⟨b',j,none⟩=_:=hcell;rw[g2,hcell]at hc;have hil:=(aJ.1 hi).1;rcases g6 with g6|⟨d',sz',k1,k2,k3,k4,k5⟩
  .subst g6;simp at hil
  rw[k1]at hc;cases hc;have hk:∀el,el∈inner->el.length=1:=λel hel=>by obtain⟨t,rfl,_⟩:=g5 el hel;rfl
  have h5:=k5.get i _ hk hi;simp only[Z6,jw,aM,df]at h5;obtain⟨c,h6,h7⟩:=h5;have h6:w.cell? ⟨d,i,none⟩=some c:=h6;refine⟨c,?_,Z9.scal hz h7⟩;have hrun:(Instr.loadAt t (.pointer (some ⟨d,i,none⟩))).run P w = .ok c w:=by simp[Instr.loadAt,Instr.sureAddr,loadVar,hT.run_isAgg w,h6]
  simp only[execOp,ho,hv,aN,hrun,aO,aT]
end
section
variable {P:Program} {o:Oper} {n:Nat} {tm:List (Nat×PV)} {Z:List (Nat×Blk)}
def ZX{t:TypeId}{x y:Operand}{l m j l2 n2:Nat}{es es2:List (List U)}(ho:o.op = .store t x y)(hd:o.dst=none)(hT:TyF P t false 1)(hx:af tm x=some (.own l (.mpt m j 0)))(hy:af tm y=some (.osl l2 n2))
 (hg:get Z l=some (.mat 1 0 es)) (hm:es.length=m) (hj:j<m) (hg2:get Z l2=some (.row 1 es2)) (hm2:es2.length=n2) (hsc:SC1 es2) (hll:l≠l2) (hσ:(Z.all λq=>q.2.mo l)=true) (hon:Z6f tm=true) :
 Z38 P o ⟨n,tm,Z⟩ ⟨n,Z9q l tm,(l,.mat 1 0 (es.set j [.sl es2]))::bb [l,l2] Z⟩:=
 opup λG β A w hop hr=>by
  have e1:=hop x _ hx;have e2:=hop y _ hy;have e2v:=e2;simp only[VR]at e1 e2;obtain⟨b,hb,hv⟩:=(e1.1 1 0 es hg).2 hm.symm;rw[df,cZ]at hv;obtain⟨ad,cap,hv2,hic,hcm,hin⟩:=MJ hr hg2 hm2 e2.1 hsc;rcases cW.of (hr.blk l _ hg)with⟨hb',_⟩|⟨b',sz,vs,hb',hrow,hsz,hmat⟩
  .exact absurd (hb'.symm.trans hb) al
  have:b'=b:=c7
  subst this;have hmat:cW w b' es vs:=hmat;have hb:β l=some b':=hb;have hjl:j<es.length:=bg
  have hjv:j<vs.length:=by rw[hmat.len];exact hjl
  have hstore:=gU (P:=P) (c:=ctx G β w Z) hT w e2v (by simp[Z7]) (by simp[Z7,PV.one]) hrow (q:=j) O;have hcv:(A.eval y).cells.toList=[A.eval y]:=by rw[hv2];rfl
  rw[hcv]at hstore;have hoth:∀d2,d2≠b'->(w.setCells b' j [A.eval y]).heap[d2]?=w.heap[d2]?:=λd2 h=>eM b' [A.eval y] j w d2 h;have hOd2:∀d,β l2=some d->d≠b':=λd h e=>by subst e;exact hll (hr.inj l l2 _ _ d hg hg2 (.inl hb) (.inl h))
  have hmatN:cW (w.setCells b' j [A.eval y]) b' (es.set j [.sl es2]) (vs.set j (A.eval y)):=by
   refine⟨by simpa using hmat.len,λq v hq=>?_,λq e v he hq=>?_,λi k d l1 l1' c c' h1 h2 hl1 hl2=>?_⟩
   .by_cases hqj:q=j
    .subst hqj;rw[kG hjv]at hq;cases hq;have:=ji b' [A.eval y] q w (λk hk=>by
      have hk0:k=0:=lg
      rw[hk0,cZ,hmat.cell q _ (bn hjv)];rfl) 0 al
     simpa using this
    rw[iG (λe=>hqj e.symm)]at hq;rw[gv b' [A.eval y] j w ⟨b',q,none⟩ (λ_ _=>by simp;omega)];exact hmat.cell q v hq
   .by_cases hqj:q=j
    .subst hqj;rw[kG hjv]at hq;rw[kG hjl]at he;cases he;cases hq;refine⟨es2,ad,cap,rfl,hv2,hic,hcm,hsc,hin.imp id λ⟨d,s2,g1,g2,g3,g4,g5⟩=>?_⟩;have hne:=hOd2 d g2;exact⟨d,s2,g1,hne,g3.of_heap (hoth d hne),g4,ao.mono' (hoth d hne) hsc g5⟩
    rw[iG (λe=>hqj e.symm)]at he hq;obtain⟨inn,a2,cap2,f1,f2,f3,f4,f5,f6⟩:=hmat.inn q e v he hq;refine⟨inn,a2,cap2,f1,f2,f3,f4,f5,f6.imp id λ⟨d2,s2,m1,m2,m3,m4,m5⟩=>?_⟩;exact⟨d2,s2,m1,m2,m3.of_heap (hoth d2 m2),m4,ao.mono' (hoth d2 m2) f5 m5⟩
   have hne:∀(q d l1 c:Nat),(vs.set j (A.eval y))[q]?=some (Value.slice (some ⟨d,0,none⟩) l1 c)->l1≠0->q≠j->aA β w l (.mat 1 0 es) d:=λq d l1 c h hl hq=>by rw[iG (λe=>hq e.symm)]at h;exact .inr ⟨b',hb,hmat.subs.2 ⟨q,l1,c,h,hl⟩⟩
   have hj1:∀(d l1 c:Nat),(vs.set j (A.eval y))[j]?=some (Value.slice (some ⟨d,0,none⟩) l1 c)->l1≠0->β l2=some d:=λd l1 c h hl=>by
    rw[kG hjv,hv2]at h;simp only[aq,Value.slice.injEq]at h;rcases hin with hin|⟨d',s2,g1,g2,_⟩
    .subst hin;exact absurd h.2.1.symm hl
    rw[g1]at h;have h1:=h.1;simp only[aq,Addr.mk.injEq]at h1;rw[<- h1.1];exact g2
   by_cases hi:i=j
   .by_cases hk:k=j
    .rw [hi,hk]
    subst hi;exact absurd (hr.inj l l2 _ _ d hg hg2 (hne k d l1' c' h2 hl2 hk) (.inl (hj1 d l1 c h1 hl1))) hll
   by_cases hk:k=j
   .subst hk;exact absurd (hr.inj l l2 _ _ d hg hg2 (hne i d l1 c h1 hl1 hi) (.inl (hj1 d l1' c' h2 hl2))) hll
   rw[iG (λe=>hi e.symm)]at h1;rw[iG (λe=>hk e.symm)]at h2;exact hmat.dis i k d l1 l1' c c' h1 h2 hl1 hl2
  have hr0:aE G β ⟨n,Z9q l tm,Z⟩ A w:=
   { defers:=hr.defers,sz:=hr.sz,base:=hr.base,os:=hr.os,tape:=hr.tape,output:=hr.output,old:=hr.old,A:=hr.A,gl:=hr.gl,inj:=hr.inj,sep:=hr.sep,fix:=hr.fix,row0:=hr.row0,blk:=hr.blk,
     tm:=λi p hp=>hr.tm i p (rb hon (Z9r (ew hp)).1) }
  have hmo:∀i p,get (Z9q l tm) i=some p->p.mo l=true:=λi p hp=>(Z9r (ew hp)).2;have habs:=MM hr0 (w.setCells b' j [A.eval y]) (some b') l (.mat 1 0 (es.set j [.sl es2])) [l,l2] vq (dH b' _ j w).1 (dH b' _ j w).2.1 (dH b' _ j w).2.2 al
   (λb2 _ hn=>hoth b2 (λe=>hn l _ al hg AO)) (λc hc =>.inr ?_) (λhI hL=>?_) (λ_=>hmatN.br (bI _ _ _) (dx b' [A.eval y] j w hrow) (by simpa using hsz))
  .refine⟨undef,w.setCells b' j [A.eval y],.inr ⟨?_,rfl⟩,bH β l (some b'),?_⟩
   .simp only[execOp,ho,hv,aN,hstore,aO,aT]
   rw[hd];exact habs
  .rcases hc with hc|⟨b0,f2,f3⟩
   .rw [bI]at hc;cases hc;exact⟨l,_,by simp,hg,.inl hb⟩
   rw[bI]at f2;cases f2;obtain⟨q,l',c',hv',hl'⟩:=hmatN.subs.1 f3;by_cases hqj:q=j
   .subst hqj;rw[kG hjv,hv2]at hv';simp only[aq,Value.slice.injEq]at hv';rcases hin with hin|⟨d',s2,g1,g2,_⟩
    .subst hin;exact absurd hv'.2.1.symm hl'
    rw[g1]at hv';have h1:=hv'.1;simp only[aq,Addr.mk.injEq]at h1;exact⟨l2,_,by simp,hg2,.inl (by rw[<- h1.1];exact g2)⟩
   rw[iG (λe=>hqj e.symm)]at hv';exact⟨l,_,by simp,hg,.inr ⟨b',hb,hmat.subs.2 ⟨q,l',c',hv',hl'⟩⟩⟩
  have hgs:get (ctx G (bH β l (some b')) (w.setCells b' j [A.eval y]) ((l,.mat 1 0 (es.set j [.sl es2]))::bb [l,l2] Z)).Z l=some (.mat 1 0 (es.set j [.sl es2])):=gO
  have hM:∀k v,ODR (ctx G β w Z) l v (.msl k)->ODR (ctx G (bH β l (some b')) (w.setCells b' j [A.eval y]) ((l,.mat 1 0 (es.set j [.sl es2]))::bb [l,l2] Z)) l v (.msl k):=λk v h k1 q1 es1 hg1=>by
   rw[hgs]at hg1;cases hg1;obtain⟨h1,h2⟩:=h 1 0 es hg;rw[gq];refine⟨h1,λhk=>?_⟩;obtain⟨a,cp,g1,g2,g3,g4⟩:=h2 hk;refine⟨a,cp,g1,g2,g3,?_⟩;rcases g4 with⟨_,g5⟩|⟨b2,m2,g5,g6,g7,g8⟩
   .exact absurd (g5.symm.trans hb) al
   exact .inr ⟨b2,m2,g5,by show bH β l (some b') l=_;rw[bI,<- hb];exact g6,dx b' [A.eval y] j w g7,g8⟩
  exact⟨λi p v hp hv=>VR.stepM hI hL hM p v (hmo i p hp) hv,λq o hq hgq hk hbq=>BR.stepM hI hL hM (ff β _ hq) hk (bU.1 hσ _ (ew hgq)) hbq⟩
end
def toM(l:Nat):List (Nat×PV)->List (Nat×PV)
 |[]=>[]
 |(i,p)::r=>
  match p with
  |.osl m k=>bif Nat.beq m l then(i,.own l (.msl k))::toM l r else(i,.osl m k)::toM l r
  |p=>bif p.has l then toM l r else(i,p)::toM l r
def MN{l:Nat}:∀{tm:List (Nat×PV)} {i:Nat} {p:PV},(i,p)∈toM l tm->(∃k,p = .own l (.msl k)/\(i,.osl l k)∈tm)\/((i,p)∈tm/\p.has l=false)
 |[],_,_,h=>di
 |(j,q)::r,i,p,h=>by
  have up:(i,p)∈toM l r->(∃k,p = .own l (.msl k)/\(i,.osl l k)∈(j,q)::r)\/((i,p)∈(j,q)::r/\p.has l=false):=λh=>by
   rcases MN h with⟨k,h1,h2⟩|⟨h1,h2⟩
   .exact .inl ⟨k,h1,cK _ h2⟩
   exact .inr ⟨cK _ h1,h2⟩
  simp only[toM]at h;split at h
  .rename_i m k;cases hb:Nat.beq m l with
   |true=>
    simp only[hb,av]at h;have hm:=(aU _ _).1 hb;subst hm;rcases cn.1 h with h|h
    .cases h;exact .inl ⟨k,rfl,by simp⟩
    exact up h
   |false=>
    simp only[hb,au]at h;rcases cn.1 h with h|h
    .cases h;exact .inr ⟨by simp,hb⟩
    exact up h
  cases hb:q.has l with
  |true=>simp only[hb,av]at h;exact up h
  |false=>
   simp only[hb,au]at h;rcases cn.1 h with h|h
   .cases h;exact .inr ⟨by simp,hb⟩
   exact up h
def Wk.tomat{st:St}{l:Nat}{es:List (List U)}(hg:get st.Z l=some (.row 1 es))(he:∀e,e∈es->e=[U.sl []])(hσ:(st.Z.all λq => !q.2.has l)=true)(hon:Z6f st.tm=true) :
 Wk st ⟨st.n,toM l st.tm,put st.Z l (.mat 1 0 es)⟩:=by
 rintro G a w ⟨β,hr⟩;obtain⟨n,tm,Z⟩:=st;have hg:get Z l=some (.row 1 es):=hg;refine⟨β,?_⟩;have hgs:get (put Z l (.mat 1 0 es)) l=some (.mat 1 0 es):=fO Z l _;have hgo:∀q,q≠l->get (put Z l (.mat 1 0 es)) q=get Z q:=λq hq=>gd Z _ (de hq);obtain⟨_,hk,hbr⟩:=hr.blk l _ hg;have hcell:∀b,β l=some b->∀j,j<es.length->∃a cap,w.cell? ⟨b,j*1+0,none⟩=some (.slice a 0 cap):=λb hb j hj=>by
  rcases hbr with⟨hb',_⟩|⟨b',m,hb',_,_,hel⟩
  .exact absurd (hb'.symm.trans hb) al
  have:b'=b:=c7
  subst this;have h1:=hel.get j _ hk (bn hj);rw[he _ (kZ hj)]at h1;simp only[Z6,jw,aM]at h1;obtain⟨c,h1,h2⟩:=h1;simp only[Z9]at h2;obtain⟨a,cap,rfl,_⟩:=h2;exact⟨a,cap,by rw[cZ];exact h1⟩
 have hns:∀b d,β l=some b->¬Subs w b 1 0 es.length d:=λb d hb ⟨j,hj,len,cap,hl,hc⟩=>by obtain⟨a,cap',h1⟩:=hcell b hb j hj;rw[h1]at hc;cases hc;exact hl rfl
 have hO:∀q o b,get (put Z l (.mat 1 0 es)) q=some o->aA β w q o b->∃o2,get Z q=some o2/\aA β w q o2 b:=λq o b hq ho=>by
  by_cases hql:q=l
  .subst hql;have:some o=some (Blk.mat 1 0 es):=bP (bQ hq) hgs;cases this;rcases ho with ho|⟨b0,h2,h3⟩
   .exact⟨_,hg,.inl ho⟩
   exact absurd h3 (hns b0 b h2)
  exact⟨o,by rw[<- hgo q hql];exact hq,ho⟩
 have hI:∀b,(ctx G β w Z).I b->(ctx G β w (put Z l (.mat 1 0 es))).I b/\(ctx G β w (put Z l (.mat 1 0 es))).w.heap[b]?=(ctx G β w Z).w.heap[b]?:=λb hb=>⟨⟨hb.1,hb.2.1,λq o hq ho=>by obtain⟨o2,h1,h2⟩:=hO q o b hq ho;exact hb.2.2 q o2 h1 h2⟩,rfl⟩;have hL:∀q,q≠l->aV (ctx G β w Z) (ctx G β w (put Z l (.mat 1 0 es))) q:=λq hq=>aV.same (hgo q hq) rfl (λ_ _=>rfl);exact
  { defers:=hr.defers,sz:=hr.sz,base:=hr.base,os:=hr.os,tape:=hr.tape,output:=hr.output,old:=hr.old,A:=hr.A,gl:=hr.gl,
    inj:=λq q' o o' b hq hq' hb hb'=>by obtain⟨o1,h1,h2⟩:=hO q o b hq hb;obtain⟨o2,h3,h4⟩:=hO q' o' b hq' hb';exact hr.inj q q' o1 o2 b h1 h3 h2 h4,
    sep:=λq o b hq hb=>by obtain⟨o1,h1,h2⟩:=hO q o b hq hb;exact hr.sep q o1 b h1 h2,
    fix:=λq cs hq1 hq=>by
     by_cases hql:q=l
     .subst hql;have:some (Blk.box cs)=some (Blk.mat 1 0 es):=bP (bQ hq) hgs;cases this
     exact hr.fix q cs hq1 vr,
    row0:=λq k es' hq hg=>by
     by_cases hql:q=l
     .subst hql;have:some (Blk.row k es')=some (Blk.mat 1 0 es):=bP (bQ hg) hgs;cases this
     exact hr.row0 q k es' hq (by rw[<- hgo q hql];exact hg),
    blk:=λq ob hq=>by
     by_cases hql:q=l
     .subst hql;have:some ob=some (Blk.mat 1 0 es):=bP (bQ hq) hgs;cases this;refine⟨nP,hk,?_⟩;rcases hbr with h1|⟨b,m,h1,h2,h3,h4⟩
      .exact .inl h1
      refine .inr ⟨b,m,h1,h2,h3,ao.mono (λd hd=>⟨.inl (hI d hd).1,rfl⟩) rfl _ _ h4,λi j d len len' cap cap' hi _ hl _ hc _=>?_,λj e hj=>?_⟩
      .obtain⟨a,cp,h5⟩:=hcell b h1 i hi;have hc:w.cell? _=_:=hc;rw[h5]at hc;cases hc;exact absurd rfl hl
      have hj':=(aJ.1 hj).1;obtain⟨a,cp,h5⟩:=hcell b h1 j hj';have:=he e (cj hj);subst this;exact⟨[],a,0,cp,rfl,by simp,h5,λh=>absurd rfl h⟩
     have hq':get Z q=some ob:=vr
     refine BR.step hI rfl (λ_ _=>rfl) (λm hm=>hL m (λe=>?_)) (hr.blk q ob hq');subst e;have:=bU.1 hσ _ (ew hq');rw[hm]at this;exact absurd this aS,
    tm:=λj p hp=>by
     rcases MN (ew hp)with⟨k,rfl,h1⟩|⟨h1,h2⟩
     .have h3:=hr.tm j _ (rb hon h1);refine⟨h3.1,?_⟩;have h4:=h3.2;simp only[VR]at h4⊢;obtain⟨h4,a,m,cp,h5⟩:=h4;refine⟨λk' q' es' hg'=>?_,by rw[h5];rfl⟩;have:some (Blk.mat k' q' es')=some (Blk.mat 1 0 es):=bP (bQ hg') hgs;cases this;exact h4 1 es hg
     have h3:=rb hon h1;exact⟨(hr.tm j p h3).1,VR.step hI p _ (λm hm=>hL m (λe=>by subst e;rw[h2]at hm;cases hm)) (hr.tm j p h3).2⟩ }
def MO{I:Nat->Prop}{w:World}{b:Nat}:∀(ts:List U) (off:Nat),Z6 I w b ts off->∃us:List U,us.length=ts.length/\(∀x,x∈us->x.scal=true)/\(∀J,Z6 J w b us off) /\
 ∀{J I':Nat->Prop} {w':World} {b' off':Nat},Z6 J w' b' us off'->(∀c,I c->I' c/\w'.heap[c]?=w.heap[c]?)->Z6 I' w' b' ts off'
 |[],_,_=>⟨[],rfl,by simp,λ_=>trivial,λ_ _=>trivial⟩
 |t::ts,off,h=>by
  simp only[Z6]at h;obtain⟨⟨c,hc,ht⟩,h⟩:=h;obtain⟨us,h1,h2,h3,h4⟩:=MO ts _ h;refine⟨.con c::us,by simp[h1],λx hx=>?_,λJ=>⟨⟨c,hc,rfl,ht.oneCell⟩,h3 J⟩,λ{J I' w' b' off'} hu hI=>?_⟩
  .rcases cn.1 hx with rfl|hx
   .rfl
   exact h2 x hx
  simp only[Z6]at hu⊢;obtain⟨⟨c',hc',hv,_⟩,hu⟩:=hu;subst hv;exact⟨⟨_,hc',ht.mono hI⟩,h4 hu hI⟩
def MP{I:Nat->Prop}{w:World}{b k:Nat}:∀(es:List (List U)) (off:Nat),(∀el,el∈es->el.length=k)->ao I w b es off->∃es':List (List U),es'.length=es.length/\(∀e,e∈es'->e.length=k)/\(∀e,e∈es'->∀x,x∈e->x.scal=true)/\(∀J,ao J w b es' off) /\
 ∀{J I':Nat->Prop} {w':World} {b' off':Nat},ao J w' b' es' off'->(∀c,I c->I' c/\w'.heap[c]?=w.heap[c]?)->ao I' w' b' es off'
 |[],_,_,_=>⟨[],rfl,by simp,by simp,λ_=>trivial,λ_ _=>trivial⟩
 |e::es,off,hk,h=>by
  simp only[ao]at h;obtain⟨us,a1,a2,a3,a4⟩:=MO e off h.1;obtain⟨es',b1,b2,b3,b4,b5⟩:=MP es _ (λx hx=>hk x (cK _ hx)) h.2;refine⟨us::es',by simp[b1],λx hx=>?_,λx hx=>?_,λJ=>⟨a3 J,by rw[a1];exact b4 J⟩,λ{J I' w' b' off'} hu hI=>?_⟩
  .rcases cn.1 hx with rfl|hx
   .rw [a1];exact hk e al
   exact b2 x hx
  .rcases cn.1 hx with rfl|hx
   .exact a2
   exact b3 x hx
  simp only[ao]at hu⊢;refine⟨a4 hu.1 hI,?_⟩;have:=hu.2;rw[a1]at this;exact b5 this hI
def jg(P:Program)(f:FuncId)(k bytes:Nat):Prop:=∀es:List (List U),(∀e,e∈es->e.length=k)->es.length*bytes<=140737488355328->FnG P f [] [.t (.sl es)] [(5000,.row k es)] (.osl 5000 es.length)
section
variable {P:Program} {o:Oper} {ρ:List (Nat×PV)} {σ0:List (Nat×Blk)}
def Zdu{f:FuncId}{fo x:Operand}{ats:Array TypeId}{l m L k bytes:Nat}{es:List (List U)}(hfn:jg P f k bytes)(ho:o.op = .call { callee :=.value fo,args := #[x],argTypes:=ats })(hfo:af ρ fo=some (.fn f []))(hx:af ρ x=some (.osl l m))
 (hg0:get σ0 l=some (.row k es)) (hm:es.length=m) (hb:m*bytes<=140737488355328) (hL:L≠l) (h1000:1000<=L):OpF P o ρ σ0 [l] [] (.osl L m) [(L,.row k es)]:=by
 rintro G n tm Z a w K Q hag hnd hnews ⟨β,hr⟩ hK;have hg:get Z l=some (.row k es):=(hnd l al).trans hg0;obtain⟨hf1,hf2⟩:=hnews L (.row k es) al al;have hps:(#[x].toList.mapM (af ρ)).map (· ++ ([]:List PV))=some [.osl l m]:=by simp[hx]
 obtain⟨vals,hvs,hrun⟩:=vt (P:=P) ho hfo hps hr hag;simp only[VRs]at hvs;obtain⟨v,rest,rfl,hv,rfl⟩:=hvs;simp only[VR]at hv;obtain⟨ad,cap,hv0,hmc,hcm,h3⟩:=(hv.1 k es hg).2 hm.symm;obtain⟨hk0,hk,hbr⟩:=hr.blk l _ hg;have key:∃es':List (List U),es'.length=es.length/\(∀e,e∈es'->e.length=k)/\(es'=[]\/∃b,ad=some ⟨b,0,none⟩/\b<w.heap.size/\∀J,ao J w b es' 0) /\
  ∀{J I':Nat->Prop} {w':World} {b':Nat},ao J w' b' es' 0->(∀c,(ctx G β w Z).I c->I' c/\w'.heap[c]?=w.heap[c]?)->ao I' w' b' es 0:=by
  rcases hbr with⟨_,he⟩|⟨b,sz,hb1,hb2,hb3,hel⟩
  .subst he;exact⟨[],rfl,by simp,.inl rfl,λ_ _=>trivial⟩
  obtain⟨es',a1,a2,_,a4,a5⟩:=MP es 0 hk hel;refine⟨es',a1,a2,?_,λh hI=>a5 h hI⟩;rcases h3 with⟨hc,_⟩|⟨b',sz',ha,hb',_,_⟩
  .exact .inl (du O)
  have:b'=b:=MQ
  subst this;exact .inr ⟨b',ha,(hr.sep l _ b' hg (.inl hb1)).1,a4⟩
 obtain⟨es',e1,e2,e3,e4⟩:=key;have hfn':=hfn es' e2 (by rw[e1,hm];exact hb);have hent:aE (b9 β [] (λb=>b<w.heap.size) w) β ⟨1,idx 0 [.t (.sl es')],[]⟩ ⟨[v].toArray,[]⟩ w:=by
  refine { defers:=rfl,sz:=by simp,base:=aW _,os:=rfl,tape:=rfl,output:=rfl,old:=λ_ _ _=>rfl,A:=λb hb=>⟨hb,λ⟨i,o,h,_⟩=>by simp[PW.get]at h⟩,gl:=λg q hg=>⟨(hr.glw g q hg).1,λ⟨i,o,h,_⟩=>by simp[PW.get]at h,(hr.glw g q hg).1,(hr.glw g q hg).2⟩,
           inj:=λi i' o o' b h=>by simp[PW.get]at h,sep:=λi o b h=>by simp[PW.get]at h,fix:=λ_ _ _ _=>rfl,row0:=λl _ _ _ h=>by simp[PW.get]at h,blk:=λi o h=>by simp[PW.get]at h,tm:=λi p hp=>?_ }
  rw[Z6u]at hp
  match i,hp with
  |0,hp=>
   simp only[aW,dK,Nat.sub_self,js,aq]at hp;subst hp;refine⟨nP,?_⟩;simp only[VR,Z9];refine⟨ad,cap,by rw[e1,hm];exact hv0,by omega,hcm,e3.imp id λ⟨b,h1,h2,h4⟩=>⟨b,0,h1,⟨h2,.inr (.inl h2),λi o h=>by simp[PW.get]at h⟩,h4 _⟩⟩
  |i+1,hp=>simp at hp
 unfold Oper.wp;rw[hrun hfn'.1,vu];refine(hfn'.2 (λb=>b<w.heap.size) β w [v] rfl hent).mono ?_;rintro e w' ⟨v',β',rfl,hr'⟩;have hold:∀b,b<w.heap.size->w'.heap[b]?=w.heap[b]?:=λb hb=>hr'.old b hb (λ⟨i,o,h,_⟩=>by simp[PW.get]at h);have hsz:w.heap.size<=w'.heap.size:=hr'.base;have hgr:get ([(5000,Blk.row k es')]:List (Nat×Blk)) 5000=some (.row k es'):=by simp[PW.get]
 have habs:=hQ hr w' (β' 5000) L (.row k es) [] hsz hr'.os hr'.tape hr'.output ⟨by simp,.inl h1000⟩ (λb hb _=>hold b hb) (λc hc =>.inl ?_) (.inr ⟨hf1,λm y hy=>(hf2 m y hy).2⟩) (λhI=>?_)
 .refine hK v' w' ⟨_,habs,?_⟩;have hres:=(hr'.tm 0 (.osl 5000 es'.length) rfl).2;simp only[VR]at hres⊢;refine⟨λk2 es2 h2=>?_,hres.2⟩;have:some (Blk.row k2 es2)=some (.row k es):=bP (bQ h2) gO;cases this;refine⟨by omega,λ_=>?_⟩;obtain⟨a2,cap2,q1,q2,q3,q4⟩:=(hres.1 k es' hgr).2 rfl;have q1:v' = .slice a2 es'.length cap2:=q1;refine⟨a2,cap2,by rw[q1,e1,hm],by omega,q3,?_⟩;rcases q4 with⟨q5,q6⟩|⟨b2,m2,q5,q6,q7,q8⟩
  .exact .inl ⟨q5,by show bH β L (β' 5000) L=none;rw[bI];exact q6⟩
  exact .inr ⟨b2,m2,q5,by show bH β L (β' 5000) L=some b2;rw[bI];exact q6,q7,q8⟩
 .rcases hc with hc|⟨b0,_,h1⟩
  .rw [bI]at hc;have:=hr'.sep 5000 _ c hgr (.inl hc);refine⟨?_,this.1⟩;rcases this.2 with h|⟨i,o,h,_⟩
   .exact h
   simp[PW.get]at h
  exact h1.elim
 obtain⟨_,_,hb2⟩:=hr'.blk 5000 _ hgr;refine⟨hk0,hk,?_⟩;rcases hb2 with⟨h1,h2⟩|⟨b2,m2,h1,h2,h3,h4⟩
 .refine .inl ⟨by show bH β L (β' 5000) L=none;rw[bI];exact h1,?_⟩;subst h2;exact du (by simpa using e1.symm)
 exact .inr ⟨b2,m2,by show bH β L (β' 5000) L=some b2;rw[bI];exact h1,h2,by rw[<- e1];exact h3,e4 h4 hI⟩
end
end Go.PW
namespace Go.PW
open Go.RowKit
def wD{k i:Nat}{es:List (List U)}(hk:∀el,el∈es->el.length=k)(hi:i<es.length):((es.take i).flatten.map PV.t).length=i*k:=by rw[da,jl (k:=k) (λel hel=>hk el (iw hel)),fH,tb (vA hi)]
def Zfs{k i j:Nat}{es:List (List U)}{cs:List PV}(hk:∀el,el∈es->el.length=k)(hi:i<es.length)(hj:j<cs.length):(eE i es cs)[i*k+j]?=cs[j]?:=by unfold eE;rw[dU (by rw[wD hk hi];omega),wD hk hi,Nat.add_sub_cancel_left,dy hj]
def Tt{k i:Nat}{es:List (List U)}{cs:List PV}(hk:∀el,el∈es->el.length=k)(hi:i<es.length):i*k+cs.length<=(eE i es cs).length:=by unfold eE;rw[bF,wD hk hi,bF];omega
def Zft{c:Ctx}{k i:Nat}{es:List (List U)}{cs:List PV}{vs:List Value}(hk:∀el,el∈es->el.length=k)(hi:i<es.length)(h:VRs c (eE i es cs) vs) :
 ∃us,VRs c cs us/\∀j v,us[j]?=some v->vs[i*k+j]?=some v:=by
 have hl:=h.length;have hp:=Tt (cs:=cs) hk hi;have hg:∀j,j<cs.length->((vs.drop (i*k)).take cs.length)[j]?=vs[i*k+j]?:=λj hj=>by rw[jP,aP hj,j2]
 refine⟨(vs.drop (i*k)).take cs.length,VRs.of_get aZ (λj p v hp' hv=>?_),λj v hv=>?_⟩
 .have hj:=(aJ.1 hp').1;obtain⟨v',h1,h2⟩:=h.get (i*k+j) p ((Zfs hk hi hj).trans hp');rw[hg j hj,h1]at hv;cases hv;exact h2
 have hj:j<cs.length:=M0
 rwa[hg j hj]at hv
def Zfu{k i off:Nat}{es:List (List U)}{cs qs:List PV}(hk:∀el,el∈es->el.length=k)(hi:i<es.length)(hq:off+qs.length<=cs.length):splice (eE i es cs) (i*k+off) qs=eE i es (splice cs off qs):=by
 have hA:=wD hk hi;unfold eE splice;rw[u0,hA,fC (by rw[hA];omega),Nat.add_sub_cancel_left,uI O,
  u1,hA,ir (by rw[hA];omega),iT,show i*k+off+qs.length-i*k=off+qs.length by omega,List.drop_append_of_le_length hq]
 simp only[gI]
section
variable {P:Program} {o:Oper} {ρ:List (Nat×PV)} {Z:List (Nat×Blk)}
def Zfv{s:TypeId}{x:Operand}{f l m q off size k i:Nat}{es:List (List U)}{cs:List PV}(ho:o.op = .fieldAddr s x f)(hf:fieldInfo P s f=some (off,size))(hs:size≠0)(hx:af ρ x=some (.own l (.pp m q)))
 (hg:get Z l=some (.prow k i es cs)) (hm:es.length=m):aQ P o ρ Z [l] (.own l (.pp m (q+off))) []:=
 bE λG β n tm Z' A w hop hneed _=>by
  have h1:=hop x _ aK hx;simp only[VR]at h1⊢;have hgl:get Z' l=some (.prow k i es cs):=(hneed l al).trans hg;obtain⟨b,hb,hv⟩:=(h1.1 k i es cs hgl).2 hm.symm;refine⟨.pointer (some ⟨b,i*k+q+off,none⟩),?_,λk' i' es' cs' hes'=>?_,rfl⟩
  .simp only[execOp,ho,hv,aN,oV w hf hs,aO,aT]
  have:some (Blk.prow k' i' es' cs')=some (.prow k i es cs):=bP (bQ hes') hgl;cases this;exact⟨by omega,λ_=>⟨b,hb,by rw[l9]⟩⟩
def Zfw{x:Operand}{l m q k i:Nat}{es:List (List U)}{cs:List PV}(ho:o.op = .nilCheck x)(hx:af ρ x=some (.own l (.pp m q)))(hg:get Z l=some (.prow k i es cs))(hm:es.length=m):aQ P o ρ Z [l] (.own l (.pp m q)) []:=bE λG β n tm Z' A w hop hn _=>by have h1:=hop x _ aK hx;have h2:=h1;simp only[VR]at h1;obtain⟨b,_,hv⟩:=(h1.1 k i es cs ((hn l al).trans hg)).2 hm.symm;exact⟨.pointer (some ⟨b,i*k+q,none⟩),by simp[execOp,ho,hv],by rw[<- hv];exact h2⟩
def Zfx{t:TypeId}{x:Operand}{l m q size k i:Nat}{agg:Bool}{es:List (List U)}{cs:List PV}{p:PV}(ho:o.op = .load t x)(hT:TyF P t agg size)(hx:af ρ x=some (.own l (.pp m q)))(hg:get Z l=some (.prow k i es cs))(hm:es.length=m)
 (hp:c6 agg size q cs=some p):aQ P o ρ Z [l] p []:=
 bE λG β n tm Z' A w hop hneed hr=>by
  have e1:=hop x _ aK hx;simp only[VR]at e1;have hgl:get Z' l=some (.prow k i es cs):=(hneed l al).trans hg;obtain⟨b,hb,hv⟩:=(e1.1 k i es cs hgl).2 hm.symm;obtain⟨_,hkl,hi,_,_,b',sz,vs,hb',hrow,hsz,hc,hvs⟩:=hr.blk l _ hgl;have:b'=b:=c7
  subst this;obtain⟨us,h1,h2⟩:=Zft hkl hi hvs;obtain⟨v,hrun,hpv⟩:=lj (q:=i*k) hT w h1 (λj v hj=>hc _ v (h2 j v hj)) hp;exact⟨v,by simp only[execOp,ho,hv,aN,hrun,aO,aT],hpv⟩
def Zfy{σ0:List (Nat×Blk)}{t:TypeId}{x y:Operand}{l m0 off size k i:Nat}{agg:Bool}{es:List (List U)}{cs:List PV}{p:PV}(ho:o.op = .store t x y)(hd:o.dst=none)(hT:TyF P t agg size)(hx:af ρ x=some (.own l (.pp m0 off)))(hy:af ρ y=some p)
 (hg0:get σ0 l=some (.prow k i es cs)) (hm0:es.length=m0) (hs:(Z7 p).length=size) (h1:(Z7 p).all PV.one=true) (hq:off+size<=cs.length):OpF P o ρ σ0 [l] [l] (.tup []) [(l,.prow k i es (splice cs off (Z7 p)))]:=by
 rintro G n tm Z a w K Q hag hneed _ ⟨β,hr⟩ hK;have hg:get Z l=some (.prow k i es cs):=AY
 have hop:∀x q,x∈o.op.operands->af ρ x=some q->VR (ctx G β w Z) q (a.eval x):=λx q hx hq=>hP hr hq (λt r ht hr'=>hag t r (ht▸hx) hr');have e1:=hop x _ aK hx;have e2:=hop y _ aK hy;simp only[VR]at e1;obtain⟨b,hb,hv⟩:=(e1.1 k i es cs hg).2 hm0.symm;obtain⟨hk0,hkl,hi,hcl,hone,b',sz,vs,hb',hrow,hsz,hc,hvs⟩:=hr.blk l _ hg;have:b'=b:=c7
 subst this;have hik:i*k+k<=sz:=by have h2:(i+1)*k<=es.length*k:=gj _ hi;rw[dQ,eP]at h2;omega
 have hrun:=gU hT w e2 hs h1 hrow (q:=i*k+off) O;have hcells:=e2.cells;have hul:(a.eval y).cells.toList.length=size:=tl
 have hvl:i*k+off+size<=vs.length:=by rw[hvs.length];have:=Tt (cs:=cs) hkl hi;omega
 obtain⟨hr',hI,hL⟩:=jx hr (off:=i*k+off) (blk' :=.prow k i es (splice cs off (Z7 p))) (a.eval y).cells.toList hg hb (.inr (.inr ⟨k,i,es,cs,_,rfl,rfl⟩)) (λhI hL=>by
  refine⟨hk0,hkl,hi,by rw[rq _ _ _ nT];exact hcl,?_,b',sz,splice vs (i*k+off) (a.eval y).cells.toList,hb,dx _ _ _ _ hrow,hsz,jy hc (by rw[hul];exact hvl),?_⟩
  .unfold splice;simp only[List.all_append,aL];exact⟨⟨bU.2 λz hz=>bU.1 hone z (iw hz),h1⟩,bU.2 λz hz=>bU.1 hone z (ko hz)⟩
  rw[<- Zfu hkl hi nT];exact(VRs.step hI _ _ (λm _=>hL m) hvs).splice _ (VRs.step hI _ _ (λm _=>hL m) hcells))
 have hrun2:(execOp a.eval o).run P w = .ok .skip (w.setCells b' (i*k+off) (a.eval y).cells.toList):=AZ
 unfold Oper.wp;rw[hrun2,vj,hd];have:=hK (.tuple #[]) (w.setCells b' (i*k+off) (a.eval y).cells.toList) ⟨β,hr',by simp[VR,VRs]⟩;rw[hd]at this;exact this
end
def Zfz{G:Frm}{β:Nat->Option Nat}{n:Nat}{tm tm':List (Nat×PV)}{Z Z':List (Nat×Blk)}{a:Act}{w:World}(h:aE G β ⟨n,tm,Z⟩ a w){l:Nat}{B B':Blk}(hl:1000<=l)
 (hg:get Z l=some B) (hg':get Z' l=some B') (hfl':B'.flat)
 {Tn:List PV->List PV->Prop} (hσ:∀m o',m≠l->get Z' m=some o'->∃o,get Z m=some o/\((o'=o/\o.has l=false)\/∃cs cs',o = .box cs/\o' = .box cs'/\cs'.length=cs.length/\cs'.all PV.one=true/\Tn cs cs'))
 (hT:(∀b,(ctx G β w Z).I b->(ctx G β w Z').I b/\(ctx G β w Z').w.heap[b]?=(ctx G β w Z).w.heap[b]?)->(∀m,m≠l->aV (ctx G β w Z) (ctx G β w Z') m)->∀cs cs',Tn cs cs'->∀vs,VRs (ctx G β w Z) cs vs->VRs (ctx G β w Z') cs' vs)
 (hbr:(∀b,(ctx G β w Z).I b->(ctx G β w Z').I b/\(ctx G β w Z').w.heap[b]?=(ctx G β w Z).w.heap[b]?)->(∀m,m≠l->aV (ctx G β w Z) (ctx G β w Z') m)->BR (ctx G β w Z) l B->BR (ctx G β w Z') l B')
 (ht:(∀b,(ctx G β w Z).I b->(ctx G β w Z').I b/\(ctx G β w Z').w.heap[b]?=(ctx G β w Z).w.heap[b]?)->(∀m,m≠l->aV (ctx G β w Z) (ctx G β w Z') m)->∀i q,get tm' i=some q->∃p,get tm i=some p/\∀v,VR (ctx G β w Z) p v->VR (ctx G β w Z') q v) :
 aE G β ⟨n,tm',Z'⟩ a w:=by
 have hO:∀m o' b,get Z' m=some o'->aA β w m o' b->∃o,get Z m=some o/\aA β w m o b:=λm o' b hm ho=>by
  by_cases e:m=l
  .subst e;rw[hg']at hm;cases hm;exact⟨B,hg,.inl (ho.flat hfl')⟩
  obtain⟨o,h1,h2⟩:=hσ m o' e hm;rcases h2 with⟨rfl,_⟩|⟨cs,cs',rfl,rfl,_⟩
  .exact⟨_,h1,ho⟩
  exact⟨_,h1,.inl (aA.flat (o :=.box cs') trivial ho)⟩
 have hI:∀b,(ctx G β w Z).I b->(ctx G β w Z').I b/\(ctx G β w Z').w.heap[b]?=(ctx G β w Z).w.heap[b]?:=λb hb=>⟨⟨hb.1,hb.2.1,λm o hm ho=>by obtain⟨o2,h1,h2⟩:=hO m o b hm ho;exact hb.2.2 m o2 h1 h2⟩,rfl⟩;have hL:∀m,m≠l->aV (ctx G β w Z) (ctx G β w Z') m:=λm e=>by
  refine⟨λk es' hm=>?_,λcs' hm=>?_,λk q es' hm=>?_,λag es' hm=>?_,λk i es' cs' hm=>?_⟩;all_goals obtain⟨o,h1,h2⟩:=hσ m _ e hm
  .rcases h2 with⟨h2,_⟩|⟨_,_,_,h2,_⟩
   .subst h2;exact⟨es',h1,aW _,λ_=>⟨rfl,λ_ _ _ h=>h⟩⟩
   cases h2
  .rcases h2 with⟨h2,_⟩|⟨cs,cs2,h3,h2,_⟩
   .subst h2;exact⟨cs',h1,rfl⟩
   subst h3;exact⟨cs,h1,rfl⟩
  .rcases h2 with⟨h2,_⟩|⟨_,_,_,h2,_⟩
   .subst h2;exact⟨es',h1,aW _,λ_=>⟨rfl,λ_ _=>⟨λ_ h=>h,λ_ _=>rfl⟩⟩⟩
   cases h2
  .rcases h2 with⟨h2,_⟩|⟨_,_,_,h2,_⟩
   .subst h2;exact⟨_,es',h1,rfl⟩
   cases h2
  rcases h2 with⟨h2,_⟩|⟨_,_,_,h2,_⟩
  .subst h2;exact⟨es',cs',h1,rfl,rfl,λ_ _ _ h=>h⟩
  cases h2
 exact { defers:=h.defers,sz:=h.sz,base:=h.base,os:=h.os,tape:=h.tape,output:=h.output,old:=h.old,A:=h.A,gl:=h.gl,
         inj:=λm m' o o' b hm hm' hb hb'=>by obtain⟨o1,h1,h2⟩:=hO m o b hm hb;obtain⟨o2,h3,h4⟩:=hO m' o' b hm' hb';exact h.inj m m' o1 o2 b h1 h3 h2 h4,
         sep:=λm o b hm hb=>by obtain⟨o1,h1,h2⟩:=hO m o b hm hb;exact h.sep m o1 b h1 h2,
         fix:=λm cs hm1 hm=>by
          have e:m≠l:=bg
          obtain⟨o,h1,h2⟩:=hσ m _ e hm;rcases h2 with⟨h2,_⟩|⟨cs0,cs2,h3,h2,_⟩
          .subst h2;exact h.fix m cs hm1 h1
          subst h3;exact h.fix m cs0 hm1 h1,
         row0:=h.row0.step (λm hm=>hL m O),
         blk:=λm o hm=>by
          by_cases e:m=l
          .subst e;have:some o=some B':=bP (bQ hm) hg';cases this;exact hbr hI hL (h.blk m _ hg)
          obtain⟨o0,h1,h2⟩:=hσ m o e hm;have hb:=h.blk m o0 h1;rcases h2 with⟨rfl,h3⟩|⟨cs,cs',rfl,rfl,h3,h4,h5⟩
          .exact BR.step hI rfl (λ_ _=>rfl) (λq hq=>hL q (λe2=>by subst e2;rw[h3]at hq;cases hq)) hb
          obtain⟨b,vs,f1,f2,f3,f4,f5⟩:=hb;exact⟨b,vs,f1,by rw[h3];exact f2,f3,hT hI hL cs cs' h5 vs f4,h4⟩,
         tm:=λi q hq=>by obtain⟨p,hp,hv⟩:=ht hI hL i q hq;exact⟨(h.tm i p hp).1,hv _ (h.tm i p hp).2⟩ }
def opnV(l i:Nat):PV->Option (List Prop×PV)
 |.osl m n=>bif Nat.beq m l then some ([],.own l (.pw n))else some ([],.osl m n)
 |.rptr m n j off=>bif Nat.beq m l then some ([j=i],.own l (.pp n off))else some ([],.rptr m n j off)
 |p=>bif p.has l then none else some ([],p)
def clsV(l i len:Nat):PV->Option (List Prop×PV)
 |.own m (.pw n)=>bif Nat.beq m l then some ([n=len],.osl l n)else some ([],.own m (.pw n))
 |.own m (.pp n off)=>bif Nat.beq m l then some ([n=len],.rptr l n i off)else some ([],.own m (.pp n off))
 |p=>bif p.has l then none else some ([],p)
def ic(f:PV->Option (List Prop×PV)):List PV->Option (List Prop×List PV)
 |[]=>some ([],[])
 |p::ps=>
  match f p,ic f ps with
  |some (q,p'),some (qs,ps')=>some (q++qs,p'::ps')
  |_,_=>none
def Z6g(f:PV->Option (List Prop×PV)):List (Nat×PV)->Option (List Prop×List (Nat×PV))
 |[]=>some ([],[])
 |(i,p)::r=>
  match f p,Z6g f r with
  |some (q,p'),some (qs,r')=>some (q++qs,(i,p')::r')
  |_,_=>none
def mapσ(l:Nat)(B':Blk)(f:PV->Option (List Prop×PV)):List (Nat×Blk)->Option (List Prop×List (Nat×Blk))
 |[]=>some ([],[])
 |(m,b)::r=>
  match mapσ l B' f r with
  |none=>none
  |some (qs,r')=>
   bif Nat.beq m l then some (qs,(m,B')::r')else
   match b with
   |.box cs=>match ic f cs with|some (q,cs')=>bif cs'.all PV.one then some (q++qs,(m,.box cs')::r')else none|none=>none
   |b=>bif b.has l then none else some (qs,(m,b)::r')
def Tu{f:PV->Option (List Prop×PV)}{c c':Ctx}(hf:∀p qs p',f p=some (qs,p')->aG qs->∀v,VR c p v->VR c' p' v):∀{ps:List PV} {qs:List Prop} {ps':List PV},ic f ps=some (qs,ps')->aG qs->ps'.length=ps.length/\∀vs,VRs c ps vs->VRs c' ps' vs
 |[],qs,ps',h,_=>by simp only[ic,aq,bG]at h;obtain⟨_,rfl⟩:=h;exact⟨rfl,λvs h=>h⟩
 |p::ps,qs,ps',h,hc=>by
  simp only[ic]at h;split at h
  .rename_i q p' qs' ps2 h1 h2;cases h;obtain⟨c1,c2⟩:=bM.1 hc;obtain⟨g1,g2⟩:=Tu hf h2 c2;refine⟨by simp[g1],λvs hv=>?_⟩;simp only[VRs]at hv⊢;obtain⟨v,rest,rfl,hv,hr⟩:=hv;exact⟨v,rest,rfl,hf p q p' h1 c1 v hv,g2 rest hr⟩
  cases h
def Tv{f:PV->Option (List Prop×PV)}:∀{tm tm':List (Nat×PV)} {qs:List Prop},Z6g f tm=some (qs,tm')->aG qs->∀i q,get tm' i=some q->∃p r,get tm i=some p/\f p=some (r,q)/\aG r
 |[],tm',qs,h,_,i,q,hq=>by simp only[Z6g,aq,bG]at h;obtain⟨_,rfl⟩:=h;cases hq
 |(j,p)::r,tm',qs,h,hc,i,q,hq=>by
  simp only[Z6g]at h;split at h
  .rename_i q1 p' qs' r' h1 h2;cases h;obtain⟨c1,c2⟩:=bM.1 hc;simp only[PW.get]at hq⊢;cases hb:Nat.beq j i with
   |true=>simp only[hb,av,aq]at hq⊢;subst hq;exact⟨p,q1,rfl,h1,c1⟩
   |false=>simp only[hb,au]at hq⊢;exact Tv h2 c2 i q hq
  cases h
def Tw{f:PV->Option (List Prop×PV)}:∀{ps:List PV} {qs:List Prop} {ps':List PV},ic f ps=some (qs,ps')->ps'.length=ps.length
 |[],qs,ps',h=>by simp only[ic,aq,bG]at h;obtain⟨_,rfl⟩:=h;rfl
 |p::ps,qs,ps',h=>by
  simp only[ic]at h;split at h
  .rename_i q p' qs' ps2 h1 h2;cases h;simp[Tw h2]
  cases h
def Cn{l:Nat}{B':Blk}{f:PV->Option (List Prop×PV)}:∀{Z Z':List (Nat×Blk)} {qs:List Prop},mapσ l B' f Z=some (qs,Z')->aG qs ->
 (∀m o',m≠l->get Z' m=some o'->∃o,get Z m=some o/\((o'=o/\o.has l=false)\/∃cs cs',o = .box cs/\o' = .box cs'/\cs'.length=cs.length/\cs'.all PV.one=true/\∃q,ic f cs=some (q,cs')/\aG q)) /\
 ((∃o,get Z l=some o)->get Z' l=some B')
 |[],Z',qs,h,_=>by simp only[mapσ,aq,bG]at h;obtain⟨_,rfl⟩:=h;exact⟨λm o' _ h=>di,λ⟨o,h⟩=>di⟩
 |(j,b)::r,Z',qs,h,hc=>by
  simp only[mapσ]at h;split at h
  .cases h
  rename_i qs' r' h1;cases hb:Nat.beq j l with
  |true=>
   simp only[hb,av,aq,bG]at h;obtain⟨rfl,rfl⟩:=h;obtain⟨g1,_⟩:=Cn h1 hc;have hjl:j=l:=(aU _ _).1 hb;subst hjl;refine⟨λm o' hm ho=>?_,λ_=>by simp[PW.get]⟩;simp only[PW.get,ed (de hm),au]at ho⊢;exact g1 m o' hm ho
  |false=>
   simp only[hb,au]at h;have hjl:j≠l:=λe=>AW
   have key:∀(b':Blk) (q:List Prop),Z'=(j,b')::r'->(aG qs')->((b'=b/\b.has l=false)\/∃cs cs',b = .box cs/\b' = .box cs'/\cs'.length=cs.length/\cs'.all PV.one=true/\∃q,ic f cs=some (q,cs')/\aG q) ->
    (∀m o',m≠l->get Z' m=some o'->∃o,get ((j,b)::r) m=some o/\((o'=o/\o.has l=false)\/∃cs cs',o = .box cs/\o' = .box cs'/\cs'.length=cs.length/\cs'.all PV.one=true/\∃q,ic f cs=some (q,cs')/\aG q)) /\
    ((∃o,get ((j,b)::r) l=some o)->get Z' l=some B'):=by
    intro b' q hσ hcq hbb;subst hσ;obtain⟨g1,g2⟩:=Cn h1 hcq;refine⟨λm o' hm ho=>?_,λho=>?_⟩
    .simp only[PW.get]at ho⊢;cases hm2:Nat.beq j m with
     |true=>simp only[hm2,av,aq]at ho⊢;subst ho;exact⟨b,rfl,hbb⟩
     |false=>simp only[hm2,au]at ho⊢;exact g1 m o' hm ho
    simp only[PW.get,ed hjl,au]at ho⊢;exact g2 ho
   split at h
   .rename_i cs;split at h
    .rename_i q cs' h2;cases ho:cs'.all PV.one with
     |false=>simp[ho]at h
     |true=>
      simp only[ho,av,aq,bG]at h;obtain⟨rfl,rfl⟩:=h;obtain⟨c1,c2⟩:=bM.1 hc;exact key _ q rfl c2 (.inr ⟨cs,cs',rfl,rfl,Tw h2,ho,q,h2,c1⟩)
    cases h
   cases hh:b.has l with
   |true=>simp[hh]at h
   |false=>
    simp only[hh,au,aq,bG]at h;obtain⟨rfl,rfl⟩:=h;exact key b [] rfl hc (.inl ⟨rfl,hh⟩)
section
variable {G:Frm} {β:Nat->Option Nat} {w:World} {Z Z':List (Nat×Blk)} {l i k:Nat} {es:List (List U)}
def Tx{n:Nat}{tm tm':List (Nat×PV)}{a:Act}{f:PV->Option (List Prop×PV)}{B B':Blk}{qs rs:List Prop}(h:aE G β ⟨n,tm,Z⟩ a w)(hl:1000<=l)(hg:get Z l=some B)(hfl:B'.flat)
 (htm:Z6g f tm=some (qs,tm')) (hσ:mapσ l B' f Z=some (rs,Z')) (cq:aG qs) (cr:aG rs)
 (hf:(∀b,(ctx G β w Z).I b->(ctx G β w Z').I b/\(ctx G β w Z').w.heap[b]?=(ctx G β w Z).w.heap[b]?)->(∀m,m≠l->aV (ctx G β w Z) (ctx G β w Z') m)->get Z' l=some B'->∀p qs p',f p=some (qs,p')->aG qs->∀v,VR (ctx G β w Z) p v->VR (ctx G β w Z') p' v)
 (hbr:(∀b,(ctx G β w Z).I b->(ctx G β w Z').I b/\(ctx G β w Z').w.heap[b]?=(ctx G β w Z).w.heap[b]?)->(∀m,m≠l->aV (ctx G β w Z) (ctx G β w Z') m)->BR (ctx G β w Z) l B->BR (ctx G β w Z') l B'):aE G β ⟨n,tm',Z'⟩ a w:=by
 obtain⟨g1,g2⟩:=Cn hσ cr;have hg':=g2 ⟨_,hg⟩;refine Zfz h hl hg hg' hfl (Tn:=λcs cs'=>∃q,ic f cs=some (q,cs')/\aG q) g1 (λhI hL cs cs' ⟨q,h1,h2⟩ vs hv=>(Tu (hf hI hL hg') h1 h2).2 vs hv) hbr (λhI hL j q hq=>?_);obtain⟨p,r,h1,h2,h3⟩:=Tv htm cq j q hq;exact⟨p,h1,λv hv=>hf hI hL hg' p r q h2 h3 v hv⟩
def Co{p p':PV}{qs:List Prop}(hI:∀b,(ctx G β w Z).I b->(ctx G β w Z').I b/\(ctx G β w Z').w.heap[b]?=(ctx G β w Z).w.heap[b]?)(hL:∀m,m≠l->aV (ctx G β w Z) (ctx G β w Z') m)
 (h:(bif p.has l then none else some (([]:List Prop),p))=some (qs,p')) (v:Value) (hv:VR (ctx G β w Z) p v):VR (ctx G β w Z') p' v:=by
 cases hh:p.has l with
 |true=>simp[hh]at h
 |false=>
  simp only[hh,au,aq,bG]at h;obtain⟨_,rfl⟩:=h;exact VR.step hI p v (λm hm=>hL m (λe=>by subst e;rw[hh]at hm;cases hm)) hv
def Wk.opn{n:Nat}{tm tm':List (Nat×PV)}{e:List U}{qs rs:List Prop}(hl:1000<=l)(hg:get Z l=some (.row k es))(he:es[i]?=some e)(htm:Z6g (opnV l i) tm=some (qs,tm'))(hσ:mapσ l (.prow k i es (e.map .t)) (opnV l i) Z=some (rs,Z'))(cq:aG qs)(cr:aG rs) :
 Wk ⟨n,tm,Z⟩ ⟨n,tm',Z'⟩:=by
 rintro G a w ⟨β,h⟩;have hi:i<es.length:=(aJ.1 he).1;obtain⟨hk0,hkl,hb⟩:=h.blk l _ hg;rcases hb with⟨_,hb⟩|⟨b,m,hb,hrow,hsz,hel⟩
 .subst hb;simp at hi
 refine⟨β,Tx h hl hg (by trivial) htm hσ cq cr (λhI hL hg' p qs p' hp hq v hv=>?_) (λhI hL _=>?_)⟩
 .cases p
  case osl m0 n0=>
   simp only[opnV]at hp;cases hb2:Nat.beq m0 l with
   |false=>
    simp only[hb2,au,aq,bG]at hp;obtain⟨_,rfl⟩:=hp;exact VR.step hI _ v (λq hq2=>hL q (λe2=>by subst e2;simp only[PV.has]at hq2;rw[hq2]at hb2;cases hb2)) hv
   |true=>
    simp only[hb2,av,aq,bG]at hp;obtain⟨_,rfl⟩:=hp;have:=(aU _ _).1 hb2;subst this;simp only[VR]at hv⊢;obtain⟨ho,a0,m1,cap1,rfl⟩:=hv;refine⟨λk' i' es' cs' hes'=>?_,rfl⟩;have:some (Blk.prow k' i' es' cs')=some (.prow k i es (e.map .t)):=bP (bQ hes') hg';cases this;obtain⟨g1,g2⟩:=ho k es hg;refine⟨g1,λhn=>?_⟩;obtain⟨a2,cap,hv2,hc1,hc2,h3⟩:=g2 hn;rcases h3 with⟨h3,_⟩|⟨b2,m2,h3,h4,h5,h6⟩
    .omega
    exact⟨b2,m2,cap,by rw[hv2,h3],hc1,hc2,h4,h5,h6⟩
  case rptr m0 n0 j off=>
   simp only[opnV]at hp;cases hb2:Nat.beq m0 l with
   |false=>
    simp only[hb2,au,aq,bG]at hp;obtain⟨_,rfl⟩:=hp;exact VR.step hI _ v (λq hq2=>hL q (λe2=>by subst e2;simp only[PV.has]at hq2;rw[hq2]at hb2;cases hb2)) hv
   |true=>
    simp only[hb2,av,aq,bG]at hp;obtain⟨rfl,rfl⟩:=hp;have:=(aU _ _).1 hb2;subst this;obtain⟨rfl,_⟩:=hq;simp only[VR]at hv⊢;obtain⟨ho,a0,rfl⟩:=hv;refine⟨λk' i' es' cs' hes'=>?_,rfl⟩;have:some (Blk.prow k' i' es' cs')=some (.prow k j es (e.map .t)):=bP (bQ hes') hg';cases this;obtain⟨g1,g2⟩:=ho k es hg;exact⟨g1,λhn=>g2 hn⟩
  all_goals (simp only[opnV]at hp;exact Co hI hL hp v hv)
 have hflat:=ao.flat.1 hel;obtain⟨vs,hvs,hcs⟩:=Z6.vals (c:=ctx G β w Z) hflat;refine⟨hk0,hkl,hi,by rw[da];exact hkl e (cj he),by rw[List.all_map];exact bU.2 λ_ _=>rfl,b,m,vs,hb,hrow,hsz,λj v hj=>by have:=hcs j v hj;rwa[aM]at this,?_⟩;have hsplit:es.flatten.map PV.t=eE i es (e.map .t):=by
  have h1:es=es.take i++e::es.drop (i+1):=by
   have h2:=List.getElem_cons_drop hi;have h3:es[i]=e:=by rw[bn hi]at he;exact c9 he
   rw[h3]at h2;rw[h2,j7]
  unfold eE
  conv=>lhs;rw[h1]
  rw[oh,gT,eL,eL]
 rw[<- hsplit];exact VRs.step hI _ _ (λq hq=>by rw[ib]at hq;cases hq) hvs
def Wk.cls{n:Nat}{tm tm':List (Nat×PV)}{cs:List PV}{ts:List U}{es':List (List U)}{qs rs:List Prop}(hl:1000<=l)(hg:get Z l=some (.prow k i es cs))(ht:iP cs=some ts)(he:es.set i ts=es')(htm:Z6g (clsV l i es.length) tm=some (qs,tm'))(hσ:mapσ l (.row k es') (clsV l i es.length) Z=some (rs,Z'))(cq:aG qs)(cr:aG rs) :
 Wk ⟨n,tm,Z⟩ ⟨n,tm',Z'⟩:=by
 rintro G a w ⟨β,h⟩;obtain⟨hk0,hkl,hi,hcl,hone,b,m,vs,hb,hrow,hsz,hcs,hvs⟩:=h.blk l _ hg;have hlen:es'.length=es.length:=by rw[<- he,gq]
 have hcs':=mO ht;subst hcs';refine⟨β,Tx h hl hg (by trivial) htm hσ cq cr (λhI hL hg' p qs p' hp hq v hv=>?_) (λhI hL _=>?_)⟩
 .cases p
  case own m0 d=>
   cases d
   case pw n0=>
    simp only[clsV]at hp;cases hb2:Nat.beq m0 l with
    |false=>
     simp only[hb2,au,aq,bG]at hp;obtain⟨_,rfl⟩:=hp;exact VR.step hI _ v (λq hq2=>hL q (λe2=>by subst e2;simp only[PV.has]at hq2;rw[hq2]at hb2;cases hb2)) hv
    |true=>
     simp only[hb2,av,aq,bG]at hp;obtain⟨rfl,rfl⟩:=hp;obtain⟨hq,_⟩:=hq;have:=(aU _ _).1 hb2;subst this;simp only[VR]at hv⊢;obtain⟨ho,h1⟩:=hv;obtain⟨g1,g2⟩:=ho k i es _ hg;obtain⟨b2,m2,cap,hv2,hc1,hc2,h4,h5,h6⟩:=g2 hq;refine⟨λk' es2 hes2=>?_,_,_,_,hv2⟩;have:some (Blk.row k' es2)=some (.row k es'):=bP (bQ hes2) hg';cases this;exact⟨by omega,λ_=>⟨_,cap,hv2,hc1,hc2,.inr ⟨b2,m2,rfl,h4,h5,h6⟩⟩⟩
   case pp n0 off=>
    simp only[clsV]at hp;cases hb2:Nat.beq m0 l with
    |false=>
     simp only[hb2,au,aq,bG]at hp;obtain⟨_,rfl⟩:=hp;exact VR.step hI _ v (λq hq2=>hL q (λe2=>by subst e2;simp only[PV.has]at hq2;rw[hq2]at hb2;cases hb2)) hv
    |true=>
     simp only[hb2,av,aq,bG]at hp;obtain⟨rfl,rfl⟩:=hp;obtain⟨hq,_⟩:=hq;have:=(aU _ _).1 hb2;subst this;simp only[VR]at hv⊢;obtain⟨ho,h1⟩:=hv;obtain⟨g1,g2⟩:=ho k i es _ hg;obtain⟨b2,h4,hv2⟩:=g2 hq;refine⟨λk' es2 hes2=>?_,_,hv2⟩;have:some (Blk.row k' es2)=some (.row k es'):=bP (bQ hes2) hg';cases this;exact⟨by omega,λ_=>⟨b2,h4,hv2⟩⟩
   all_goals (simp only[clsV]at hp;exact Co hI hL hp v hv)
  all_goals (simp only[clsV]at hp;exact Co hI hL hp v hv)
 refine⟨hk0,λel hel=>?_,.inr ⟨b,m,hb,hrow,by rw[hlen];exact hsz,ao.flat.2 ?_⟩⟩
 .rw [<- he]at hel;rcases lV hel with h1|h1
  .exact hkl el h1
  subst h1;rw[da]at hcl;exact hcl
 have hsplit:es'.flatten.map PV.t=eE i es (ts.map .t):=by rw[<- he];unfold eE;rw[List.set_eq_take_append_cons_drop,aP hi,oh,gT,eL,eL]
 rw[<- hsplit]at hvs;exact iH (c:=ctx G β w Z') (VRs.step hI _ _ (λq hq=>by rw[ib]at hq;cases hq) hvs) (λj v hj=>by rw[aM];exact hcs j v hj)
end
end Go.PW
namespace Go.PW
open Go.RowKit
def rlk(xs:List (Int×List U))(n:Int):List (List U):=match dR xs n with|some [.sl r]=>r|_=>[]
def Mv{α:Type}(n:Int)(y:α):∀xs:List (Int×α),(∃x,x∈xs/\x.1=n)->(bZ xs n y).map Prod.fst=xs.map Prod.fst
 |[],h=>by obtain⟨_,h,_⟩:=h;cases h
 |(j,x)::xs,h=>by
  simp only[bZ];cases hb:j==n with
  |true=>rfl
  |false=>
   simp only[au,cw];rw[Mv n y xs (by
    obtain⟨z,hz,hn⟩:=h;rcases cn.1 hz with h|h
    .subst h;simp only at hn;subst hn;simp at hb
    exact⟨z,h,hn⟩)]
def AJ{n:Int}:∀{es:List MapEntry} {xs:List (Int×List U)} (i:Nat),es.length=xs.length->(∀(i:Nat) e x,es[i]?=some e->xs[i]?=some x->e.key = .int .i64 x.1) ->
 (dR xs n=none/\Instr.findNow (.int .i64) (.int .i64 n) es i=some none/\(∀y,bZ xs n y=xs++[(n,y)])/\∀x,x∈xs->x.1≠n) \/
 ∃(j:Nat) (e:MapEntry) (ts:List U),xs[j]?=some (n,ts)/\es[j]?=some e/\dR xs n=some ts/\Instr.findNow (.int .i64) (.int .i64 n) es i=some (some (i+j,e.val))/\∀y,bZ xs n y=xs.set j (n,y)
 |[],[],i,_,_ =>.inl ⟨rfl,rfl,λ_=>rfl,λx h=>by cases h⟩
 |[],_::_,_,hl,_=>lE
 |_::_,[],_,hl,_=>lE
 |e::es,(m,ts)::xs,i,hl,hk=>by
  have hk0:e.key = .int .i64 m:=hk 0 e (m,ts) rfl rfl;by_cases hmn:m=n
  .subst hmn;exact .inr ⟨0,e,ts,rfl,rfl,by simp[dR],by simp[Instr.findNow,Instr.sameNow,hk0],λy=>by simp[bZ]⟩
  have hb:(m==n)=false:=by simpa using hmn
  have hs:Instr.findNow (.int .i64) (.int .i64 n) (e::es) i=Instr.findNow (.int .i64) (.int .i64 n) es (i+1):=by simp only[Instr.findNow,hk0,Instr.sameNow,dK];rw[show(n==m)=false by simpa using λe=>hmn e.symm]
  rcases AJ (n:=n) (i+1) nz (λi e x h1 h2=>hk (i+1) e x AK AL)with⟨h1,h2,h3,h4⟩|⟨j,e2,t2,h1,h2,h3,h4,h5⟩
  .refine .inl ⟨by simp only[dR,hb,au];exact h1,hs.trans h2,λy=>by simp only[bZ,hb,au,h3,eR],λx hx=>?_⟩;rcases cn.1 hx with h|h
   .subst h;exact hmn
   exact h4 x h
  refine .inr ⟨j+1,e2,t2,by simpa using h1,by simpa using h2,by simp only[dR,hb,au];exact h3,?_,λy=>by simp only[bZ,hb,au,h5,uL]⟩;rw[hs,h4];congr 3;omega
def Zc0{G:Frm}{β:Nat->Option Nat}{n:Nat}{tm:List (Nat×PV)}{Z:List (Nat×Blk)}{a:Act}{w:World}(h:aE G β ⟨n,tm,Z⟩ a w){l L:Nat}{B B1 B2:Blk}(bL:Option Nat)(hL:L≠l)(h1000:1000<=L)(hl1000:(∀k es,B1 ≠ .row k es)/\∀cs,B1 ≠ .box cs)(hB2:∀cs,B2 ≠ .box cs)
 (hg:get Z l=some B) (hf1:∀i q,get tm i=some q->q.has L=false) (hf2:∀m y,get Z m=some y->m≠L/\y.has L=false)
 (hown1:∀b,aA (bH β L bL) w l B1 b->aA β w l B b) (hown2:∀b,aA (bH β L bL) w L B2 b->aA β w l B b/\¬aA (bH β L bL) w l B1 b)
 (hls:aV (ctx G β w Z) (ctx G (bH β L bL) w ((l,B1)::(L,B2)::bb [l] Z)) l)
 (hbr:(∀b,(ctx G β w Z).I b->(ctx G (bH β L bL) w ((l,B1)::(L,B2)::bb [l] Z)).I b/\w.heap[b]?=w.heap[b]?)->BR (ctx G (bH β L bL) w ((l,B1)::(L,B2)::bb [l] Z)) l B1/\BR (ctx G (bH β L bL) w ((l,B1)::(L,B2)::bb [l] Z)) L B2) :
 aE G (bH β L bL) ⟨n,tm,(l,B1)::(L,B2)::bb [l] Z⟩ a w:=by
 have hget:∀m o,get ((l,B1)::(L,B2)::bb [l] Z) m=some o->(m=l/\o=B1)\/(m=L/\o=B2)\/(m≠l/\m≠L/\get Z m=some o):=λm o hm=>by
  simp only[PW.get]at hm;cases hb:Nat.beq l m with
  |true=>
   simp only[hb,av,aq]at hm;exact .inl ⟨((aU _ _).1 hb).symm,hm.symm⟩
  |false=>
   simp only[hb,au]at hm;cases hb2:Nat.beq L m with
   |true=>
    simp only[hb2,av,aq]at hm;exact .inr (.inl ⟨((aU _ _).1 hb2).symm,hm.symm⟩)
   |false=>
    simp only[hb2,au]at hm;exact .inr (.inr ⟨λe=>by subst e;simp at hb,λe=>by subst e;simp at hb2,(kU hm).2⟩)
 have hgo:∀m,m≠l->m≠L->get ((l,B1)::(L,B2)::bb [l] Z) m=get Z m:=λm h1 h2=>by simp only[PW.get,ed (de h1),ed (de h2),au];exact Z6d AK
 have hO:∀m o,get ((l,B1)::(L,B2)::bb [l] Z) m=some o->∀b,aA (bH β L bL) w m o b->∃m0 o0,get Z m0=some o0/\aA β w m0 o0 b:=λm o hm b ho=>by
  rcases hget m o hm with⟨rfl,rfl⟩|⟨rfl,rfl⟩|⟨_,h2,h3⟩
  .exact⟨_,_,hg,hown1 b ho⟩
  .exact⟨_,_,hg,(hown2 b ho).1⟩
  exact⟨_,_,h3,ho.of (ff β bL h2) (λ_ _=>rfl)⟩
 have hI:∀b,(ctx G β w Z).I b->(ctx G (bH β L bL) w ((l,B1)::(L,B2)::bb [l] Z)).I b/\w.heap[b]?=w.heap[b]?:=λb hb=>⟨⟨hb.1,hb.2.1,λm o hm ho=>by obtain⟨m0,o0,h1,h2⟩:=hO m o hm b ho;exact hb.2.2 m0 o0 h1 h2⟩,rfl⟩;have hS:∀m,m≠L->aV (ctx G β w Z) (ctx G (bH β L bL) w ((l,B1)::(L,B2)::bb [l] Z)) m:=λm hm=>by
  by_cases e:m=l
  .subst e;exact hls
  exact aV.same (hgo m e hm) (ff β bL hm) (λ_ _=>rfl)
 obtain⟨hb1,hb2⟩:=hbr hI
 exact { defers:=h.defers,sz:=h.sz,base:=h.base,os:=h.os,tape:=h.tape,output:=h.output,old:=h.old,A:=h.A,gl:=h.gl,
         inj:=λm m' o o' b hm hm' hb hb'=>by
          rcases hget m o hm with⟨rfl,rfl⟩|⟨rfl,rfl⟩|⟨h1,h2,h3⟩<;>rcases hget m' o' hm' with⟨rfl,rfl⟩|⟨rfl,rfl⟩|⟨h1',h2',h3'⟩
          .rfl
          .exact absurd hb (hown2 b hb').2
          .exact absurd (h.inj _ _ _ _ b hg h3' (hown1 b hb) (hb'.of (ff β bL h2') (λ_ _=>rfl))).symm h1'
          .exact absurd hb' (hown2 b hb).2
          .rfl
          .exact absurd (h.inj _ _ _ _ b hg h3' (hown2 b hb).1 (hb'.of (ff β bL h2') (λ_ _=>rfl))).symm h1'
          .exact absurd (h.inj _ _ _ _ b h3 hg (hb.of (ff β bL h2) (λ_ _=>rfl)) (hown1 b hb')) h1
          .exact absurd (h.inj _ _ _ _ b h3 hg (hb.of (ff β bL h2) (λ_ _=>rfl)) (hown2 b hb').1) h1
          exact h.inj _ _ _ _ b h3 h3' (hb.of (ff β bL h2) (λ_ _=>rfl)) (hb'.of (ff β bL h2') (λ_ _=>rfl)),
         sep:=λm o b hm hb=>by obtain⟨m0,o0,h1,h2⟩:=hO m o hm b hb;exact h.sep m0 o0 b h1 h2,
         fix:=λm cs h1 hm=>by
          rcases hget m _ hm with⟨_,h2⟩|⟨h2,_⟩|⟨_,h2,h3⟩
          .exact absurd h2.symm (hl1000.2 cs)
          .omega
          rw[ff β bL h2];exact h.fix m cs h1 h3,
         row0:=λm k es' hm hgm=>by
          rcases hget m _ hgm with⟨_,h2⟩|⟨h2,_⟩|⟨h2,h3,_⟩
          .exact absurd h2.symm (hl1000.1 k es')
          .omega
          exact h.row0.one (hS m h3) hm hgm,
         blk:=λm o hm=>by
          rcases hget m o hm with⟨rfl,rfl⟩|⟨rfl,rfl⟩|⟨h1,h2,h3⟩
          .exact hb1
          .exact hb2
          exact BR.step hI (ff β bL h2) (λ_ _=>rfl) (λq hq=>hS q (λe=>by subst e;rw[(hf2 m o h3).2]at hq;cases hq)) (h.blk m o h3),
         tm:=λi p hp=>⟨(h.tm i p hp).1,VR.step hI p _ (λq hq=>hS q (λe=>by subst e;rw[hf1 i p hp]at hq;cases hq)) (h.tm i p hp).2⟩ }
def AN{c:Ctx}{l k:Nat}{hole:Option Int}{es:List (Int×List U)}(h:BR c l (.map (.rows k hole) es)) :
 ∃b ents clock,c.β l=some b/\c.w.heap[b]?=some (.map ents clock)/\MapR c (.rows k hole) ents.toList es:=h
def kD{w:World}{b k:Nat}{hole:Option Int}{es:List (Int×List U)}{ents:Array MapEntry}{clock:Nat}(hm:w.heap[b]?=some (.map ents clock)){d:Nat} :
 Blk.subs w b d (.map (.rows k hole) es)↔∃e len cap,e∈ents.toList/\MapEntry.inn hole e/\cap≠0/\e.val = .slice (some ⟨d,0,none⟩) len cap:=by
 constructor
 .rintro ⟨ents',clock',e,len,cap,h1,h2⟩;rw[hm]at h1;cases h1;exact⟨e,len,cap,h2⟩
 rintro⟨e,len,cap,h⟩;exact⟨ents,clock,e,len,cap,hm,h⟩
def aY.not_map{w:World}{d m:Nat}{ents:Array MapEntry}{clock:Nat}(h:aY w d m):w.heap[d]?≠some (.map ents clock):=by obtain⟨cs,e,fr,h1,_⟩:=h;rw[h1];intro h;cases h
def lW(e:MapEntry):MapEntry.inn none e:=λ_ _ h=>di
def Zc1{z:Value}(h:∀cs,z ≠ .agg cs):z.cells.toList=[z]:=by cases z<;>first|rfl|exact absurd rfl (h _)
def Zc2{P:Program}{e:TypeId}(hz:fk P e=some [.nils])(hz':(Z18 P false e).isSome=true)(w:World):∃a,(zeroValue e).run P w = .ok (.slice a 0 0) w:=by
 unfold fk at hz;obtain⟨z,hz1,hz2⟩:=dC.1 hz;have hna:∀cs,z ≠ .agg cs:=λcs h=>by subst h;unfold Z18 at hz';rw[hz1]at hz';simp at hz'
 rw[Zc1 hna]at hz2;have hvs:=iD (c:=⟨λ_=>none,λ_=>True,w,[]⟩) hz2;simp only[VRs,VR]at hvs;obtain⟨v,rest,hc,⟨a,rfl⟩,rfl⟩:=hvs;cases hc;obtain⟨i,h1,h3⟩:=dC.1 hz1;exact⟨a,by simp[zeroValue,typeInfo,h1,h3]⟩
section
variable {P:Program} {o:Oper} {ρ:List (Nat×PV)} {σ0:List (Nat×Blk)}
def Zc3{t kT e:TypeId}{x y:Operand}{l L k:Nat}{es:List (Int×List U)}{n:Int}(ho:o.op = .lookup t x y false)(ht:P.underlying t=some (.map kT e))(hk:P.underlying kT=some (.int .i64))(hz:fk P e=some [.nils])(hz':(Z18 P false e).isSome=true)
 (hx:af ρ x=some (.own l .map)) (hy:af ρ y=some (.t (.int .i64 n))) (hL:L≠l) (h1000:1000<=L) (hg0:get σ0 l=some (.map (.rows k none) es)) :
 OpF P o ρ σ0 [l] [l] (.osl L (rlk es n).length) [(l,.map (.rows k (some n)) es),(L,.row k (rlk es n))]:=
 opFn λG β n' tm Z A w hop hnd hfr hr=>by
  have hg:get Z l=some (.map (.rows k none) es):=(hnd l al).trans hg0;have e1:=hop x _ aK hx;have e2:=hop y _ aK hy;obtain⟨hf1,hf2⟩:=hfr L (.row k (rlk es n)) al (by simpa using hL);simp only[VR,Z9]at e1 e2;obtain⟨b0,hb0,hv⟩:=e1.1 _ es hg;obtain⟨b,ents,clock,hb,hm,hk0,hE,hnd2,huq⟩:=AN (hr.blk l _ hg);have:b0=b:=Mw
  subst this;have hm:w.heap[b0]?=some (.map ents clock):=hm;have hb:β l=some b0:=hb;have hkey:MapKept.IsKey (.int .i64) (.int .i64 n):=rfl;have key:∃v,(Instr.lookup t (.map (some b0)) (.int .i64 n) false).run P w = .ok v w/\RowV (ctx G β w Z) k (rlk es n) v /\
   ∀d len cap,cap≠0->v = .slice (some ⟨d,0,none⟩) len cap->∃(j:Nat) (e:MapEntry),ents.toList[j]?=some e/\e.key = .int .i64 n/\e.val=v:=by
   rcases AJ (n:=n) 0 hE.1 (λi e x h1 h2=>(hE.2 i e x h1 h2).1)with⟨h1,h2,_,_⟩|⟨j,e2,ts,h1,h2,h3,h4,_⟩
   .obtain⟨a,hz1⟩:=Zc2 hz hz' w;refine⟨.slice a 0 0,?_,?_,λd len cap h0 hs=>by cases hs;exact absurd rfl h0⟩
    .simp only[Instr.lookup,aN,cy ht,aO,jM hm,aT,kE hk hkey,kF hk h2,hz1];rfl
    have:rlk es n=[]:=by simp[rlk,h1]
    rw[this];exact⟨λ_ h=>(nomatch h),a,0,rfl,aW _,fW _,.inl rfl⟩
   obtain⟨hkj,rows,hts,hrow⟩:=hE.2 j e2 _ h2 h1;simp only at hkj hts;subst hts;refine⟨e2.val,?_,?_,λ_ _ _ _ _=>⟨j,e2,h2,hkj,rfl⟩⟩
   .simp only[Instr.lookup,aN,cy ht,aO,jM hm,aT,kE hk hkey,kF hk h4];rfl
   have:rlk es n=rows:=by simp[rlk,h3]
   rw[this];exact hrow al
  obtain⟨v,hrun,⟨hlen,a,cap,hv2,hc1,hc2,hcell⟩,hent⟩:=key;obtain⟨bL,hbL⟩:∃bL:Option Nat,(cap=0/\bL=none/\rlk es n=[])\/∃d m,cap≠0/\bL=some d/\a=some ⟨d,0,none⟩/\aY w d m/\cap*k<=m/\ao (ctx G β w Z).I w d (rlk es n) 0:=by
   by_cases h0:cap=0
   .exact⟨none,.inl ⟨h0,rfl,du O⟩⟩
   rcases hcell with h|⟨d,m,h1,h2,h3,h4⟩
   .exact absurd h h0
   exact⟨some d,.inr ⟨d,m,h0,rfl,h1,h2,h3,h4⟩⟩
  have hβl:bH β L bL l=some b0:=by rw[ff β bL (de hL)];exact hb
  have hown1:∀c,aA (bH β L bL) w l (.map (.rows k (some n)) es) c->aA β w l (.map (.rows k none) es) c:=λc hc=>by
   rcases hc with hc|⟨b1,h1,h2⟩
   .rw [hβl]at hc;exact .inl (hb.trans hc)
   rw[hβl]at h1;cases h1;obtain⟨e3,len,cap3,h3,h4,h5⟩:=(kD hm).1 h2;exact .inr ⟨b0,hb,(kD hm).2 ⟨e3,len,cap3,h3,lW _,h5⟩⟩
  have hrel:=Zc0 hr (L:=L) (B1 :=.map (.rows k (some n)) es) (B2 :=.row k (rlk es n)) bL hL h1000 ⟨λ_ _ h=>(nomatch h),λ_ h=>(nomatch h)⟩ (λ_ h=>(nomatch h)) hg hf1 hf2 hown1
   (λc hc=>by
    have hc:=aA.flat (o :=.row k (rlk es n)) trivial hc;rw[bI]at hc;rcases hbL with⟨_,h,_⟩|⟨d,m,h0,h1,h2,h3,_⟩
    .rw [h]at hc;cases hc
    obtain rfl:d=c:=by simpa[h1]using hc
    obtain⟨j,e2,hj,hkj,hval⟩:=hent d _ cap h0 (by rw[hv2,h2]);have hval2:e2.val = .slice (some ⟨d,0,none⟩) (rlk es n).length cap:=by rw[hval,hv2,h2]
    refine⟨.inr ⟨b0,hb,(kD hm).2 ⟨e2,_,cap,cj hj,lW _,h0,hval2⟩⟩,λhc=>?_⟩;rcases hc with hc|⟨b1,g1,g2⟩
    .rw [hβl]at hc;cases hc;exact h3.not_map hm
    rw[hβl]at g1;cases g1;obtain⟨e3,len,cap3,g3,g4,g5,g6⟩:=(kD hm).1 g2;obtain⟨q,hq,he3⟩:=lh g3;have hq2:ents.toList[q]?=some e3:=by rw[bn hq,he3]
    have:=huq j q e2 e3 d _ _ cap cap3 hj hq2 (lW _) (lW _) h0 g5 hval2 g6;subst this;rw[hj]at hq2;cases hq2;exact g4 n hkj rfl)
   ⟨λk' es' h=>by simp[ctx,PW.get]at h,λcs' h=>by simp[ctx,PW.get]at h,λk' q' es' h=>by simp[ctx,PW.get]at h,λmk' es' h=>⟨_,es,hg,ff β bL (de hL)⟩,λk' i' es' cs' h=>by simp[ctx,PW.get]at h⟩
   (λhI=>⟨⟨b0,ents,clock,hβl,hm,hk0,⟨hE.1,λi e x h1 h2=>by
    obtain⟨g1,rows,g2,g3⟩:=hE.2 i e x h1 h2;exact⟨g1,rows,g2,λ_=>(g3 al).step hI (λ_ _ _ _ _=>rfl)⟩⟩,hnd2,λi j ei ej d l1 l2 c1 c2 h1 h2 h3 h4=>huq i j ei ej d l1 l2 c1 c2 h1 h2 (lW _) (lW _)⟩,
    hk0,hlen,by
     rcases hbL with⟨_,h,h2⟩|⟨d,m,h0,h1,h2,h3,h4,h5⟩
     .exact .inl ⟨(bI β L bL).trans h,h2⟩
     refine .inr ⟨d,m,(bI β L bL).trans h1,h3,cX (gj k hc1) h4,ao.mono hI rfl _ _ h5⟩⟩)
  refine⟨v,w,?_,bH β L bL,hrel,?_⟩
  .simp only[execOp,ho,hv,e2,aN,hrun,aO,aT]
  simp only[VR];refine⟨λk' es' hg'=>?_,a,_,cap,hv2⟩;have hgL:get (ctx G (bH β L bL) w ([(l,Blk.map (.rows k (some n)) es),(L,.row k (rlk es n))]++bb [l] Z)).Z L=some (.row k (rlk es n)):=by simp[ctx,PW.get,ed (de hL)]
  rw[hgL]at hg';cases hg';refine⟨aW _,λ_=>⟨a,cap,hv2,hc1,hc2,?_⟩⟩;rcases hbL with⟨h0,h,_⟩|⟨d,m,h0,h1,h2,h3,h4,h5⟩
  .exact .inl ⟨h0,(bI β L bL).trans h⟩
  exact .inr ⟨d,m,h2,(bI β L bL).trans h1,h3,h4⟩
def Zc4{t kT e:TypeId}{x y z:Operand}{l L k m:Nat}{es:List (Int×List U)}{rows:List (List U)}{i:Int}(ho:o.op = .mapUpdate t x y z)(hd:o.dst=none)(ht:P.underlying t=some (.map kT e))(hk:P.underlying kT=some (.int .i64))
 (hx:af ρ x=some (.own l .map)) (hy:af ρ y=some (.t (.int .i64 i))) (hz:af ρ z=some (.osl L m)) (hL:L≠l) (hg0:get σ0 l=some (.map (.rows k (some i)) es)) (hgL0:get σ0 L=some (.row k rows)) (hm0:rows.length=m) :
 OpF P o ρ σ0 [l,L] [l,L] (.tup []) [(l,.map (.rows k none) (bZ es i [.sl rows]))]:=by
 rintro G n tm Z a w K Q hag hneed _ ⟨β,hr⟩ hK;have hg:get Z l=some (.map (.rows k (some i)) es):=(hneed l al).trans hg0;have hgL:get Z L=some (.row k rows):=(hneed L al).trans hgL0;have hop:∀x q,x∈o.op.operands->af ρ x=some q->VR (ctx G β w Z) q (a.eval x):=λx q hx hq=>hP hr hq (λt r ht hr'=>hag t r (ht▸hx) hr');have e1:=hop x _ aK hx;have e2:=hop y _ aK hy;have e3:=hop z _ aK hz;simp only[VR,Z9]at e1 e2 e3;obtain⟨b0,hb0,hv⟩:=e1.1 _ es hg;obtain⟨b,ents,clock,hb,hm,hk0,hE,hnd2,huq⟩:=AN (hr.blk l _ hg);have:b0=b:=Mw
 subst this;have hm:w.heap[b0]?=some (.map ents clock):=hm;have hb:β l=some b0:=hb;obtain⟨_,h3⟩:=e3.1 k rows hgL;obtain⟨ad,cap,hvz,hc1,hc2,hc3⟩:=h3 hm0.symm;obtain⟨_,hlen,hrowL⟩:=hr.blk L _ hgL;have hOL:∀d len cap,cap≠0->a.eval z = .slice (some ⟨d,0,none⟩) len cap->β L=some d:=λd len cap' h0 hs=>by
  rw[hvz]at hs;cases hs;rcases hc3 with⟨h,_⟩|⟨b,m,h,h2,_⟩
  .exact absurd h h0
  cases h;exact h2
 have hnb:∀m o,get Z m=some o->m≠l->∀d,aA β w m o d->d≠b0:=λm o h1 h2 d h3 h4=>h2 (hr.inj m l o _ d h1 hg h3 (.inl (h4▸hb)));have hkey:MapKept.IsKey (.int .i64) (.int .i64 i):=rfl;have hsubO:∀e3 d len cap,e3∈ents.toList->MapEntry.inn (some i) e3->cap≠0->e3.val = .slice (some ⟨d,0,none⟩) len cap->aA β w l (.map (.rows k (some i)) es) d:=λe3 d len cap h1 h2 h3 h4 =>.inr ⟨b0,hb,(kD hm).2 ⟨e3,len,cap,h1,h2,h3,h4⟩⟩;have hne0:∀d m,aY w d m->d≠b0:=λd m h e=>by subst e;exact h.not_map hm
 have main:∀(ents':Array MapEntry) (clock':Nat),ents'.toList.length=(bZ es i [U.sl rows]).length->((bZ es i [U.sl rows]).map Prod.fst).Nodup ->
  (∀(q:Nat) e,ents'.toList[q]?=some e->(∃x,(bZ es i [U.sl rows])[q]?=some x/\e.key = .int .i64 x.1/\((e.key = .int .i64 i/\e.val=a.eval z/\x=(i,[.sl rows]))\/(x.1≠i/\ents.toList[q]?=some e/\es[q]?=some x)))) ->
  (Instr.mapUpdate t (.map (some b0)) (.int .i64 i) (a.eval z)).run P w = .ok () { w with heap:=w.heap.setIfInBounds b0 (.map ents' clock') }->o.wp P a w K Q:=by
  intro ents' clock' hlen' hnod hent hrun;obtain⟨hs1,hs2⟩:=MapKept.heap_set (o':=Obj.map ents' clock') hm;have hinn:∀(q:Nat) e x,ents'.toList[q]?=some e->es[q]?=some x->x.1≠i->e.key = .int .i64 x.1->MapEntry.inn (some i) e:=λq e x _ _ h1 h2 n hn h3=>by rw[h2]at hn;cases hn;cases h3;exact h1 rfl
  have hnk:∀(q:Nat) e x,ents.toList[q]?=some e->es[q]?=some x->e.key = .int .i64 x.1:=λq e x h1 h2=>(hE.2 q e x h1 h2).1;have hOW:∀(q:Nat) e d len cap,ents'.toList[q]?=some e->cap≠0->e.val = .slice (some ⟨d,0,none⟩) len cap->∃m o,m∈[l,L]/\get Z m=some o/\aA β w m o d:=λq e d len cap h1 h2 h3=>by
   obtain⟨x,hx1,hx2,hx3⟩:=hent q e h1;rcases hx3 with⟨_,h5,_⟩|⟨h4,h5,h6⟩
   .exact⟨L,_,by simp,hgL,.inl (hOL d len cap h2 (h5▸h3))⟩
   exact⟨l,_,by simp,hg,hsubO e d len cap (cj h5) (hinn q e x h1 h6 h4 hx2) h2 h3⟩
  have habs:=hQ hr { w with heap:=w.heap.setIfInBounds b0 (.map ents' clock') } (some b0) l (.map (.rows k none) (bZ es i [.sl rows])) [l,L] al rfl rfl rfl al
   (λb2 _ hn=>hs2 b2 (λe=>hn l _ al hg AO)) (λc hc =>.inr ?_) (.inl ?_) (λhI=>⟨b0,ents',clock',bI _ _ _,hs1,hk0,⟨hlen',λq e x h1 h2=>?_⟩,hnod,?_⟩)
  .unfold Oper.wp;have hrun2:(execOp a.eval o).run P w = .ok .skip { w with heap:=w.heap.setIfInBounds b0 (.map ents' clock') }:=by
    simp only[execOp,ho,hv,e2,aN,hrun,aO,aT]
   rw[hrun2,vj,hd];have:=hK (.tuple #[]) { w with heap:=w.heap.setIfInBounds b0 (.map ents' clock') } ⟨_,habs,by simp[VR,VRs]⟩;rw[hd]at this;exact this
  .rcases hc with hc|⟨b1,h1,h2⟩
   .rw [bI]at hc;cases hc;exact⟨l,_,by simp,hg,.inl hb⟩
   rw[bI]at h1;cases h1;obtain⟨e,len,cap,h3,_,h4,h5⟩:=(kD hs1).1 h2;obtain⟨q,hq,he⟩:=lh h3;exact hOW q e c len cap (by rw[bn hq,he]) h4 h5
  .have hgs:get (ctx G (bH β l (some b0)) { w with heap:=w.heap.setIfInBounds b0 (.map ents' clock') } ((l,.map (.rows k none) (bZ es i [.sl rows]))::bb [l,L] Z)).Z l=some (.map (.rows k none) (bZ es i [.sl rows])):=by simp[ctx,PW.get]
   refine⟨λk' es' h=>?_,λcs' h=>?_,λk' q' es' h=>?_,λk' es' h=>?_,λk' i' es' cs' h=>?_⟩
   .rw [hgs]at h;cases h
   .rw [hgs]at h;cases h
   .rw [hgs]at h;cases h
   .exact⟨_,es,hg,by show bH β l (some b0) l=β l;rw[bI];exact hb.symm⟩
   rw[hgs]at h;cases h
  .obtain⟨x',hx1,hx2,hx3⟩:=hent q e h1;rw[h2]at hx1;cases hx1;refine⟨hx2,?_⟩;rcases hx3 with⟨_,h5,h6⟩|⟨h4,h5,h6⟩
   .subst h6;refine⟨rows,rfl,λ_=>⟨hlen,ad,cap,by rw[h5,hvz,hm0],by omega,hc2,?_⟩⟩;rcases hc3 with⟨h,_⟩|⟨b,mm,h,h2,h3,h4⟩
    .exact .inl h
    refine .inr ⟨b,mm,h,h3.of_heap (hs2 b (hne0 b mm h3)),h4,?_⟩;rcases hrowL with⟨g1,g2⟩|⟨b',m',g1,g2,g3,g4⟩
    .rw [g2];trivial
    have:b'=b:=by have:=g1.symm.trans h2;simpa using this
    subst this;exact ao.mono hI (hs2 b' (hne0 b' m' g2)) _ _ g4
   obtain⟨g1,rows2,g2,g3⟩:=hE.2 q e x h5 h6;refine⟨rows2,g2,λ_=>(g3 Mx).step hI (λd len cap h7 h8=>hs2 d ?_)⟩;intro hdb;have:=hsubO e d len cap (cj h5) (hinn q e x h1 h6 h4 hx2) h7 h8;subst hdb;obtain⟨_,a2,cap2,k1,_,_,k4⟩:=g3 Mx;rw[h8]at k1;cases k1;rcases k4 with k4|⟨d2,m2,k5,k6,_⟩
   .exact h7 k4
   cases k5;exact hne0 _ _ k6 rfl
  intro p q ep eq d l1 l2 c1 c2 h1 h2 _ _ h3 h4 h5 h6;obtain⟨xp,hp1,hp2,hp3⟩:=hent p ep h1;obtain⟨xq,hq1,hq2,hq3⟩:=hent q eq h2;rcases hp3 with⟨_,hp4,hp5⟩|⟨hp4,hp5,hp6⟩<;>rcases hq3 with⟨_,hq4,hq5⟩|⟨hq4,hq5,hq6⟩
  .subst hp5;subst hq5;have hpl:=(aJ.1 hp1).1;have hql:=(aJ.1 hq1).1;have f1:((bZ es i [U.sl rows]).map Prod.fst)[p]?=some i:=by rw[fX,hp1];rfl
   have f2:((bZ es i [U.sl rows]).map Prod.fst)[q]?=some i:=by rw[fX,hq1];rfl
   exact(List.getElem?_inj (by simpa using hpl) hnod).1 (f1.trans f2.symm)
  .exact absurd (hr.inj L l _ _ d hgL hg (.inl (hOL d l1 c1 h3 (hp4▸h5))) (hsubO eq d l2 c2 (cj hq5) (hinn q eq xq h2 hq6 hq4 hq2) h4 h6)) hL
  .exact absurd (hr.inj L l _ _ d hgL hg (.inl (hOL d l2 c2 h4 (hq4▸h6))) (hsubO ep d l1 c1 (cj hp5) (hinn p ep xp h1 hp6 hp4 hp2) h3 h5)) hL
  exact huq p q ep eq d l1 l2 c1 c2 hp5 hq5 (hinn p ep xp h1 hp6 hp4 hp2) (hinn q eq xq h2 hq6 hq4 hq2) h3 h4 h5 h6
 rcases AJ (n:=i) 0 hE.1 (λi e x h1 h2=>(hE.2 i e x h1 h2).1)with⟨h1,h2,h3,h4⟩|⟨j,e2',ts,h1,h2,h3,h4,h5⟩
 .refine main (ents.push { key :=.int .i64 i,val:=a.eval z,born:=clock }) (clock+1) ?_ ?_ (λq e he=>?_) ?_
  .rw [Array.toList_push,h3];simpa using hE.1
  .rw [h3,eL,List.nodup_append];refine⟨hnd2,by simp,λx hx y hy=>?_⟩;obtain⟨p,hp,rfl⟩:=gJ.1 hx;simp only[cw,fI,gC]at hy;rw[hy];exact h4 p hp
  .rw [Array.toList_push]at he;rw[h3];rcases dY q ents.toList.length with hq|hq
   .rw [dy hq]at he;obtain⟨x,hx⟩:∃x,es[q]?=some x:=⟨_,bn vk⟩;exact⟨x,by rw[dy vk];exact hx,(hE.2 q e x he hx).1,.inr ⟨h4 x (cj hx),he,hx⟩⟩
   rw[dU hq]at he;have hq0:q-ents.toList.length=0:=by have:=(aJ.1 he).1;simp at this;omega
   rw[hq0]at he;simp only[js,aq]at he;subst he;exact⟨(i,[.sl rows]),by rw[dU vk,<- hE.1,hq0];rfl,rfl,.inl ⟨rfl,rfl,rfl⟩⟩
  simp only[Instr.mapUpdate,aN,cy ht,aO,jM hm,kE hk hkey,kF hk h2,vl _ hm]
 have hke:e2'.key = .int .i64 i:=(hE.2 j e2' _ h2 h1).1;refine main (ents.modify j λx=>{ x with key :=.int .i64 i,val:=a.eval z }) clock ?_ ?_ (λq e he=>?_) ?_
 .rw [Array.toList_modify,h5];simpa using hE.1
 .rw [Mv i _ es ⟨_,cj h1,rfl⟩];exact hnd2
 .rw [Array.toList_modify,List.getElem?_modify]at he;rw[h5];by_cases hqj:j=q
  .subst hqj;rw[h2]at he;simp only[dK,Option.map_eq_map,dW,aq]at he;subst he;exact⟨(i,[.sl rows]),kG (aJ.1 h1).1,rfl,.inl ⟨rfl,rfl,rfl⟩⟩
  have he2:ents.toList[q]?=some e:=by simpa[hqj]using he
  have hq:=(aJ.1 he2).1;obtain⟨x,hx⟩:∃x,es[q]?=some x:=⟨_,bn vk⟩;refine⟨x,by rw[iG hqj];exact hx,(hE.2 q e x he2 hx).1,.inr ⟨λhxi=>hqj ?_,he2,hx⟩⟩;have f1:(es.map Prod.fst)[q]?=some i:=by rw[fX,hx,dW,hxi]
  have f2:(es.map Prod.fst)[j]?=some i:=by rw[fX,h1];rfl
  exact(List.getElem?_inj (by simpa using(aJ.1 h1).1) hnd2).1 (f2.trans f1.symm)
 have hej:((ents[j]?).map (·.key)).getD (.int .i64 i) = .int .i64 i:=by rw[<- vm,h2,dW,gD,hke]
 rw[aM]at h4;simp only[Instr.mapUpdate,aN,cy ht,aO,jM hm,kE hk hkey,kF hk h4,hej,MapKept.run_keyThatStays hkey,vl _ hm]
end
def Wk.tomr{st:St}{l k:Nat}{mk:MK}(hk:0<k)(hmk:∃ag,mk = .v ag)(hg:get st.Z l=some (.map mk [])):Wk st ⟨st.n,st.tm,(l,.map (.rows k none) [])::bb [l] st.Z⟩:=by
 rintro G a w ⟨β,hr⟩;obtain⟨n,tm,Z⟩:=st;have hg:get Z l=some (.map mk []):=hg;obtain⟨ag,rfl⟩:=hmk;obtain⟨b,ents,clock,hb,hm,he⟩:=hr.blk l _ hg;have hm:w.heap[b]?=some (.map ents clock):=hm;have hb:β l=some b:=hb;have h0:ents.toList=[]:=du (by rw[ea.length (show ea _ ag ents.toList []from he)];rfl);have:=hQ hr w (some b) l (.map (.rows k none) []) [l] (aW _) rfl rfl rfl al (λ_ _ _=>rfl) (λc hc =>.inr ⟨l,_,by simp,hg,?_⟩) (.inl ?_) (λhI=>⟨b,ents,clock,bI _ _ _,hm,hk,⟨by rw[h0];rfl,λi e x h1=>by rw[h0]at h1;simp at h1⟩,List.nodup_nil,λi j ei ej d l1 l2 c1 c2 h1=>by rw[h0]at h1;simp at h1⟩)
 .exact⟨_,this⟩
 .rcases hc with hc|⟨b1,h1,h2⟩
  .rw [bI]at hc;exact .inl (hb.trans hc)
  rw[bI]at h1;cases h1;obtain⟨e,_,_,h3,_⟩:=(kD hm).1 h2;rw[h0]at h3;cases h3
 refine⟨λk' es' h=>by simp[ctx,PW.get]at h,λcs' h=>by simp[ctx,PW.get]at h,λk' q' es' h=>by simp[ctx,PW.get]at h,λmk' es' h=>⟨_,_,hg,by show bH β l (some b) l=β l;rw[bI,hb]⟩,λk' i' es' cs' h=>by simp[ctx,PW.get]at h⟩
def Wk.frzm{st:St}{l k:Nat}{es:List (Int×List U)}(hg:get st.Z l=some (.map (.rows k none) es)):Wk st ⟨st.n,st.tm,(l,.map (.v false) es)::bb [l] st.Z⟩:=by
 rintro G a w ⟨β,hr⟩;obtain⟨n,tm,Z⟩:=st;have hg:get Z l=some (.map (.rows k none) es):=hg;obtain⟨b,ents,clock,hb,hm,hk0,hE,hnd,huq⟩:=AN (hr.blk l _ hg);have hm:w.heap[b]?=some (.map ents clock):=hm;have hb:β l=some b:=hb;have key:∀{es':List MapEntry} {xs:List (Int×List U)} {c:Ctx},es'.length=xs.length->(∀(i:Nat) e x,es'[i]?=some e->xs[i]?=some x->e.key = .int .i64 x.1/\VR c (mvP false x.2) e.val)->ea c false es' xs:=by
  intro es';induction es' with
  |nil=>intro xs c hl _;exact du hl.symm
  |cons e es' ih=>
   intro xs c hl h
   match xs,hl with
   |(n,ts)::r,hl=>
    obtain⟨h1,h2⟩:=h 0 e (n,ts) rfl rfl;exact⟨n,ts,r,rfl,h1,h2,ih nz (λi e x h3 h4=>h (i+1) e x (by simpa using h3) (by simpa using h4))⟩
 have:=hQ hr w (some b) l (.map (.v false) es) [l] (aW _) rfl rfl rfl al (λ_ _ _=>rfl) (λc hc =>.inr ⟨l,_,by simp,hg,?_⟩) (.inl ?_) (λhI=>⟨b,ents,clock,bI _ _ _,hm,key hE.1 λi e x h1 h2=>?_⟩)
 .exact⟨_,this⟩
 .have hc:=aA.flat (o :=.map (.v false) es) trivial hc;rw[bI]at hc;exact .inl (hb.trans hc)
 .refine⟨λk' es' h=>by simp[ctx,PW.get]at h,λcs' h=>by simp[ctx,PW.get]at h,λk' q' es' h=>by simp[ctx,PW.get]at h,λmk' es' h=>⟨_,_,hg,by show bH β l (some b) l=β l;rw[bI,hb]⟩,λk' i' es' cs' h=>by simp[ctx,PW.get]at h⟩
 obtain⟨g1,rows,g2,g3⟩:=hE.2 i e x h1 h2;refine⟨g1,?_⟩;obtain⟨_,ad,cap,g4,g5,g6,g7⟩:=g3 al;rw[g2];show VR _ (.t (.sl rows)) _;simp only[VR,Z9];refine⟨ad,cap,g4,g5,g6,?_⟩;by_cases h0:cap=0
 .exact .inl (du O)
 rcases g7 with g7|⟨d,m,k1,k2,k3,k4⟩
 .exact absurd g7 h0
 have hO:aA β w l (.map (.rows k none) es) d :=.inr ⟨b,hb,(kD hm).2 ⟨e,_,cap,cj h1,lW _,h0,by rw[g4,k1]⟩⟩;have hsep:=hr.sep l _ d hg hO;refine .inr ⟨d,0,k1,⟨hsep.1,by rcases hsep.2 with h|h;exact .inl h;exact .inr (.inr h),λm o hm2 ho=>?_⟩,ao.mono hI rfl _ _ k4⟩;have hm2:get ((l,Blk.map (.v false) es)::bb [l] Z) m=some o:=hm2;simp only[PW.get]at hm2;cases hbq:Nat.beq l m with
 |true=>have:l=m:=(aU _ _).1 hbq;subst this;simp only[hbq,av,aq]at hm2;subst hm2;have ho:=aA.flat (o :=.map (.v false) es) trivial ho;rw[bI]at ho;cases ho;exact k2.not_map hm
 |false=>
  simp only[hbq,au]at hm2;have hml:m≠l:=λe=>by subst e;simp at hbq
  exact hml (hr.inj m l o _ d (kU hm2).2 hg (ho.of (ff β _ hml) (λ_ _=>rfl)) hO)
end Go.PW
open Go Go.Proofs
namespace Go.PW
structure Z4b (P:Program) (f:FuncId) (e:TypeId) (z:Value) (bytes:Nat):Prop where
 ok:FnOk P f
 zc:z.cells.size=1
 fits:∀{n:Nat},n*bytes<=140737488355328->n<=140737488355328
 shift:∀(b n c i vb vc:Nat) (cs:List Value) (v:Value) (w:World),i<n->n+1<=c->c<=9223372036854775807->vb≠b->cs.length=n ->
  (∀j u,cs[j]?=some u->w.cell? ⟨b,j,none⟩=some u)->(∀j,j<n+1->(w.cell? ⟨b,j,none⟩).isSome=true)->(∀j,j<n+1->w.frozen? ⟨b,j,none⟩=false)->w.cell? ⟨vb,0,none⟩=some v->(∀u∈cs,u.oneCell'=true)->v.oneCell'=true ->
  ∀(tA tB:TypeId) (kA kB:Nat),w.shape? vb=some (tA,kA)->w.shape? b=some (tB,kB)->kB≠0->w.frozen? ⟨vb,0,none⟩=false->w.frozen? ⟨vb,kA,none⟩=false ->
  Calls P f #[.slice (some ⟨b,0,none⟩) n c,.int .i64 i,.slice (some ⟨vb,0,none⟩) 1 vc] w λx w'=>x = .returned (.slice (some ⟨b,0,none⟩) (n+1) c)/\w'=(w.drew.setCells b (i+1) (cs.drop i)).setCells b i [v]
 room:∀(b n c vb vc:Nat) (v:Value) (w:World),n+1<=c->c<=9223372036854775807->(w.cell? ⟨b,n,none⟩).isSome=true->w.frozen? ⟨b,n,none⟩=false->w.cell? ⟨vb,0,none⟩=some v->v.oneCell'=true ->
  Calls P f #[.slice (some ⟨b,0,none⟩) n c,.int .i64 n,.slice (some ⟨vb,0,none⟩) 1 vc] w λx w'=>x = .returned (.slice (some ⟨b,0,none⟩) (n+1) c)/\w'=w.setCells b n [v]
 egrow:∀(base:Option Addr) (n c vb vc:Nat) (cs:List Value) (v:Value) (w:World),n<=c->c<n+1->(n+1)*bytes<=140737488355328->cs.length=n->(base=none->n=0) ->
  (∀a,base=some a->∀j u,cs[j]?=some u->w.cell? (a.add j)=some u)->w.cell? ⟨vb,0,none⟩=some v->v.oneCell'=true ->
  Calls P f #[.slice base n c,.int .i64 n,.slice (some ⟨vb,0,none⟩) 1 vc] w λx w'=>x = .returned (.slice (some ⟨w.heap.size,0,none⟩) (n+1) (grownCap w (n+1) c e)) /\
   w'=w.drew.alloc (.cells ((cs++[v]).toArray++Builtin.zeroCells z.cells (grownCap w (n+1) c e-(n+1))) e)
 grow:∀(b n c i vb vc:Nat) (cs:List Value) (v:Value) (w:World),i<n->n<=c->c<n+1->(n+1)*bytes<=140737488355328->cs.length=n ->
  (∀j u,cs[j]?=some u->w.cell? ⟨b,j,none⟩=some u)->w.cell? ⟨vb,0,none⟩=some v->(∀u∈cs,u.oneCell'=true)->v.oneCell'=true ->
  Calls P f #[.slice (some ⟨b,0,none⟩) n c,.int .i64 i,.slice (some ⟨vb,0,none⟩) 1 vc] w λx w'=>x = .returned (.slice (some ⟨w.heap.size,0,none⟩) (n+1) (grownCap w (n+1) c e)) /\
   w'=(((w.alloc (.cells ((cs.take i).toArray++Builtin.zeroCells z.cells (n+1-i)++Builtin.zeroCells z.cells (grownCap w (n+1) c e-(n+1))) e)).drew.setCells w.heap.size i [v]).drew).setCells w.heap.size (i+1) (cs.drop i)
def Z2i{w:World}{vb:Nat}{v:Value}(h:w.cell? ⟨vb,0,none⟩=some v):∀j u,[v][j]?=some u->w.cell? ⟨vb,0+j,none⟩=some u:=λj u hj=>by
 cases j with
 |zero=>simp at hj;subst hj;exact h
 |succ j=>simp at hj
def Z2j{v:Value}(h:v.oneCell'=true):∀u∈[v],u.oneCell'=true:=λu hu=>by rw[gC]at hu;rw[hu];exact h
def Z4b.str{P:Program}{ρ:Go.Shelf.Ren}(L:Lays2.n22 P ρ):Z4b P (ρ.f 22) (ρ.t 9) (.string ⟨#[]⟩) 16 where
 ok:=⟨_,_,L.f22,rfl,by kernel_rfl⟩
 zc:=rfl
 fits:=λh=>bg
 shift:=λb n c i vb vc cs v w h1 h2 h3 h4 h5 h6 h7 h8 h9 h10 h11 tA tB kA kB h12 h13 h14 h15 h16=>by
  have:=Any2.slices_Insert_string_shift L b 0 n c i vb 0 1 vc cs [v] w h1 Nat.one_pos h2 h3 h4 h5 rfl wm (by simpa only[aM]using h7) (by simpa only[aM]using h8) (Z2i h9) h10 (Z2j h11) tA tB kA kB h12 h13 h14 h15 h16
  simpa only[aM]using this
 room:=λb n c vb vc v w h1 h2 h3 h4 h5 h6=>by
  have:=Any2.slices_Insert_string_end_room L b 0 n c vb 0 1 vc [v] w Nat.one_pos h1 h2 rfl (λj hj=>by rw[show 0+n+j=n by omega];exact h3) (λj hj=>by rw[show 0+n+j=n by omega];exact h4) (Z2i h5) (Z2j h6)
  simpa only[aM]using this
 egrow:=λbase n c vb vc cs v w h1 h2 h3 h4 h5 h6 h7 h8=>Any2.slices_Insert_string_end_grow L base n c vb 0 1 vc cs [v] w Nat.one_pos h1 h2 h3 h4 rfl h5 h6 (Z2i h7) (Z2j h8)
 grow:=λb n c i vb vc cs v w h1 h2 h3 h4 h5 h6 h7 h8 h9=>Any2.slices_Insert_string_grow L b 0 n c i vb 0 1 vc cs [v] w h1 Nat.one_pos h2 h3 h4 h5 rfl wm (Z2i h7) h8 (Z2j h9)
def Z4b.int{P:Program}{ρ:Go.Shelf.Ren}(L:Lays2.n21 P ρ):Z4b P (ρ.f 21) (ρ.t 3) (.int .i64 0) 8 where
 ok:=⟨_,_,L.f21,rfl,by kernel_rfl⟩
 zc:=rfl
 fits:=λh=>bg
 shift:=λb n c i vb vc cs v w h1 h2 h3 h4 h5 h6 h7 h8 h9 h10 h11 tA tB kA kB h12 h13 h14 h15 h16=>by
  have:=Any2.slices_Insert_int_shift L b 0 n c i vb 0 1 vc cs [v] w h1 Nat.one_pos h2 h3 h4 h5 rfl wm (by simpa only[aM]using h7) (by simpa only[aM]using h8) (Z2i h9) h10 (Z2j h11) tA tB kA kB h12 h13 h14 h15 h16
  simpa only[aM]using this
 room:=λb n c vb vc v w h1 h2 h3 h4 h5 h6=>by
  have:=Any2.slices_Insert_int_end_room L b 0 n c vb 0 1 vc [v] w Nat.one_pos h1 h2 rfl (λj hj=>by rw[show 0+n+j=n by omega];exact h3) (λj hj=>by rw[show 0+n+j=n by omega];exact h4) (Z2i h5) (Z2j h6)
  simpa only[aM]using this
 egrow:=λbase n c vb vc cs v w h1 h2 h3 h4 h5 h6 h7 h8=>Any2.slices_Insert_int_end_grow L base n c vb 0 1 vc cs [v] w Nat.one_pos h1 h2 h3 h4 rfl h5 h6 (Z2i h7) (Z2j h8)
 grow:=λb n c i vb vc cs v w h1 h2 h3 h4 h5 h6 h7 h8 h9=>Any2.slices_Insert_int_grow L b 0 n c i vb 0 1 vc cs [v] w h1 Nat.one_pos h2 h3 h4 h5 rfl wm (Z2i h7) h8 (Z2j h9)
def TE:∀(es:List (List U)),(∀el,el∈es->el.length=1)->∃ts:List U,es=ts.map λt=>[t]
 |[],_=>⟨[],rfl⟩
 |el::es,h=>by
  obtain⟨ts,rfl⟩:=TE es (λx hx=>h x (cK _ hx));have h1:=h el al
  match el,h1 with
  |[t],_=>exact⟨t::ts,rfl⟩
def Z9s:∀(ts:List U),(ts.map λt=>[t]).flatten=ts
 |[]=>rfl
 |t::ts=>by simp[Z9s ts]
def ZfV{es:List (List U)}(h:∀el,el∈es->el.length=1)(i:Nat)(x:U):(es.take i++[x]::es.drop i).flatten=es.flatten.take i++x::es.flatten.drop i:=by obtain⟨ts,rfl⟩:=TE es h;rw[Z9s,oh,gT,<- ny,<- qg,Z9s,Z9s];rfl
abbrev fS(es:List (List U))(x:U):List (Nat×Blk):=[(0,.row 1 es),(1,.row 1 [[x]])]
abbrev insA(es:List (List U))(i:Nat):List PV:=[.osl 0 es.length,.t (.int .i64 i),.osl 1 1]
abbrev insE(es:List (List U))(i:Nat)(x:U):List (List U):=es.take i++[x]::es.drop i
def wH{A:Nat->Prop}{β:Nat->Option Nat}{w w':World}{es:List (List U)}{i:Nat}{x:U}{a:Act}(hr:aE (b9 β (fS es x) A w) β ⟨3,idx 0 (insA es i),fS es x⟩ a w)
 {cs:List Value} {v:Value} (hcs:VRs (ctx (b9 β (fS es x) A w) β w (fS es x)) (es.flatten.map .t) cs) (hv:VRs (ctx (b9 β (fS es x) A w) β w (fS es x)) [.t x] [v]) (h1:∀el,el∈es->el.length=1)
 {bN mN capN:Nat} (hsz:w.heap.size<=w'.heap.size) (hos:w'.os=w.os) (htp:w'.tape=w.tape) (hout:w'.output=w.output) (hheap:∀d,d<w.heap.size->β 0≠some d->w'.heap[d]?=w.heap[d]?)
 (hbN:(w.heap.size<=bN/\bN<w'.heap.size)\/β 0=some bN) (hrow:aY w' bN mN) (hcap:es.length+1<=capN) (hcm:capN<=mN) (hmax:capN<=maxLen)
 (hcells:∀j u,(cs.take i++v::cs.drop i)[j]?=some u->w'.cell? ⟨bN,j,none⟩=some u) (hi:i<=es.length) {r:Value} (hr0:r = .slice (some ⟨bN,0,none⟩) (es.length+1) capN) :
 ∃β',aE (b9 β (fS es x) A w) β' ⟨1,[(0,.osl 5000 (es.length+1))],[(5000,.row 1 (insE es i x))]⟩ ⟨#[r],[]⟩ w':=by
 have hlen:(insE es i x).length=es.length+1:=by simp[insE];omega
 have habs:=hQ hr w' (some bN) 5000 (.row 1 (insE es i x)) [0,1] hsz hos htp hout ⟨by simp,.inl O⟩ (λb' hb' hn=>hheap b' hb' (λe=>hn 0 _ al rfl (.inl e))) (λc hc=>?_) (.inr ⟨λj q h=>?_,λm y h=>?_⟩) (λhI=>?_)
 .have hd:bb [0,1] (fS es x)=[]:=rfl;rw[hd]at habs;refine⟨_,{ defers:=rfl,sz:=by simp,base:=habs.base,os:=habs.os,tape:=habs.tape,output:=habs.output,old:=habs.old,A:=habs.A,gl:=habs.gl,inj:=habs.inj,sep:=habs.sep,fix:=habs.fix,row0:=habs.row0,blk:=habs.blk,tm:=λj p hp=>?_ }⟩
  match j,hp with
  |0,hp=>
   simp only[PW.get,Nat.beq,av,aq]at hp;subst hp;subst hr0;refine⟨nP,?_⟩;simp only[VR];refine⟨λk es' hg'=>?_,_,_,_,rfl⟩;have:some (Blk.row k es')=some (.row 1 (insE es i x)):=bP (bQ hg') gO;cases this;exact⟨by omega,λ_=>⟨_,capN,rfl,hcap,hmax,.inr ⟨bN,mN,rfl,bI β 5000 (some bN),hrow,by omega⟩⟩⟩
  |j+1,hp=>have h:(none:Option PV)=some p:=hp;cases h
 .have h:=aA.flat (by simp[Blk.flat]) hc;rw[bI]at h;cases h;rcases hbN with h|h
  .exact .inl h
  exact .inr ⟨0,_,by simp,rfl,.inl h⟩
 .rw [Z6u]at h
  match j,h with
  |0,h=>simp at h;subst h;rfl
  |1,h=>simp at h;subst h;rfl
  |2,h=>simp at h;subst h;rfl
  |j+3,h=>simp at h
 .match m,h with
  |0,h=>have h:some (Blk.row 1 es)=some y:=h;cases h;rfl
  |1,h=>have h:some (Blk.row 1 [[x]])=some y:=h;cases h;rfl
  |m+2,h=>have h:(none:Option Blk)=some y:=h;cases h
 .have hv':=VRs.step hI _ _ (λm hm=>by rw[ib]at hm;cases hm) hcs;have hx':=VRs.step hI _ _ (λm hm=>by simp[PV.hasAny,PV.has]at hm) hv;have hall:=(VRs.take i hv').append (hx'.append (VRs.drop i hv'));refine⟨nP,λel hel=>?_,.inr ⟨bN,mN,bI β 5000 (some bN),hrow,by omega,ao.flat.2 ?_⟩⟩
  .simp only[insE,cD,cn]at hel;rcases hel with h|rfl|h
   .exact h1 el (iw h)
   .rfl
   exact h1 el (ko h)
  rw[ZfV h1];refine iH (vs:=cs.take i++v::cs.drop i) (off:=0) ?_ (λj u hj=>by rw[aM];exact hcells j u hj);simpa only[eL,cw,ny,qg,List.singleton_append]using hall
def Cu{cs:List Value}{v:Value}{i:Nat}(hi:i<=cs.length)(j:Nat)(u:Value)(h:(cs.take i++v::cs.drop i)[j]?=some u):(j<i/\cs[j]?=some u)\/(j=i/\u=v)\/(i<j/\cs[j-1]?=some u):=by
 rcases Nat.lt_trichotomy j i with h1|h1|h1
 .rw [dy aZ,jP,aP h1]at h;exact .inl ⟨h1,h⟩
 .rw [dU aZ,fH,show j-min i cs.length=0 by omega]at h;simp at h;exact .inr (.inl ⟨h1,h.symm⟩)
 rw[dU aZ,fH,show j-min i cs.length=(j-i-1)+1 by omega,List.getElem?_cons_succ,j2,show i+(j-i-1)=j-1 by omega]at h;exact .inr (.inr ⟨h1,h⟩)
def Z4b.fn{P:Program}{f:FuncId}{e:TypeId}{z:Value}{bytes:Nat}(R:Z4b P f e z bytes)(es:List (List U))(x:U)(i:Nat)(hi:i<=es.length)(hby:(es.length+1)*bytes<=140737488355328) :
 FnG P f (fS es x) (insA es i) [(5000,.row 1 (insE es i x))] (.osl 5000 (es.length+1)):=by
 refine⟨R.ok,λA β w vals hl hr=>?_⟩;obtain⟨v0,v1,v2,rfl⟩:∃v0 v1 v2,vals=[v0,v1,v2]:=by
  match vals,hl with
  |[a,b,c],_=>exact⟨a,b,c,rfl⟩
 have h63:=R.fits hby
 have t0:=(hr.tm 0 (.osl 0 es.length) rfl).2;have t1:=(hr.tm 1 (.t (.int .i64 i)) rfl).2;have t2:=(hr.tm 2 (.osl 1 1) rfl).2;have e0:(Act.tmps ⟨[v0,v1,v2].toArray,[]⟩).getD 0 undef=v0:=rfl;have e1:(Act.tmps ⟨[v0,v1,v2].toArray,[]⟩).getD 1 undef=v1:=rfl;have e2:(Act.tmps ⟨[v0,v1,v2].toArray,[]⟩).getD 2 undef=v2:=rfl;rw[e0]at t0;rw[e1]at t1;rw[e2]at t2;simp only[VR,Z9]at t0 t1 t2;obtain⟨hk0,h1,hb0⟩:=hr.blk 0 (.row 1 es) rfl;obtain⟨_,_,hb1⟩:=hr.blk 1 (.row 1 [[x]]) rfl;obtain⟨a0,cap,hv0,hnc,hcm,hq0⟩:=(t0.1 1 es rfl).2 rfl;obtain⟨a2,cap2,hv2,hnc2,_,hq2⟩:=(t2.1 1 [[x]] rfl).2 rfl;rcases hb1 with⟨_,h⟩|⟨vb,m2,hvb,hrow2,hm2,hel2⟩
 .cases h
 rcases hq2 with⟨h,_⟩|⟨vb',m2',ha2,hvb',_,_⟩
 .omega
 have:vb'=vb:=by have:=hvb'.symm.trans hvb;simpa using this
 subst this;subst ha2;obtain⟨xs,hxs,hxc⟩:=Z6.vals (c:=ctx (b9 β (fS es x) A w) β w (fS es x)) (ao.flat.1 hel2);obtain⟨v,rfl⟩:∃v,xs=[v]:=by
  have:=hxs.length
  match xs,this with
  |[v],_=>exact⟨v,rfl⟩
 have hx0:w.cell? ⟨vb',0,none⟩=some v:=hxc 0 v rfl;have hx1:v.oneCell'=true:=rp hxs rfl v al;obtain⟨cs,hcs,hcc⟩:∃cs,VRs (ctx (b9 β (fS es x) A w) β w (fS es x)) (es.flatten.map .t) cs/\(es=[]\/∃b m,β 0=some b/\aY w b m/\es.length<=m/\∀j u,cs[j]?=some u->w.cell? ⟨b,j,none⟩=some u):=by
  rcases hb0 with⟨_,rfl⟩|⟨b,m,hb,hrow,hm,hel⟩
  .exact⟨[],rfl,.inl rfl⟩
  obtain⟨cs,h,hc⟩:=Z6.vals (c:=ctx (b9 β (fS es x) A w) β w (fS es x)) (ao.flat.1 hel);exact⟨cs,h,.inr ⟨b,m,hb,hrow,by omega,λj u hj=>by have h:w.cell? ⟨b,0+j,none⟩=some u:=hc j u hj;rwa[aM]at h⟩⟩
 have hcl:cs.length=es.length:=by rw[hcs.length,da,jl h1,df]
 have hc1:∀u,u∈cs->u.oneCell'=true:=rp hcs (by rw[List.all_map];exact bU.2 λ_ _=>rfl);have hvals:([v0,v1,v2].toArray:Array Value) = #[.slice a0 es.length cap,.int .i64 i,.slice (some ⟨vb',0,none⟩) 1 cap2]:=by rw[hv0,t1,hv2]
 have hap:∀b,β 0=some b->vb'≠b:=λb hb hne=>by have:=hr.inj 0 1 (.row 1 es) (.row 1 [[x]]) vb' rfl rfl (.inl (by rw[hb,hne])) (.inl hvb);cases this
 have hbel:∀b,β 0=some b->b<w.heap.size:=λb hb=>(hr.sep 0 (.row 1 es) b rfl (.inl hb)).1;have hcap63:cap<=9223372036854775807:=by unfold maxLen at hcm;omega
 have hrv:=hr;rw[hvals];by_cases hroom:es.length+1<=cap
 .rcases hq0 with⟨h,_⟩|⟨b,m,ha,hb,hrow,hcapm⟩
  .omega
  subst ha;have hb:β 0=some b:=hb;have hcb:∀j u,cs[j]?=some u->w.cell? ⟨b,j,none⟩=some u:=by
   rcases hcc with rfl|⟨b',_,hb',_,_,h⟩
   .intro j u hj;have:cs=[]:=du hcl;subst this;simp at hj
   have:b'=b:=c7
   subst this;exact h
  have hth:=jQ hrow (o:=0) (n:=m) O;have hsp:∀j,j<es.length+1->(w.cell? ⟨b,j,none⟩).isSome=true:=λj hj=>by have h:(w.cell? ⟨b,0+j,none⟩).isSome=true:=(hth j O).1;rwa[aM]at h
  have hfz:∀j,j<es.length+1->w.frozen? ⟨b,j,none⟩=false:=λj hj=>by have h:w.frozen? ⟨b,0+j,none⟩=false:=(hth j O).2;rwa[aM]at h
  by_cases hin:i<es.length
  .obtain⟨c2,e2,fr2,g1,g2,g3⟩:=hrow2;obtain⟨c3,e3,fr3,g4,g5,g6⟩:=hrow;have g1:w.heap[vb']?=some (.cells c2 e2 fr2):=g1;have g4:w.heap[b]?=some (.cells c3 e3 fr3):=g4;have g3:fr2=(0,0):=g3.resolve_right id;subst g3;have hsa:w.shape? vb'=some (e2,m2):=by unfold World.shape?;rw[g1];simp[g2]
   have hsb:w.shape? b=some (e3,m):=by unfold World.shape?;rw[g4];simp[g5]
   have hfr:∀q,w.frozen? ⟨vb',q,none⟩=false:=λq=>by unfold World.frozen?;simp[g1]
   refine(R.shift b es.length cap i vb' cap2 cs v w hin hroom hcap63 (hap b hb) hcl hcb hsp hfz hx0 hc1 hx1 e2 e3 m2 m hsa hsb O (hfr 0) (hfr m2)).mono ?_;rintro r w' ⟨rfl,rfl⟩;refine⟨.slice (some ⟨b,0,none⟩) (es.length+1) cap,?_⟩;have hst:∀j,j<(cs.drop i).length->(w.drew.cell? ⟨b,(i+1)+j,none⟩).isSome=true:=λj hj=>hsp _ (by rw[jk]at hj;omega);have hcells:∀j u,(cs.take i++v::cs.drop i)[j]?=some u->((w.drew.setCells b (i+1) (cs.drop i)).setCells b i [v]).cell? ⟨b,j,none⟩=some u:=λj u hj=>by
    rcases Cu O j u hj with⟨q1,q2⟩|⟨q1,q2⟩|⟨q1,q2⟩
    .rw [gv b _ _ _ ⟨b,j,none⟩ (λ_ _ =>.inl q1),gv b _ _ _ ⟨b,j,none⟩ (λ_ _ =>.inl (by show j<i+1;omega))];exact hcb j u q2
    .subst q1;subst q2;have:=ji b [u] j (w.drew.setCells b (j+1) (cs.drop j)) (λk hk=>by
      have:k=0:=lg
      subst this;rw[gv b _ _ _ _ (λ_ _ =>.inl (by show j+0<j+1;omega))];exact hsp _ O) 0 al
     simpa using this
    rw[gv b _ _ _ ⟨b,j,none⟩ (λ_ _ =>.inr (by show i+1<=j;omega))];have hlt:=(aJ.1 q2).1;have:=ji b (cs.drop i) (i+1) w.drew hst (j-(i+1)) (by rw[jk];omega);rw[show i+1+(j-(i+1))=j by omega]at this;rw[this,<- q2,<- bn,j2,show i+(j-(i+1))=j-1 by omega]
   obtain⟨β',h⟩:=wH (w':=(w.drew.setCells b (i+1) (cs.drop i)).setCells b i [v]) (capN:=cap) (bN:=b) (mN:=m) hrv hcs hxs h1 (by rw[eV,eV];exact aW _)
    ((dH b [v] i _).1.trans (dH b (cs.drop i) (i+1) w.drew).1) ((dH b [v] i _).2.1.trans (dH b (cs.drop i) (i+1) w.drew).2.1) ((dH b [v] i _).2.2.trans (dH b (cs.drop i) (i+1) w.drew).2.2)
    (λd _ hd=>by have hne:d≠b:=λh=>hd (by rw[hb,h]);rw[eM b _ _ _ d hne,eM b _ _ _ d hne];rfl)
    (.inr hb) (dx b _ _ _ (dx b _ _ w.drew ⟨c3,e3,fr3,g4,g5,g6⟩)) hroom O hcm hcells O rfl
   exact⟨β',rfl,h⟩
  have hie:i=es.length:=bg
  subst hie;refine(R.room b es.length cap vb' cap2 v w hroom hcap63 (hsp _ O) (hfz _ O) hx0 hx1).mono ?_;rintro r w' ⟨rfl,rfl⟩;refine⟨.slice (some ⟨b,0,none⟩) (es.length+1) cap,?_⟩;have hcells:∀j u,(cs.take es.length++v::cs.drop es.length)[j]?=some u->(w.setCells b es.length [v]).cell? ⟨b,j,none⟩=some u:=λj u hj=>by
   rcases Cu O j u hj with⟨q1,q2⟩|⟨q1,q2⟩|⟨q1,q2⟩
   .rw [gv b _ _ _ ⟨b,j,none⟩ (λ_ _ =>.inl q1)];exact hcb j u q2
   .subst q1;subst q2;have:=ji b [u] es.length w (λk hk=>by
     have:k=0:=lg
     subst this;exact hsp _ O) 0 al
    simpa using this
   have hlt:=(aJ.1 q2).1;omega
  obtain⟨β',h⟩:=wH (w':=w.setCells b es.length [v]) (capN:=cap) (bN:=b) (mN:=m) hrv hcs hxs h1 vq
   (dH b _ _ _).1 (dH b _ _ _).2.1 (dH b _ _ _).2.2
   (λd _ hd=>eM b _ _ _ d (λh=>hd (by rw[hb,h])))
   (.inr hb) (dx b _ _ _ hrow) hroom O hcm hcells O rfl
  exact⟨β',rfl,h⟩
 have hlt:cap<es.length+1:=bg
 have hge:=sj w (es.length+1) cap e;have hcmN:grownCap w (es.length+1) cap e<=maxLen:=sk w (es.length+1) cap e se;by_cases hin:i<es.length
 .rcases hcc with rfl|⟨b,m,hb,hrow,hm,hcb⟩
  .simp at hin
  rcases hq0 with⟨h,_⟩|⟨b',m',ha,hb',_,_⟩
  .omega
  have:b'=b:=c7
  subst this;subst ha;refine(R.grow b' es.length cap i vb' cap2 cs v w hin hnc hlt hby hcl hcb hx0 hc1 hx1).mono ?_;rintro r w' ⟨rfl,rfl⟩;refine⟨.slice (some ⟨w.heap.size,0,none⟩) (es.length+1) (grownCap w (es.length+1) cap e),?_⟩;generalize hG:grownCap w (es.length+1) cap e=G at hge hcmN⊢;generalize hROW:(cs.take i).toArray++Builtin.zeroCells z.cells (es.length+1-i)++Builtin.zeroCells z.cells (G-(es.length+1))=ROW;have hRs:ROW.size=G:=by rw[<- hROW];simp only[sn,so,fH,sq,R.zc];omega
  have hnew:∀j,j<G->((w.alloc (.cells ROW e)).cell? ⟨w.heap.size,j,none⟩).isSome=true:=λj hj=>by rw[World.cell?_alloc_at ROW _ w.heap.size j rfl,Array.getElem?_eq_getElem O];rfl
  have hrowN:aY (w.alloc (.cells ROW e)) w.heap.size G:=⟨ROW,e,(0,0),j6 w _,hRs,.inl rfl⟩;have hW:∀a,((w.alloc (.cells ROW e)).drew.setCells w.heap.size i [v]).drew.cell? a=((w.alloc (.cells ROW e)).setCells w.heap.size i [v]).cell? a:=λa=>by rw[<- drew_setCells];rfl
  have hcells:∀j u,(cs.take i++v::cs.drop i)[j]?=some u->((((w.alloc (.cells ROW e)).drew.setCells w.heap.size i [v]).drew).setCells w.heap.size (i+1) (cs.drop i)).cell? ⟨w.heap.size,j,none⟩=some u:=λj u hj=>by
   have hin1:∀j,j<(cs.drop i).length->(((w.alloc (.cells ROW e)).drew.setCells w.heap.size i [v]).drew.cell? ⟨w.heap.size,i+1+j,none⟩).isSome=true:=λj hj=>by
    rw[jk]at hj;show(((w.alloc (.cells ROW e)).drew.setCells w.heap.size i [v]).cell? _).isSome=true;exact isSome_setCells _ _ _ _ (λk hk=>by
     have:k=0:=lg
     subst this;exact hnew _ O) _ (hnew _ O)
   rcases Cu O j u hj with⟨q1,q2⟩|⟨q1,q2⟩|⟨q1,q2⟩
   .rw [gv _ _ _ _ ⟨w.heap.size,j,none⟩ (λ_ _ =>.inl (by show j<i+1;omega))];show((w.alloc (.cells ROW e)).drew.setCells w.heap.size i [v]).cell? _=_;rw[gv _ _ _ _ ⟨w.heap.size,j,none⟩ (λ_ _ =>.inl q1)];show(w.alloc (.cells ROW e)).cell? _=_;rw[World.cell?_alloc_at ROW _ w.heap.size j rfl,<- hROW];rw[jz aZ,jz aZ];simp only[sR,jP,aP q1];exact q2
   .subst q1;subst q2;rw[gv _ _ _ _ ⟨w.heap.size,j,none⟩ (λ_ _ =>.inl (by show j<j+1;omega))];show((w.alloc (.cells ROW e)).drew.setCells w.heap.size j [u]).cell? _=_;have:=ji w.heap.size [u] j (w.alloc (.cells ROW e)).drew (λk hk=>by
     have:k=0:=lg
     subst this;exact hnew _ O) 0 al
    simpa using this
   have hlt:=(aJ.1 q2).1;have:=ji w.heap.size (cs.drop i) (i+1) ((w.alloc (.cells ROW e)).drew.setCells w.heap.size i [v]).drew hin1 (j-(i+1)) (by rw[jk];omega);rw[show i+1+(j-(i+1))=j by omega]at this;rw[this,<- q2,<- bn,j2,show i+(j-(i+1))=j-1 by omega]
  obtain⟨β',h⟩:=wH (w':=(((w.alloc (.cells ROW e)).drew.setCells w.heap.size i [v]).drew).setCells w.heap.size (i+1) (cs.drop i)) (capN:=G) (bN:=w.heap.size) (mN:=G) hrv hcs hxs h1
   (by rw[eV];show _<=((w.alloc (.cells ROW e)).drew.setCells w.heap.size i [v]).heap.size;rw[eV];show _<=(w.alloc (.cells ROW e)).heap.size;simp)
   ((dH w.heap.size (cs.drop i) (i+1) _).1.trans (dH w.heap.size [v] i (w.alloc (.cells ROW e)).drew).1) ((dH w.heap.size (cs.drop i) (i+1) _).2.1.trans (dH w.heap.size [v] i (w.alloc (.cells ROW e)).drew).2.1) ((dH w.heap.size (cs.drop i) (i+1) _).2.2.trans (dH w.heap.size [v] i (w.alloc (.cells ROW e)).drew).2.2)
   (λd hd _=>by
    have hne:d≠w.heap.size:=bg
    rw[eM _ _ _ _ d hne];show((w.alloc (.cells ROW e)).drew.setCells w.heap.size i [v]).heap[d]?=_;rw[eM _ _ _ _ d hne];exact dZ w _ d hd)
   (.inl ⟨aW _,by rw[eV];show _<((w.alloc (.cells ROW e)).drew.setCells w.heap.size i [v]).heap.size;rw[eV];show _<(w.alloc (.cells ROW e)).heap.size;simp⟩)
   (dx _ _ _ _ (dx _ [v] i (w.alloc (.cells ROW e)).drew hrowN)) hge (aW _) hcmN hcells O rfl
  exact⟨β',rfl,h⟩
 have hie:i=es.length:=bg
 subst hie;have hcba:∀a,a0=some a->∀j u,cs[j]?=some u->w.cell? (a.add j)=some u:=λa ha j u hj=>by
  rcases hcc with rfl|⟨b,m,hb,hrow,hm,hcb⟩
  .have:cs=[]:=du hcl;subst this;simp at hj
  rcases hq0 with⟨h,_⟩|⟨b',m',ha',hb',_,_⟩
  .have:cs=[]:=du O;subst this;simp at hj
  have:b'=b:=c7
  subst this;subst ha';cases ha;rw[gS,aM];exact hcb j u hj
 refine(R.egrow a0 es.length cap vb' cap2 cs v w hnc hlt hby hcl (λha=>?_) hcba hx0 hx1).mono ?_
 .subst ha;rcases hq0 with⟨h,_⟩|⟨b',m',ha',hb',_,_⟩
  .omega
  cases ha'
 rintro r w' ⟨rfl,rfl⟩;refine⟨.slice (some ⟨w.heap.size,0,none⟩) (es.length+1) (grownCap w (es.length+1) cap e),?_⟩;generalize hG:grownCap w (es.length+1) cap e=G at hge hcmN⊢;generalize hROW:(cs++[v]).toArray++Builtin.zeroCells z.cells (G-(es.length+1))=ROW;have hRs:ROW.size=G:=by rw[<- hROW];simp only[sn,so,bF,List.length_singleton,sq,R.zc];omega
 have hcells:∀j u,(cs.take es.length++v::cs.drop es.length)[j]?=some u->(w.drew.alloc (.cells ROW e)).cell? ⟨w.heap.size,j,none⟩=some u:=λj u hj=>by rw[<- hcl,List.take_length,List.drop_length]at hj;have hj1:=(aJ.1 hj).1;show(w.drew.alloc _).cell? ⟨w.drew.heap.size,_,none⟩=_;rw[iU,<- hROW,jz (by simpa using hj1)];simpa using hj
 obtain⟨β',h⟩:=wH (w':=w.drew.alloc (.cells ROW e)) (capN:=G) (bN:=w.heap.size) (mN:=G) hrv hcs hxs h1 al rfl rfl rfl
  (λd hd _=>dZ w.drew _ d hd) (.inl ⟨aW _,by simp⟩) ⟨ROW,e,(0,0),j6 w.drew _,hRs,.inl rfl⟩ hge (aW _) hcmN hcells O rfl
 exact⟨β',rfl,h⟩
end Go.PW
