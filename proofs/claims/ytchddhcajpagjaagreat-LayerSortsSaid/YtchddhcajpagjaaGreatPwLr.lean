import Derived.Test.YtchddhcajpagjaaGreatPwL
import Derived.Laws.Slices
import Derived.Laws.IdiomStrings
import Derived.Laws.Cover3
import Derived.Laws.Pointers
import Derived.MapKept
import Derived.Shelf.Spec.SlicesInsertGrow
set_option linter.all false
namespace Go.PW
open Go.RowKit
variable {I:Nat->Prop} {w:World} {b k l m q:Nat} {e t yT:TypeId} {x y:Operand} {es:List (List aa)} {s:List UInt8} {p:PV} {op:BinOp} {a:Option Addr}
section
variable {P:Program} {o:Oper} {ρ:List (Nat×PV)} {Z:List (Nat×Blk)} {n:Nat} {tm:List (Nat×PV)}
def az.drop{I:Nat->Prop}{w:World}{b k:Nat}:∀{es:List (List aa)} {off:Nat} (l:Nat),az I w b es off->(∀el,el∈es->el.length=k)->l<=es.length->az I w b (es.drop l) (off+l*k)
 |es,off,0,h,_,_=>iQ
 |[],off,l+1,h,_,hl=>qQ
 |e::es,off,l+1,h,hk,hl=>by simp only[az]at h;have h0:=hk e ax;have:=az.drop (k:=k) l h.2 (λel hel=>hk el (bW _ hel)) uQ;rw[h0]at this;rwa[sO,show off+(l+1)*k=off+k+l*k by rw[dE,e9];omega]
def az.take:∀{es:List (List aa)} {off:Nat} (l:Nat),az I w b es off->az I w b (es.take l) off
 |es,off,0,h=>by simp[az]
 |[],off,l+1,h=>by simp[az]
 |e::es,off,l+1,h=>by simp only[az]at h;simp only[u0,az];exact⟨h.1,az.take l h.2⟩
def fX(ρ:List (Nat×PV))(dflt:Int):Option Operand->Option Int
 |none=>some dflt
 |some x=>match ai ρ x with|some (.t (.int _ i))=>some i|_=>none
def C1(h:(P.info? e).map (·.size)=some k)(w:World):(sizeOf e).run P w = .ok k w:=by
 cases hi:P.info? e with
 |none=>simp[hi]at h
 |some i=>simp[hi]at h;simp[sizeOf,typeInfo,hi,h]
def Zj3{lo hi:Option Operand}{l h:Int}(ho:o.op = .slice t x lo hi none)(ha:slInfo P t=some k)(hx:ai ρ x=some (.t (.sl es)))
 (hl:fX ρ 0 lo=some l) (hh:fX ρ es.length hi=some h) (hk:∀el,el∈es->el.length=k) (h0:0<=l) (h1:l<=h) (h2:h<=es.length) :
 aR P o ρ Z [] (.t (.sl ((es.take h.toNat).drop l.toNat))) []:=
 bo λG β n tm Z' A w hop _ _=>by
  have e1:=hop x _ aS hx;simp only[VR,Z7]at e1⊢;obtain⟨a,cap,hv,hlc,hcm,hel⟩:=e1;unfold slInfo at ha;split at ha
  case h_2=>cases ha
  rename_i e hu;have hsz:(P.info? e).map (·.size)=some k:=ha;have hlo:(lo=none/\l=0)\/∃y kk,lo=some y/\A.eval y = .int kk l:=by
   cases lo with
   |none=>simp only[fX,aA]at hl;exact .inl ⟨rfl,hl.symm⟩
   |some y=>
    simp only[fX]at hl;split at hl
    .rename_i kk i hy;cases hl;have:=hop y _ aS hy;simp only[VR,Z7]at this;exact .inr ⟨y,kk,rfl,this⟩
    cases hl
  have hhi:(hi=none/\h=es.length)\/∃y kk,hi=some y/\A.eval y = .int kk h:=by
   cases hi with
   |none=>simp only[fX,aA]at hh;exact .inl ⟨rfl,hh.symm⟩
   |some y=>
    simp only[fX]at hh;split at hh
    .rename_i kk i hy;cases hh;have:=hop y _ aS hy;simp only[VR,Z7]at this;exact .inr ⟨y,kk,rfl,this⟩
    cases hh
  have hbounds:(Instr.sliceBounds true es.length cap (lo.map A.eval) (hi.map A.eval) none).run P w = .ok (l.toNat,h.toNat,cap) w:=by
   have eh:(h.toNat:Int)=h:=j7 O;have hc:h<=(cap:Int):=aW
   have hh0:0<=h:=aW
   rcases hlo with⟨hlo,hl0⟩|⟨y,kk,hlo,hy⟩<;>rcases hhi with⟨hhi,hl1⟩|⟨z,kz,hhi,hz⟩
   .have:h.toNat=es.length:=by omega
    simp[Instr.sliceBounds,hlo,hhi,hl0,this]
   .simp [Instr.sliceBounds,hlo,hhi,hl0,hz,run_sliceBound,hh0,hc]
   .have e2:h.toNat=es.length:=by omega
    have e3:l<=(es.length:Int):=aW
    simp[Instr.sliceBounds,hlo,hhi,hy,run_sliceBound,h0,e2,e3]
   have e3:l<=(h.toNat:Int):=aW
   have r1:=run_sliceBound (P:=P) w kk l h.toNat .sliceB h0 e3;have r2:=run_sliceBound (P:=P) w kz h cap .sliceAcap hh0 hc;simp only[Instr.sliceBounds,hlo,hhi,Option.map_some,hy,hz,aT,aV,aU,dM,r2,uW,fk,eR,r1]
  have hrun:(execOp A.eval o).run P w = .ok (.value (.slice (if cap=l.toNat then a else a.map (·.add (l.toNat*k))) (h.toNat-l.toNat) (cap-l.toNat))) w:=by
   have hel':P.elem t=e:=uY
   have hat:=run_sliceAt_slice (P:=P) w t (.slice a es.length cap) (lo.map A.eval) (hi.map A.eval) none uZ;have hsl:(Instr.slice t (.slice a es.length cap) (lo.map A.eval) (hi.map A.eval) none).run P w = .ok (.slice (if cap=l.toNat then a else a.map (·.add (l.toNat*k))) (h.toNat-l.toNat) (cap-l.toNat)) w:=zE
   simp only[execOp,ho,hv,aT,nU,hat,hsl,aU,aV]
  have hlen:((es.take h.toNat).drop l.toNat).length=h.toNat-l.toNat:=cg
  refine⟨_,hrun,_,cap-l.toNat,by rw[hlen],by rw[hlen];omega,by omega,?_⟩;by_cases he:(es.take h.toNat).drop l.toNat=[]
  .exact .inl he
  rcases hel with hel|⟨b,off,ha',hI,hel⟩
  .subst hel;simp at he
  subst ha';have hlt:0<h.toNat-l.toNat:=by rw[<- hlen];exact List.length_pos_iff.2 he
  have hne:¬cap=l.toNat:=aW
  rw[aw hne];refine .inr ⟨b,off+l.toNat*k,by simp[gY],hI,?_⟩;refine az.drop (k:=k) _ (az.take _ hel) (λel h=>hk el (iV h)) cg
def Zkr(s:List UInt8)(l h:Nat):(⟨s.toArray⟩:ByteArray).extract l h=⟨((s.take h).drop l).toArray⟩:=by apply ByteArray.ext;simp[List.drop_take]
def Zj2{lo hi:Option Operand}{l h:Int}(ho:o.op = .slice t x lo hi none)(hu:P.underlying t=some .string)(hx:ai ρ x=some (.t (.str s)))
 (hl:fX ρ 0 lo=some l) (hh:fX ρ s.length hi=some h) (h0:0<=l) (h1:l<=h) (h2:h<=s.length) :
 aR P o ρ Z [] (.t (.str ((s.take h.toNat).drop l.toNat))) []:=
 bo λG β n tm Z' A w hop _ _=>by
  have hv:=hop x _ aS hx;simp only[VR,Z7]at hv⊢;have hsz:(⟨s.toArray⟩:ByteArray).size=s.length:=sN
  have hlo:(lo=none/\l=0)\/∃y kk,lo=some y/\A.eval y = .int kk l:=by
   cases lo with
   |none=>simp only[fX,aA]at hl;exact .inl ⟨rfl,hl.symm⟩
   |some y=>
    simp only[fX]at hl;split at hl
    .rename_i kk i hy;cases hl;have:=hop y _ aS hy;simp only[VR,Z7]at this;exact .inr ⟨y,kk,rfl,this⟩
    cases hl
  have hhi:(hi=none/\h=s.length)\/∃y kk,hi=some y/\A.eval y = .int kk h:=by
   cases hi with
   |none=>simp only[fX,aA]at hh;exact .inl ⟨rfl,hh.symm⟩
   |some y=>
    simp only[fX]at hh;split at hh
    .rename_i kk i hy;cases hh;have:=hop y _ aS hy;simp only[VR,Z7]at this;exact .inr ⟨y,kk,rfl,this⟩
    cases hh
  have hbounds:(Instr.sliceBounds false s.length s.length (lo.map A.eval) (hi.map A.eval) none).run P w = .ok (l.toNat,h.toNat,s.length) w:=by
   have eh:(h.toNat:Int)=h:=j7 O;have hh0:0<=h:=aW
   rcases hlo with⟨hlo,hl0⟩|⟨y,kk,hlo,hy⟩<;>rcases hhi with⟨hhi,hl1⟩|⟨z,kz,hhi,hz⟩
   .have:h.toNat=s.length:=by omega
    simp[Instr.sliceBounds,hlo,hhi,hl0,this]
   .simp [Instr.sliceBounds,hlo,hhi,hl0,hz,run_sliceBound,hh0,h2]
   .have e2:h.toNat=s.length:=by omega
    have e3:l<=(s.length:Int):=aW
    simp[Instr.sliceBounds,hlo,hhi,hy,run_sliceBound,h0,e2,e3]
   have e3:l<=(h.toNat:Int):=aW
   have r1:=run_sliceBound (P:=P) w kk l h.toNat .sliceB h0 e3;have r2:=run_sliceBound (P:=P) w kz h s.length .sliceAlen hh0 h2;simp only[Instr.sliceBounds,hlo,hhi,Option.map_some,hy,hz,aT,aV,aU,r2,uW,fk,eR,r1]
  refine⟨.string ⟨((s.take h.toNat).drop l.toNat).toArray⟩,?_,rfl⟩;have hat:=run_sliceAt_string (P:=P) w t (.string ⟨s.toArray⟩) (lo.map A.eval) (hi.map A.eval) none hu;have hsl:(Instr.slice t (.string ⟨s.toArray⟩) (lo.map A.eval) (hi.map A.eval) none).run P w = .ok (.string ⟨((s.take h.toNat).drop l.toNat).toArray⟩) w:=by simp only[Instr.slice,aT,cH hu,aU,hsz,hbounds,aV,Zkr,uW,fk,eR]
  simp only[execOp,ho,hv,aT,nU,hat,hsl,aU,aV]
def Zkd{ρ:List (Nat×PV)}{σ0:List (Nat×Blk)}{need:List Nat}{tx:TypeId}{bytes:Nat}{zero:List PV}{es0:List (List aa)}(ho:o.op = .call { callee :=.builtin .copy,args := #[x,y],argTypes := #[t,tx] })
 (hE:ElF P t e k bytes zero) (htx:∃e',P.underlying tx=some (.slice e')) (hx:ai ρ x=some (.osl l m)) (hg0:get σ0 l=some (.row k es0)) (hm:es0.length=m) (hy:ai ρ y=some p) (hsrc0:gM σ0 p es) (hneed:∀q,(q=l\/p.has q=true)->q∈need)
 (hk:∀el,el∈es->el.length=k) (hle:es.length<=m) :
 OpF P o ρ σ0 need [l] (.t (.int .i64 es.length)) [(l,.row k (es++es0.drop es.length))]:=
 opF λG β n tm Z A w hop hnd hr=>by
  have e1:=hop x _ fj hx;have e2:=hop y _ fj hy;have hg:=(hnd l (hneed l (.inl rfl))).trans hg0;have hsrc:=hsrc0.need (Z':=Z) (λq hq=>hnd q (hneed q (.inr hq)));show ∃v w',(execOp A.eval o).run P w = .ok (.value v) w'/\∃β',aO G β' ⟨n,tm,put Z l (.row k (es++es0.drop es.length))⟩ A w'/\VR (ctx G β' w' (put Z l (.row k (es++es0.drop es.length)))) (.t (.int .i64 es.length)) v;simp only[VR]at e1;obtain⟨a0,cap,hv,hmc,hcm0,h3⟩:=(e1.1 k es0 hg).2 hm.symm;obtain⟨e',htx⟩:=htx;obtain⟨news,hs,hnv⟩:=hsrc.src (P:=P) (tx:=tx) hr e2 hk htx;have hnewsl:news.length=es.length*k:=hs.newsLen;have hsz:(P.info? e).map (·.size)=some k:=by have:=hE.info;cases hi:P.info? e with|none=>simp[hi]at this|some i=>simp[hi]at this;simp[this.1]
  have hmin:Nat.min es.length m=es.length:=oE hle;have hpre:∀u w',(match a0 with|some a=>(storeCells a news).run P w|none =>.ok () w) = .ok u w'->(execOp A.eval o).run P w = .ok (.value (goInt es.length)) w':=by
   intro u w' hst;simp only[execOp,ho,resolve,invoke,builtin,aT,aV,aU,nV,cd,fP,hv,Builtin.copy_,uk,kv,List.getElem?_cons_succ,cH hE.und,hs.len,hmin,C1 hsz,hs.cells];cases a0 with
   |none=>simp only at hst;cases hst;rfl
   |some a=>simp only at hst;simp[hst]
  obtain⟨hk0,hkl,hb⟩:=hr.blk l _ hg;have putd:∀(β':Nat->Option Nat) (w':World) (Z':List (Nat×Blk)),aO G β' ⟨n,tm,Z'⟩ A w'->∃β',aO G β' ⟨n,tm,Z'⟩ A w'/\VR (ctx G β' w' Z') (.t (.int .i64 es.length)) (goInt es.length):=λβ' w' Z' hr'=>⟨β',hr',by simp[VR,Z7,goInt]⟩;by_cases hem:es.length=0
  .have hes:es=[]:=dv hem;subst hes;have hnil:news=[]:=dv AA;subst hnil;refine⟨_,w,(hpre () w (by cases a0<;>simp[storeCells])),?_⟩;refine putd β w _ ?_;refine hr.sub (bh _) (λi p hp=>⟨hp,(hr.tm i p hp).1⟩) (λm o hm'=>?_);by_cases hml:l=m
   .subst hml;rw[fO]at hm';cases hm';simpa using hg
   rw[gj _ _ hml]at hm';exact hm'
  rcases hb with⟨_,he⟩|⟨b,sz,hb,hrow,hszle,hel⟩
  .subst he;simp at hm;omega
  rcases h3 with⟨hc,hb'⟩|⟨b',sz',ha,hb',_,_⟩
  .omega
  have:b'=b:=cR
  subst this;subst ha;have hle2:news.length<=sz:=by rw[hnewsl];exact c6 (gH _ O) hszle
  have hst:=run_storeCells_cells (P:=P) b' 0 news 0 w (λj hj=>by
   have:=jQ (w:=w) hrow (o:=0) (n:=news.length) O j hj;simp only[aM]at this⊢;exact this.1) (λj hj=>by
   have:=jQ (w:=w) hrow (o:=0) (n:=news.length) O j hj;simp only[aM]at this⊢;exact this.2) (λu hu=>hs.one u hu)
  rw[c7]at hst;obtain⟨vs,hvs,hcs⟩:=Z4.vals (c:=ctx G β w Z) (az.flat.1 hel);have hvl:vs.length=es0.length*k:=CU
  have hfl:(es++es0.drop es.length).flatten.map PV.t=splice (es0.flatten.map PV.t) 0 (es.flatten.map PV.t):=by
   have hdrop:∀(q:Nat) (l:List (List aa)),(∀el,el∈l->el.length=k)->q<=l.length->(l.drop q).flatten=l.flatten.drop (q*k):=by
    intro q;induction q with
    |zero=>intro l _ _;simp
    |succ q ih=>
     intro l hl hq;cases l with
     |nil=>simp at hq
     |cons e0 l=>
      have he0:e0.length=k:=hl e0 ax;have e1:(q+1)*k=q*k+k:=xc
      rw[sO,ih l (λel h=>hl el (bW _ h)) vG,gW,wi];have d0:e0.drop ((q+1)*k)=[]:=jZ O;rw[d0,kU,show(q+1)*k-e0.length=q*k by omega]
   unfold splice;simp only[List.take_zero,kU,aM,cK,ju hk];rw[nk,hdrop _ _ hkl O,fi,po]
  obtain⟨hr',hI,hL⟩:=kR hr (off:=0) (blk' :=.row k (es++es0.drop es.length)) news hg hb (.inl ⟨k,es0,_,rfl,rfl,by simp;omega⟩) (λhI hL=>by
   refine⟨hk0,λel hel'=>?_,.inr ⟨b',sz,hb,dV _ _ _ _ hrow,?_,az.flat.2 ?_⟩⟩
   .rcases b9.1 hel' with h|h
    .exact hk el h
    exact hkl el (kF h)
   .have:(es++es0.drop es.length).length=es0.length:=by simp;omega
    rw[this];exact hszle
   refine iW (vs:=splice vs 0 news) ?_ (λj' v hj'=>?_)
   .have h1:=VRs.step hI _ _ (λm _=>hL m) hvs;have h2:=VRs.step hI _ _ (λm _=>hL m) hnv;rw[hfl];exact h1.splice 0 h2
   rw[aM];exact l6 (w:=w) (λj v hj=>by have:=hcs j v hj;rwa[aM]at this) (by rw[hvl,hnewsl,aM];exact gH _ O) j' v hj')
  exact⟨_,w.setCells b' 0 news,(hpre () _ hst),putd β _ _ hr'⟩
def WJ{c:Nat}(hu:P.underlying t=some (.slice e))(ho:o.op = .binOp op t x (.const (.slice none 0 0)) yT)(hop:op = .eql\/op = .neq)(A:Act)(w:World)(hx:A.eval x = .slice a l c) :
 (execOp A.eval o).run P w = .ok (.value (.bool (if op = .eql then a.isNone else !a.isNone))) w:=by
 have hg:=mO (P:=P) (op:=op) (t:=t) (x:=x) (y :=.const (.slice none 0 0)) (u :=.slice a l c) (v :=.slice none 0 0) w trivial;have he:=run_equal_slice_nil (P:=P) w t e a l c hu;have hy:A.eval (.const (.slice none 0 0)) = .slice none 0 0:=rfl;rcases hop with rfl|rfl
 .simp only[execOp,ho,hx,hy,aT,hg,aU,binOp,he,aV,dM]
 simp only[execOp,ho,hx,hy,aT,hg,aU,binOp,he,aV];rfl
def WB(hu:P.underlying t=some (.slice e))(ho:o.op = .binOp op t x (.const (.slice none 0 0)) yT)(hop:op = .eql\/op = .neq)(hx:ai ρ x=some (.t (.sl es)))(hne:es≠[]) :
 aR P o ρ Z [] (.t (.bool (if op = .eql then false else true))) []:=
 bo λG β n tm Z' A w hop' _ _=>by
  have e1:=hop' x _ aS hx;simp only[VR,Z7]at e1⊢;obtain⟨a,cap,hv,_,_,h⟩:=e1;rcases h with h|⟨b,off,rfl,_⟩
  .exact absurd h hne
  exact⟨_,WJ hu ho hop A w hv,by rcases hop with rfl|rfl<;>rfl⟩
def WC{c:Nat}(hu:P.underlying t=some (.slice e))(ho:o.op = .binOp op t x (.const (.slice none 0 0)) yT)(hop:op = .eql\/op = .neq)(hx:ai ρ x=some (.t (.con (.slice a l c)))) :
 aR P o ρ Z [] (.t (.bool (if op = .eql then a.isNone else !a.isNone))) []:=
 bo λG β n tm Z' A w hop' _ _=>by have e1:=hop' x _ aS hx;simp only[VR,Z7]at e1⊢;exact⟨_,WJ hu ho hop A w e1.1,rfl⟩
def WK(hu:P.underlying t=some (.pointer (P.pointee t)))(ho:o.op = .binOp op t x (.const (.pointer none)) yT)(hop:op = .eql\/op = .neq)(A:Act)(w:World)(hx:A.eval x = .pointer a) :
 (execOp A.eval o).run P w = .ok (.value (.bool (if op = .eql then a.isNone else !a.isNone))) w:=by
 have hg:=mO (P:=P) (op:=op) (t:=t) (x:=x) (y :=.const (.pointer none)) (u :=.pointer a) (v :=.pointer none) w trivial;have he:=run_equal_pointer_nil (P:=P) w t a hu;have hy:A.eval (.const (.pointer none)) = .pointer none:=rfl;rcases hop with rfl|rfl
 .simp only[execOp,ho,hx,hy,aT,hg,aU,binOp,he,aV,dM]
 simp only[execOp,ho,hx,hy,aT,hg,aU,binOp,he,aV];rfl
def WD(hu:P.underlying t=some (.pointer (P.pointee t)))(ho:o.op = .binOp op t x (.const (.pointer none)) yT)(hop:op = .eql\/op = .neq)(hx:ai ρ x=some (.t (.con (.pointer a)))) :
 aR P o ρ Z [] (.t (.bool (if op = .eql then a.isNone else !a.isNone))) []:=
 bo λG β n tm Z' A w hop' _ _=>by have e1:=hop' x _ aS hx;simp only[VR,Z7]at e1⊢;exact⟨_,WK hu ho hop A w e1.1,rfl⟩
def WE{cs:List PV}(hu:P.underlying t=some (.pointer (P.pointee t)))(ho:o.op = .binOp op t x (.const (.pointer none)) yT)(hop:op = .eql\/op = .neq)(hx:ai ρ x=some (.bptr l q))(hg:get Z l=some (.box cs)) :
 aR P o ρ Z [l] (.t (.bool (if op = .eql then false else true))) []:=
 bo λG β n tm Z' A w hop' hn _=>by have e1:=hop' x _ aS hx;simp only[VR,Z7]at e1⊢;obtain⟨b,_,hv⟩:=e1.1 cs ((hn l ax).trans hg);exact⟨_,WK hu ho hop A w hv,by rcases hop with rfl|rfl<;>rfl⟩
def Zj7{cs:List PV}(ho:o.op = .nilCheck x)(hx:ai ρ x=some (.bptr l q))(hg:get Z l=some (.box cs)):aR P o ρ Z [l] (.bptr l q) []:=bo λG β n tm Z' A w hop hn _=>by have h1:=hop x _ aS hx;have h2:=h1;simp only[VR]at h1;obtain⟨b,_,hv⟩:=h1.1 cs ((hn l ax).trans hg);exact⟨.pointer (some ⟨b,q,none⟩),by simp[execOp,ho,hv],by rw[<- hv];exact h2⟩
def Zj8{i:Nat}(ho:o.op = .nilCheck x)(hx:ai ρ x=some (.rptr l m i q))(hg:get Z l=some (.row k es))(hm:es.length=m):aR P o ρ Z [l] (.rptr l m i q) []:=bo λG β n tm Z' A w hop hn _=>by have h1:=hop x _ aS hx;have h2:=h1;simp only[VR]at h1;obtain⟨b,_,hv⟩:=(h1.1 k es ((hn l ax).trans hg)).2 hm.symm;exact⟨.pointer (some ⟨b,i*k+q,none⟩),by simp[execOp,ho,hv],by rw[<- hv];exact h2⟩
def vX:PV->Bool
 |.t (.sl _)=>true
 |.osl _ _=>true
 |_=>false
def Zks(h:vX p=true){c:Ctx}{v:Value}(hv:VR c p v):∃a n cap,v = .slice a n cap:=by
 unfold vX at h;split at h
 .simp only[VR,Z7]at hv;obtain⟨a,cap,hv,_⟩:=hv;exact⟨a,_,cap,hv⟩
 .simp only[VR]at hv;exact hv.2
 cases h
def Zj9{z:Operand}{k1 k2:IntKind}(ho:o.op = .slice t x none (some y) (some z))(ha:slInfo P t=some k)(hx:ai ρ x=some p)(hp:vX p=true)(hy:ai ρ y=some (.t (.int k1 0)))(hz:ai ρ z=some (.t (.int k2 0))) :
 aR P o ρ Z [] .nils []:=
 bo λG β n tm Z' A w hop _ _=>by
  have e1:=hop x _ aS hx;have e2:=hop y _ aS hy;have e3:=hop z _ aS hz;obtain⟨a,len,cap,hv⟩:=Zks hp e1;simp only[VR,Z7]at e2 e3⊢;unfold slInfo at ha;split at ha
  case h_2=>cases ha
  rename_i e hu;have hsz:(P.info? e).map (·.size)=some k:=ha;have r1:=run_sliceBound (P:=P) w k2 0 cap .slice3Acap O O;have r2:=run_sliceBound (P:=P) w k1 0 0 .slice3B O O;have hbounds:(Instr.sliceBounds true len cap none (some (.int k1 0)) (some (.int k2 0))).run P w = .ok (0,0,0) w:=by simp only[Instr.sliceBounds,aT,dM,r1,aU,Int.toNat_zero,r2,aV]
  have hel':P.elem t=e:=uY
  have hat:=run_sliceAt_slice (P:=P) w t (.slice a len cap) none (some (.int k1 0)) (some (.int k2 0)) uZ;have hsl:∃a',(Instr.slice t (.slice a len cap) none (some (.int k1 0)) (some (.int k2 0))).run P w = .ok (.slice a' 0 0) w:=by refine⟨a,?_⟩;simp only[Instr.slice,aT,cH hu,aU,hbounds,C1 hsz,aV,dM,vE]
  obtain⟨a',hsl⟩:=hsl;refine⟨.slice a' 0 0,?_,a',rfl⟩;simp only[execOp,ho,hv,aT,nU,Option.map_some,e2,e3,hat,hsl,aU,aV]
def maxI(x y:Int):Int:=if x<y then y else x
def minI(x y:Int):Int:=if y<x then y else x
def ZjV{ts:Array TypeId}{k k':IntKind}{a b:Int}(ho:o.op = .call { callee :=.builtin .max,args := #[x,y],argTypes:=ts })(hx:ai ρ x=some (.t (.int k a)))(hy:ai ρ y=some (.t (.int k' b))) :
 aR P o ρ Z [] (.t (.int k (maxI a b))) []:=
 bo λG β n tm Z' A w hop _ _=>by have h1:=hop x _ fj hx;have h2:=hop y _ fj hy;simp only[VR,Z7]at h1 h2⊢;exact⟨_,by simp[execOp,ho,resolve,invoke,builtin,Builtin.max_,Builtin.max2,h1,h2];rfl,rfl⟩
def ZjW{ts:Array TypeId}{k k':IntKind}{a b:Int}(ho:o.op = .call { callee :=.builtin .min,args := #[x,y],argTypes:=ts })(hx:ai ρ x=some (.t (.int k a)))(hy:ai ρ y=some (.t (.int k' b))) :
 aR P o ρ Z [] (.t (.int k (minI a b))) []:=
 bo λG β n tm Z' A w hop _ _=>by have h1:=hop x _ fj hx;have h2:=hop y _ fj hy;simp only[VR,Z7]at h1 h2⊢;exact⟨_,by simp[execOp,ho,resolve,invoke,builtin,Builtin.min_,Builtin.min2,h1,h2];rfl,rfl⟩
def eU(s:List UInt8):List (List aa):=s.map λb=>[aa.int .u8 b.toNat]
def WL:∀(s:List UInt8) (off:Nat),(∀j x,s[j]?=some x->w.cell? ⟨b,off+j,none⟩=some (.int .u8 (x.toNat:Int)))->az I w b (eU s) off
 |[],_,_=>by simp[eU,az]
 |x::s,off,h=>by simp only[eU,cd,az,Z4,bw,bT];refine⟨⟨⟨_,h 0 x rfl,by simp[Z7]⟩,ab⟩,WL s (off+1) (λj y hj=>?_)⟩;have:=h (j+1) y iS;rwa[show off+(j+1)=off+1+j by omega]at this
def Zj5{st dt:TypeId}(ho:o.op = .convert st dt x)(hs:P.underlying st=some .string)(hd:P.underlying dt=some (.slice e))(he:P.underlying e=some (.int .u8))
 (hx:ai ρ x=some (.t (.str s))) (hl:s.length<=9223372036854775807):aR P o ρ Z [] (.t (.sl (eU s))) []:=
 Td λG β n tm Z' A w hop _ hr=>by
  have hv:=hop x _ aS hx;simp only[VR,Z7]at hv;have hrun:=run_bytes_of_string (P:=P) w st dt e ⟨s.toArray⟩ hs hd he;have hsz:(⟨s.toArray⟩:ByteArray).size=s.length:=sN
  rw[hsz]at hrun;have hge:=pq w s.length 0 e;have hcm:grownCap w s.length 0 e<=maxLen:=pr w s.length 0 e pv;generalize hC:grownCap w s.length 0 e=C at hrun hge hcm;generalize hob:Obj.cells (bytesRow ⟨s.toArray⟩ C) e ((bytesRow ⟨s.toArray⟩ C).size,(bytesRow ⟨s.toArray⟩ C).size+1)=ob at hrun;obtain⟨hr',hI,hnew,hL⟩:=(aO.drew hr).allocImm ob;refine⟨.slice (some ⟨w.heap.size,0,none⟩) s.length C,_,?_,hr',?_⟩
  .simp only[execOp,ho,hv,aT,hrun,aU,aV]
  simp only[VR,Z7];refine⟨some ⟨w.heap.size,0,none⟩,C,by simp[eU],by simpa[eU]using hge,hcm,.inr ⟨w.heap.size,0,rfl,hnew,WL s 0 (λj y hj=>?_)⟩⟩;show(w.drew.alloc ob).cell? ⟨w.drew.heap.size,_,none⟩=_;rw[<- hob];have hlt:=(aJ.1 hj).1;unfold World.cell?;have hh:(w.drew.alloc (Obj.cells (bytesRow ⟨s.toArray⟩ C) e ((bytesRow ⟨s.toArray⟩ C).size,(bytesRow ⟨s.toArray⟩ C).size+1))).heap[w.drew.heap.size]?=some (Obj.cells (bytesRow ⟨s.toArray⟩ C) e ((bytesRow ⟨s.toArray⟩ C).size,(bytesRow ⟨s.toArray⟩ C).size+1)):=by show(w.heap.push _)[w.heap.size]?=_;simp
  simp only[hh];unfold bytesRow;rw[aM];rw[kH uL];simp[hj]
def WM:∀(s:List UInt8) (off:Nat),az I w b (eU s) off->∀j (hj:j<s.length),w.cell? ⟨b,off+j,none⟩=some (.int .u8 (s[j].toNat:Int))
 |[],_,_,j,hj=>by simp at hj
 |x::s,off,h,j,hj=>by
  simp only[eU,cd,az,Z4,bw,bT]at h;obtain⟨⟨⟨c,h1,h2⟩,_⟩,h3⟩:=h;cases j with
  |zero=>simp only[Z7]at h2;subst h2;simpa using h1
  |succ j=>have:=WM s (off+1) h3 j iS;rw[show off+(j+1)=off+1+j by omega];simpa using this
def Zj6{st dt:TypeId}(ho:o.op = .convert st dt x)(hs:P.underlying st=some (.slice e))(hd:P.underlying dt=some .string)(he:P.underlying e=some (.int .u8))
 (hx:ai ρ x=some (.t (.sl (eU s)))) (hne:s≠[]):aR P o ρ Z [] (.t (.str s)) []:=
 bo λG β n tm Z' A w hop _ _=>by
  have hv:=hop x _ aS hx;simp only[VR,Z7]at hv;obtain⟨a,cap,hv,_,_,h3⟩:=hv;have hlen:(eU s).length=s.length:=by simp[eU]
  rw[hlen]at hv;rcases h3 with h3|⟨b,off,rfl,_,hel⟩
  .exact absurd (by simpa[eU]using h3) hne
  have hrun:=run_convert_bytes_back (P:=P) w st dt e ⟨b,off,none⟩ cap s hs he hd (λj hj=>by
   have h9:(⟨b,off,none⟩:Addr).add j=⟨b,off+j,none⟩:=by
    unfold Addr.add;by_cases h0:j=0
    .subst h0;rfl
    rw[aw h0]
   rw[h9];exact WM s off hel j hj)
  exact⟨.string ⟨s.toArray⟩,by simp only[execOp,ho,hv,hrun,aT,aU,aV],by simp[VR,Z7]⟩
end
end Go.PW
namespace Go.PW
open Go.RowKit
variable {f:Nat->Nat} {l b:Nat} {β:Nat->Option Nat} {w:World} {I I':Nat->Prop}
def aL:List Prop->Prop
 |[]=>True
 |p::ps=>p/\aL ps
def Z5{ps qs:List Prop}:aL (ps++qs)↔aL ps/\aL qs:=by
 induction ps with
 |nil=>simp[aL]
 |cons p ps ih=>simp[aL,ih,and_assoc]
mutual
def PV.ren(f:Nat->Nat):PV->PV
 |.t x =>.t x
 |.nils =>.nils
 |.osl l n =>.osl (f l) n
 |.bptr l o =>.bptr (f l) o
 |.rptr l n i o =>.rptr (f l) n i o
 |.vptr cs =>.vptr cs
 |.agg cs =>.agg (PV.rens f cs)
 |.tup cs =>.tup (PV.rens f cs)
 |.fn g cs =>.fn g (PV.rens f cs)
 |.own l d =>.own (f l) d
def PV.rens(f:Nat->Nat):List PV->List PV
 |[]=>[]
 |p::ps=>p.ren f::PV.rens f ps
end
def Blk.ren(f:Nat->Nat):Blk->Blk
 |.box cs =>.box (PV.rens f cs)
 |.row k es =>.row k es
 |.mat k q es =>.mat k q es
 |.map ag es =>.map ag es
 |.prow k i es cs =>.prow k i es (PV.rens f cs)
mutual
def PV.sc:PV->Bool
 |.t x=>x.scal
 |.vptr _=>false
 |.agg cs=>PV.scs cs
 |.tup cs=>PV.scs cs
 |.fn _ cs=>PV.scs cs
 |_=>true
def PV.scs:List PV->Bool
 |[]=>true
 |p::ps=>p.sc&&PV.scs ps
end
def Blk.SC:Blk->Prop
 |.box cs=>PV.scs cs=true
 |.row _ es=>∀el,el∈es->∀x,x∈el->aa.scal x=true
 |.mat k q _=>k=1/\q=0
 |.map _ _=>False
 |.prow _ _ _ _=>False
def PV.rens_length:∀(ps:List PV),(PV.rens f ps).length=ps.length
 |[]=>rfl
 |p::ps=>by simp[PV.rens,PV.rens_length ps]
def PV.rens_one:∀(ps:List PV),(PV.rens f ps).all PV.one=ps.all PV.one
 |[]=>rfl
 |p::ps=>by simp only[PV.rens,ky,PV.rens_one ps];cases p<;>rfl
mutual
def PV.ren_free{f:Nat->Nat}:∀(p:PV),p.free=true->p.ren f=p
 |.t _,_=>rfl
 |.nils,_=>rfl
 |.vptr _,_=>rfl
 |.agg cs,h=>C2
 |.tup cs,h=>C2
 |.fn _ cs,h=>C2
 |.osl _ _,h=>mS
 |.bptr _ _,h=>mS
 |.rptr _ _ _ _,h=>mS
 |.own _ _,h=>mS
def PV.rens_free{f:Nat->Nat}:∀(ps:List PV),PV.frees ps=true->PV.rens f ps=ps
 |[],_=>rfl
 |p::ps,h=>by simp only[PV.frees,aN]at h;simp only[PV.rens];rw[PV.ren_free p h.1,PV.rens_free ps h.2]
end
def Z7h:∀(ps qs:List PV),PV.rens f (ps++qs)=PV.rens f ps++PV.rens f qs
 |[],_=>rfl
 |p::ps,qs=>by simp only[gi,PV.rens,Z7h ps qs]
def DM:∀(ts:List aa),PV.rens f (ts.map .t)=ts.map .t
 |[]=>rfl
 |t::ts=>by simp only[cd,PV.rens,PV.ren,DM ts]
def EK{i:Nat}{es:List (List aa)}{cs:List PV}:PV.rens f (eX i es cs)=eX i es (PV.rens f cs):=by unfold eX;rw[Z7h,Z7h,DM,DM]
def ni(c c':Ctx)(l m:Nat):Prop:=
 (∀k es,get c'.Z m=some (.row k es)->get c.Z l=some (.row k es)/\c'.β m=c.β l/\∀b s,c.β l=some b->bm c.w b s->bm c'.w b s) /\
 (∀cs',get c'.Z m=some (.box cs')->∃cs,get c.Z l=some (.box cs)/\c'.β m=c.β l) /\
 (∀k q es,get c'.Z m=some (.mat k q es)->get c.Z l=some (.mat k q es)/\c'.β m=c.β l/\∀b,c.β l=some b->(∀s,bm c.w b s->bm c'.w b s)/\∀j,c'.w.cell? ⟨b,j,none⟩=c.w.cell? ⟨b,j,none⟩) /\
 (∀ag es,get c'.Z m=some (.map ag es)->get c.Z l=some (.map ag es)/\c'.β m=c.β l) /\
 (∀k i es cs',get c'.Z m=some (.prow k i es cs')->∃cs,get c.Z l=some (.prow k i es cs)/\c'.β m=c.β l/\∀b s,c.β l=some b->bm c.w b s->bm c'.w b s)
def ODR.ren{c c':Ctx}{m:Nat}{v:Value}(hl:ni c c' l m):∀{d:OD},ODR c l v d->ODR c' m v d
 |.tail n i,h=>λk es hg=>by
  obtain⟨hg0,hβ,hh⟩:=hl.1 k es hg;obtain⟨h1,h2⟩:=h k es hg0;refine⟨h1,λhn=>?_⟩;obtain⟨a,cap,hv,hc2,h3⟩:=h2 hn;refine⟨a,cap,hv,hc2,?_⟩;rcases h3 with hc|⟨b,s,ha,hb,hcs,hsz⟩
  .exact .inl hc
  exact .inr ⟨b,s,ha,hβ.trans hb,hh b s hb hcs,hsz⟩
 |.msl n,h=>λk q es hg=>by
  obtain⟨hg0,hβ,hh⟩:=hl.2.2.1 k q es hg;obtain⟨h1,h2⟩:=h k q es hg0;refine⟨h1,λhn=>?_⟩;obtain⟨a,cap,hv,hc1,hc2,h3⟩:=h2 hn;refine⟨a,cap,hv,hc1,hc2,?_⟩;rcases h3 with⟨hc,hb⟩|⟨b,s,ha,hb,hcs,hsz⟩
  .exact .inl ⟨hc,hβ.trans hb⟩
  exact .inr ⟨b,s,ha,hβ.trans hb,(hh b hb).1 s hcs,hsz⟩
 |.mpt n j off,h=>λk q es hg=>by obtain⟨hg0,hβ,hh⟩:=hl.2.2.1 k q es hg;obtain⟨h1,h2⟩:=h k q es hg0;refine⟨h1,λhn=>?_⟩;obtain⟨b,hb,hv⟩:=h2 hn;exact⟨b,hβ.trans hb,hv⟩
 |.mrow n j,h=>⟨h.1,λk q es hg=>by obtain⟨hg0,hβ,hh⟩:=hl.2.2.1 k q es hg;obtain⟨h1,h2⟩:=h.2 k q es hg0;refine⟨h1,λhn=>?_⟩;obtain⟨b,hb,hv⟩:=h2 hn;exact⟨b,hβ.trans hb,((hh b hb).2 _).trans hv⟩⟩
 |.mel n j i,h=>⟨h.1,λk q es hg=>by obtain⟨hg0,hβ,hh⟩:=hl.2.2.1 k q es hg;obtain⟨h1,h2⟩:=h.2 k q es hg0;refine⟨h1,λhn=>?_⟩;obtain⟨b,d,len,cap,hb,hv,hp⟩:=h2 hn;exact⟨b,d,len,cap,hβ.trans hb,((hh b hb).2 _).trans hv,hp⟩⟩
 |.map,h=>λag es hg=>by obtain⟨hg0,hβ⟩:=hl.2.2.2.1 ag es hg;obtain⟨b,hb,hv⟩:=h ag es hg0;exact⟨b,hβ.trans hb,hv⟩
 |.pw n,h=>λk i es cs' hg=>by obtain⟨cs,hg0,hβ,hh⟩:=hl.2.2.2.2 k i es cs' hg;obtain⟨h1,h2⟩:=h k i es cs hg0;refine⟨h1,λhn=>?_⟩;obtain⟨b,s,cap,hv,hc1,hc2,hb,hr,hs⟩:=h2 hn;exact⟨b,s,cap,hv,hc1,hc2,hβ.trans hb,hh b s hb hr,hs⟩
 |.pp n off,h=>λk i es cs' hg=>by obtain⟨cs,hg0,hβ,_⟩:=hl.2.2.2.2 k i es cs' hg;obtain⟨h1,h2⟩:=h k i es cs hg0;refine⟨h1,λhn=>?_⟩;obtain⟨b,hb,hv⟩:=h2 hn;exact⟨b,hβ.trans hb,hv⟩
def aH.lab{β':Nat->Option Nat}{i:Nat}{o:Blk}(hβ:β' i=β l)(h:aH β' w i o b):aH β w l o b:=by
 rcases h with h|⟨k,q,es,b0,h1,h2,h3⟩
 .exact .inl (hβ▸h)
 exact .inr ⟨k,q,es,b0,h1,hβ▸h2,h3⟩
def aH.unren{o:Blk}(h:aH β w l (o.ren f) b):aH β w l o b:=by
 cases o with
 |row k es=>exact h
 |mat k q es=>exact h
 |map ag es=>exact .inl (aH.flat (o :=.map ag es) trivial h)
 |prow k i es cs=>exact .inl (aH.flat (o :=.prow k i es (PV.rens f cs)) trivial h)
 |box cs=>exact .inl (aH.flat (o :=.box (PV.rens f cs)) trivial h)
def Z7.scal{w':World}{t:aa}{v:Value}(hs:t.scal=true)(h:Z7 I w t v):Z7 I' w' t v:=by
 cases t
 case sl es=>
  cases es with
  |nil=>
   simp only[Z7]at h⊢;obtain⟨a,cap,hv,h1,h2,_⟩:=h;exact⟨a,cap,hv,h1,h2,.inl trivial⟩
  |cons e es=>simp[aa.scal]at hs
 all_goals simpa[Z7]using h
def Z4.scal:∀(ts:List aa) (off:Nat),(∀x,x∈ts->aa.scal x=true)->Z4 I w b ts off->Z4 I' w b ts off
 |[],_,_,_=>trivial
 |t::ts,off,hs,h=>by simp only[Z4]at h⊢;obtain⟨⟨c,hc,ht⟩,hr⟩:=h;exact⟨⟨c,hc,ht.scal (hs t ax)⟩,Z4.scal ts _ (λx hx=>hs x (bW _ hx)) hr⟩
def az.scal:∀(es:List (List aa)) (off:Nat),(∀el,el∈es->∀x,x∈el->aa.scal x=true)->az I w b es off->az I' w b es off
 |[],_,_,_=>trivial
 |e::es,off,hs,h=>by simp only[az]at h⊢;exact⟨Z4.scal e off (hs e ax) h.1,az.scal es _ (λel hel=>hs el (bW _ hel)) h.2⟩
mutual
def VR.ren{c c':Ctx}{f:Nat->Nat}{sc:Bool}(hI:sc=false->∀b,c.I b->c'.I b/\c'.w.heap[b]?=c.w.heap[b]?):∀(p:PV) (v:Value),(sc=true->p.sc=true)->(∀l,p.has l=true->ni c c' l (f l))->VR c p v->VR c' (p.ren f) v
 |.t x,v,hs,_,h=>by
  simp only[VR,PV.ren]at h⊢;cases sc with
  |false=>exact Z7.mono (hI rfl) x v h
  |true=>exact h.scal (by simpa[PV.sc]using hs rfl)
 |.nils,v,_,_,h=>h
 |.osl l n,v,_,hl,h=>by
  simp only[VR,PV.ren]at h⊢;refine⟨λk es hg=>?_,h.2⟩;obtain⟨h1,h2,h3⟩:=(hl l gz).1 k es hg;obtain⟨g1,g2⟩:=h.1 k es h1;refine⟨g1,λhn=>?_⟩;obtain⟨a,cap,hv,e1,e2,e3⟩:=g2 hn;refine⟨a,cap,hv,e1,e2,?_⟩;rcases e3 with⟨hc,hb⟩|⟨b,m,ha,hb,hr,hs⟩
  .exact .inl ⟨hc,h2.trans hb⟩
  exact .inr ⟨b,m,ha,h2.trans hb,h3 b m hb hr,hs⟩
 |.bptr l o,v,_,hl,h=>by simp only[VR,PV.ren]at h⊢;refine⟨λcs hg=>?_,h.2⟩;obtain⟨cs0,h1,h2⟩:=(hl l gz).2.1 cs hg;obtain⟨b,hb,hv⟩:=h.1 cs0 h1;exact⟨b,h2.trans hb,hv⟩
 |.rptr l n i o,v,_,hl,h=>by simp only[VR,PV.ren]at h⊢;refine⟨λk es hg=>?_,h.2⟩;obtain⟨h1,h2,h3⟩:=(hl l gz).1 k es hg;obtain⟨g1,g2⟩:=h.1 k es h1;refine⟨g1,λhn=>?_⟩;obtain⟨b,hb,hv⟩:=g2 hn;exact⟨b,h2.trans hb,hv⟩
 |.vptr cs,v,hs,_,h=>by
  cases sc with
  |false=>have:=VR.step (c:=c) (c':=c') (hI rfl) (.vptr cs) v (λl hl=>by simp[PV.has]at hl) h;simpa[PV.ren]using this
  |true=>have:=hs rfl;simp[PV.sc]at this
 |.agg cs,v,hs,hl,h=>CV
 |.tup cs,v,hs,hl,h=>CV
 |.fn _ cs,v,hs,hl,h=>CV
 |.own l d,v,_,hl,h=>by simp only[VR,PV.ren]at h⊢;exact⟨h.1.ren (hl l gz),h.2⟩
def VRs.ren{c c':Ctx}{f:Nat->Nat}{sc:Bool}(hI:sc=false->∀b,c.I b->c'.I b/\c'.w.heap[b]?=c.w.heap[b]?):∀(ps:List PV) (vs:List Value),(sc=true->PV.scs ps=true)->(∀l,PV.hasAny l ps=true->ni c c' l (f l))->VRs c ps vs->VRs c' (PV.rens f ps) vs
 |[],vs,_,_,h=>h
 |p::ps,vs,hs,hl,h=>by
  simp only[VRs,PV.rens]at h⊢;obtain⟨v,rest,rfl,hv,hr⟩:=h;have hs':sc=true->p.sc=true/\PV.scs ps=true:=λe=>by simpa[PV.scs]using hs e
  exact⟨v,rest,rfl,VR.ren hI p v (λe=>(hs' e).1) (λl h=>hl l xk) hv,VRs.ren hI ps rest (λe=>(hs' e).2) (λl h=>hl l xk) hr⟩
end
def bS(ls:List Nat)(d l:Nat):Nat:=match ls[l]? with|some L=>L|none=>l+d
def bQ(f:Nat->Nat):List (Nat×Blk)->List (Nat×Blk)
 |[]=>[]
 |(l,b)::r=>(f l,b.ren f)::bQ f r
def iu(f:Nat->Nat):List (Nat×Blk)->Nat->Option Nat
 |[],_=>none
 |(l,_)::r,m=>bif Nat.beq (f l) m then some l else iu f r m
def Z2k:∀{σ1:List (Nat×Blk)} {m:Nat} {o:Blk},get (bQ f σ1) m=some o->∃l o1,iu f σ1 m=some l/\get σ1 l=some o1/\o=o1.ren f/\f l=m
 |[],m,o,h=>dq
 |(l,b)::r,m,o,h=>by
  simp only[bQ,PW.get]at h;cases hb:Nat.beq (f l) m with
  |true=>
   simp only[hb,aB,aA]at h;exact⟨l,b,by simp[iu,hb],by simp[PW.get],h.symm,(Z9 _ _).1 hb⟩
  |false=>
   simp only[hb,aD]at h;obtain⟨l',o1,h1,h2,h3,h4⟩:=Z2k h;refine⟨l',o1,by simp[iu,hb,h1],?_,h3,h4⟩;simp only[PW.get];rw[e8 (λe=>by subst e;rw[h4]at hb;simp at hb),aD,h2]
def pn:∀{σ1:List (Nat×Blk)} {m l:Nat},iu f σ1 m=some l->f l=m/\(∃o1,get σ1 l=some o1)/\∃o,get (bQ f σ1) m=some o
 |[],m,l,h=>dq
 |(l0,b)::r,m,l,h=>by
  simp only[iu]at h;cases hb:Nat.beq (f l0) m with
  |true=>
   simp only[hb,aB,aA]at h;subst h;exact⟨(Z9 _ _).1 hb,⟨b,by simp[PW.get]⟩,⟨b.ren f,by simp[bQ,PW.get,hb]⟩⟩
  |false=>
   simp only[hb,aD]at h;obtain⟨h1,⟨o1,h2⟩,⟨o,h3⟩⟩:=pn h;refine⟨h1,⟨o1,?_⟩,⟨o,by simp[bQ,PW.get,hb,h3]⟩⟩;simp only[PW.get];rw[e8 (λe=>by subst e;rw[h1]at hb;simp at hb),aD,h2]
def Z2l:∀{σ1:List (Nat×Blk)} {l:Nat} {o1:Blk},get σ1 l=some o1->∃l',iu f σ1 (f l)=some l'
 |[],l,o1,h=>dq
 |(l0,b)::r,l,o1,h=>by
  simp only[PW.get]at h;simp only[iu];cases hb:Nat.beq (f l0) (f l)with
  |true=>exact⟨l0,rfl⟩
  |false=>
   cases hb2:Nat.beq l0 l with
   |true=>have:=(Z9 _ _).1 hb2;subst this;simp at hb
   |false=>simp only[hb2,aD]at h;exact Z2l h
def EJ:∀(a b:List (Nat×Blk)),bQ f (a++b)=bQ f a++bQ f b
 |[],b=>rfl
 |(l,x)::a,b=>by simp only[gi,bQ,EJ a b]
def βc(β:Nat->Option Nat)(ls:List Nat)(i:Nat):Option Nat:=match ls[i]? with|some L=>β L|none=>none
def β2(β β':Nat->Option Nat)(f:Nat->Nat)(σ1:List (Nat×Blk))(m:Nat):Option Nat:=match iu f σ1 m with|some l=>β' l|none=>β m
def uc(o o':Blk):Prop:=o'=o\/∃cs cs',o = .box cs/\o' = .box cs'
def uc.own{o o':Blk}(h:uc o o')(hb:aH β w l o' b):aH β w l o b:=by
 rcases h with rfl|⟨cs,cs',rfl,rfl⟩
 .exact hb
 exact .inl (aH.flat (o :=.box cs') trivial hb)
structure ue (ls:List Nat) (d:Nat) (tm:List (Nat×PV)) (Z σa σ1:List (Nat×Blk)) (res:PV):Prop where
 nd:∀(i j L:Nat),ls[i]?=some L->ls[j]?=some L->i=j
 len:ls.length<=1000
 sa:∀(i:Nat) o,get σa i=some o->∃L,ls[i]?=some L/\∃o0,get Z L=some o0/\uc o0 o
 all:∀(i L:Nat),ls[i]?=some L->∃o,get σa i=some o
 np:∀(i k j:Nat) es cs,get σa i≠some (.prow k j es cs)
 box:∀(l:Nat) o,get σ1 l=some o->∀L,ls[l]?=some L->(∃cs cs0,o = .box cs/\get Z L=some (.box cs0))\/∃k es es0,o = .row k es/\get Z L=some (.row k es0)
 fr:∀(l:Nat) o,get σ1 l=some o->ls[l]?=none->1000<=l+d/\(∀i q,get tm i=some q->q.has (l+d)=false)/\(∀m y,get Z m=some y->m≠l+d/\y.has (l+d)=false)
 cl:∀l,(res.has l=true\/∃m o,get σ1 m=some o/\o.has l=true)->∃o,get σ1 l=some o
def ue.key{ls:List Nat}{d:Nat}{tm:List (Nat×PV)}{Z σa σ1:List (Nat×Blk)}{res:PV}(h:ue ls d tm Z σa σ1 res){o:Blk}(hg:get σ1 l=some o):iu (bS ls d) σ1 (bS ls d l)=some l:=by
 obtain⟨l',hl'⟩:=Z2l (f:=bS ls d) hg;obtain⟨h1,⟨o',h2⟩,_⟩:=pn hl';suffices l'=l by rw[hl',this]
 unfold bS at h1;cases e1:ls[l']? with
 |some L1=>
  cases e2:ls[l]? with
  |some L2=>simp only[e1,e2]at h1;subst h1;exact h.nd _ _ _ e1 e2
  |none=>
   simp only[e1,e2]at h1;obtain⟨o3,h3⟩:=h.all _ _ e1;obtain⟨L,h4,_,h5,_⟩:=h.sa _ _ h3;rw[e1]at h4;cases h4;exact absurd h1 ((h.fr l o hg e2).2.2 _ _ h5).1
 |none=>
  cases e2:ls[l]? with
  |some L2=>
   simp only[e1,e2]at h1;obtain⟨o3,h3⟩:=h.all _ _ e2;obtain⟨L,h4,_,h5,_⟩:=h.sa _ _ h3;rw[e2]at h4;cases h4;exact absurd h1.symm ((h.fr l' o' h2 e1).2.2 _ _ h5).1
  |none=>simp only[e1,e2]at h1;omega
def VP{n:Nat}:∀(es:List (List aa)) (off:Nat),(∀el,el∈es->el.length=1)->off+es.length<=n->az (λd=>I d\/Subs w b 1 0 n d) w b es off ->
 (∀j e,es[j]?=some e->∃inner a len cap,e[0]?=some (.sl inner)/\(∀x,x∈inner->∃t,x=[t]/\t.scal=true)/\w.cell? ⟨b,off+j,none⟩=some (.slice a len cap)/\(len≠0->∃d,a=some ⟨d,0,none⟩)) ->
 az (λd=>I' d\/Subs w b 1 0 n d) w b es off
 |[],_,_,_,_,_=>trivial
 |e::es,off,h1,hn,h,hin=>by
  simp only[az]at h⊢;have he:=h1 e ax;simp only[bw]at hn;obtain⟨inner,a,len,cap,g1,g2,g3,g4⟩:=hin 0 e rfl;obtain⟨t,rfl⟩:=List.length_eq_one_iff.1 he;simp only[kv,aA]at g1;subst g1;refine⟨?_,?_⟩
  .simp only[Z4]at h⊢;obtain⟨⟨c,hc,ht⟩,_⟩:=h.1;refine⟨⟨c,hc,?_⟩,ab⟩;rw[c7]at g3;rw[g3]at hc;cases hc;simp only[Z7]at ht⊢;obtain⟨a',cap',hv,k1,k2,k3⟩:=ht;cases hv;refine⟨a,cap,rfl,k1,k2,?_⟩;rcases k3 with k3|⟨b',o',k3,k4,k5⟩
   .exact .inl k3
   by_cases hz:inner.length=0
   .exact .inl (dv hz)
   obtain⟨d,hd⟩:=g4 hz;rw[k3]at hd;cases hd;refine .inr ⟨b',0,k3,.inr ⟨off,by omega,inner.length,cap,hz,by rw[db,c7,g3,k3]⟩,?_⟩;exact az.scal inner 0 (λel hel x hx=>by obtain⟨t,rfl,ht⟩:=g2 el hel;rw[dU.1 hx];exact ht) k5
  refine VP es _ (λel hel=>h1 el (bW _ hel)) (by simp only[nn];omega) h.2 (λj e' hj=>?_);obtain⟨i2,a2,l2,c2,f1,f2,f3,f4⟩:=hin (j+1) e' hj;exact⟨i2,a2,l2,c2,f1,f2,by rw[<- f3];simp only[nn];congr 2;omega,f4⟩
def callU{P:Program}{f:FuncId}{σa:List (Nat×Blk)}{qs:List PV}{σ1:List (Nat×Blk)}{res:PV}(hfn:FnG P f σa qs σ1 res)
 {G:Frm} {n:Nat} {tm:List (Nat×PV)} {Z:List (Nat×Blk)} {a:Act} (hr:aO G β ⟨n,tm,Z⟩ a w) {ls:List Nat} {d:Nat}
 (hok:ue ls d tm Z σa σ1 res) {sc:Bool} {vals:List Value} (hlen:vals.length=qs.length) (A:Nat->Prop) (hA:∀b,A b->b<w.heap.size/\∀(i:Nat) (L:Nat) (o:Blk),ls[i]?=some L->get Z L=some o->¬aH β w L o b)
 (hAT:∀b,Imm G β w Z b->A b) (hA0:sc=false->∀b,A b->Imm G β w Z b) (hsc:sc=true->res.sc=true/\∀l o,get σ1 l=some o->o.SC)
 (hv:VRs (ctx (cT (βc β ls) σa A w) (βc β ls) w σa) qs vals)
 (hbx:∀(i L:Nat) cs0 cs,ls[i]?=some L->get Z L=some (.box cs0)->get σa i=some (.box cs)->∀vs,VRs (ctx G β w Z) cs0 vs->cs0.all PV.one=true->VRs (ctx (cT (βc β ls) σa A w) (βc β ls) w σa) cs vs/\cs.all PV.one=true) :
 Calls P f vals.toArray w λe w'=>∃v b2,e = .returned v/\aO G b2 ⟨n,tm,bQ (bS ls d) σ1++bn ls Z⟩ a w'/\VR (ctx G b2 w' (bQ (bS ls d) σ1++bn ls Z)) (res.ren (bS ls d)) v:=by
 have hβc:∀(i L:Nat),ls[i]?=some L->βc β ls i=β L:=λi L h=>by simp[βc,h]
 have hownc:∀b,VQ (βc β ls) w σa b->∃(i L:Nat) (o:Blk),ls[i]?=some L/\get Z L=some o/\aH β w L o b:=by rintro b ⟨i,o,ho,hb⟩;obtain⟨L,h1,o0,h2,h3⟩:=hok.sa i o ho;exact⟨i,L,o0,h1,h2,h3.own (hb.lab (hβc i L h1))⟩
 refine(hfn.2 A (βc β ls) w vals hlen ?_).mono ?_
 .refine { defers:=rfl,sz:=by simp[hlen],base:=bh _,os:=rfl,tape:=rfl,output:=rfl,old:=λ_ _ _=>rfl,A:=λb hb=>⟨(hA b hb).1,λh=>?_⟩,gl:=λg k hg=>⟨(hr.glw g k hg).1,λh=>?_,hAT g (hr.glI hg),(hr.glw g k hg).2⟩,inj:=λi i' o o' b h h' hb hb'=>?_,sep:=λi o b h hb=>⟨?_,.inr ⟨i,o,h,hb⟩⟩,fix:=λ_ _ _ _=>rfl,row0:=λl k es' _ h=>⟨es',h,bh _,λ_=>⟨rfl,λ_ _ _ h=>h⟩⟩,blk:=λi o h=>?_,tm:=λi p hp=>?_ }
  .obtain⟨i,L,o,h1,h2,h3⟩:=hownc b h;exact(hA b hb).2 i L o h1 h2 h3
  .obtain⟨i,L,cs,h1,h2,h3⟩:=hownc g h;obtain⟨g1,g2,_⟩:=hr.gl g k hg;rcases(hr.sep L _ g h2 h3).2 with h4|h4
   .omega
   exact g2 h4
  .obtain⟨L,h1,o0,h2,h3⟩:=hok.sa i o h;obtain⟨L',h1',o0',h2',h3'⟩:=hok.sa i' o' h';have:=hr.inj L L' _ _ b h2 h2' (h3.own (hb.lab (hβc i L h1))) (h3'.own (hb'.lab (hβc i' L' h1')));subst this;exact hok.nd _ _ _ h1 h1'
  .obtain⟨L,h1,o0,h2,h3⟩:=hok.sa i o h;exact(hr.sep L _ b h2 (h3.own (hb.lab (hβc i L h1)))).1
  .obtain⟨L,h1,o0,h2,h3⟩:=hok.sa i o h;have hII:∀b,Imm G β w Z b->Imm (cT (βc β ls) σa A w) (βc β ls) w σa b:=λb hb=>⟨(hA b (hAT b hb)).1,.inr (.inl (hAT b hb)),λj o ho hb'=>by
    obtain⟨L',h1',o0',h2',h3'⟩:=hok.sa j o ho;exact(hA b (hAT b hb)).2 j L' o0' h1' h2' (h3'.own (hb'.lab (hβc j L' h1')))⟩
   cases o with
   |box cs=>
    obtain⟨cs0,rfl⟩:∃cs0,o0 = .box cs0:=by
     rcases h3 with h3|⟨cs0,_,h3,_⟩
     .exact⟨cs,h3.symm⟩
     exact⟨cs0,h3⟩
    obtain⟨b,vs,e1,e2,e3,e4,e5⟩:=hr.blk L _ h2;obtain⟨g1,g2⟩:=hbx i L cs0 cs h1 h2 h vs e4 e5;exact⟨b,vs,by rw[show(ctx (cT (βc β ls) σa A w) (βc β ls) w σa).β i=β L from hβc i L h1];exact e1,by rw[<- g1.length,e4.length];exact e2,e3,g1,g2⟩
   |row k es=>
    obtain rfl:o0 = .row k es:=by
     rcases h3 with h3|⟨_,_,_,h3⟩
     .exact h3.symm
     cases h3
    obtain⟨e0,e1,e2⟩:=hr.blk L _ h2;refine⟨e0,e1,?_⟩;rcases e2 with⟨e2,e3⟩|⟨b,m,e2,e3,e4,e5⟩
    .exact .inl ⟨(show(ctx (cT (βc β ls) σa A w) (βc β ls) w σa).β i=β L from hβc i L h1).trans e2,e3⟩
    exact .inr ⟨b,m,(show(ctx (cT (βc β ls) σa A w) (βc β ls) w σa).β i=β L from hβc i L h1).trans e2,e3,e4,az.mono (w:=w) (w':=w) (λb hb=>⟨hII b hb,rfl⟩) rfl es 0 e5⟩
   |prow k j es cs=>exact absurd h (hok.np i k j es cs)
   |map ag es=>
    obtain rfl:o0 = .map ag es:=by
     rcases h3 with h3|⟨_,_,_,h3⟩
     .exact h3.symm
     cases h3
    obtain⟨b,ents,clock,e1,e2,e3⟩:=hr.blk L _ h2;exact⟨b,ents,clock,(show(ctx (cT (βc β ls) σa A w) (βc β ls) w σa).β i=β L from hβc i L h1).trans e1,e2,eD.step (c:=ctx G β w Z) (c':=ctx (cT (βc β ls) σa A w) (βc β ls) w σa) (λb hb=>⟨hII b hb,rfl⟩) e3⟩
   |mat k q es=>
    obtain rfl:o0 = .mat k q es:=by
     rcases h3 with h3|⟨_,_,_,h3⟩
     .exact h3.symm
     cases h3
    obtain⟨e0,e1,e2⟩:=hr.blk L _ h2;refine⟨e0,e1,?_⟩;rcases e2 with⟨e2,e3⟩|⟨b,m,e2,e3,e4,e5,e6⟩
    .exact .inl ⟨(show(ctx (cT (βc β ls) σa A w) (βc β ls) w σa).β i=β L from hβc i L h1).trans e2,e3⟩
    exact .inr ⟨b,m,(show(ctx (cT (βc β ls) σa A w) (βc β ls) w σa).β i=β L from hβc i L h1).trans e2,e3,e4,az.mono (w:=w) (w':=w) (λb hb=>⟨hb.imp (hII b) id,rfl⟩) rfl es 0 e5,e6⟩
  rw[Z2c]at hp;simp only[gp,dM,Nat.sub_zero]at hp;obtain⟨v,hv1,hv2⟩:=hv.get i p hp;refine⟨(aJ.1 hp).1,?_⟩;simp only[Array.getD_eq_getD_getElem?,uk,hv1,iw];exact hv2
 rintro e w' ⟨v,β',he,hc⟩;have hsz:w.heap.size<=w'.heap.size:=hc.base;have hold:∀b,b<w.heap.size->(∀(i L:Nat) (o:Blk),ls[i]?=some L->get Z L=some o->¬aH β w L o b)->w'.heap[b]?=w.heap[b]?:=λb hb h=>hc.old b hb (λh'=>by obtain⟨i,L,o,h1,h2,h3⟩:=hownc b h';exact h i L o h1 h2 h3);have hOm:∀m o,m∉ls->get Z m=some o->∀b,aH β w m o b->w'.heap[b]?=w.heap[b]?:=λm o hm hg b ho=>hold b (hr.sep m o b hg ho).1 (λi L o' hL hg' ho'=>by have:=hr.inj m L _ _ b hg hg' ho ho';subst this;exact hm (bF hL));let ren:=bS ls d
 let b2:=β2 β β' ren σ1
 let σ2:=bQ ren σ1++bn ls Z
 have hb2k:∀l o,get σ1 l=some o->b2 (ren l)=β' l:=λl o h=>by show(match iu ren σ1 (ren l)with|some l=>β' l|none=>β (ren l))=β' l;rw[show iu ren σ1 (ren l)=some l from hok.key h]
 have hcase:∀m o,get σ2 m=some o->(∃l o1,get σ1 l=some o1/\o=o1.ren ren/\ren l=m/\b2 m=β' l)\/(m∉ls/\get Z m=some o/\b2 m=β m):=by
  intro m o h;simp only[σ2]at h;rw[kC]at h;cases hg:get (bQ ren σ1) m with
  |some o'=>
   rw[hg]at h;cases h;obtain⟨l,o1,h1,h2,h3,h4⟩:=Z2k hg;exact .inl ⟨l,o1,h2,h3,h4,by rw[<- h4];exact hb2k l o1 h2⟩
  |none=>
   rw[hg]at h;obtain⟨h1,h2⟩:=Z2h h;refine .inr ⟨h1,h2,?_⟩;simp only[b2,β2];cases hk:iu ren σ1 m with
   |none=>rfl
   |some l=>obtain⟨_,_,o,h3⟩:=pn hk;rw[hg]at h3;cases h3
 have hOu:∀m o,m∉ls->get Z m=some o->b2 m=β m->∀b,aH b2 w' m o b->aH β w m o b:=λm o hm hg hβ b ho=>ho.of hβ (λb0 hb0=>hOm m o hm hg b0 (.inl hb0));have hOr:∀m l o1 b,b2 m=β' l->aH b2 w' m (o1.ren ren) b->aH β' w' l o1 b:=λm l o1 b hβ ho=>ho.unren.lab hβ;have hnew:∀l o b,get σ1 l=some o->aH β' w' l o b->b<w'.heap.size/\(w.heap.size<=b\/∃(i L:Nat) (o:Blk),ls[i]?=some L/\get Z L=some o/\aH β w L o b):=by intro l o b h hb;obtain⟨h1,h2⟩:=hc.sep l o b h hb;exact⟨h1,h2.imp id (hownc b)⟩
 have hnotσ:∀l o b m y,get σ1 l=some o->aH β' w' l o b->m∉ls->get Z m=some y->¬aH β w m y b:=by
  intro l o b m y h hb hm hy hbm;have hlt:=(hr.sep m y b hy hbm).1;rcases(hnew l o b h hb).2 with h1|⟨i,L,cs,h1,h2,h3⟩
  .omega
  have:=hr.inj m L _ _ b hy h2 hbm h3;subst this;exact hm (bF h1)
 have hpass:∀(i L:Nat),ls[i]?=some L->∃o,get Z L=some o:=λi L h=>by obtain⟨o,ho⟩:=hok.all i L h;obtain⟨L',h1,o0,h2,_⟩:=hok.sa i o ho;rw[h]at h1;cases h1;exact⟨o0,h2⟩
 have hlt1:∀(i L:Nat),ls[i]?=some L->i<1000:=λi L h=>eE (aJ.1 h).1 hok.len;have hkeep:∀l cs L,get σ1 l=some (.box cs)->ls[l]?=some L->β' l=β L:=λl cs L h hL=>by have:=hc.fix l cs (hlt1 l L hL) h;rw[this];exact hβc l L hL
 have hImm:∀b,Imm G β w Z b->Imm G b2 w' σ2 b/\w'.heap[b]?=w.heap[b]?:=by
  rintro b ⟨h1,h2,h3⟩;refine⟨⟨eE h1 hsz,h2,λm o hm hb=>?_⟩,hold b h1 (λi L o hL hg hb=>h3 L _ hg hb)⟩;rcases hcase m o hm with⟨l,o1,e1,rfl,_,e4⟩|⟨e1,e2,e3⟩
  .rcases (hnew l o1 b e1 (hOr m l o1 b e4 hb)).2 with h|⟨i,L,cs,f1,f2,f3⟩
   .omega
   exact h3 L _ f2 f3
  exact h3 m o e2 (hOu m o e1 e2 e3 b hb)
 have hLS:∀l,(∀m o,get σ1 m=some o->ls[m]?=none->m+d≠l)->a8 (ctx G β w Z) (ctx G b2 w' σ2) l:=by
  intro l hl;refine⟨λk es' hg=>?_,λcs' hg=>?_,λk q es' hg=>?_,λk es' hg=>?_,λk i es' cs' hg=>?_⟩
  .rcases hcase l _ hg with⟨m,o1,e1,e2,e3,e4⟩|⟨e1,e2,e3⟩
   .cases hm:ls[m]? with
    |some L=>
     rcases hok.box m o1 e1 L hm with⟨cs,_,rfl,_⟩|⟨k1,es1,es0,rfl,hg0⟩
     .simp [Blk.ren]at e2
     simp only[Blk.ren,Blk.row.injEq]at e2;obtain⟨rfl,rfl⟩:=e2;have hLl:L=l:=mR
     subst hLl;obtain⟨es2,f1,f2,f3⟩:=hc.row0 m k es' (hlt1 m L hm) e1;have f1:get σa m=some (.row k es2):=f1;obtain⟨L',h1,o0,h2,h3⟩:=hok.sa m _ f1;rw[hm]at h1;cases h1;obtain rfl:o0 = .row k es2:=by
      rcases h3 with h3|⟨_,_,_,h3⟩
      .exact h3.symm
      cases h3
     refine⟨es2,h2,f2,λhe=>?_⟩;obtain⟨f4,f5⟩:=f3 he;exact⟨e4.trans (f4.trans (hβc m L hm)),λb q hb hrow=>f5 b q ((hβc m L hm).trans hb) hrow⟩
    |none=>exact(hl m o1 e1 hm mR).elim
   exact⟨es',e2,bh _,λ_=>⟨e3,λb m hb hrow=>hrow.of_heap (hOm l _ e1 e2 b (.inl hb))⟩⟩
  .rcases hcase l _ hg with⟨m,o1,e1,e2,e3,e4⟩|⟨e1,e2,e3⟩
   .cases hm:ls[m]? with
    |some L=>
     obtain⟨cs,cs0,rfl,hg0⟩:∃cs cs0,o1 = .box cs/\get Z L=some (.box cs0):=by
      rcases hok.box m o1 e1 L hm with h|⟨_,_,_,rfl,_⟩
      .exact h
      simp[Blk.ren]at e2
     have hLl:L=l:=mR
     subst hLl;exact⟨cs0,hg0,by rw[show(ctx G b2 w' σ2).β L=β' m from e4];exact hkeep m cs L e1 hm⟩
    |none=>exact(hl m o1 e1 hm mR).elim
   exact⟨cs',e2,e3⟩
  .rcases hcase l _ hg with⟨m,o1,e1,e2,e3,e4⟩|⟨e1,e2,e3⟩
   .exfalso;cases hm:ls[m]? with
    |some L=>rcases hok.box m o1 e1 L hm with⟨cs,_,rfl,_⟩|⟨_,_,_,rfl,_⟩<;>simp[Blk.ren]at e2
    |none=>exact hl m o1 e1 hm mR
   exact⟨es',e2,bh _,λ_=>⟨e3,λb hb=>⟨λm hrow=>hrow.of_heap (hOm l _ e1 e2 b (.inl hb)),λ_ _=>gU (w:=w) (hOm l _ e1 e2 b (.inl hb))⟩⟩⟩
  .rcases hcase l _ hg with⟨m,o1,e1,e2,e3,e4⟩|⟨e1,e2,e3⟩
   .exfalso;cases hm:ls[m]? with
    |some L=>rcases hok.box m o1 e1 L hm with⟨cs,_,rfl,_⟩|⟨_,_,_,rfl,_⟩<;>simp[Blk.ren]at e2
    |none=>exact hl m o1 e1 hm mR
   exact⟨es',e2,e3⟩
  rcases hcase l _ hg with⟨m,o1,e1,e2,e3,e4⟩|⟨e1,e2,e3⟩
  .exfalso;cases hm:ls[m]? with
   |some L=>rcases hok.box m o1 e1 L hm with⟨cs,_,rfl,_⟩|⟨_,_,_,rfl,_⟩<;>simp[Blk.ren]at e2
   |none=>exact hl m o1 e1 hm mR
  exact⟨es',cs',e2,rfl,e3,λb q hb hrow=>hrow.of_heap (hOm l _ e1 e2 b (.inl hb))⟩
 have hRS:∀l,(∃o,get σ1 l=some o)->ni (ctx (cT (βc β ls) σa A w) β' w' σ1) (ctx G b2 w' σ2) l (ren l):=by
  rintro l ⟨o,ho⟩;have hg2:get σ2 (ren l)=some (o.ren ren):=by simp only[σ2];rw[kC];obtain⟨_,_,o',h'⟩:=pn (hok.key ho);obtain⟨l2,o2,g1,g2,g3,g4⟩:=Z2k h';have:=hok.key ho;rw[g1]at this;cases this;rw[ho]at g2;cases g2;rw[show get (bQ ren σ1) (ren l)=some o' from h',g3]
  refine⟨λk es hg=>?_,λcs' hg=>?_,λk q es hg=>?_,λk es hg=>?_,λk i es cs' hg=>?_⟩
  .have:some (o.ren ren)=some (.row k es):=hg2.symm.trans hg;cases o with
   |box cs=>simp[Blk.ren]at this
   |mat k0 q0 es0=>simp[Blk.ren]at this
   |map k0 es0=>simp[Blk.ren]at this
   |prow k0 i0 es0 cs0=>simp[Blk.ren]at this
   |row k0 es0=>simp only[Blk.ren,aA,Blk.row.injEq]at this;obtain⟨rfl,rfl⟩:=this;exact⟨ho,hb2k l _ ho,λ_ _ _ h=>h⟩
  .have:some (o.ren ren)=some (.box cs'):=hg2.symm.trans hg;cases o with
   |box cs=>exact⟨cs,ho,hb2k l _ ho⟩
   |row k0 es0=>simp[Blk.ren]at this
   |mat k0 q0 es0=>simp[Blk.ren]at this
   |map k0 es0=>simp[Blk.ren]at this
   |prow k0 i0 es0 cs0=>simp[Blk.ren]at this
  .have:some (o.ren ren)=some (.mat k q es):=hg2.symm.trans hg;cases o with
   |box cs=>simp[Blk.ren]at this
   |row k0 es0=>simp[Blk.ren]at this
   |mat k0 q0 es0=>simp only[Blk.ren,aA,Blk.mat.injEq]at this;obtain⟨rfl,rfl,rfl⟩:=this;exact⟨ho,hb2k l _ ho,λ_ _=>⟨λ_ h=>h,λ_=>rfl⟩⟩
   |map k0 es0=>simp[Blk.ren]at this
   |prow k0 i0 es0 cs0=>simp[Blk.ren]at this
  .have:some (o.ren ren)=some (.map k es):=hg2.symm.trans hg;cases o with
   |box cs=>simp[Blk.ren]at this
   |row k0 es0=>simp[Blk.ren]at this
   |mat k0 q0 es0=>simp[Blk.ren]at this
   |map k0 es0=>simp only[Blk.ren,aA,Blk.map.injEq]at this;obtain⟨rfl,rfl⟩:=this;exact⟨ho,hb2k l _ ho⟩
   |prow k0 i0 es0 cs0=>simp[Blk.ren]at this
  have:some (o.ren ren)=some (.prow k i es cs'):=hg2.symm.trans hg;cases o with
  |box cs=>simp[Blk.ren]at this
  |row k0 es0=>simp[Blk.ren]at this
  |mat k0 q0 es0=>simp[Blk.ren]at this
  |map k0 es0=>simp[Blk.ren]at this
  |prow k0 i0 es0 cs0=>simp only[Blk.ren,aA,Blk.prow.injEq]at this;obtain⟨rfl,rfl,rfl,rfl⟩:=this;exact⟨cs0,ho,hb2k l _ ho,λ_ _ _ h=>h⟩
 have hIr:sc=false->∀b,Imm (cT (βc β ls) σa A w) β' w' σ1 b->Imm G b2 w' σ2 b/\w'.heap[b]?=w'.heap[b]?:=by
  rintro hs b ⟨h1,h2,h3⟩;have hA':=hA0 hs;refine⟨⟨h1,?_,λm o hm hb=>?_⟩,rfl⟩
  .rcases h2 with h2|h2|h2
   .exact .inl (c6 hr.base h2)
   .exact (hA' b h2).2.1
   obtain⟨i,L,cs,f1,f2,f3⟩:=hownc b h2;exact(hr.sep L _ b f2 f3).2.imp id .inr
  rcases hcase m o hm with⟨l,o1,e1,rfl,_,e4⟩|⟨e1,e2,e3⟩
  .exact h3 l o1 e1 (hOr m l o1 b e4 hb)
  have hb:=hOu m o e1 e2 e3 b hb;rcases h2 with h2|h2|h2
  .have:=(hr.sep m o b e2 hb).1;exact absurd h2 (Nat.not_le_of_lt this)
  .exact (hA' b h2).2.2 m o e2 hb
  obtain⟨i,L,cs,f1,f2,f3⟩:=hownc b h2;have:=hr.inj m L _ _ b e2 f2 hb f3;subst this;exact e1 (bF f1)
 refine⟨v,b2,he,?_,?_⟩
 .refine { defers:=hr.defers,sz:=hr.sz,base:=c6 hr.base hsz,os:=hc.os.trans hr.os,tape:=hc.tape.trans hr.tape,output:=hc.output.trans hr.output,old:=λb hb hno=>?_,A:=hr.A,gl:=hr.gl,inj:=λm m' o o' b hm hm' hb hb'=>?_,sep:=λm o b hm hb=>?_,fix:=λm cs hm hg=>?_,row0:=hr.row0.step (λl hl=>hLS l (λm o h hn=>by have:=(hok.fr m o h hn).1;omega)),blk:=λm o hm=>?_,tm:=λi p hp=>⟨(hr.tm i p hp).1,?_⟩ }
  .refine (hold b (eE hb hr.base) (λi L o hL hg hb'=>?_)).trans (hr.old b hb hno);rcases(hr.sep L _ b hg hb').2 with h|h
   .omega
   exact hno h
  .rcases hcase m o hm with⟨l,o1,e1,rfl,e3,e4⟩|⟨e1,e2,e3⟩<;>rcases hcase m' o' hm' with⟨l',o1',e1',rfl,e3',e4'⟩|⟨e1',e2',e3'⟩
   .have:=hc.inj l l' o1 o1' b e1 e1' (hOr m l o1 b e4 hb) (hOr m' l' o1' b e4' hb');rw[<- e3,<- e3',this]
   .exact absurd (hOu m' o' e1' e2' e3' b hb') (hnotσ l o1 b m' o' e1 (hOr m l o1 b e4 hb) e1' e2')
   .exact absurd (hOu m o e1 e2 e3 b hb) (hnotσ l' o1' b m o e1' (hOr m' l' o1' b e4' hb') e1 e2)
   exact hr.inj m m' o o' b e2 e2' (hOu m o e1 e2 e3 b hb) (hOu m' o' e1' e2' e3' b hb')
  .rcases hcase m o hm with⟨l,o1,e1,rfl,e3,e4⟩|⟨e1,e2,e3⟩
   .obtain⟨h1,h2⟩:=hnew l o1 b e1 (hOr m l o1 b e4 hb);refine⟨h1,?_⟩;rcases h2 with h2|⟨i,L,cs,f1,f2,f3⟩
    .exact .inl (c6 hr.base h2)
    exact(hr.sep L _ b f2 f3).2
   obtain⟨h1,h2⟩:=hr.sep m o b e2 (hOu m o e1 e2 e3 b hb);exact⟨eE h1 hsz,h2⟩
  .rcases hcase m _ hg with⟨l,o1,e1,e2,e3,e4⟩|⟨e1,e2,e3⟩
   .cases hl:ls[l]? with
    |some L=>
     obtain⟨cs1,cs0,rfl,hg0⟩:∃cs cs0,o1 = .box cs/\get Z L=some (.box cs0):=by
      rcases hok.box l o1 e1 L hl with h|⟨_,_,_,rfl,_⟩
      .exact h
      simp[Blk.ren]at e2
     have hLm:L=m:=by simpa[ren,bS,hl]using e3
     subst hLm;rw[e4,hkeep l cs1 L e1 hl];exact hr.fix L cs0 hm hg0
    |none=>
     have:=(hok.fr l o1 e1 hl).1;have h5:l+d=m:=by simpa[ren,bS,hl]using e3
     omega
   rw[e3];exact hr.fix m cs hm e2
  .rcases hcase m o hm with⟨l,o1,e1,rfl,e3,e4⟩|⟨e1,e2,e3⟩
   .have hb:=hc.blk l o1 e1;cases o1 with
    |box cs=>
     obtain⟨b,vs,f1,f2,f3,f4,f5⟩:=hb;exact⟨b,vs,e4.trans f1,by rw[PV.rens_length];exact f2,f3,VRs.ren (sc:=sc) hIr cs vs (λe=>(hsc e).2 l _ e1) (λl' hl'=>hRS l' (hok.cl l' (.inr ⟨l,_,e1,hl'⟩))) f4,by rw[PV.rens_one];exact f5⟩
    |row k es=>
     obtain⟨f0,f1,f2⟩:=hb;refine⟨f0,f1,?_⟩;rcases f2 with⟨f2,f3⟩|⟨b,s,f2,f3,f4,f5⟩
     .exact .inl ⟨e4.trans f2,f3⟩
     refine .inr ⟨b,s,e4.trans f2,f3,f4,?_⟩;have hcell:=f5;cases sc with
     |false=>exact az.mono (w:=w') (w':=w') (hIr rfl) rfl es 0 f5
     |true=>exact az.scal es 0 ((hsc rfl).2 l _ e1) f5
    |map ag es=>
     obtain⟨b,ents,clock,f1,f2,f3⟩:=hb;cases hs:sc with
     |false=>exact⟨b,ents,clock,e4.trans f1,f2,f3.step (hIr hs)⟩
     |true=>exact((hsc hs).2 l _ e1).elim
    |prow k i es cs=>
     obtain⟨g0,g1,g2,g3,g4,b,s,vs,f1,f2,f3,f4,f5⟩:=hb;cases hs:sc with
     |false=>
      refine⟨g0,g1,g2,by rw[PV.rens_length];exact g3,by rw[PV.rens_one];exact g4,b,s,vs,e4.trans f1,f2,f3,f4,?_⟩;rw[<- EK];exact VRs.ren (sc:=false) (λ_=>hIr hs) _ vs (λe=>by cases e) (λl' hl'=>hRS l' (hok.cl l' (.inr ⟨l,_,e1,by rw[yo]at hl';exact hl'⟩))) f5
     |true=>exact((hsc hs).2 l _ e1).elim
    |mat k q es=>
     obtain⟨f0,f1,f2⟩:=hb;refine⟨f0,f1,?_⟩;rcases f2 with⟨f2,f3⟩|⟨b,s,f2,f3,f4,f5,f6⟩
     .exact .inl ⟨e4.trans f2,f3⟩
     refine .inr ⟨b,s,e4.trans f2,f3,f4,?_,f6⟩;cases hs:sc with
     |false=>exact az.mono (w:=w') (w':=w') (λd hd=>⟨hd.imp (λh=>(hIr hs d h).1) id,rfl⟩) rfl es 0 f5
     |true=>
      obtain⟨k1,k2⟩:=(hsc hs).2 l _ e1;subst k1;subst k2;refine VP es 0 f1 O f5 (λj e he=>?_);obtain⟨inner,a,len,cap,g1,g2,g3,g4⟩:=f6.2 j e he;exact⟨inner,a,len,cap,g1,g2,by rw[aM];rw[db,c7]at g3;exact g3,λhl=>by obtain⟨d,m',h1,_⟩:=g4 hl;exact⟨d,h1⟩⟩
   refine BR.step (c:=ctx G β w Z) (c':=ctx G b2 w' σ2) hImm e3 (λb hb=>?_) (λl hl=>?_) (hr.blk m o e2)
   .exact hOm m o e1 e2 b hb
   refine hLS l (λm' o' hm' hn e=>?_);have:=((hok.fr m' o' hm' hn).2.2 m o e2).2;rw[e,hl]at this;cases this
  refine VR.step (c:=ctx G β w Z) (c':=ctx G b2 w' σ2) hImm p _ (λl hl=>?_) (hr.tm i p hp).2;refine hLS l (λm' o' hm' hn e=>?_);have:=(hok.fr m' o' hm' hn).2.1 i p hp;rw[e,hl]at this;cases this
 have hv0:=(hc.tm 0 res (by simp[PW.get])).2;exact VR.ren (sc:=sc) hIr res v (λe=>(hsc e).1) (λl hl=>hRS l (hok.cl l (.inl hl))) (by simpa using hv0)
end Go.PW
namespace Go.PW
open Go.RowKit
variable {ls ls0:List Nat} {Z Z' σa σ1:List (Nat×Blk)} {S:Bool} {c c':Ctx} {l n d:Nat} {v:Value} {f:FuncId} {fo:Operand} {xs:Array Operand} {ats:Array TypeId} {cs:List Prop}
def fC:List Nat->Nat->Option Nat
 |[],_=>none
 |L::ls,m=>bif Nat.beq L m then some 0 else(fC ls m).map (· + 1)
def Z2m:∀{ls:List Nat} {m i:Nat},fC ls m=some i->ls[i]?=some m
 |[],m,i,h=>dq
 |L::ls,m,i,h=>by
  simp only[fC]at h;cases hb:Nat.beq L m with
  |true=>
   simp only[hb,aB,aA]at h;subst h;simp[(Z9 _ _).1 hb]
  |false=>
   simp only[hb,aD,cG]at h;obtain⟨j,hj,rfl⟩:=h;simpa using Z2m hj
def Ex:∀{ls:List Nat} {m:Nat},fC ls m=none->∀(i:Nat),ls[i]?≠some m
 |[],m,_,i,h=>jr
 |L::ls,m,hn,i,h=>by
  simp only[fC]at hn;cases hb:Nat.beq L m with
  |true=>simp[hb]at hn
  |false=>
   simp only[hb,aD,Option.map_eq_none_iff]at hn;cases i with
   |zero=>simp only[kv,aA]at h;subst h;simp at hb
   |succ i=>exact Ex hn i iQ
def lD(ls:List Nat)(Z:List (Nat×Blk)):PV->Option (List Prop×aa)
 |.t x=>some ([],x)
 |.nils=>some ([],.sl [])
 |.osl l n=>
  match fC ls l,get Z l with
  |none,some (.row _ es)=>some ([es.length=n],.sl es)
  |_,_=>none
 |.own l (.msl n)=>
  match fC ls l,get Z l with
  |none,some (.mat _ _ es)=>some ([es.length=n],.sl es)
  |_,_=>none
 |_=>none
def kx(ls:List Nat)(Z:List (Nat×Blk)):List PV->Option (List Prop×List aa)
 |[]=>some ([],[])
 |c::cs=>
  match lD ls Z c,kx ls Z cs with
  |some (ps,d),some (qs,ds)=>some (ps++qs,d::ds)
  |_,_=>none
def Ye(p:PV)(h:∀m,p.has m=true->get Z' m=get Z m):lD ls Z' p=lD ls Z p:=by
 cases p with
 |osl l n=>simp only[lD];rw[h l gz]
 |own l d=>cases d<;>simp only[lD];rw[h l gz]
 |_=>rfl
def Ey:∀(ps:List PV),(∀m,PV.hasAny m ps=true->get Z' m=get Z m)->kx ls Z' ps=kx ls Z ps
 |[],_=>rfl
 |p::ps,h=>by simp only[kx];rw[Ye p (λm hm=>h m (by simp[PV.hasAny,hm])),Ey ps (λm hm=>h m (by simp[PV.hasAny,hm]))]
mutual
def PV.deep(Z:List (Nat×Blk))(m:Nat):PV->Bool
 |.bptr L _=>match get Z L with|some (.box cs)=>PV.hasAny m cs|_=>false
 |.agg cs=>PV.deeps Z m cs
 |.tup cs=>PV.deeps Z m cs
 |.fn _ cs=>PV.deeps Z m cs
 |_=>false
def PV.deeps(Z:List (Nat×Blk))(m:Nat):List PV->Bool
 |[]=>false
 |p::ps=>p.deep Z m||PV.deeps Z m ps
end
mutual
def dS(S:Bool)(ls:List Nat)(Z:List (Nat×Blk)):PV->Option (List Prop×PV)
 |.t x=>some ([],.t x)
 |.nils=>some ([],.t (.sl []))
 |.osl l n=>
  match fC ls l with
  |some i=>some ([],.osl i n)
  |none=>
   match S,get Z l with
   |true,some (.row _ es)=>some ([es.length=n],.t (.sl es))
   |_,_=>none
 |.bptr L o=>
  match fC ls L with
  |some i=>some ([],.bptr i o)
  |none=>
   match S,get Z L with
   |true,some (.box cs)=>match kx ls Z cs with|some (ps,ts)=>some (ps,.vptr (ts.drop o))|none=>none
   |_,_=>none
 |.rptr _ _ _ _=>none
 |.vptr cs=>some ([],.vptr cs)
 |.agg cs=>match du S ls Z cs with|some (ps,ds)=>some (ps,.agg ds)|none=>none
 |.tup cs=>match du S ls Z cs with|some (ps,ds)=>some (ps,.tup ds)|none=>none
 |.fn f cs=>match du S ls Z cs with|some (ps,ds)=>some (ps,.fn f ds)|none=>none
 |.own l d=>
  match fC ls l with
  |some i=>some ([],.own i d)
  |none=>
   match S,d,get Z l with
   |true,.msl n,some (.mat _ _ es)=>some ([es.length=n],.t (.sl es))
   |_,_,_=>none
def du(S:Bool)(ls:List Nat)(Z:List (Nat×Blk)):List PV->Option (List Prop×List PV)
 |[]=>some ([],[])
 |c::cs=>
  match dS S ls Z c,du S ls Z cs with
  |some (ps,d),some (qs,ds)=>some (ps++qs,d::ds)
  |_,_=>none
end
mutual
def Yf{S:Bool}{ls:List Nat}{Z Z':List (Nat×Blk)}:∀(p:PV),(∀m,p.has m=true\/p.deep Z m=true->get Z' m=get Z m)->dS S ls Z' p=dS S ls Z p
 |.t _,_=>iR
 |.nils,_=>iR
 |.osl l n,h=>Ez
 |.bptr l o,h=>by
  simp only[dS];rw[h l (.inl gz)];cases fC ls l with
  |some i=>rfl
  |none=>
   cases S with
   |false=>rfl
   |true=>
    cases hg:get Z l with
    |none=>rfl
    |some b=>
     cases b with
     |box cs=>simp only;rw[Ey cs (λm hm=>h m (.inr (by simp only[PV.deep,hg];exact hm)))]
     |row k es=>rfl
     |mat k q es=>rfl
     |map ag es=>rfl
     |prow k i es cs=>rfl
 |.rptr _ _ _ _,_=>iR
 |.vptr _,_=>iR
 |.agg cs,h=>yg
 |.tup cs,h=>yg
 |.fn _ cs,h=>yg
 |.own l d,h=>Ez
def yh{S:Bool}{ls:List Nat}{Z Z':List (Nat×Blk)}:∀(ps:List PV),(∀m,PV.hasAny m ps=true\/PV.deeps Z m ps=true->get Z' m=get Z m)->du S ls Z' ps=du S ls Z ps
 |[],_=>by simp only[du]
 |p::ps,h=>by simp only[du];rw[Yf p (λm hm=>h m EA),yh ps (λm hm=>h m EA)]
end
structure ArgC (S:Bool) (ls:List Nat) (Z:List (Nat×Blk)) (c c':Ctx):Prop where
 cσ:c.Z=Z
 I:∀b,c.I b->c'.I b/\c'.w.heap[b]?=c.w.heap[b]?
 S:S=true->∀l o,fC ls l=none->get Z l=some o->∀b,aH c.β c.w l o b->c'.I b/\c'.w.heap[b]?=c.w.heap[b]?
 blk:∀l o,get Z l=some o->BR c l o
 box:∀(i L:Nat) cs,ls[i]?=some L->get c'.Z i=some (.box cs)->(∃cs0,get Z L=some (.box cs0))/\c'.β i=c.β L
 rowp:∀(i L:Nat) k es,ls[i]?=some L->get c'.Z i=some (.row k es)->get Z L=some (.row k es)/\c'.β i=c.β L/\∀b m,bm c.w b m->bm c'.w b m
 matp:∀(i L:Nat) k q es,ls[i]?=some L->get c'.Z i=some (.mat k q es)->get Z L=some (.mat k q es)/\c'.β i=c.β L/\(∀b m,bm c.w b m->bm c'.w b m)/\∀a,c'.w.cell? a=c.w.cell? a
 mapp:∀(i L:Nat) ag es,ls[i]?=some L->get c'.Z i=some (.map ag es)->get Z L=some (.map ag es)/\c'.β i=c.β L
 np:∀(i k j:Nat) es cs,get c'.Z i≠some (.prow k j es cs)
def ArgC.rstep(h:ArgC S ls Z c c'){i L:Nat}(hi:ls[i]?=some L):ni c c' L i:=
 ⟨λk es hg=>by obtain⟨h1,h2,h3⟩:=h.rowp i L k es hi hg;exact⟨by rw[h.cσ];exact h1,h2,λb s _ hr=>h3 b s hr⟩,
  λcs hg=>by obtain⟨⟨cs0,h1⟩,h2⟩:=h.box i L cs hi hg;exact⟨cs0,by rw[h.cσ];exact h1,h2⟩,
  λk q es hg=>by obtain⟨h1,h2,h3,h4⟩:=h.matp i L k q es hi hg;exact⟨by rw[h.cσ];exact h1,h2,λb _=>⟨h3 b,λj=>h4 _⟩⟩,
  λag es hg=>by obtain⟨h1,h2⟩:=h.mapp i L ag es hi hg;exact⟨by rw[h.cσ];exact h1,h2⟩,
  λk j es cs hg=>absurd hg (h.np i k j es cs)⟩
def Yg(h:ArgC true ls Z c c'){k:Nat}{es:List (List aa)}(hpn:fC ls l=none)(hg:get Z l=some (.row k es))(hn:es.length=n)(hv:VR c (.osl l n) v):Z7 c'.I c'.w (.sl es) v:=by
 simp only[VR]at hv;obtain⟨a,cap,rfl,hc1,hc2,h3⟩:=(hv.1 k es ph).2 hn.symm;simp only[Z7];subst hn;refine⟨a,cap,rfl,hc1,hc2,?_⟩;obtain⟨_,_,hb⟩:=h.blk l _ hg;rcases hb with⟨_,he⟩|⟨b,sz,hb,_,_,hel⟩
 .exact .inl he
 rcases h3 with⟨_,hb'⟩|⟨b',sz',ha,hb',_,_⟩
 .exact absurd (hb.symm.trans hb') ax
 have:b'=b:=cR
 subst this;obtain⟨hI,hh⟩:=h.S rfl l _ hpn hg b' (.inl hb);exact .inr ⟨b',0,ha,hI,az.mono h.I hh es 0 hel⟩
def Yh(h:ArgC true ls Z c c'){k q0:Nat}{es:List (List aa)}(hpn:fC ls l=none)(hg:get Z l=some (.mat k q0 es))(hn:es.length=n)(hv:VR c (.own l (.msl n)) v):Z7 c'.I c'.w (.sl es) v:=by
 simp only[VR]at hv;obtain⟨a,cap,rfl,hc1,hc2,h3⟩:=(hv.1 k q0 es ph).2 hn.symm;simp only[Z7];subst hn;refine⟨a,cap,rfl,hc1,hc2,?_⟩;obtain⟨_,_,hb⟩:=h.blk l _ hg;rcases hb with⟨_,he⟩|⟨b,sz,hb,_,_,hel,_⟩
 .exact .inl he
 rcases h3 with⟨_,hb'⟩|⟨b',sz',ha,hb',_,_⟩
 .exact absurd (hb.symm.trans hb') ax
 have:b'=b:=cR
 subst this;obtain⟨hI,hh⟩:=h.S rfl l _ hpn hg b' (.inl hb);refine .inr ⟨b',0,ha,hI,az.mono (λd hd=>?_) hh es 0 hel⟩;rcases hd with hd|hd
 .exact h.I d hd
 exact h.S rfl l _ hpn hg d (.inr ⟨k,q0,es,b',rfl,hb,hd⟩)
def Yi(h:ArgC true ls Z c c'){p:PV}{ps:List Prop}{x:aa}(hf:lD ls Z p=some (ps,x))(hc:aL ps)(hv:VR c p v):Z7 c'.I c'.w x v:=by
 unfold lD at hf;split at hf
 .cases hf;have:=VR.step (c:=c) (c':=c') h.I (.t x) v (λl hl=>by simp[PV.has]at hl) hv;simpa only[VR]using this
 .cases hf;simp only[VR]at hv;obtain⟨a,rfl⟩:=hv;simp only[Z7];exact⟨a,0,rfl,by simp,by simp[maxLen],.inl trivial⟩
 .split at hf
  .rename_i _ k es hp hg;cases hf;exact Yg h hp hg hc.1 hv
  cases hf
 .split at hf
  .rename_i _ k q es hp hg;cases hf;exact Yh h hp hg hc.1 hv
  cases hf
 cases hf
def EB(h:ArgC true ls Z c c'){b:Nat}:∀{cs:List PV} {ps:List Prop} {ts:List aa} {vs:List Value} (off:Nat),kx ls Z cs=some (ps,ts)->aL ps->VRs c cs vs ->
 (∀(j:Nat) v,vs[j]?=some v->c'.w.cell? ⟨b,off+j,none⟩=some v)->Z4 c'.I c'.w b ts off
 |[],ps,ts,vs,off,hf,_,_,_=>by simp only[kx,aA,bI]at hf;rw[<- hf.2];trivial
 |p::cs,ps,ts,vs,off,hf,hc,hv,hcl=>by
  simp only[kx]at hf;split at hf
  .rename_i ps1 d ps2 ds h1 h2;cases hf;obtain⟨c1,c2⟩:=Z5.1 hc;simp only[VRs]at hv;obtain⟨v,rest,rfl,hv,hr⟩:=hv;simp only[Z4];refine⟨⟨v,by simpa using hcl 0 v rfl,Yi h h1 c1 hv⟩,EB h (off+1) h2 c2 hr (λj u hj=>?_)⟩;rw[pj,Nat.add_comm 1 j];exact hcl (j+1) u iS
  cases hf
mutual
def Yj{S:Bool}{ls:List Nat}{Z:List (Nat×Blk)}{c c':Ctx}(h:ArgC S ls Z c c'):∀(p q:PV) (ps:List Prop) (v:Value),dS S ls Z p=some (ps,q)->aL ps->VR c p v->VR c' q v
 |.t x,q,ps,v,ha,_,hv=>by simp only[dS,aA,bI]at ha;rw[<- ha.2];exact VR.step h.I (.t x) v (λl hl=>by simp[PV.has]at hl) hv
 |.nils,q,ps,v,ha,_,hv=>by simp only[dS,aA,bI]at ha;rw[<- ha.2];simp only[VR]at hv⊢;obtain⟨a,rfl⟩:=hv;simp only[Z7];exact⟨a,0,rfl,by simp,by simp[maxLen],.inl trivial⟩
 |.osl l n,q,ps,v,ha,hc,hv=>by
  simp only[dS]at ha;split at ha
  .rename_i i hi;cases ha;simp only[VR]at hv⊢;refine⟨λk es hg=>?_,hv.2⟩;obtain⟨h1,h2,h3⟩:=h.rowp i l k es (Z2m hi) hg;obtain⟨g1,g2⟩:=hv.1 k es (by rw[h.cσ];exact h1);refine⟨g1,λhn=>?_⟩;obtain⟨a,cap,hv',e1,e2,e3⟩:=g2 hn;refine⟨a,cap,hv',e1,e2,?_⟩;rcases e3 with⟨hc,hb⟩|⟨b,m,ha,hb,hr,hs⟩
   .exact .inl ⟨hc,h2.trans hb⟩
   exact .inr ⟨b,m,ha,h2.trans hb,h3 b m hr,hs⟩
  rename_i hpn;split at ha
  .rename_i k es hg;cases ha;have hn:es.length=n:=hc.1;simp only[VR]at hv⊢;obtain⟨a,cap,rfl,hc1,hc2,h3⟩:=(hv.1 k es ph).2 hn.symm;simp only[Z7];subst hn;refine⟨a,cap,rfl,hc1,hc2,?_⟩;obtain⟨_,_,hb⟩:=h.blk l _ hg;rcases hb with⟨_,he⟩|⟨b,sz,hb,_,_,hel⟩
   .exact .inl he
   rcases h3 with⟨_,hb'⟩|⟨b',sz',ha,hb',_,_⟩
   .exact absurd (hb.symm.trans hb') ax
   have:b'=b:=cR
   subst this;obtain⟨hI,hh⟩:=h.S rfl l _ hpn hg b' (.inl hb);exact .inr ⟨b',0,ha,hI,az.mono h.I hh es 0 hel⟩
  cases ha
 |.bptr L o,q,ps,v,ha,hc,hv=>by
  simp only[dS]at ha;split at ha
  .rename_i i hi;cases ha;simp only[VR]at hv⊢;refine⟨λcs hg=>?_,hv.2⟩;obtain⟨⟨cs0,h1⟩,h2⟩:=h.box i L cs (Z2m hi) hg;obtain⟨b,hb,hv'⟩:=hv.1 cs0 (by rw[h.cσ];exact h1);exact⟨b,h2.trans hb,hv'⟩
  rename_i hpn;split at ha
  .rename_i cs hg;split at ha
   .rename_i ts hts;cases ha;simp only[VR]at hv⊢;obtain⟨b,hb1,hv⟩:=hv.1 _ ph;obtain⟨b',vs,hb',_,hcs,hvs,_⟩:=h.blk L _ hg;have:b'=b:=by have:=hb'.symm.trans hb1;simpa using this
    subst this;obtain⟨hI,hh⟩:=h.S rfl L _ hpn hg b' (.inl hb1);have h1:=EB h (b:=b') 0 hts hc hvs (λj v hj=>by rw[aM];exact(gU (w:=c.w) hh).trans (hcs j v hj));have h2:=Z4.drop o ts 0 h1;rw[aM]at h2;exact⟨b',o,hv,λ_=>hI,h2⟩
   cases ha
  cases ha
 |.rptr _ _ _ _,q,ps,v,ha,_,hv=>by simp[dS]at ha
 |.vptr cs,q,ps,v,ha,_,hv=>by simp only[dS,aA,bI]at ha;rw[<- ha.2];exact VR.step h.I (.vptr cs) v (λl hl=>by simp[PV.has]at hl) hv
 |.agg cs,q,ps,v,ha,hc,hv=>by
  simp only[dS]at ha;split at ha
  .rename_i ps' ds hd;cases ha;simp only[VR]at hv⊢;obtain⟨vs,hv,hs⟩:=hv;exact⟨vs,hv,nj h cs ds ps vs hd hc hs⟩
  cases ha
 |.tup cs,q,ps,v,ha,hc,hv=>by
  simp only[dS]at ha;split at ha
  .rename_i ps' ds hd;cases ha;simp only[VR]at hv⊢;obtain⟨vs,hv,hs⟩:=hv;exact⟨vs,hv,nj h cs ds ps vs hd hc hs⟩
  cases ha
 |.fn f cs,q,ps,v,ha,hc,hv=>by
  simp only[dS]at ha;split at ha
  .rename_i ps' ds hd;cases ha;simp only[VR]at hv⊢;obtain⟨vs,hv,hs⟩:=hv;exact⟨vs,hv,nj h cs ds ps vs hd hc hs⟩
  cases ha
 |.own l d,q,ps,v,ha,hc,hv=>by
  simp only[dS]at ha;split at ha
  .rename_i i hi;cases ha;simp only[VR]at hv⊢;exact⟨hv.1.ren (h.rstep (Z2m hi)),hv.2⟩
  rename_i hpn;split at ha
  .rename_i n k q0 es hg;cases ha;have hn:es.length=n:=hc.1;simp only[VR]at hv⊢;obtain⟨a,cap,rfl,hc1,hc2,h3⟩:=(hv.1 k q0 es ph).2 hn.symm;simp only[Z7];subst hn;refine⟨a,cap,rfl,hc1,hc2,?_⟩;obtain⟨_,_,hb⟩:=h.blk l _ hg;rcases hb with⟨_,he⟩|⟨b,sz,hb,_,_,hel,_⟩
   .exact .inl he
   rcases h3 with⟨_,hb'⟩|⟨b',sz',ha,hb',_,_⟩
   .exact absurd (hb.symm.trans hb') ax
   have:b'=b:=cR
   subst this;obtain⟨hI,hh⟩:=h.S rfl l _ hpn hg b' (.inl hb);refine .inr ⟨b',0,ha,hI,az.mono (λd hd=>?_) hh es 0 hel⟩;rcases hd with hd|hd
   .exact h.I d hd
   exact h.S rfl l _ hpn hg d (.inr ⟨k,q0,es,b',rfl,hb,hd⟩)
  cases ha
def nj{S:Bool}{ls:List Nat}{Z:List (Nat×Blk)}{c c':Ctx}(h:ArgC S ls Z c c'):∀(cs qs:List PV) (ps:List Prop) (vs:List Value),du S ls Z cs=some (ps,qs)->aL ps->VRs c cs vs->VRs c' qs vs
 |[],qs,ps,vs,ha,_,hv=>by simp only[du,aA,bI]at ha;rw[<- ha.2];exact hv
 |p::cs,qs,ps,vs,ha,hc,hv=>by
  simp only[du]at ha;split at ha
  .rename_i ps1 d ps2 ds h1 h2;cases ha;obtain⟨c1,c2⟩:=Z5.1 hc;simp only[VRs]at hv⊢;obtain⟨v,rest,rfl,hv,hr⟩:=hv;exact⟨v,rest,rfl,Yj h p d ps1 v h1 c1 hv,nj h cs ds ps2 rest h2 c2 hr⟩
  cases ha
end
mutual
def Yk{ls:List Nat}{Z Z':List (Nat×Blk)}:∀(p:PV),dS false ls Z' p=dS false ls Z p
 |.t _=>iR
 |.nils=>iR
 |.osl l n=>iR
 |.bptr l _=>iR
 |.rptr _ _ _ _=>iR
 |.vptr _=>iR
 |.agg cs=>yi
 |.tup cs=>yi
 |.fn _ cs=>yi
 |.own l d=>iR
def yj{ls:List Nat}{Z Z':List (Nat×Blk)}:∀(ps:List PV),du false ls Z' ps=du false ls Z ps
 |[]=>by simp only[du]
 |p::ps=>by simp only[du];rw[Yk p,yj ps]
end
def pk(ls:List Nat)(cs:List PV):Option (List PV):=
 bif PV.frees cs then some cs else
 match du false ls [] cs with
 |some ([],ds)=>bif ds.all PV.one then some ds else none
 |_=>none
def iT(ls0:List Nat)(Z:List (Nat×Blk)):Nat->List Nat->Option (List (Nat×Blk))
 |_,[]=>some []
 |i,L::ls=>
  match get Z L,iT ls0 Z (i+1) ls with
  |some (.box cs),some r=>match pk ls0 cs with|some ds=>some ((i,.box ds)::r)|none=>none
  |some (.row k es),some r=>some ((i,.row k es)::r)
  |_,_=>none
def js(ls0:List Nat)(o o':Blk):Prop:=(o'=o/\∀cs,o ≠ .box cs/\∀k i es,o ≠ .prow k i es cs)\/∃cs ds,o = .box cs/\o' = .box ds/\pk ls0 cs=some ds
def js.same{o o':Blk}(h:js ls0 o o'):uc o o':=by
 rcases h with⟨h,_⟩|⟨cs,ds,h1,h2,_⟩
 .exact .inl h
 exact .inr ⟨cs,ds,h1,h2⟩
def EC:∀{ls:List Nat} {i:Nat} {σa:List (Nat×Blk)},iT ls0 Z i ls=some σa ->
 (∀j o,get σa j=some o->∃m L o0,j=i+m/\ls[m]?=some L/\get Z L=some o0/\js ls0 o0 o)/\(∀(m L:Nat),ls[m]?=some L->∃o,get σa (i+m)=some o)
 |[],i,σa,h=>by simp only[iT,aA]at h;subst h;exact⟨(λj o h=>nomatch h),(λm L h=>by simp at h)⟩
 |L0::ls,i,σa,h=>by
  have key:∀(b:Blk) (o0:Blk) (r:List (Nat×Blk)),get Z L0=some o0->js ls0 o0 b->iT ls0 Z (i+1) ls=some r->σa=(i,b)::r ->
   (∀j o,get σa j=some o->∃m L o0,j=i+m/\(L0::ls)[m]?=some L/\get Z L=some o0/\js ls0 o0 o)/\(∀(m L:Nat),(L0::ls)[m]?=some L->∃o,get σa (i+m)=some o):=by
   intro b o0 r hg hp hr hσ;subst hσ;obtain⟨h1,h2⟩:=EC hr;refine⟨λj o ho=>?_,λm L hm=>?_⟩
   .simp only[PW.get]at ho;cases hb:Nat.beq i j with
    |true=>
     simp only[hb,aB,aA]at ho;subst ho;exact⟨0,L0,o0,((Z9 _ _).1 hb).symm,rfl,hg,hp⟩
    |false=>
     simp only[hb,aD]at ho;obtain⟨m,L,o1,e1,e2,e3⟩:=h1 j o ho;exact⟨m+1,L,o1,by omega,by simpa using e2,e3⟩
   cases m with
   |zero=>exact⟨b,by simp[PW.get]⟩
   |succ m=>
    obtain⟨o,ho⟩:=h2 m L yk;refine⟨o,?_⟩;simp only[PW.get];rw[e8 O,aD,show i+(m+1)=i+1+m by omega];exact ho
  simp only[iT]at h;split at h
  .rename_i cs r hg hr;split at h
   .rename_i ds hd;exact key _ _ r hg (.inr ⟨cs,ds,rfl,rfl,hd⟩) hr (cF h).symm
   cases h
  .rename_i k es r hg hr;exact key _ _ r hg (.inl ⟨rfl,λcs=>by simp⟩) hr (cF h).symm
  cases h
def ED:∀{ls:List Nat} {i:Nat},(∀m,m∈ls->get Z' m=get Z m)->iT ls0 Z' i ls=iT ls0 Z i ls
 |[],i,_=>rfl
 |L::ls,i,h=>by simp only[iT];rw[h L ax,ED (λm hm=>h m (bW _ hm))]
def okB(ls:List Nat):List PV->Bool
 |[]=>true
 |.t _::ps=>okB ls ps
 |.osl l _::ps=>(match fC ls l with|some _=>true|none=>false)&&okB ls ps
 |_::_=>false
def iv(ls:List Nat):List PV->List PV
 |[]=>[]
 |.osl l n::ps =>.osl ((fC ls l).getD 0) n::iv ls ps
 |p::ps=>p::iv ls ps
def yl{ls:List Nat}{d:Nat}:∀{cs:List PV},okB ls cs=true->du false ls [] cs=some ([],iv ls cs)/\PV.rens (bS ls d) (iv ls cs)=cs/\(iv ls cs).all PV.one=true
 |[],_=>⟨rfl,rfl,rfl⟩
 |p::cs,h=>by
  cases p<;>simp only[okB,aN,eR]at h
  case t x=>
   obtain⟨h1,h2,h3⟩:=yl (d:=d) h;refine⟨by simp only[du,dS,h1,iv];rfl,by simp only[iv,PV.rens,PV.ren,h2],by simp only[iv,ky,h3];rfl⟩
  case osl l n=>
   obtain⟨h1,h2,h3⟩:=yl (d:=d) h.2;cases hp:fC ls l with
   |none=>rw[hp]at h;exact absurd h.1 bE
   |some i=>
    refine⟨by simp only[du,dS,hp,h1,iv,iw];rfl,?_,by simp only[iv,ky,h3];rfl⟩;simp only[iv,hp,iw,PV.rens,PV.ren,h2,bS,Z2m hp]
def iU(ls0:List Nat)(Z:List (Nat×Blk)):Nat->List Nat->Option (List (Nat×Blk))
 |_,[]=>some []
 |i,L::ls=>
  match get Z L,iU ls0 Z (i+1) ls with
  |some (.box cs),some r=>bif PV.frees cs then some ((i,.box cs)::r)else bif okB ls0 cs then some ((i,.box (iv ls0 cs))::r)else none
  |some (.row k es),some r=>some ((i,.row k es)::r)
  |_,_=>none
def EE{ls0:List Nat}{d:Nat}{Z:List (Nat×Blk)}:∀{ls:List Nat} {i:Nat} {σa:List (Nat×Blk)},iU ls0 Z i ls=some σa ->
 (∀j o,get σa j=some o->∃m L o0,j=i+m/\ls[m]?=some L/\get Z L=some o0/\js ls0 o0 o/\o.ren (bS ls0 d)=o0)/\(∀(m L:Nat),ls[m]?=some L->∃o,get σa (i+m)=some o)
 |[],i,σa,h=>by simp only[iU,aA]at h;subst h;exact⟨(λj o h=>nomatch h),(λm L h=>by simp at h)⟩
 |L0::ls,i,σa,h=>by
  have key:∀(b:Blk) (o0:Blk) (r:List (Nat×Blk)),get Z L0=some o0->js ls0 o0 b->b.ren (bS ls0 d)=o0->iU ls0 Z (i+1) ls=some r->σa=(i,b)::r ->
   (∀j o,get σa j=some o->∃m L o0,j=i+m/\(L0::ls)[m]?=some L/\get Z L=some o0/\js ls0 o0 o/\o.ren (bS ls0 d)=o0)/\(∀(m L:Nat),(L0::ls)[m]?=some L->∃o,get σa (i+m)=some o):=by
   intro b o0 r hg hp hb0 hr hσ;subst hσ;obtain⟨h1,h2⟩:=EE (d:=d) hr;refine⟨λj o ho=>?_,λm L hm=>?_⟩
   .simp only[PW.get]at ho;cases hb:Nat.beq i j with
    |true=>
     simp only[hb,aB,aA]at ho;subst ho;exact⟨0,L0,o0,((Z9 _ _).1 hb).symm,rfl,hg,hp,hb0⟩
    |false=>
     simp only[hb,aD]at ho;obtain⟨m,L,o1,e1,e2,e3⟩:=h1 j o ho;exact⟨m+1,L,o1,by omega,by simpa using e2,e3⟩
   cases m with
   |zero=>exact⟨b,by simp[PW.get]⟩
   |succ m=>
    obtain⟨o,ho⟩:=h2 m L yk;refine⟨o,?_⟩;simp only[PW.get];rw[e8 O,aD,show i+(m+1)=i+1+m by omega];exact ho
  simp only[iU]at h;split at h
  .rename_i cs r hg hr;cases hf:PV.frees cs with
   |true=>
    simp only[hf,aB,aA]at h;exact key _ _ r hg (.inr ⟨cs,cs,rfl,rfl,by unfold pk;rw[hf];rfl⟩) (by simp only[Blk.ren,PV.rens_free cs hf]) hr h.symm
   |false=>
    simp only[hf,aD]at h;cases ho:okB ls0 cs with
    |false=>simp[ho]at h
    |true=>
     simp only[ho,aB,aA]at h;obtain⟨b1,b2,b3⟩:=yl (d:=d) ho;exact key _ _ r hg (.inr ⟨cs,_,rfl,rfl,by unfold pk;rw[hf,aD,b1];simp only[b3,aB]⟩) (by simp only[Blk.ren,b2]) hr h.symm
  .rename_i k es r hg hr;simp only[aA]at h;exact key _ _ r hg (.inl ⟨rfl,λcs=>⟨λe=>(by cases e),λ_ _ _ e=>(by cases e)⟩⟩) rfl hr h.symm
  cases h
def EF:∀{ls:List Nat} {i:Nat},(∀m,m∈ls->get Z' m=get Z m)->iU ls0 Z' i ls=iU ls0 Z i ls
 |[],i,_=>rfl
 |L::ls,i,h=>by simp only[iU];rw[h L ax,EF (λm hm=>h m (bW _ hm))]
section
variable {P:Program} {o:Oper}
structure ud (ls:List Nat) (d:Nat) (σa σ1:List (Nat×Blk)) (res:PV):Prop where
 nd:∀(i j L:Nat),ls[i]?=some L->ls[j]?=some L->i=j
 len:ls.length<=1000
 box:∀(l:Nat) o,get σ1 l=some o->∀L,ls[l]?=some L->(∃cs cs0,o = .box cs/\get σa l=some (.box cs0))\/∃k es es0,o = .row k es/\get σa l=some (.row k es0)
 ge:∀(l:Nat) o,get σ1 l=some o->ls[l]?=none->1000<=l+d
 cl:∀l,(res.has l=true\/∃m o,get σ1 m=some o/\o.has l=true)->∃o,get σ1 l=some o
def EG{caps ps qs:List PV}{res:PV}(hfn:FnG P f σa qs σ1 res)(ho:o.op = .call { callee :=.value fo,args:=xs,argTypes:=ats })
 {ρ:List (Nat×PV)} (hfo:ai ρ fo=some (.fn f caps)) (hps:(xs.toList.mapM (ai ρ)).map (· ++ caps)=some ps) {G:Frm} {tm:List (Nat×PV)} {a:Act} {w:World} {β:Nat->Option Nat} (hr:aO G β ⟨n,tm,Z⟩ a w)
 (hag:∀t q,Operand.tmp t∈o.op.operands->PW.get ρ t=some q->PW.get tm t=some q)
 (hq:du S ls Z ps=some (cs,qs)) (hcs:aL cs) (hp:(∀j o,PW.get σa j=some o->∃m L o0,j=0+m/\ls[m]?=some L/\PW.get Z L=some o0/\js ls o0 o)/\(∀(m L:Nat),ls[m]?=some L->∃o,PW.get σa (0+m)=some o)) (hok:ud ls d σa σ1 res) (hfr:∀(l:Nat) o,get σ1 l=some o->ls[l]?=none->(∀i q,get tm i=some q->q.has (l+d)=false)/\(∀m y,get Z m=some y->m≠l+d/\y.has (l+d)=false))
 (hS:S=true->res.sc=true/\∀l o,get σ1 l=some o->o.SC) {K:Act->World->Prop} {Q:Exit->Act->World->Prop}
 (hK:∀v w',(∃b2,aO G b2 ⟨n,tm,bQ (bS ls d) σ1++bn ls Z⟩ a w'/\VR (ctx G b2 w' (bQ (bS ls d) σ1++bn ls Z)) (res.ren (bS ls d)) v)->K (a.put o.dst v) w'):o.wp P a w K Q:=by
 obtain⟨p1,p2⟩:=hp;have hbox:∀(l:Nat) o,get σ1 l=some o->∀L,ls[l]?=some L->(∃cs cs0,o = .box cs/\get Z L=some (.box cs0))\/∃k es es0,o = .row k es/\get Z L=some (.row k es0):=λl o h L hL=>by
  rcases hok.box l o h L hL with⟨cs,cs0,h1,h2⟩|⟨k,es,es0,h1,h2⟩
  .obtain⟨m,L',o0,e1,e2,e3,e4⟩:=p1 l _ h2;rw[aM]at e1;subst e1;rw[hL]at e2;cases e2;rcases e4 with⟨e4,_⟩|⟨cs1,_,rfl,_⟩
   .exact .inl ⟨cs,cs0,h1,e4▸e3⟩
   exact .inl ⟨cs,cs1,h1,e3⟩
  obtain⟨m,L',o0,e1,e2,e3,e4⟩:=p1 l _ h2;rw[aM]at e1;subst e1;rw[hL]at e2;cases e2;rcases e4 with⟨e4,_⟩|⟨_,_,_,e4,_⟩
  .exact .inr ⟨k,es,es0,h1,e4▸e3⟩
  cases e4
 have hnp:∀(i k j:Nat) es cs,get σa i≠some (.prow k j es cs):=λi k j es cs h=>by
  obtain⟨m,L,o0,_,_,_,e4⟩:=p1 i _ h;rcases e4 with⟨e5,e6⟩|⟨_,_,_,e5,_⟩
  .subst e5;exact(e6 cs).2 k j es rfl
  cases e5
 have hC:ue ls d tm Z σa σ1 res:={ nd:=hok.nd,len:=hok.len,sa:=λi o h=>by obtain⟨m,L,o0,e1,e2,e3,e4⟩:=p1 i o h;rw[aM]at e1;subst e1;exact⟨L,e2,o0,e3,e4.same⟩,all:=λi L h=>by simpa using p2 i L h,np:=hnp,box:=hbox,fr:=λl o h hn=>⟨hok.ge l o h hn,hfr l o h hn⟩,cl:=hok.cl };have hpass:∀(i L:Nat),ls[i]?=some L->∃o,get Z L=some o:=λi L h=>by obtain⟨o,ho⟩:=hC.all i L h;obtain⟨L',h1,o0,h2,_⟩:=hC.sa i o ho;rw[h]at h1;cases h1;exact⟨o0,h2⟩
 obtain⟨vals,hv,hrun⟩:=uf (P:=P) ho hfo hps hr hag;let A:Nat->Prop:=λb=>bif S then b<w.heap.size/\∀(i L:Nat) (o:Blk),ls[i]?=some L->get Z L=some o->¬aH β w L o b else Imm G β w Z b
 have hAT:∀b,Imm G β w Z b->A b:=λb hb=>by
  cases S with
  |true=>exact⟨hb.1,λi L o hL hg=>hb.2.2 L o hg⟩
  |false=>exact hb
 have hA:∀b,A b->b<w.heap.size/\∀(i L:Nat) (o:Blk),ls[i]?=some L->get Z L=some o->¬aH β w L o b:=λb hb=>by
  cases S with
  |true=>exact hb
  |false=>exact⟨hb.1,λi L o hL hg=>hb.2.2 L o hg⟩
 have hAc:∀b,A b->Imm (cT (βc β ls) σa A w) (βc β ls) w σa b:=λb hb=>⟨(hA b hb).1,.inr (.inl hb),λi o ho hb'=>by obtain⟨L,h1,o0,h2,h3⟩:=hC.sa i o ho;exact(hA b hb).2 i L o0 h1 h2 (h3.own (hb'.lab (show βc β ls i=β L by simp[βc,h1])))⟩;have hAC:∀S',(S'=true->S=true)->ArgC S' ls Z (ctx G β w Z) (ctx (cT (βc β ls) σa A w) (βc β ls) w σa):=by
  intro S' hS';refine⟨rfl,λb hb=>⟨hAc b (hAT b hb),rfl⟩,λhs l o hpn hg b hb=>⟨hAc b (?_:A b),rfl⟩,λl o hg=>hr.blk l _ hg,λi L cs hL hg=>?_,λi L k es hL hg=>?_,λi L k q es hL hg=>?_,λi L ag es hL hg=>?_,λi k j es cs=>?_⟩
  .simp only[A,hS' hs,aB];refine⟨(hr.sep l _ b hg hb).1,λi L o' hL hg' hb'=>?_⟩;have:=hr.inj l L _ _ b hg hg' hb hb';subst this;exact Ex hpn i hL
  .obtain⟨L',h1,o0,h3,h4⟩:=hC.sa i _ hg;rw[hL]at h1;cases h1;refine⟨?_,by simp[ctx,βc,hL]⟩;rcases h4 with h4|⟨cs0,_,h4,_⟩
   .exact⟨cs,h4▸h3⟩
   exact⟨cs0,h4▸h3⟩
  .obtain⟨L',h1,o0,h3,h4⟩:=hC.sa i _ hg;rw[hL]at h1;cases h1;obtain rfl:o0 = .row k es:=by
    rcases h4 with h4|⟨_,_,_,h4⟩
    .exact h4.symm
    cases h4
   exact⟨h3,by simp[ctx,βc,hL],λ_ _ h=>h⟩
  .obtain⟨L',h1,o0,h3,h4⟩:=hC.sa i _ hg;rw[hL]at h1;cases h1;obtain rfl:o0 = .mat k q es:=by
    rcases h4 with h4|⟨_,_,_,h4⟩
    .exact h4.symm
    cases h4
   exact⟨h3,by simp[ctx,βc,hL],λ_ _ h=>h,λ_=>rfl⟩
  .obtain⟨L',h1,o0,h3,h4⟩:=hC.sa i _ hg;rw[hL]at h1;cases h1;obtain rfl:o0 = .map ag es:=by
    rcases h4 with h4|⟨_,_,_,h4⟩
    .exact h4.symm
    cases h4
   exact⟨h3,by simp[ctx,βc,hL]⟩
  exact hC.np i k j es cs
 have hv2:VRs (ctx (cT (βc β ls) σa A w) (βc β ls) w σa) qs vals:=by exact nj (hAC S id) ps qs cs _ hq hcs hv
 have hlen:vals.length=qs.length:=hv2.length;have hcall:=callU hfn hr hC (sc:=S) hlen A hA hAT (λhs b hb=>by simpa only[A,hs,aD]using hb) hS hv2 (λi L cs0 cs hL hg ha vs hvs h1=>by
  obtain⟨m,L',o0,e1,e2,e3,e4⟩:=p1 i _ ha;rw[aM]at e1;subst e1;rw[hL]at e2;cases e2;rw[hg]at e3;cases e3;rcases e4 with⟨_,e4⟩|⟨_,_,e5,e6,e7⟩
  .exact absurd rfl (e4 _).1
  cases e5;cases e6;unfold pk at e7;cases hf:PV.frees cs0 with
  |true=>
   simp only[hf,aB,aA]at e7;subst e7;exact⟨VRs.step (c:=ctx G β w Z) (c':=ctx (cT (βc β ls) σa A w) (βc β ls) w σa) (λb hb=>⟨hAc b (hAT b hb),rfl⟩) cs0 vs (λl hl=>by rw[PV.frees_has l cs0 hf]at hl;cases hl) hvs,h1⟩
  |false=>
   simp only[hf,aD]at e7;split at e7
   .rename_i ds hd;cases ho:ds.all PV.one with
    |false=>simp[ho]at e7
    |true=>
     simp only[ho,aB,aA]at e7;subst e7;rw[yj (Z:=Z)]at hd;exact⟨nj (hAC false (λh=>by cases h)) cs0 ds [] vs hd trivial hvs,ho⟩
   cases e7)
 unfold Oper.wp;rw[hrun hfn.1,ug];refine hcall.mono ?_;rintro e w' ⟨v,b2,rfl,h1,h2⟩;exact hK v w' ⟨b2,h1,h2⟩
def EH{f:Nat->Nat}{o:Blk}:∀{fr:List (Nat×Blk)},get fr l=some o->(f l,o.ren f)∈bQ f fr
 |[],h=>dq
 |(j,b)::r,h=>by
  simp only[PW.get]at h;cases hb:Nat.beq j l with
  |true=>
   simp only[hb,aB,aA]at h;have:=(Z9 _ _).1 hb;subst this;subst h;simp[bQ]
  |false=>simp only[hb,aD]at h;simp only[bQ];exact bW _ (EH h)
def Yl{caps ps qs:List PV}{res:PV}{ρ:List (Nat×PV)}{need:List Nat}(hfn:FnG P f σa qs σ1 res)(ho:o.op = .call { callee :=.value fo,args:=xs,argTypes:=ats })
 (hfo:ai ρ fo=some (.fn f caps)) (hps:(xs.toList.mapM (ai ρ)).map (· ++ caps)=some ps) (hq:du S ls Z ps=some (cs,qs)) (hcs:aL cs) (hσa:iT ls Z 0 ls=some σa) (hok:ud ls d σa σ1 res)
 (hS:S=true->res.sc=true/\∀l o,get σ1 l=some o->o.SC) (hneed:∀m,(m∈ls\/PV.hasAny m ps=true\/PV.deeps Z m ps=true)->m∈need) (hnin:∀(l:Nat) o,get σ1 l=some o->ls[l]?=none->l+d∉ls):OpF P o ρ Z need ls (res.ren (bS ls d)) (bQ (bS ls d) σ1):=by
 rintro G n tm Z' a w K Q hag hnd hnews ⟨β,hr⟩ hK;have hq':du S ls Z' ps=some (cs,qs):=EI
 have hσa':iT ls Z' 0 ls=some σa:=by rw[ED (λm hm=>hnd m (hneed m (.inl hm)))];exact hσa
 refine EG hfn ho hfo hps hr hag hq' hcs (EC hσa') hok (λl o h hn=>?_) hS hK;have:=hnews _ _ (EH h);simp only[bS,hn]at this;exact this (hnin l o h hn)
def Ym{caps ps qs:List PV}{res:PV}{fr:List (Nat×Blk)}{ρ:List (Nat×PV)}{need:List Nat}(hfn:FnG P f σa qs (fr++σa) res)(ho:o.op = .call { callee :=.value fo,args:=xs,argTypes:=ats })
 (hfo:ai ρ fo=some (.fn f caps)) (hps:(xs.toList.mapM (ai ρ)).map (· ++ caps)=some ps) (hq:du S ls Z ps=some (cs,qs)) (hcs:aL cs) (hσa:iU ls Z 0 ls=some σa) (hok:ud ls d σa (fr++σa) res)
 (hS:S=true->res.sc=true/\∀l o,get (fr++σa) l=some o->o.SC) (hneed:∀m,(m∈ls\/PV.hasAny m ps=true\/PV.deeps Z m ps=true)->m∈need):aR P o ρ Z need (res.ren (bS ls d)) (bQ (bS ls d) fr):=by
 intro G n tm Z' a w K Q hag hnd hnews hr hK;obtain⟨β,hr⟩:=hr;have hq':du S ls Z' ps=some (cs,qs):=EI
 have hσa':iU ls Z' 0 ls=some σa:=by rw[EF (λm hm=>hnd m (hneed m (.inl hm)))];exact hσa
 obtain⟨p1,p2⟩:=EE (d:=d) hσa';have hpG:(∀j o,get σa j=some o->∃m L o0,j=0+m/\ls[m]?=some L/\get Z' L=some o0/\js ls o0 o)/\(∀(m L:Nat),ls[m]?=some L->∃o,get σa (0+m)=some o):=⟨λj o h=>by obtain⟨m,L,o0,e1,e2,e3,e4,_⟩:=p1 j o h;exact⟨m,L,o0,e1,e2,e3,e4⟩,p2⟩;have hfrget:∀l o,get (fr++σa) l=some o->ls[l]?=none->∃o',get fr l=some o':=λl o h hn=>by
  rw[kC]at h;cases hg:get fr l with
  |some o'=>exact⟨o',rfl⟩
  |none=>
   rw[hg]at h;obtain⟨m,L,_,e1,e2,_⟩:=p1 l o h;rw[aM]at e1;subst e1;rw[hn]at e2;cases e2
 have hmem:∀l o,get fr l=some o->(bS ls d l,o.ren (bS ls d))∈bQ (bS ls d) fr:=λl o h=>by
  have:∀(l:Nat) (o:Blk) (fr:List (Nat×Blk)),get fr l=some o->(bS ls d l,o.ren (bS ls d))∈bQ (bS ls d) fr:=by
   intro l o fr;induction fr with
   |nil=>intro h;cases h
   |cons x r ih=>
    obtain⟨j,b⟩:=x;intro h;simp only[PW.get]at h;cases hb:Nat.beq j l with
    |true=>
     simp only[hb,aB,aA]at h;have:=(Z9 _ _).1 hb;subst this;subst h;simp[bQ]
    |false=>simp only[hb,aD]at h;simp only[bQ];exact bW _ (ih h)
  exact this l o fr h
 refine EG hfn ho hfo hps hr hag hq' hcs hpG hok (λl o h hn=>?_) hS ?_
 .obtain⟨o',h'⟩:=hfrget l o h hn;have:=hnews _ _ (hmem l o' h');simpa[bS,hn]using this
 rintro v w' ⟨b2,h1,h2⟩;have hsub:∀l o,get (bQ (bS ls d) fr++Z') l=some o->get (bQ (bS ls d) (fr++σa)++bn ls Z') l=some o:=by
  intro m o hm;rw[EJ,gV,kC];rw[kC]at hm;cases hg:get (bQ (bS ls d) fr) m with
  |some o'=>rw[hg]at hm;exact hm
  |none=>
   rw[hg]at hm;simp only at hm⊢;rw[kC];cases hg2:get (bQ (bS ls d) σa) m with
   |some o2=>
    obtain⟨l,o1,_,e2,e3,e4⟩:=Z2k hg2;obtain⟨i,L,o0,f1,f2,f4,_,f5⟩:=p1 l o1 e2;rw[aM]at f1;subst f1;have:L=m:=by simpa[bS,f2]using e4
    subst this;rw[f4]at hm;have hoo:o0=o:=cF hm;rw[e3,f5,hoo]
   |none=>
    simp only;by_cases hin:m∈ls
    .obtain⟨i,hi⟩:=List.getElem?_of_mem hin;obtain⟨o3,ho3⟩:=p2 i m hi;rw[aM]at ho3;obtain⟨l',hk⟩:=Z2l (f:=bS ls d) ho3;rw[show bS ls d i=m by simp[bS,hi]]at hk;obtain⟨_,_,o4,ho4⟩:=pn hk;rw[hg2]at ho4;cases ho4
    rw[ym hin];exact hm
 refine hK v w' ⟨b2,h1.sub (bh _) (λi p hp=>⟨hp,(h1.tm i p hp).1⟩) hsub,?_⟩;exact VR.step (c:=ctx G b2 w' (bQ (bS ls d) (fr++σa)++bn ls Z')) (c':=ctx G b2 w' (bQ (bS ls d) fr++Z')) (λb hb=>⟨Imm.sub hsub b hb,rfl⟩) _ v (λl _=>a8.sub hsub l) h2
end
def FnG.frz{P:Program}{σ2:List (Nat×Blk)}{args:List PV}{res q:PV}(h:FnG P f Z args σ1 res)(hσ:iy σ1 σ2)(hq:Frz σ1 σ2 res q):FnG P f Z args σ2 q:=by
 refine⟨h.1,λA β w vals hl hr=>(h.2 A β w vals hl hr).mono ?_⟩;rintro e w' ⟨v,β',he,hc⟩;refine⟨v,β',he,yn hc hσ (λi p hp=>?_)⟩;simp only[PW.get]at hp⊢;cases hb:Nat.beq 0 i with
 |true=>simp only[hb,aB,aA]at hp⊢;subst hp;exact⟨_,rfl,hq⟩
 |false=>simp[hb]at hp
def FnG.toFn{P:Program}{args:List PV}{res q:PV}(h:FnG P f [] args σ1 res)(hq:Frz σ1 [] res q):Fn P f args q:=h.frz (iy.nil _) hq
def Yn{G:Frm}{β:Nat->Option Nat}{tm:List (Nat×PV)}{a:Act}{w:World}(h:aO G β ⟨n,tm,Z⟩ a w)(l m:Nat)(hm:1000<=m)
 (hf1:∀i q,get tm i=some q->q.has m=false) (hf2:∀j y,get Z j=some y->j≠m/\y.has m=false) :
 ∃β',aO G β' ⟨n,tm.map (λx=>(x.1,x.2.ren (λj=>bif Nat.beq j l then m else j))),bQ (λj=>bif Nat.beq j l then m else j) Z⟩ a w:=by
 let f:Nat->Nat:=λj=>bif Nat.beq j l then m else j
 have hfl:f l=m:=by simp[f]
 have hfo:∀j,j≠l->f j=j:=λj h=>by simp[f,e8 h]
 let β':Nat->Option Nat:=λj=>bif Nat.beq j m then β l else β j
 have hβm:β' m=β l:=by simp[β']
 have hβo:∀j,j≠m->β' j=β j:=λj h=>by simp[β',e8 h]
 have hget:∀j o,get (bQ f Z) j=some o->∃l0 o0,get Z l0=some o0/\o=o0.ren f/\f l0=j/\β' j=β l0:=by
  intro j o hg;obtain⟨l0,o0,_,h2,h3,h4⟩:=Z2k hg;refine⟨l0,o0,h2,h3,h4,?_⟩;by_cases e:l0=l
  .subst e;rw[hfl]at h4;subst h4;exact hβm
  rw[hfo _ e]at h4;subst h4;exact hβo _ (hf2 _ _ h2).1
 have hI:∀b,Imm G β w Z b->Imm G β' w (bQ f Z) b:=λb hb=>⟨hb.1,hb.2.1,λj o hj hb'=>by obtain⟨l0,o0,h2,rfl,_,h5⟩:=hget j o hj;exact hb.2.2 l0 o0 h2 (hb'.unren.lab h5)⟩;have hR:∀j,j≠m->ni (ctx G β w Z) (ctx G β' w (bQ f Z)) j (f j):=by
  intro j hj;have key:∀o,get (bQ f Z) (f j)=some o->∃o0,get Z j=some o0/\o=o0.ren f/\β' (f j)=β j:=by
   intro o hg;obtain⟨l0,o0,h2,h3,h4,h5⟩:=hget _ o hg;have:l0=j:=by
    by_cases e:l0=l
    .subst e;rw[hfl]at h4;by_cases e2:j=l0
     .exact e2.symm
     rw[hfo _ e2]at h4;exact absurd h4.symm hj
    rw[hfo _ e]at h4;by_cases e2:j=l
    .subst e2;rw[hfl]at h4;exact absurd h4 (hf2 _ _ h2).1
    rw[hfo _ e2]at h4;exact h4
   subst this;exact⟨o0,h2,h3,h5⟩
  refine⟨λk es hg=>?_,λcs hg=>?_,λk q es hg=>?_,λag es hg=>?_,λk i es cs hg=>?_⟩
  .obtain⟨o0,h1,h2,h3⟩:=key _ hg;cases o0 with
   |box cs=>simp[Blk.ren]at h2
   |mat k0 q0 es0=>simp[Blk.ren]at h2
   |map k0 es0=>simp[Blk.ren]at h2
   |prow k0 i0 es0 cs0=>simp[Blk.ren]at h2
   |row k0 es0=>simp only[Blk.ren,Blk.row.injEq]at h2;obtain⟨rfl,rfl⟩:=h2;exact⟨h1,h3,λ_ _ _ h=>h⟩
  .obtain⟨o0,h1,h2,h3⟩:=key _ hg;cases o0 with
   |box cs0=>exact⟨cs0,h1,h3⟩
   |row k0 es0=>simp[Blk.ren]at h2
   |mat k0 q0 es0=>simp[Blk.ren]at h2
   |map k0 es0=>simp[Blk.ren]at h2
   |prow k0 i0 es0 cs0=>simp[Blk.ren]at h2
  .obtain⟨o0,h1,h2,h3⟩:=key _ hg;cases o0 with
   |box cs=>simp[Blk.ren]at h2
   |row k0 es0=>simp[Blk.ren]at h2
   |mat k0 q0 es0=>simp only[Blk.ren,Blk.mat.injEq]at h2;obtain⟨rfl,rfl,rfl⟩:=h2;exact⟨h1,h3,λ_ _=>⟨λ_ h=>h,λ_=>rfl⟩⟩
   |map k0 es0=>simp[Blk.ren]at h2
   |prow k0 i0 es0 cs0=>simp[Blk.ren]at h2
  .obtain⟨o0,h1,h2,h3⟩:=key _ hg;cases o0 with
   |box cs=>simp[Blk.ren]at h2
   |row k0 es0=>simp[Blk.ren]at h2
   |mat k0 q0 es0=>simp[Blk.ren]at h2
   |map k0 es0=>simp only[Blk.ren,Blk.map.injEq]at h2;obtain⟨rfl,rfl⟩:=h2;exact⟨h1,h3⟩
   |prow k0 i0 es0 cs0=>simp[Blk.ren]at h2
  obtain⟨o0,h1,h2,h3⟩:=key _ hg;cases o0 with
  |box cs=>simp[Blk.ren]at h2
  |row k0 es0=>simp[Blk.ren]at h2
  |mat k0 q0 es0=>simp[Blk.ren]at h2
  |map k0 es0=>simp[Blk.ren]at h2
  |prow k0 i0 es0 cs0=>simp only[Blk.ren,Blk.prow.injEq]at h2;obtain⟨rfl,rfl,rfl,rfl⟩:=h2;exact⟨cs0,h1,h3,λ_ _ _ h=>h⟩
 have hV:∀p v,p.has m=false->VR (ctx G β w Z) p v->VR (ctx G β' w (bQ f Z)) (p.ren f) v:=λp v hp hv=>VR.ren (c:=ctx G β w Z) (c':=ctx G β' w (bQ f Z)) (sc:=false) (λ_ b hb=>⟨hI b hb,rfl⟩) p v (λe=>by cases e) (λj hj=>hR j (λe=>by subst e;rw[hp]at hj;cases hj)) hv;refine⟨β',{ defers:=h.defers,sz:=h.sz,base:=h.base,os:=h.os,tape:=h.tape,output:=h.output,old:=h.old,A:=h.A,gl:=h.gl,inj:=λj j' o o' b hj hj' hb hb'=>?_,sep:=λj o b hj hb=>?_,fix:=λj cs hj hg=>?_,row0:=λj k es' hj hg=>?_,blk:=λj o hj=>?_,tm:=λi p hp=>?_ }⟩
 .obtain⟨l0,o0,h2,h3,h4,h5⟩:=hget j o hj;obtain⟨l1,o1,h2',h3',h4',h5'⟩:=hget j' o' hj';subst h3;subst h3';have:=h.inj l0 l1 _ _ b h2 h2' (hb.unren.lab h5) (hb'.unren.lab h5');subst this;exact h4.symm.trans h4'
 .obtain⟨l0,o0,h2,h3,h4,h5⟩:=hget j o hj;subst h3;exact h.sep l0 o0 b h2 (hb.unren.lab h5)
 .obtain⟨l0,o0,h2,h3,h4,h5⟩:=hget j _ hg;cases o0 with
  |row k es=>simp[Blk.ren]at h3
  |mat k q es=>simp[Blk.ren]at h3
  |map ag es=>simp[Blk.ren]at h3
  |prow k0 i0 es0 cs0=>simp[Blk.ren]at h3
  |box cs0=>
   by_cases e:l0=l
   .subst e;rw[hfl]at h4;omega
   rw[hfo _ e]at h4;subst h4;rw[h5];exact h.fix l0 cs0 hj h2
 .obtain⟨l0,o0,h2,h3,h4,h5⟩:=hget j _ hg;cases o0 with
  |box cs=>simp[Blk.ren]at h3
  |mat k q es=>simp[Blk.ren]at h3
  |map ag es=>simp[Blk.ren]at h3
  |prow k0 i0 es0 cs0=>simp[Blk.ren]at h3
  |row k0 es0=>
   simp only[Blk.ren,Blk.row.injEq]at h3;obtain⟨rfl,rfl⟩:=h3;by_cases e:l0=l
   .subst e;rw[hfl]at h4;omega
   rw[hfo _ e]at h4;subst h4;rw[h5];exact h.row0 l0 _ _ hj h2
 .obtain⟨l0,o0,h2,h3,h4,h5⟩:=hget j o hj;have hb:=h.blk l0 o0 h2;subst h3;cases o0 with
  |box cs=>
   obtain⟨b,vs,f1,f2,f3,f4,f5⟩:=hb;refine⟨b,vs,h5.trans f1,by rw[PV.rens_length];exact f2,f3,?_,by rw[PV.rens_one];exact f5⟩;have hh:=(hf2 l0 _ h2).2;exact VRs.ren (c:=ctx G β w Z) (c':=ctx G β' w (bQ f Z)) (sc:=false) (λ_ b hb=>⟨hI b hb,rfl⟩) cs vs (λe=>by cases e) (λj hj2=>hR j (λe=>by subst e;simp only[Blk.has]at hh;rw[hh]at hj2;cases hj2)) f4
  |row k es=>
   obtain⟨f0,f1,f2⟩:=hb;refine⟨f0,f1,?_⟩;rcases f2 with⟨f2,f3⟩|⟨b,s,f2,f3,f4,f5⟩
   .exact .inl ⟨h5.trans f2,f3⟩
   exact .inr ⟨b,s,h5.trans f2,f3,f4,az.mono (w:=w) (w':=w) (λb hb=>⟨hI b hb,rfl⟩) rfl es 0 f5⟩
  |mat k q es=>
   obtain⟨f0,f1,f2⟩:=hb;refine⟨f0,f1,?_⟩;rcases f2 with⟨f2,f3⟩|⟨b,s,f2,f3,f4,f5,f6⟩
   .exact .inl ⟨h5.trans f2,f3⟩
   exact .inr ⟨b,s,h5.trans f2,f3,f4,az.mono (w:=w) (w':=w) (λd hd=>⟨hd.imp (hI d) id,rfl⟩) rfl es 0 f5,f6⟩
  |prow k0 i0 es0 cs0=>
   obtain⟨g0,g1,g2,g3,g4,b,s,vs,f1,f2,f3,f4,f5⟩:=hb;refine⟨g0,g1,g2,by rw[PV.rens_length];exact g3,by rw[PV.rens_one];exact g4,b,s,vs,h5.trans f1,f2,f3,f4,?_⟩;have hh:=(hf2 l0 _ h2).2;rw[<- EK];exact VRs.ren (c:=ctx G β w Z) (c':=ctx G β' w (bQ f Z)) (sc:=false) (λ_ b hb=>⟨hI b hb,rfl⟩) _ vs (λe=>by cases e) (λj hj2=>hR j (λe=>by subst e;rw[yo]at hj2;simp only[Blk.has]at hh;rw[hh]at hj2;cases hj2)) f5
  |map ag es=>
   obtain⟨b,ents,clock,f1,f2,f3⟩:=hb;exact⟨b,ents,clock,h5.trans f1,f2,eD.step (c:=ctx G β w Z) (c':=ctx G β' w (bQ f Z)) (λb hb=>⟨hI b hb,rfl⟩) f3⟩
 have hmap:∀(tm:List (Nat×PV)),get (tm.map (λx=>(x.1,x.2.ren f))) i=(get tm i).map (·.ren f):=by
  intro tm;induction tm with
  |nil=>rfl
  |cons x r ih=>
   obtain⟨j,q⟩:=x;simp only[cd,PW.get];cases Nat.beq j i<;>simp[ih]
 rw[hmap]at hp;simp only[cG]at hp;obtain⟨q,hq,rfl⟩:=hp;exact⟨(h.tm i q hq).1,hV q _ (hf1 i q hq) (h.tm i q hq).2⟩
end Go.PW
namespace Go.PW
open Go.RowKit
variable {t e:TypeId} {x y:Operand} {k m l:Nat} {ki:IntKind} {i:Int} {es:List (List aa)}
section
variable {P:Program} {o:Oper} {ρ:List (Nat×PV)} {Z:List (Nat×Blk)}
def Zab{cap:Nat}{a:Option Addr}(ho:o.op = .slice t x (some y) none none)(hu:P.underlying t=some (.slice e))(hsz:(P.info? e).map (·.size)=some k)(A:Act)(w:World)
 (hv:A.eval x = .slice a m cap) (hy:A.eval y = .int ki i) (h0:0<=i) (h1:i<=m) :
 (execOp A.eval o).run P w = .ok (.value (.slice (if cap=i.toNat then a else a.map (·.add (i.toNat*k))) (m-i.toNat) (cap-i.toNat))) w:=by
 have hbounds:(Instr.sliceBounds true m cap (some (.int ki i)) none none).run P w = .ok (i.toNat,m,cap) w:=JK
 have hel':P.elem t=e:=uY
 have hat:=run_sliceAt_slice (P:=P) w t (.slice a m cap) (some (.int ki i)) none none uZ;have hsl:(Instr.slice t (.slice a m cap) (some (.int ki i)) none none).run P w = .ok (.slice (if cap=i.toNat then a else a.map (·.add (i.toNat*k))) (m-i.toNat) (cap-i.toNat)) w:=zE
 simp only[execOp,ho,hv,aT,nU,Option.map_some,hy,hat,hsl,aU,aV]
def Zac{cap:Nat}{a:Option Addr}(ho:o.op = .slice t x none (some y) none)(hu:P.underlying t=some (.slice e))(hsz:(P.info? e).map (·.size)=some k)(A:Act)(w:World)
 (hv:A.eval x = .slice a m cap) (hy:A.eval y = .int ki i) (h0:0<=i) (h1:i<=cap) :
 (execOp A.eval o).run P w = .ok (.value (.slice (if cap=0 then a else a.map (·.add (0*k))) (i.toNat-0) (cap-0))) w:=by
 have hbounds:(Instr.sliceBounds true m cap none (some (.int ki i)) none).run P w = .ok (0,i.toNat,cap) w:=JK
 have hel':P.elem t=e:=uY
 have hat:=run_sliceAt_slice (P:=P) w t (.slice a m cap) none (some (.int ki i)) none uZ;have hsl:(Instr.slice t (.slice a m cap) none (some (.int ki i)) none).run P w = .ok (.slice (if cap=0 then a else a.map (·.add (0*k))) (i.toNat-0) (cap-0)) w:=zE
 simp only[execOp,ho,hv,aT,nU,Option.map_some,hy,hat,hsl,aU,aV]
def JL{t:Nat}(ha:slInfo P t=some k):∃e,P.underlying t=some (.slice e)/\(P.info? e).map (·.size)=some k:=by
 unfold slInfo at ha;split at ha
 .rename_i e hu;exact⟨e,hu,ha⟩
 cases ha
def Zad(ho:o.op = .slice t x (some y) none none)(ha:slInfo P t=some k)(hx:ai ρ x=some (.osl l m))(hy:ai ρ y=some (.t (.int ki i)))
 (hg:get Z l=some (.row k es)) (hm:es.length=m) (h0:0<=i) (h1:i<=m):aR P o ρ Z [l] (.own l (.tail m i.toNat)) []:=
 bo λG β n tm Z' A w hop hneed _=>by
  have e1:=hop x _ aS hx;have e2:=hop y _ aS hy;simp only[VR,Z7]at e1 e2⊢;have hgl:get Z' l=some (.row k es):=(hneed l ax).trans hg;obtain⟨a,cap,hv,hmc,hcm,h⟩:=(e1.1 k es hgl).2 hm.symm;obtain⟨e,hu,hsz⟩:=JL ha;refine⟨_,Zab ho hu hsz A w hv e2 h0 h1,?_,rfl⟩;intro k' es' hg';have:some (Blk.row k' es')=some (.row k es):=bB (bD hg') hgl;cases this;refine⟨by omega,λ_=>⟨_,_,rfl,by omega,?_⟩⟩;rcases h with⟨hc,_⟩|⟨b,sz,ha',hb,hrow,hs⟩
  .exact .inl ⟨by omega,by omega⟩
  by_cases hci:cap=i.toNat
  .exact .inl ⟨by omega,by omega⟩
  refine .inr ⟨b,sz,by rw[aw hci,ha'];simp[gY],hb,hrow,?_⟩;rw[<- dE];exact c6 (gH _ O) hs
end
section
variable {P:Program} {o:Oper} {n:Nat} {tm:List (Nat×PV)} {Z:List (Nat×Blk)}
def Zae(z:Array Value)(c k i j:Nat)(hz:z.size=k)(hi:i<c)(hj:j<k):(Builtin.zeroCells z c)[i*k+j]?=z[j]?:=by
 have hlt:i*k+j<c*k:=by have:(i+1)*k<=c*k:=gH _ hi;rw[dE,e9]at this;omega
 unfold Builtin.zeroCells;simp only[Array.getElem?_map,hz];rw[Array.getElem?_range];simp only[hlt,dM,Option.map_some];rw[Nat.mul_comm i k,Nat.mul_add_mod,qW hj];have:j<z.size:=aW
 simp[this]
def Zaf(z:Array Value)(c:Nat):(Builtin.zeroCells z c).size=c*z.size:=by simp[Builtin.zeroCells]
def JM:∀{es:List (List aa)} (i:Nat),(∀el,el∈es->el.length=k)->(es.take i).flatten=es.flatten.take (i*k)
 |[],i,_=>ax
 |e::es,0,_=>ax
 |e::es,i+1,h=>by
  have he:e.length=k:=h e ax;have e1:(i+1)*k-e.length=i*k:=by rw[dE,e9,he];omega
  have e2:e.take ((i+1)*k)=e:=c9 (by rw[dE,e9,he];omega);rw[u0,gW,gW,JM i (λel hel=>h el (bW _ hel)),u1,e1,e2]
def Zag{bytes i:Nat}{zero:List PV}{zs:List aa}(ho:o.op = .call { callee :=.builtin .clear,args := #[x],argTypes := #[t] })(hd:o.dst=none)(hE:ElF P t e k bytes zero)(hzs:cw zero=some zs)
 (hx:ai tm x=some (.own l (.tail m i))) (hg:get Z l=some (.row k es)) (hm:es.length=m) (hi:i<=m) :
 iE P o ⟨n,tm,Z⟩ ⟨n,tm,put Z l (.row k (es.take i++List.replicate (m-i) zs))⟩:=
 opup λG β A w hop hr=>by
  have e1:=hop x _ hx;simp only[VR]at e1;obtain⟨a,cap,hv,hcm,h3⟩:=(e1.1 k es hg).2 hm.symm;have hexec:∀w',(Builtin.clear_ #[t] o.type #[.slice a (m-i) cap]).run P w = .ok (.tuple #[]) w'->(execOp A.eval o).run P w = .ok (.value (.tuple #[])) w':=by intro w' h;simp only[execOp,ho,resolve,invoke,builtin,aT,aV,aU,nV,cd,fP,hv,h]
  obtain⟨hk0,hkl,hb0⟩:=hr.blk l _ hg;by_cases hmi:m-i=0
  .have hes:es.take i++List.replicate (m-i) zs=es:=by rw[hmi,List.replicate_zero,cV,c9 O]
   refine⟨.tuple #[],w,.inl (hexec w ?_),β,?_⟩
   .rw [hmi];cases a<;>simp[Builtin.clear_,cH hE.und]
   rw[hd,hes];refine aO.sub (st:=⟨n,tm,Z⟩) hr (bh _) (λj p hp=>⟨hp,(hr.tm j p hp).1⟩) (λq ob hq=>?_);by_cases hql:q=l
   .subst hql;rw[fO]at hq;rw[hg];exact hq
   rwa[gj _ _ (dX hql)]at hq
  rcases h3 with⟨hc,_⟩|⟨b,sz,ha,hb,hrow,hsz⟩
  .exact absurd hc hmi
  rcases hb0 with⟨hb',_⟩|⟨b',sz',hb',hrow',hszle,hel⟩
  .exact absurd (hb.symm.trans hb') ax
  have:b'=b:=cR
  subst this;have hszz:sz'=sz:=by obtain⟨cs1,e1,f1,g1,g2,_⟩:=hrow;obtain⟨cs2,e2,f2,g3,g4,_⟩:=hrow';rw[g1]at g3;cases g3;omega
  subst hszz;cases hin:P.info? e with
  |none=>have:=hE.info;simp[hin]at this
  |some inf=>
   have hik:inf.size=k/\inf.bytes=bytes:=by have:=hE.info;simpa[hin]using this
   have hz:=hE.z;unfold hX at hz;simp only[hin,bb,dY]at hz;obtain⟨z,hiz,hz⟩:=hz;have hzv:∀c,VRs c zero z.cells.toList:=λc=>jF hz;have hzl:z.cells.size=k:=by have:=(hzv (ctx G β w Z)).length;rw[hE.len]at this;simpa using this
   have hzsl:zs.length=k:=by rw[<- hE.len];exact Z7f hzs
   have hflat:((List.replicate (m-i) zs).flatten).length=(m-i)*k:=by rw[ju (k:=k) (λel hel=>by rw[u2 hel];exact hzsl),j4]
   have hms:m*k<=sz':=by rw[<- hm];exact hszle
   have hik2:i*k+(m-i)*k=m*k:=by rw[<- dE];congr 1;omega
   let us:List Value:=(Builtin.zeroCells z.cells (m-i)).toList
   have husl:us.length=(m-i)*k:=by simp only[us,kQ,Zaf,hzl]
   have hone:∀v,v∈us->v.oneCell'=true:=by
    intro v hv';simp only[us,Builtin.zeroCells,qX,iH]at hv';obtain⟨q,hq,rfl⟩:=hv';have hkpos:=hE.pos;have hlt:q%z.cells.size<z.cells.size:=Nat.mod_lt _ O;have hall:∀{c:Ctx} {ps:List PV} {ts:List aa} {vs:List Value},cw ps=some ts->VRs c ps vs->∀v,v∈vs->v.oneCell'=true:=by intro c ps ts vs h1 h2 v hv;have h3:=l5 h1 h2;refine Z89 h3 ?_ v hv;rw[bK];intro x hx;obtain⟨t,_,rfl⟩:=iH.1 hx;rfl
    refine hall hzs (hzv (ctx G β w Z)) _ ?_;rw[getElem!_pos z.cells _ hlt];exact Array.getElem_mem_toList hlt
   have hst:=run_storeCells_cells (P:=P) b' (i*k) us 0 w (λj hj=>by
    have:=jQ hrow (o:=i*k) (n:=(m-i)*k) O j O;rw[c7];exact this.1) (λj hj=>by
    have:=jQ hrow (o:=i*k) (n:=(m-i)*k) O j O;rw[c7];exact this.2) hone
   rw[c7]at hst;have hrun:(Builtin.clear_ #[t] o.type #[.slice a (m-i) cap]).run P w = .ok (.tuple #[]) (w.setCells b' (i*k) us):=by
    rw[ha];have:∃q,m-i=q+1:=⟨m-i-1,by omega⟩;obtain⟨q,hq⟩:=this;have hst':(storeCells ⟨b',i*k,none⟩ (Builtin.zeroCells z.cells (q+1)).toList).run P w = .ok () (w.setCells b' (i*k) us):=by rw[<- hq];exact hst
    simp only[Builtin.clear_,hq,cH hE.und,aT,aV,aU,zeroValue,typeInfo,hin,hiz];simp[cH hE.und,hst',typeInfo,hin,hiz]
   obtain⟨vs,hvs,hcs⟩:=Z4.vals (c:=ctx G β w Z) (az.flat.1 hel);have hvl:vs.length=m*k:=by rw[hvs.length,cK,ju hkl,hm]
   obtain⟨hr',hI,hL⟩:=kR hr (off:=i*k) (blk' :=.row k (es.take i++List.replicate (m-i) zs)) us hg hb (.inl ⟨k,es,_,rfl,rfl,by simp;omega⟩) (λhI hL=>by
    refine⟨hk0,λel hel'=>?_,.inr ⟨b',sz',hb,dV _ _ _ _ hrow',by simp;rw[show min i es.length+(m-i)=m by omega];exact hms,az.flat.2 ?_⟩⟩
    .rcases b9.1 hel' with h|h
     .exact hkl el (iV h)
     rw[u2 h];exact hzsl
    have h1:=VRs.step hI _ _ (λm _=>hL m) hvs;have hzz:VRs (ctx G β (w.setCells b' (i*k) us) (put Z l (.row k (es.take i++List.replicate (m-i) zs)))) ((List.replicate (m-i) zs).flatten.map .t) us:=by
     refine VRs.of_get (by rw[husl,cK,hflat]) (λj p v hp hv=>?_);have hj:j<(m-i)*k:=by rw[<- husl];exact(aJ.1 hv).1
     have hkpos:=hE.pos;have hq1:j/k<m-i:=by rw[Nat.div_lt_iff_lt_mul hkpos];exact hj
     have hq2:j%k<k:=Nat.mod_lt _ hkpos;have hjd:j=j/k*k+j%k:=by rw[Nat.mul_comm];exact(Nat.div_add_mod j k).symm
     have hv':z.cells[j%k]?=some v:=by rw[<- Zae z.cells (m-i) k (j/k) (j%k) hzl hq1 hq2,<- hjd];simpa[us]using hv
     have hp':(zs.map PV.t)[j%k]?=some p:=by
      have hfl:∀(c:Nat) (q:Nat),q<c->((List.replicate c zs).flatten.map PV.t)[q*k+j%k]?=(zs.map PV.t)[j%k]?:=by
       intro c;induction c with
       |zero=>intro q h;omega
       |succ c ih=>
        intro q hq;rw[List.replicate_succ,gW,fi];cases q with
        |zero=>rw[u3,aM,eo cg]
        |succ q=>
         rw[ep (by simp;rw[hzsl,dE,e9];omega)];have:(q+1)*k+j%k-(zs.map PV.t).length=q*k+j%k:=by rw[cK,hzsl,dE,e9];omega
         rw[this];exact ih q O
      rw[<- hfl (m-i) (j/k) hq1,<- hjd];exact hp
     have hvz:=l5 hzs (hzv (ctx G β (w.setCells b' (i*k) us) (put Z l (.row k (es.take i++List.replicate (m-i) zs)))));obtain⟨v2,h2,h3⟩:=hvz.get (j%k) p hp';have:z.cells[j%k]?=some v2:=by simpa using h2
     rw[this]at hv';cases hv';exact h3
    have hti:(es.take i).flatten=es.flatten.take (i*k):=JM i hkl;refine iW (vs:=splice vs (i*k) us) ?_ (λj v hj=>?_)
    .rw [nk,fi,hti,lE];unfold splice;have hdrop:vs.drop (i*k+us.length)=[]:=jZ (by rw[husl,hvl];omega);rw[hdrop,cV];exact(h1.take _).append hzz
    rw[aM];exact l6 (w:=w) (λj v hj=>by have:=hcs j v hj;rwa[aM]at this) (by rw[husl,hvl];omega) j v hj)
   exact⟨.tuple #[],w.setCells b' (i*k) us,.inl (hexec _ hrun),β,by rw[hd];exact hr'⟩
def l7(l:Nat):List (Nat×PV)->List (Nat×PV)
 |[]=>[]
 |(i,p)::r=>bif p.has l then l7 l r else(i,p)::l7 l r
def zF:∀{tm:List (Nat×PV)} {i:Nat} {p:PV},(i,p)∈l7 l tm->(i,p)∈tm/\p.has l=false
 |[],_,_,h=>dq
 |(j,q)::r,i,p,h=>by
  simp only[l7]at h;cases hb:q.has l with
  |true=>simp only[hb,aB]at h;have:=zF h;exact⟨bW _ this.1,this.2⟩
  |false=>
   simp only[hb,aD]at h;rcases cf.1 h with h|h
   .cases h;exact⟨by simp,hb⟩
   have:=zF h;exact⟨bW _ this.1,this.2⟩
def Z1v:List (Nat×PV)->Bool
 |[]=>true
 |(i,_)::r=>(match get r i with|none=>true|some _=>false)&&Z1v r
def qY:∀{tm:List (Nat×PV)} {i:Nat} {p:PV},Z1v tm=true->(i,p)∈tm->get tm i=some p
 |[],_,_,_,h=>dq
 |(j,q)::r,i,p,ho,h=>by
  simp only[Z1v,aN]at ho;simp only[PW.get];rcases cf.1 h with h|h
  .cases h;simp
  have hr:=qY ho.2 h;have:j≠i:=λe=>by subst e;rw[hr]at ho;simp at ho
  rw[e8 this,aD];exact hr
def Zah{d:Nat}(ho:o.op = .slice t x none (some y) none)(hd:o.dst=some d)(hdn:d<n)(ha:slInfo P t=some k)(hx:ai tm x=some (.osl l m))(hy:ai tm y=some (.t (.int ki i)))
 (hg:get Z l=some (.row k es)) (hm:es.length=m) (h0:0<=i) (h1:i<=m) (hlab:1000<=l) (hσ:(Z.all λq => !q.2.has l)=true) (hon:Z1v tm=true) :
 iE P o ⟨n,tm,Z⟩ ⟨n,put (l7 l tm) d (.osl l i.toNat),put Z l (.row k (es.take i.toNat))⟩:=
 opup λG β A w hop hr=>by
  have e1:=hop x _ hx;have e2:=hop y _ hy;simp only[VR,Z7]at e1 e2;obtain⟨a,cap,hv,hmc,hcm,h3⟩:=(e1.1 k es hg).2 hm.symm;obtain⟨e,hu,hsz⟩:=JL ha;refine⟨_,w,.inl (Zac ho hu hsz A w hv e2 h0 O),β,?_⟩;have hgs:get (put Z l (.row k (es.take i.toNat))) l=some (.row k (es.take i.toNat)):=fO Z l _;have hgo:∀q,q≠l->get (put Z l (.row k (es.take i.toNat))) q=get Z q:=λq hq=>gj Z _ (dX hq);have hO:∀q o b,get (put Z l (.row k (es.take i.toNat))) q=some o->aH β w q o b->∃o2,get Z q=some o2/\aH β w q o2 b:=λq o b hq ho=>by
   by_cases hql:q=l
   .subst hql;have:some o=some (Blk.row k (es.take i.toNat)):=bB (bD hq) hgs;cases this;exact⟨_,hg,.inl (aH.flat (o :=.row _ _) trivial ho)⟩
   exact⟨o,by rw[<- hgo q hql];exact hq,ho⟩
  have hI:∀b,(ctx G β w Z).I b->(ctx G β w (put Z l (.row k (es.take i.toNat)))).I b/\(ctx G β w (put Z l (.row k (es.take i.toNat)))).w.heap[b]?=(ctx G β w Z).w.heap[b]?:=λb hb=>⟨⟨hb.1,hb.2.1,λq o hq ho=>by obtain⟨o2,h1,h2⟩:=hO q o b hq ho;exact hb.2.2 q o2 h1 h2⟩,rfl⟩;have hL:∀q,q≠l->a8 (ctx G β w Z) (ctx G β w (put Z l (.row k (es.take i.toNat)))) q:=λq hq=>a8.same (hgo q hq) rfl (λ_ _=>rfl);have hr1:aO G β ⟨n,l7 l tm,put Z l (.row k (es.take i.toNat))⟩ A w:=
   { defers:=hr.defers,sz:=hr.sz,base:=hr.base,os:=hr.os,tape:=hr.tape,output:=hr.output,old:=hr.old,A:=hr.A,gl:=hr.gl,
     inj:=λq q' o o' b hq hq' hb hb'=>by obtain⟨o1,h1,h2⟩:=hO q o b hq hb;obtain⟨o2,h3,h4⟩:=hO q' o' b hq' hb';exact hr.inj q q' o1 o2 b h1 h3 h2 h4,
     sep:=λq o b hq hb=>by obtain⟨o1,h1,h2⟩:=hO q o b hq hb;exact hr.sep q o1 b h1 h2,
     fix:=λq cs hq1 hq=>by
      by_cases hql:q=l
      .subst hql;have:some (Blk.box cs)=some (Blk.row k (es.take i.toNat)):=bB (bD hq) hgs;cases this
      exact hr.fix q cs hq1 u4,
     row0:=hr.row0.step (λq hq=>hL q O),
     blk:=λq ob hq=>by
      by_cases hql:q=l
      .subst hql;have:some ob=some (Blk.row k (es.take i.toNat)):=bB (bD hq) hgs;cases this;obtain⟨g0,g1,g2⟩:=hr.blk q _ hg;refine⟨g0,λel hel=>g1 el (iV hel),?_⟩;rcases g2 with⟨g2,g3⟩|⟨b,sz,g2,g3,g4,g5⟩
       .exact .inl ⟨g2,by rw[g3];simp⟩
       refine .inr ⟨b,sz,g2,g3,c6 (gH _ cg) g4,az.mono (λb hb=>hI b hb) rfl _ _ (az.take _ g5)⟩
      have hq':get Z q=some ob:=u4
      refine BR.step hI rfl (λ_ _=>rfl) (λm hm=>hL m (λe=>?_)) (hr.blk q ob hq');subst e;have:=bK.1 hσ _ (fp hq');rw[hm]at this;exact absurd this bE,
     tm:=λj p hp=>by obtain⟨h1,h2⟩:=zF (fp hp);have h3:=qY hon h1;exact⟨(hr.tm j p h3).1,VR.step hI p _ (λm hm=>hL m (λe=>by subst e;rw[h2]at hm;cases hm)) (hr.tm j p h3).2⟩ }
  rw[hd];refine hr1.put hdn ?_;simp only[VR];refine⟨λk' es' hg'=>?_,_,_,_,rfl⟩;have:some (Blk.row k' es')=some (Blk.row k (es.take i.toNat)):=bB (bD hg') hgs;cases this;have hlen:(es.take i.toNat).length=i.toNat:=cg
  refine⟨by rw[hlen];exact bh _,λ_=>⟨_,cap,rfl,by omega,hcm,?_⟩⟩;rcases h3 with⟨hc,hb⟩|⟨b,sz,ha',hb,hrow,hs⟩
  .exact .inl ⟨hc,hb⟩
  refine .inr ⟨b,sz,?_,hb,hrow,hs⟩;rw[ha'];split
  .rfl
  simp[gY]
end
end Go.PW
namespace Go.PW
open Go.RowKit
variable {l m n b d bytes j:Nat} {G:Frm} {β:Nat->Option Nat} {tm:List (Nat×PV)} {Z:List (Nat×Blk)} {a:Act} {w:World} {inner es:List (List aa)} {vs:List Value} {v:Value} {t e:TypeId} {zero:List PV} {x y:Operand}
def cy(β:Nat->Option Nat)(l:Nat)(b:Option Nat):Nat->Option Nat:=λm=>if m=l then b else β m
def cm(β:Nat->Option Nat)(l:Nat)(b:Option Nat):cy β l b l=b:=by simp[cy]
def qJ(β:Nat->Option Nat)(b:Option Nat)(h:m≠l):cy β l b m=β m:=by simp[cy,h]
def Jp(h:aO G β ⟨n,tm,Z⟩ a w)(w':World)(bL:Option Nat)(L:Nat)(blk:Blk)(rm:List Nat)
 (hsz:w.heap.size<=w'.heap.size) (hos:w'.os=w.os) (htp:w'.tape=w.tape) (hout:w'.output=w.output) (hnb:(∀cs,blk ≠ .box cs)/\(1000<=L\/∀k es,blk ≠ .row k es))
 (hheap:∀b,b<w.heap.size->(∀l o,l∈rm->get Z l=some o->¬aH β w l o b)->w'.heap[b]?=w.heap[b]?)
 (hown:∀c,aH (cy β L bL) w' L blk c->(w.heap.size<=c/\c<w'.heap.size)\/∃l o,l∈rm/\get Z l=some o/\aH β w l o c)
 (hV:(∀b,(ctx G β w Z).I b->(ctx G (cy β L bL) w' ((L,blk)::bn rm Z)).I b/\w'.heap[b]?=w.heap[b]?)->(∀m,m≠L->a8 (ctx G β w Z) (ctx G (cy β L bL) w' ((L,blk)::bn rm Z)) m) ->
  (∀i p v,get tm i=some p->VR (ctx G β w Z) p v->VR (ctx G (cy β L bL) w' ((L,blk)::bn rm Z)) p v) /\
  (∀q o,q≠L->get Z q=some o->(∀b,aH β w q o b->w'.heap[b]?=w.heap[b]?)->BR (ctx G β w Z) q o->BR (ctx G (cy β L bL) w' ((L,blk)::bn rm Z)) q o))
 (hblk:(∀b,(ctx G β w Z).I b->(ctx G (cy β L bL) w' ((L,blk)::bn rm Z)).I b/\w'.heap[b]?=w.heap[b]?)->BR (ctx G (cy β L bL) w' ((L,blk)::bn rm Z)) L blk) :
 aO G (cy β L bL) ⟨n,tm,(L,blk)::bn rm Z⟩ a w':=by
 have hget:∀m o,get ((L,blk)::bn rm Z) m=some o->(m=L/\o=blk)\/(m≠L/\m∉rm/\get Z m=some o):=λm o hg=>by
  simp only[PW.get]at hg;cases hb:Nat.beq L m with
  |true=>have:L=m:=(Z9 _ _).1 hb;simp only[hb,aB,aA]at hg;exact .inl ⟨this.symm,hg.symm⟩
  |false=>
   simp only[hb,aD]at hg;have:=Z2h hg;exact .inr ⟨λe=>by subst e;simp at hb,this.1,this.2⟩
 have hgo:∀m,m≠L->get ((L,blk)::bn rm Z) m=get (bn rm Z) m:=λm hm=>by simp only[PW.get,e8 (dX hm),aD]
 have hkeep:∀m o,m∉rm->get Z m=some o->∀b,aH β w m o b->w'.heap[b]?=w.heap[b]?:=λm o hm hg b ho=>hheap b (h.sep m o b hg ho).1 (λl o' hl hg' ho'=>by have:=h.inj m l o o' b hg hg' ho ho';subst this;exact hm hl);have hO:∀m o,m≠L->m∉rm->get Z m=some o->∀b,aH (cy β L bL) w' m o b->aH β w m o b:=λm o hm hr hg b ho=>ho.of (qJ β bL hm) (λb hb=>hkeep m o hr hg b (.inl hb));have hI:∀b,(ctx G β w Z).I b->(ctx G (cy β L bL) w' ((L,blk)::bn rm Z)).I b/\w'.heap[b]?=w.heap[b]?:=λb hb=>by
  refine⟨⟨eE hb.1 hsz,hb.2.1,λm o hm ho=>?_⟩,hheap b hb.1 (λl o _ hg ho=>hb.2.2 l o hg ho)⟩;rcases hget m o hm with⟨rfl,rfl⟩|⟨h1,h2,h3⟩
  .rcases hown b ho with⟨h4,_⟩|⟨l,o,_,h5,h6⟩
   .have:=hb.1;omega
   exact hb.2.2 l o h5 h6
  exact hb.2.2 m o h3 (hO m o h1 h2 h3 b ho)
 have hL:∀m,m≠L->a8 (ctx G β w Z) (ctx G (cy β L bL) w' ((L,blk)::bn rm Z)) m:=λm hm=>by
  have hgm:get (ctx G (cy β L bL) w' ((L,blk)::bn rm Z)).Z m=get (bn rm Z) m:=hgo m hm;cases hg:get (bn rm Z) m with
  |none=>exact a8.none (hgm.trans hg)
  |some o=>
   obtain⟨h1,h2⟩:=Z2h hg;exact a8.same ((hgm.trans hg).trans h2.symm) (qJ β bL hm) (λb hb=>hkeep m o h1 h2 b (.inl hb))
 obtain⟨hLt,hLs⟩:=hV hI hL
 exact { defers:=h.defers,sz:=h.sz,base:=c6 h.base hsz,os:=hos.trans h.os,tape:=htp.trans h.tape,output:=hout.trans h.output,
         old:=λb hb hn=>(hheap b (eE hb h.base) (λl o _ hg ho=>by
          rcases(h.sep l o b hg ho).2 with h1|h1
          .omega
          exact hn h1)).trans (h.old b hb hn),
         A:=h.A,gl:=h.gl,
         inj:=λm m' o o' b hm hm' hb hb'=>by
          rcases hget m o hm with⟨rfl,rfl⟩|⟨h1,h2,h3⟩<;>rcases hget m' o' hm' with⟨rfl,rfl⟩|⟨h1',h2',h3'⟩
          .rfl
          .exfalso;have hb':=hO m' o' h1' h2' h3' b hb';rcases hown b hb with⟨h4,_⟩|⟨l,o,h4,h5,h6⟩
           .have:=(h.sep m' o' b h3' hb').1;omega
           have:=h.inj m' l o' o b h3' h5 hb' h6;subst this;exact h2' h4
          .exfalso;have hb:=hO m o h1 h2 h3 b hb;rcases hown b hb' with⟨h4,_⟩|⟨l,o2,h4,h5,h6⟩
           .have:=(h.sep m o b h3 hb).1;omega
           have:=h.inj m l o o2 b h3 h5 hb h6;subst this;exact h2 h4
          exact h.inj m m' o o' b h3 h3' (hO m o h1 h2 h3 b hb) (hO m' o' h1' h2' h3' b hb'),
         sep:=λm o b hm hb=>by
          rcases hget m o hm with⟨rfl,rfl⟩|⟨h1,h2,h3⟩
          .rcases hown b hb with⟨h4,h5⟩|⟨l,o,_,h5,h6⟩
           .exact⟨h5,.inl (c6 h.base h4)⟩
           have:=h.sep l o b h5 h6;exact⟨eE this.1 hsz,this.2⟩
          have:=h.sep m o b h3 (hO m o h1 h2 h3 b hb);exact⟨eE this.1 hsz,this.2⟩,
         fix:=λm cs h1 hm=>by
          rcases hget m _ hm with⟨_,h2⟩|⟨h2,_,h3⟩
          .exact absurd h2.symm (hnb.1 cs)
          rw[qJ β bL h2];exact h.fix m cs h1 h3,
         row0:=λm k es' hm hg=>by
          by_cases e:m=L
          .rcases hget m _ hg with⟨_,h2⟩|⟨h2,_,_⟩
           .exact hnb.2.elim (λh=>by omega) (λh=>absurd h2.symm (h k es'))
           exact absurd e h2
          exact h.row0.one (hL m e) hm hg,
         blk:=λm o hm=>by
          rcases hget m o hm with⟨rfl,rfl⟩|⟨h1,h2,h3⟩
          .exact hblk hI
          exact hLs m o h1 h3 (λb hb=>hkeep m o h2 h3 b hb) (h.blk m o h3),
         tm:=λi p hp=>⟨(h.tm i p hp).1,hLt i p _ hp (h.tm i p hp).2⟩ }
def jP(h:aO G β ⟨n,tm,Z⟩ a w)(w':World)(bL:Option Nat)(L:Nat)(blk:Blk)(rm:List Nat)
 (hsz:w.heap.size<=w'.heap.size) (hos:w'.os=w.os) (htp:w'.tape=w.tape) (hout:w'.output=w.output) (hnb:(∀cs,blk ≠ .box cs)/\(1000<=L\/∀k es,blk ≠ .row k es))
 (hheap:∀b,b<w.heap.size->(∀l o,l∈rm->get Z l=some o->¬aH β w l o b)->w'.heap[b]?=w.heap[b]?)
 (hown:∀c,aH (cy β L bL) w' L blk c->(w.heap.size<=c/\c<w'.heap.size)\/∃l o,l∈rm/\get Z l=some o/\aH β w l o c)
 (hLL:a8 (ctx G β w Z) (ctx G (cy β L bL) w' ((L,blk)::bn rm Z)) L\/((∀i q,get tm i=some q->q.has L=false)/\(∀m y,get Z m=some y->y.has L=false)))
 (hblk:(∀b,(ctx G β w Z).I b->(ctx G (cy β L bL) w' ((L,blk)::bn rm Z)).I b/\w'.heap[b]?=w.heap[b]?)->BR (ctx G (cy β L bL) w' ((L,blk)::bn rm Z)) L blk) :
 aO G (cy β L bL) ⟨n,tm,(L,blk)::bn rm Z⟩ a w':=
 Jp h w' bL L blk rm hsz hos htp hout hnb hheap hown (λhI hL=>⟨λi p v hp hv=>VR.step hI p v (λm hm=>by
  by_cases e:m=L
  .subst e;rcases hLL with h1|⟨h1,_⟩
   .exact h1
   rw[h1 i p hp]at hm;cases hm
  .exact hL m e) hv,λq o hq hg hk hb=>BR.step hI (qJ β bL hq) hk (λm hm=>by
  by_cases e:m=L
  .subst e;rcases hLL with h1|⟨_,h1⟩
   .exact h1
   rw[h1 q o hg]at hm;cases hm
  exact hL m e) hb⟩) hblk
structure cN (w:World) (b:Nat) (es:List (List aa)) (vs:List Value):Prop where
 len:vs.length=es.length
 cell:∀(j:Nat) v,vs[j]?=some v->w.cell? ⟨b,j,none⟩=some v
 inn:∀(j:Nat) e v,es[j]?=some e->vs[j]?=some v->∃inner a cap,e=[.sl inner]/\v = .slice a inner.length cap/\inner.length<=cap/\cap<=maxLen/\(∀x,x∈inner->∃t,x=[t]/\t.scal=true) /\
  (inner=[]\/∃d m,a=some ⟨d,0,none⟩/\d≠b/\bm w d m/\cap<=m/\az (λ_=>True) w d inner 0)
 dis:∀(i j:Nat) d l l' c c',vs[i]?=some (.slice (some ⟨d,0,none⟩) l c)->vs[j]?=some (.slice (some ⟨d,0,none⟩) l' c')->l≠0->l'≠0->i=j
def zx(h:∀x,x∈inner->∃t,x=[t]/\t.scal=true):∀el,el∈inner->∀x,x∈el->aa.scal x=true:=λel hel x hx=>by obtain⟨t,rfl,ht⟩:=h el hel;simp only[dU]at hx;subst hx;exact ht
def cN.br{c:Ctx}{L:Nat}(h:cN c.w b es vs)(hb:c.β L=some b)(hr:bm c.w b m)(hm:es.length<=m):BR c L (.mat 1 0 es):=by
 have hcell:∀(j:Nat) v,vs[j]?=some v->c.w.cell? ⟨b,j*1+0,none⟩=some v:=λj v hv=>by rw[db,c7];exact h.cell j v hv
 have hv:∀j,j<es.length->∃v,vs[j]?=some v:=λj hj=>⟨vs[j]'(by rw[h.len];exact hj),bg _⟩;refine⟨nm,λel hel=>?_,.inr ⟨b,m,hb,hr,by rw[db];exact hm,?_,?_,?_⟩⟩
 .obtain⟨j,hj,he⟩:=List.getElem_of_mem hel;obtain⟨v,hv⟩:=hv j hj;obtain⟨inner,a,cap,rfl,_⟩:=h.inn j el v (by rw[bg hj,he]) hv;rfl
 .have key:∀(k:Nat) (fs:List (List aa)),es.drop k=fs->az (λd=>c.I d\/Subs c.w b 1 0 es.length d) c.w b fs k:=by
   intro k fs;induction fs generalizing k with
   |nil=>intro _;simp[az]
   |cons e fs ih=>
    intro he;have hk:k<es.length:=by
     rcases eu k es.length with h|h
     .exact h
     rw[jZ h]at he;cases he
    have hek:es[k]?=some e:=by rw[<- List.head?_drop,he];rfl
    obtain⟨v,hv⟩:=hv k hk;obtain⟨inner,a,cap,rfl,rfl,h1,h2,h3,h4⟩:=h.inn k e v hek hv;simp only[az,Z4,jC,bw,bT];refine⟨⟨_,h.cell k _ hv,?_⟩,ih (k+1) (by rw[<- hQ,he];rfl)⟩;simp only[Z7];refine⟨a,cap,rfl,h1,h2,?_⟩;rcases h4 with h4|⟨d,m',h5,h6,h7,h8,h9⟩
    .exact .inl h4
    by_cases hi:inner=[]
    .exact .inl hi
    exact .inr ⟨d,0,h5,.inr ⟨k,hk,inner.length,cap,λe=>hi (dv e),by rw[db,c7,h.cell k _ hv,h5]⟩,az.scal inner 0 (zx h3) h9⟩
  exact key 0 es ax
 .intro i j d len len' cap cap' hi hj hl hl' h1 h2;obtain⟨v,hv1⟩:=hv i hi;obtain⟨v',hv2⟩:=hv j hj;rw[hcell i v hv1]at h1;rw[hcell j v' hv2]at h2;cases h1;cases h2;exact h.dis i j d len len' cap cap' hv1 hv2 hl hl'
 intro j e he;obtain⟨v,hv1⟩:=hv j (aJ.1 he).1;obtain⟨inner,a,cap,rfl,rfl,h1,h2,h3,h4⟩:=h.inn j e v he hv1;refine⟨inner,a,inner.length,cap,rfl,h3,hcell j _ hv1,λhl=>?_⟩;rcases h4 with h4|⟨d,m',h5,h6,h7,h8,h9⟩
 .rw [h4]at hl;exact absurd rfl hl
 exact⟨d,m',h5,h6,h7,h8⟩
def cN.of{c:Ctx}{L:Nat}(h:BR c L (.mat 1 0 es)):(c.β L=none/\es=[])\/∃b m vs,c.β L=some b/\bm c.w b m/\es.length<=m/\cN c.w b es vs:=by
 obtain⟨_,hk,h⟩:=h;rcases h with h|⟨b,m,hb,hr,hm,hel,hdis,hin⟩
 .exact .inl h
 refine .inr ⟨b,m,(List.range es.length).map (λj=>(c.w.cell? ⟨b,j,none⟩).getD undef),hb,hr,by rwa[db]at hm,?_⟩;have hc:∀(j:Nat) e,es[j]?=some e->∃inner v,e=[.sl inner]/\c.w.cell? ⟨b,j,none⟩=some v/\Z7 (λd=>c.I d\/Subs c.w b 1 0 es.length d) c.w (.sl inner) v/\(∀x,x∈inner->∃t,x=[t]/\t.scal=true) /\
  (∀a len cap,v = .slice a len cap->len≠0->∃d m',a=some ⟨d,0,none⟩/\d≠b/\bm c.w d m'/\cap<=m'):=λj e he=>by
  obtain⟨inner,a,len,cap,h1,h2,h3,h4⟩:=hin j e he;have hl:=hk e (bF he);have hee:e=[.sl inner]:=by
   match e,hl,h1 with
   |[x],_,h1=>simp at h1;rw[h1]
  subst hee;have ht:=hel.get j _ hk he;simp only[Z4,jC,aM,db]at ht;obtain⟨v,hv,ht⟩:=ht;rw[db,c7]at h3;refine⟨inner,v,rfl,hv,ht,h2,λa' len' cap' he' hl'=>?_⟩;rw[h3]at hv;cases hv;cases he';exact h4 hl'
 have hvs:∀(j:Nat) v,((List.range es.length).map (λj=>(c.w.cell? ⟨b,j,none⟩).getD undef))[j]?=some v->j<es.length/\c.w.cell? ⟨b,j,none⟩=some v:=λj v hv=>by
  simp only[jD,cG]at hv;obtain⟨i,hi,hv⟩:=hv;have hj:j<es.length:=by have:=(aJ.1 hi).1;simpa using this
  have:i=j:=by rw[List.getElem?_range hj]at hi;cases hi;rfl
  subst this;obtain⟨inner,v',_,h2,_⟩:=hc i _ (bg hj);rw[h2]at hv⊢;exact⟨hj,by simpa using hv⟩
 refine⟨by simp,λj v hv=>(hvs j v hv).2,λj e v he hv=>?_,λi j d l l' cp cp' h1 h2 hl hl'=>?_⟩
 .obtain⟨inner,v',rfl,h2,h3,h4,h5⟩:=hc j e he;rw[(hvs j v hv).2]at h2;cases h2;simp only[Z7]at h3;obtain⟨a,cap,rfl,h6,h7,h8⟩:=h3;refine⟨inner,a,cap,rfl,rfl,h6,h7,h4,?_⟩;by_cases hi:inner=[]
  .exact .inl hi
  obtain⟨d,m',e1,e2,e3,e4⟩:=h5 a inner.length cap rfl (λe=>hi (dv e));rcases h8 with h8|⟨d',off,e5,_,e6⟩
  .exact absurd h8 hi
  rw[e1]at e5;cases e5;exact .inr ⟨d,m',e1,e2,e3,e4,az.scal inner 0 (zx h4) e6⟩
 obtain⟨a1,a2⟩:=hvs i _ h1;obtain⟨a3,a4⟩:=hvs j _ h2;exact hdis i j d l l' cp cp' a1 a3 hl hl' (by rw[db,c7];exact a2) (by rw[db,c7];exact a4)
def cN.subs(h:cN w b es vs):Subs w b 1 0 es.length d↔∃(j l c:Nat),vs[j]?=some (Value.slice (some ⟨d,0,none⟩) l c)/\l≠0:=by
 constructor
 .rintro ⟨j,hj,len,cap,hl,hc⟩;rw[db,c7]at hc;have hv:vs[j]?=some (vs[j]'(by rw[h.len];exact hj)):=bg _;rw[h.cell j _ hv]at hc;cases hc2:vs[j]'(by rw[h.len];exact hj)with
  |slice a l c=>rw[hc2]at hc hv;cases hc;exact⟨j,len,cap,hv,hl⟩
  |_=>rw[hc2]at hc;cases hc
 rintro⟨j,l,c,hv,hl⟩;exact⟨j,by rw[<- h.len];exact(aJ.1 hv).1,l,c,hl,by rw[db,c7];exact h.cell j _ hv⟩
def az.mono'{w':World}(hh:w'.heap[d]?=w.heap[d]?)(hsc:∀x,x∈es->∃t,x=[t]/\t.scal=true)(h:az (λ_=>True) w d es 0):az (λ_=>True) w' d es 0:=by
 have hT:∀{t:aa} {v:Value},t.scal=true->Z7 (λ_=>True) w t v->Z7 (λ_=>True) w' t v:=λ{t v} hs h=>Z7.scal hs h;have key:∀(es:List (List aa)) (off:Nat),(∀x,x∈es->∃t,x=[t]/\t.scal=true)->az (λ_=>True) w d es off->az (λ_=>True) w' d es off:=by
  intro es;induction es with
  |nil=>intro off _ _;simp[az]
  |cons e es ih=>
   intro off hs h;obtain⟨t,rfl,ht⟩:=hs e ax;simp only[az,Z4,jC]at h⊢;obtain⟨⟨c,h1,h2⟩,h3⟩:=h;exact⟨⟨c,(gU (w:=w) hh).trans h1,hT ht h2⟩,ih _ (λx hx=>hs x (bW _ hx)) h3⟩
 exact key es 0 hsc h
def SC1(es:List (List aa)):Prop:=∀x,x∈es->∃t,x=[t]/\t.scal=true
def cN.nil(w:World)(b:Nat):cN w b [] []:=⟨rfl,by simp,by simp,by simp⟩
def cN.app{w':World}{b3 bN:Nat}{es0 es3:List (List aa)}{vs0 vs3:List Value}(h0:cN w b es0 vs0)(h3:cN w b3 es3 vs3)(hc:∀(j:Nat) v,(vs0++vs3)[j]?=some v->w'.cell? ⟨bN,j,none⟩=some v)
 (hin:∀d l c (j:Nat),(vs0++vs3)[j]?=some (Value.slice (some ⟨d,0,none⟩) l c)->l≠0->d≠bN/\w'.heap[d]?=w.heap[d]?)
 (hx:∀(i j:Nat) d l l' c c',vs0[i]?=some (Value.slice (some ⟨d,0,none⟩) l c)->vs3[j]?=some (Value.slice (some ⟨d,0,none⟩) l' c')->l≠0->l'≠0->False):cN w' bN (es0++es3) (vs0++vs3):=by
 have hlen:=h0.len;refine⟨by simp[h0.len,h3.len],hc,λj e v he hv=>?_,λi j d l l' c c' h1 h2 hl hl'=>?_⟩
 .have key:∃inner a cap,e=[.sl inner]/\v = .slice a inner.length cap/\inner.length<=cap/\cap<=maxLen/\(∀x,x∈inner->∃t,x=[t]/\t.scal=true) /\
   (inner=[]\/∃d m,a=some ⟨d,0,none⟩/\bm w d m/\cap<=m/\az (λ_=>True) w d inner 0):=by
   rcases eu j es0.length with h|h
   .rw [eo h]at he;rw[eo O]at hv;obtain⟨inner,a,cap,e1,e2,e3,e4,e5,e6⟩:=h0.inn j e v he hv;exact⟨inner,a,cap,e1,e2,e3,e4,e5,e6.imp id λ⟨d,m,f1,_,f2⟩=>⟨d,m,f1,f2⟩⟩
   rw[ep h]at he;rw[ep O,hlen]at hv;obtain⟨inner,a,cap,e1,e2,e3,e4,e5,e6⟩:=h3.inn _ e v he hv;exact⟨inner,a,cap,e1,e2,e3,e4,e5,e6.imp id λ⟨d,m,f1,_,f2⟩=>⟨d,m,f1,f2⟩⟩
  obtain⟨inner,a,cap,e1,e2,e3,e4,e5,e6⟩:=key;refine⟨inner,a,cap,e1,e2,e3,e4,e5,?_⟩;by_cases hi:inner=[]
  .exact .inl hi
  rcases e6 with h|⟨d,m,f1,f2,f3,f4⟩
  .exact .inl h
  obtain⟨g1,g2⟩:=hin d inner.length cap j (by rw[hv,e2,f1]) (λe=>hi (dv e));exact .inr ⟨d,m,f1,g1,f2.of_heap g2,f3,az.mono' g2 e5 f4⟩
 rcases eu i vs0.length with hi|hi<;>rcases eu j vs0.length with hj|hj
 .rw [eo hi]at h1;rw[eo hj]at h2;exact h0.dis i j d l l' c c' h1 h2 hl hl'
 .rw [eo hi]at h1;rw[ep hj]at h2;exact(hx _ _ d l l' c c' h1 h2 hl hl').elim
 .rw [ep hi]at h1;rw[eo hj]at h2;exact(hx _ _ d l' l c' c h2 h1 hl' hl).elim
 rw[ep hi]at h1;rw[ep hj]at h2;have:=h3.dis _ _ d l l' c c' h1 h2 hl hl';omega
section
variable {P:Program} {o:Oper} {ρ:List (Nat×PV)} {σ0:List (Nat×Blk)}
def opFn {need rm:List Nat} {p:PV} {news:List (Nat×Blk)} (h:∀(G:Frm) (β:Nat->Option Nat) (n:Nat) (tm:List (Nat×PV)) (Z':List (Nat×Blk)) (a:Act) (w:World),
      (∀x q,x∈o.op.operands->ai ρ x=some q->VR (ctx G β w Z') q (a.eval x))->(∀l,l∈need->get Z' l=get σ0 l) ->
      (∀l x,(l,x)∈news->l∉rm->(∀i q,get tm i=some q->q.has l=false)/\(∀m y,get Z' m=some y->m≠l/\y.has l=false))->aO G β ⟨n,tm,Z'⟩ a w ->
      ∃v w',(execOp a.eval o).run P w = .ok (.value v) w'/\∃β',aO G β' ⟨n,tm,news++bn rm Z'⟩ a w'/\VR (ctx G β' w' (news++bn rm Z')) p v):OpF P o ρ σ0 need rm p news:=by
 intro G n tm Z' a w K Q hag hneed hfr hr hK;obtain⟨β,hr⟩:=hr;obtain⟨v,w',hv,hp⟩:=h G β n tm Z' a w (λx q hx hq=>iZ hr hq (λt r ht hr'=>hag t r (ht▸hx) hr')) hneed hfr hr;unfold Oper.wp;rw[hv];exact hK v w' hp
def Jq(hr:aO G β ⟨n,tm,Z⟩ a w)(hg:get Z l=some (.row 1 es))(hm:es.length=m)(hv:OSl (ctx G β w Z) l m v)(hsc:SC1 es) :
 ∃ad cap,v = .slice ad es.length cap/\es.length<=cap/\cap<=maxLen/\(es=[]\/∃d sz,ad=some ⟨d,0,none⟩/\β l=some d/\bm w d sz/\cap<=sz/\az (λ_=>True) w d es 0):=by
 obtain⟨ad,cap,hv,hmc,hcm,h3⟩:=(hv 1 es hg).2 hm.symm;refine⟨ad,cap,by rw[hm];exact hv,by omega,hcm,?_⟩;obtain⟨_,_,hb⟩:=hr.blk l _ hg;rcases hb with⟨_,he⟩|⟨b,sz,hb,_,_,hel⟩
 .exact .inl he
 rcases h3 with⟨hc,_⟩|⟨b',sz',ha,hb',hrow,hs⟩
 .exact .inl (dv O)
 have:b'=b:=cR
 subst this;exact .inr ⟨b',sz',ha,hb,hrow,by simpa using hs,az.scal es 0 (zx hsc) hel⟩
def ZP{parts:Array (Nat×Operand)}{l2 n2:Nat}{es2:List (List aa)}(L:Nat)(hlab:1000<=L)(ho:o.op = .buildSlice t 1 parts)(hE:ElF P t e 1 bytes zero)(hp:gg ρ parts.toList=some [(0,.osl l2 n2)])
 (hf:gF (kK 1 1) (rep 1 zero) [(0,.osl l2 n2)]=some [.osl l2 n2]) (hg0:get σ0 l2=some (.row 1 es2)) (hm:es2.length=n2) (hsc:SC1 es2) (hL:L≠l2):OpF P o ρ σ0 [l2] [l2] (.own L (.msl 1)) [(L,.mat 1 0 [[.sl es2]])]:=
 opFn λG β n tm Z A w hop hnd hfr hr=>by
  have hg:get Z l2=some (.row 1 es2):=(hnd l2 ax).trans hg0;obtain⟨hf1,hf2⟩:=hfr L (.mat 1 0 [[.sl es2]]) ax (by simpa using hL);have hv:=nO (ρ:=ρ) (c:=ctx G β w Z) A.eval parts.toList _ (λx q hx hq=>hop x q qK hq) hp;obtain⟨us,h1,h2⟩:=uI hE (c:=ctx G β w Z) w (vals:=parts.map λ(i,x)=>(i,A.eval x)) uJ O hf;simp only[VRs]at h2;obtain⟨v,rest,rfl,h2,rfl⟩:=h2;simp only[VR]at h2;obtain⟨ad,cap,rfl,hic,hcm,hin⟩:=Jq hr hg hm h2.1 hsc;have hcell:(w.alloc (.cells [Value.slice ad es2.length cap].toArray e)).cell? ⟨w.heap.size,0,none⟩=some (.slice ad es2.length cap):=by rw[jR];rfl
  have hmat:cN (w.alloc (.cells [Value.slice ad es2.length cap].toArray e)) w.heap.size [[.sl es2]] [.slice ad es2.length cap]:=by
   refine⟨rfl,λj v hj=>?_,λj e v he hj=>?_,λi j d l l' c c' h1 h2 _ _=>?_⟩
   .match j,hj with
    |0,hj=>cases hj;exact hcell
   .match j,hj,he with
    |0,hj,he=>
     cases hj;cases he;refine⟨es2,ad,cap,rfl,rfl,hic,hcm,hsc,hin.imp id λ⟨d,sz,g1,g2,g3,g4,g5⟩=>?_⟩;have hlt:=(hr.sep l2 _ d hg (.inl g2)).1;have hh:=dW w (.cells [Value.slice ad es2.length cap].toArray e) d hlt;exact⟨d,sz,g1,by omega,g3.of_heap hh,g4,az.mono' hh hsc g5⟩
   .match i,j,h1,h2 with
    |0,0,_,_=>rfl
  have hrow:bm (w.alloc (.cells [Value.slice ad es2.length cap].toArray e)) w.heap.size 1:=⟨_,e,(0,0),lG w _,rfl,.inl rfl⟩;have habs:=jP hr (w.alloc (.cells [Value.slice ad es2.length cap].toArray e)) (some w.heap.size) L (.mat 1 0 [[.sl es2]]) [l2] ax rfl rfl rfl ax
   (λb hb _=>dW w _ b hb) (λc hc=>?_) (.inr ⟨hf1,λm y hy=>(hf2 m y hy).2⟩) (λ_=>hmat.br (cm _ _ _) hrow ax)
  .refine⟨.slice (some ⟨w.heap.size,0,none⟩) 1 1,w.alloc (.cells [Value.slice ad es2.length cap].toArray e),?_,_,habs,?_⟩
   .simp only[execOp,ho,aT,h1,aU,aV]
   simp only[VR];refine⟨λk q es' hg'=>?_,rfl⟩;have:some (Blk.mat k q es')=some (.mat 1 0 [[.sl es2]]):=bB (bD hg') gX;cases this;exact⟨by simp,λ_=>⟨_,1,rfl,by simp,by simp[maxLen],.inr ⟨w.heap.size,1,rfl,cm _ _ _,hrow,by simp⟩⟩⟩
  rcases hc with hc|⟨k,q,es,b0,h3,h4,h5⟩
  .rw [cm]at hc;cases hc;exact .inl ⟨bh _,by simp⟩
  cases h3;rw[cm]at h4;cases h4;obtain⟨j,l,c',hv,hl⟩:=hmat.subs.1 h5
  match j,hv with
  |0,hv=>
   cases hv;rcases hin with h|⟨d,sz,g1,g2,_⟩
   .subst h;exact absurd rfl hl
   cases g1;exact .inr ⟨l2,_,by simp,hg,.inl g2⟩
def zy(hr:aO G β ⟨n,tm,Z⟩ a w)(hg:get Z l=some (.mat 1 0 es))(hm:es.length=m)(hv:ODR (ctx G β w Z) l v (.msl m)) :
 ∃ad cap vs,v = .slice ad m cap/\m<=cap/\cap<=maxLen/\((cap=0/\β l=none/\es=[]/\vs=[])\/∃b sz,ad=some ⟨b,0,none⟩/\β l=some b/\bm w b sz/\cap<=sz/\es.length<=sz/\cN w b es vs):=by
 obtain⟨ad,cap,hv,hmc,hcm,h3⟩:=(hv 1 0 es hg).2 hm.symm;rcases cN.of (hr.blk l _ hg)with⟨hb,he⟩|⟨b,sz,vs,hb,hrow,hsz,hmat⟩
 .rcases h3 with⟨hc,_⟩|⟨b,sz,_,hb',_⟩
  .exact⟨ad,cap,[],hv,hmc,hcm,.inl ⟨hc,hb,he,rfl⟩⟩
  exact absurd (hb.symm.trans hb') ax
 rcases h3 with⟨_,hb'⟩|⟨b',sz',ha,hb',hrow',hs⟩
 .exact absurd (hb.symm.trans hb') ax
 have:b'=b:=cR
 subst this;have hss:sz'=sz:=by obtain⟨cs1,e1,f1,g1,g2,_⟩:=hrow;obtain⟨cs2,e2,f2,g3,g4,_⟩:=hrow';have g1:w.heap[b']?=_:=g1;have g3:w.heap[b']?=_:=g3;rw[g1]at g3;cases g3;omega
 subst hss;exact⟨ad,cap,vs,hv,hmc,hcm,.inr ⟨b',sz',ha,hb,hrow,by simpa using hs,hsz,hmat⟩⟩
def cN.one(h:cN w b es vs):∀u,u∈vs->u.oneCell'=true:=λu hu=>by obtain⟨j,hj,he⟩:=List.getElem_of_mem hu;obtain⟨inner,a,cap,_,h2,_⟩:=h.inn j (es[j]'(by rw[<- h.len];exact hj)) u (bg _) (by rw[bg hj,he]);subst h2;rfl
def cN.ne(h:cN w b es vs){c:Nat}(hv:vs[j]?=some (Value.slice (some ⟨d,0,none⟩) l c))(hl:l≠0):d≠b:=by
 have hj:j<es.length:=by rw[<- h.len];exact(aJ.1 hv).1
 obtain⟨inner,a,cap,_,h2,_,_,_,h3⟩:=h.inn j _ _ (bg hj) hv;cases h2;rcases h3 with h3|⟨d',m,h4,h5,_⟩
 .subst h3;exact absurd rfl hl
 cases h4;exact h5
def ZQ{tx:TypeId}{l3 m3:Nat}{es0 es3:List (List aa)}(ho:o.op = .call { callee :=.builtin .append,args := #[x,y],argTypes := #[t,tx] })
 (hE:ElF P t e 1 bytes zero) (htx:∃e',P.underlying tx=some (.slice e')) (hx:ai ρ x=some (.own l (.msl m))) (hg0:get σ0 l=some (.mat 1 0 es0)) (hm:es0.length=m) (hy:ai ρ y=some (.own l3 (.msl m3))) (hg3:get σ0 l3=some (.mat 1 0 es3)) (hm3:es3.length=m3)
 (hpos:0<m3) (hll:l≠l3) (h63:m+m3<=9223372036854775807) (hby:(m+m3)*bytes<=140737488355328) :
 OpF P o ρ σ0 [l,l3] [l,l3] (.own l (.msl (m+m3))) [(l,.mat 1 0 (es0++es3))]:=
 opF λG β n tm Z A w hop hnd hr=>by
  have e1:=hop x _ fj hx;have e2:=hop y _ fj hy;have hg:get Z l=some (.mat 1 0 es0):=(hnd l ax).trans hg0;have hg':get Z l3=some (.mat 1 0 es3):=(hnd l3 ax).trans hg3;simp only[VR]at e1 e2;obtain⟨a0,cap,vs0,hv,hmc,hcm0,h3⟩:=zy hr hg hm e1.1;obtain⟨a3,cap3,vs3,hv3,hmc3,hcm3,h4⟩:=zy hr hg' hm3 e2.1;rcases h4 with⟨hc,_⟩|⟨b3,sz3,ha3,hb3,hrow3,hcs3,hes3,hmat3⟩
  .omega
  obtain⟨e',htx⟩:=htx;have hO3:∀(j d l c:Nat),vs3[j]?=some (Value.slice (some ⟨d,0,none⟩) l c)->l≠0->aH β w l3 (.mat 1 0 es3) d:=λj d l c h hl =>.inr ⟨1,0,es3,b3,rfl,hb3,hmat3.subs.2 ⟨j,l,c,h,hl⟩⟩;have hvl0:vs0.length=m:=by
   rcases h3 with⟨_,_,he,hv0⟩|⟨b,sz,_,_,_,_,_,hmat⟩
   .subst he;subst hv0;simpa using hm
   rw[hmat.len,hm]
  have hO0:∀(j d l' c:Nat),vs0[j]?=some (Value.slice (some ⟨d,0,none⟩) l' c)->l'≠0->aH β w l (.mat 1 0 es0) d:=λj d l' c h hl=>by
   rcases h3 with⟨_,_,he,hv0⟩|⟨b,sz,_,hb,_,_,_,hmat⟩
   .subst hv0;simp at h
   exact .inr ⟨1,0,es0,b,rfl,hb,hmat.subs.2 ⟨j,l',c,h,hl⟩⟩
  have hcross:∀d,aH β w l (.mat 1 0 es0) d->aH β w l3 (.mat 1 0 es3) d->False:=λd h h'=>hll (hr.inj l l3 _ _ d hg hg' h h');have hvl3:vs3.length=m3:=by rw[hmat3.len,hm3]
  cases hi:P.info? e with
  |none=>have:=hE.info;simp[hi]at this
  |some i=>
   have hik:i.size=1/\i.bytes=bytes:=uK
   have hz:=hE.z;unfold hX at hz;simp only[hi,bb,dY]at hz;obtain⟨z,hiz,hz⟩:=hz;have hzl:z.cells.size=1:=Jr
   have hexec:∀r,(Builtin.append_ #[t,tx] o.type #[.slice a0 m cap,A.eval y]).run P w=r->(execOp A.eval o).run P w=r.andThen λv w =>.ok (.value v) w:=Js
   have hs:Src P i.size tx (A.eval y) m3 vs3 w:=by rw[hv3,ha3];exact Src.ofSlice w htx ⟨b3,0,none⟩ m3 cap3 vs3 (by rw[hvl3,hik.1,db]) (λj u hu=>by rw[gY];simpa using hmat3.cell j u hu) hmat3.one
   have hLS:∀(β':Nat->Option Nat) (w':World),a8 (ctx G β w Z) (ctx G β' w' ((l,.mat 1 0 (es0++es3))::bn [l,l3] Z)) l:=λβ' w'=>by
    have hgs:get (ctx G β' w' ((l,.mat 1 0 (es0++es3))::bn [l,l3] Z)).Z l=some (.mat 1 0 (es0++es3)):=gX
    refine⟨λk' es' h=>?_,λcs' h=>?_,λk' q' es' h=>?_,λk' es' h=>?_,λk' i' es' cs' h=>?_⟩
    .rw [hgs]at h;cases h
    .rw [hgs]at h;cases h
    .rw [hgs]at h;cases h;exact⟨es0,hg,by simp,λhe=>by rw[bk]at he;omega⟩
    .rw [hgs]at h;cases h
    rw[hgs]at h;cases h
   by_cases hroom:m+m3<=cap
   .rcases h3 with⟨hc0,_⟩|⟨b,sz,ha,hb,hrow,hcs,hes,hmat⟩
    .omega
    subst ha;have hth:=jQ hrow (o:=m*1) (n:=m3) O;have hrun:=run_append_room_src (P:=P) w t tx o.type e i hE.und hi b 0 m cap (A.eval y) m3 vs3 hs hroom (λj hj=>by
     have:=(hth j O).1;rwa[hik.1,aM]) (λj hj=>by
     have:=(hth j O).2;rwa[hik.1,aM])
    rw[hik.1,aM,db]at hrun;have hneb:∀(j d l' c:Nat),(vs0++vs3)[j]?=some (Value.slice (some ⟨d,0,none⟩) l' c)->l'≠0->d≠b:=λj d l' c h hl=>by
     rcases eu j vs0.length with hj|hj
     .rw [eo hj]at h;exact hmat.ne h hl
     rw[ep hj]at h;rintro rfl;exact hcross d (.inl hb) (hO3 _ d l' c h hl)
    have hmatN:cN (w.setCells b m vs3) b (es0++es3) (vs0++vs3):=by
     refine cN.app hmat hmat3 (λj v hj=>?_) (λd l' c j h hl=>⟨hneb j d l' c h hl,gb b vs3 m w d (hneb j d l' c h hl)⟩) (λi j d l' l'' c c' h1 h2 hl hl'=>hcross d (hO0 i d l' c h1 hl) (hO3 j d l'' c' h2 hl'));rcases eu j vs0.length with h|h
     .rw [eo h]at hj;rw[gA b vs3 m w ⟨b,j,none⟩ (λ_ _ =>.inl cg)];exact hmat.cell j v hj
     rw[ep h]at hj;have hjl:=(aJ.1 hj).1;have:=jw b vs3 m w (λj' hj'=>by have:=(hth j' O).1;rwa[db]at this) (j-vs0.length) hjl;rw[show m+(j-vs0.length)=j by omega]at this;rw[this,<- hj,bg hjl]
    have hrowN:=dV b vs3 m w hrow;have habs:=jP hr (w.setCells b m vs3) (some b) l (.mat 1 0 (es0++es3)) [l,l3] uj (dw b vs3 m w).1 (dw b vs3 m w).2.1 (dw b vs3 m w).2.2 ax
     (λb' _ hn=>gb b vs3 m w b' (λe=>hn l _ ax hg (.inl (by rw[e];exact hb)))) (λc hc =>.inr ?_) (.inl (hLS _ _)) (λ_=>hmatN.br (cm _ _ _) hrowN (by rw[bk,hm,hm3];omega))
    .refine⟨.slice (some ⟨b,0,none⟩) (m+m3) cap,w.setCells b m vs3,qL,_,habs,?_⟩;simp only[VR];refine⟨λk' q' es' hg''=>?_,rfl⟩;have:some (Blk.mat k' q' es')=some (.mat 1 0 (es0++es3)):=bB (bD hg'') gX;cases this;exact⟨by simp;omega,λ_=>⟨_,cap,rfl,hroom,hcm0,.inr ⟨b,sz,rfl,cm _ _ _,hrowN,by omega⟩⟩⟩
    rcases hc with hc|⟨k,q,es,b0,g3,g4,g5⟩
    .rw [cm]at hc;cases hc;exact⟨l,_,by simp,hg,.inl hb⟩
    cases g3;rw[cm]at g4;cases g4;obtain⟨j,l',c',hv,hl⟩:=hmatN.subs.1 g5;rcases eu j vs0.length with h|h
    .rw [eo h]at hv;exact⟨l,_,by simp,hg,hO0 j c l' c' hv hl⟩
    rw[ep h]at hv;exact⟨l3,_,by simp,hg',hO3 _ c l' c' hv hl⟩
   have hgt:cap<m+m3:=aW
   have hold:(Builtin.firstCells i.size m (.slice a0 m cap)).run P w.drew = .ok vs0.toArray w.drew:=by
    rcases h3 with⟨_,_,he,hv0⟩|⟨b,sz,ha,hb,hrow,hcs,hes,hmat⟩
    .subst he;subst hv0;have hm0:m=0:=by simpa using hm.symm
     subst hm0;cases a0<;>simp[Builtin.firstCells,loadCells,loadCellsFrom]
    subst ha;exact run_firstCells_some w.drew i.size m ⟨b,0,none⟩ m cap vs0 (by rw[hvl0,hik.1,db]) (λj v hj=>by rw[gY];simpa using hmat.cell j v hj)
   have hrun:=run_append_grow_src (P:=P) w t tx o.type e i z hE.und hi hiz a0 m cap vs0 hold (A.eval y) m3 vs3 hs hgt O Jt;generalize hcs:(vs0++vs3).toArray++Builtin.zeroCells z.cells (grownCap w (m+m3) cap e-(m+m3))=cs at hrun;have hge:=pq w (m+m3) cap e;have hcm:grownCap w (m+m3) cap e<=maxLen:=pr w (m+m3) cap e pv;have hcsz:cs.size=grownCap w (m+m3) cap e:=by rw[<- hcs];simp only[pz,pA,bk,pB,hzl,hvl0,hvl3];omega
   have hd:=aO.drew hr;have hltO:∀d l' o',get Z l'=some o'->aH β w l' o' d->d<w.heap.size:=λd l' o' h1 h2=>(hr.sep l' o' d h1 h2).1;have hOw:∀(j d l' c:Nat),(vs0++vs3)[j]?=some (Value.slice (some ⟨d,0,none⟩) l' c)->l'≠0->d<w.heap.size:=λj d l' c h hl=>by
    rcases eu j vs0.length with hj|hj
    .rw [eo hj]at h;exact hltO d l _ hg (hO0 j d l' c h hl)
    rw[ep hj]at h;exact hltO d l3 _ hg' (hO3 _ d l' c h hl)
   have hheap:∀d,d<w.heap.size->(w.drew.alloc (.cells cs e)).heap[d]?=w.heap[d]?:=λd hd=>dW w.drew _ d hd;have hmat0:∃b,cN w b es0 vs0:=by
    rcases h3 with⟨_,_,he,hv0⟩|⟨b,sz,_,_,_,_,_,hmat⟩
    .subst he;subst hv0;exact⟨0,cN.nil w 0⟩
    exact⟨b,hmat⟩
   obtain⟨bq,hmat0⟩:=hmat0;have hmatN:cN (w.drew.alloc (.cells cs e)) w.heap.size (es0++es3) (vs0++vs3):=by refine cN.app hmat0 hmat3 (λj v hj=>?_) (λd l' c j h hl=>⟨by have:=hOw j d l' c h hl;omega,hheap d (hOw j d l' c h hl)⟩) (λi j d l' l'' c c' h1 h2 hl hl'=>hcross d (hO0 i d l' c h1 hl) (hO3 j d l'' c' h2 hl'));show(w.drew.alloc _).cell? ⟨w.drew.heap.size,_,none⟩=_;rw[jR,<- hcs];have hlt:=(aJ.1 hj).1;rw[kH uL];simpa using hj
   have hrowN:bm (w.drew.alloc (.cells cs e)) w.heap.size cs.size:=⟨cs,e,(0,0),lG w.drew _,rfl,.inl rfl⟩;have habs:=jP hd (w.drew.alloc (.cells cs e)) (some w.heap.size) l (.mat 1 0 (es0++es3)) [l,l3] ax rfl rfl rfl ax
    (λb' hb' _=>dW w.drew _ b' hb') (λc hc=>?_) (.inl ?_) (λ_=>hmatN.br (cm _ _ _) hrowN (by rw[hcsz,bk,hm,hm3];exact hge))
   .refine⟨.slice (some ⟨w.heap.size,0,none⟩) (m+m3) (grownCap w (m+m3) cap e),_,qL,_,habs,?_⟩;simp only[VR];refine⟨λk' q' es' hg''=>?_,rfl⟩;have:some (Blk.mat k' q' es')=some (.mat 1 0 (es0++es3)):=bB (bD hg'') gX;cases this;exact⟨by simp;omega,λ_=>⟨_,_,rfl,hge,hcm,.inr ⟨w.heap.size,cs.size,rfl,cm _ _ _,hrowN,by rw[hcsz];omega⟩⟩⟩
   .have hw:∀l' o',aH β w l' o' c->aH β w.drew l' o' c:=λl' o' h=>h.of_cell (λ_=>rfl);rcases hc with hc|⟨k,q,es,b0,g3,g4,g5⟩
    .rw [cm]at hc;cases hc;exact .inl ⟨bh _,by simp⟩
    cases g3;rw[cm]at g4;cases g4;obtain⟨j,l',c',hv,hl⟩:=hmatN.subs.1 g5;refine .inr ?_;rcases eu j vs0.length with h|h
    .rw [eo h]at hv;exact⟨l,_,by simp,hg,hw _ _ (hO0 j c l' c' hv hl)⟩
    rw[ep h]at hv;exact⟨l3,_,by simp,hg',hw _ _ (hO3 _ c l' c' hv hl)⟩
   have hgs:get (ctx G (cy β l (some w.heap.size)) (w.drew.alloc (.cells cs e)) ((l,.mat 1 0 (es0++es3))::bn [l,l3] Z)).Z l=some (.mat 1 0 (es0++es3)):=gX
   refine⟨λk' es' h=>?_,λcs' h=>?_,λk' q' es' h=>?_,λk' es' h=>?_,λk' i' es' cs' h=>?_⟩
   .rw [hgs]at h;cases h
   .rw [hgs]at h;cases h
   .rw [hgs]at h;cases h;exact⟨es0,hg,by simp,λhe=>by rw[bk]at he;omega⟩
   .rw [hgs]at h;cases h
   rw[hgs]at h;cases h
variable {Z:List (Nat×Blk)}
def ZR{ki:IntKind}{i:Int}(ho:o.op = .indexAddr t x y)(ha:slInfo P t=some 1)(hx:ai ρ x=some (.own l (.msl m)))(hy:ai ρ y=some (.t (.int ki i)))
 (hg:get Z l=some (.mat 1 0 es)) (hm:es.length=m) (h0:0<=i) (h1:i<m):aR P o ρ Z [l] (.own l (.mpt m i.toNat 0)) []:=
 bo λG β n tm Z' A w hop hneed hr=>by
  have e1:=hop x _ aS hx;have e2:=hop y _ aS hy;simp only[VR,Z7]at e1 e2⊢;have hgl:get Z' l=some (.mat 1 0 es):=(hneed l ax).trans hg;obtain⟨ad,cap,vs,hv,hmc,hcm,h3⟩:=zy hr hgl hm e1.1;rcases h3 with⟨hc,_⟩|⟨b,sz,ha',hb,_⟩
  .omega
  subst ha';refine⟨.pointer (some ⟨b,i.toNat*1,none⟩),?_,λk q es' hg'=>?_,rfl⟩
  .simp only[execOp,ho,hv,e2,aT,uM w ha h0 h1,aU,aV,aM]
  have:some (Blk.mat k q es')=some (.mat 1 0 es):=bB (bD hg') hgl;cases this;exact⟨by omega,λ_=>⟨b,hb,by simp⟩⟩
def ZS(ho:o.op = .load t x)(hT:TyF P t false 1)(hx:ai ρ x=some (.own l (.mpt m j 0)))(hg:get Z l=some (.mat 1 0 es))(hm:es.length=m)(hj:j<m):aR P o ρ Z [l] (.own l (.mrow m j)) []:=
 bo λG β n tm Z' A w hop hneed hr=>by
  have e1:=hop x _ aS hx;simp only[VR]at e1⊢;have hgl:get Z' l=some (.mat 1 0 es):=(hneed l ax).trans hg;obtain⟨b,hb,hv⟩:=(e1.1 1 0 es hgl).2 hm.symm;rcases cN.of (hr.blk l _ hgl)with⟨hb',_⟩|⟨b',sz,vs,hb',hrow,hsz,hmat⟩
  .exact absurd (hb'.symm.trans hb) ax
  have:b'=b:=cR
  subst this;have hvj:vs[j]?=some (vs[j]'(by rw[hmat.len];omega)):=bg _;have hc:w.cell? ⟨b',j*1+0,none⟩=some (vs[j]'(by rw[hmat.len];omega)):=by rw[db,c7];exact hmat.cell j _ hvj
  refine⟨vs[j]'(by rw[hmat.len];omega),?_,⟨hj,λk q es' hg'=>?_⟩,hmat.one _ (kL _)⟩
  .have hrun:(Instr.loadAt t (.pointer (some ⟨b',j*1+0,none⟩))).run P w = .ok (vs[j]'(by rw[hmat.len];omega)) w:=by
    have hc':w.cell? ⟨b',j,none⟩=some (vs[j]'(by rw[hmat.len];omega)):=hmat.cell j _ hvj;rw[db,c7];simp[Instr.loadAt,Instr.sureAddr,loadVar,hT.run_isAgg w,hc']
   simp only[execOp,ho,hv,aT,hrun,aU,aV]
  have:some (Blk.mat k q es')=some (.mat 1 0 es):=bB (bD hg') hgl;cases this;exact⟨by omega,λ_=>⟨b',hb,hc⟩⟩
def ZT{ki:IntKind}{i:Int}(ho:o.op = .indexAddr t x y)(ha:slInfo P t=some 1)(hx:ai ρ x=some (.own l (.mrow m j)))(hy:ai ρ y=some (.t (.int ki i)))
 (hg:get Z l=some (.mat 1 0 es)) (hm:es.length=m) (he:es[j]?=some [.sl inner]) (h0:0<=i) (h1:i<inner.length):aR P o ρ Z [l] (.own l (.mel m j i.toNat)) []:=
 bo λG β n tm Z' A w hop hneed hr=>by
  have e1:=hop x _ aS hx;have e2:=hop y _ aS hy;simp only[VR,Z7]at e1 e2⊢;have hgl:get Z' l=some (.mat 1 0 es):=(hneed l ax).trans hg;obtain⟨b,hb,hv⟩:=(e1.1.2 1 0 es hgl).2 hm.symm;rw[db,c7]at hv;rcases cN.of (hr.blk l _ hgl)with⟨hb',_⟩|⟨b',sz,vs,hb',hrow,hsz,hmat⟩
  .exact absurd (hb'.symm.trans hb) ax
  have:b'=b:=cR
  subst this;have hjl:j<es.length:=(aJ.1 he).1;have hvj:vs[j]?=some (vs[j]'(by rw[hmat.len];exact hjl)):=bg _;obtain⟨inner',a,cap,g1,g2,g3,g4,g5,g6⟩:=hmat.inn j _ _ he hvj;have hc:=hmat.cell j _ hvj;cases g1;have hve:A.eval x = .slice a inner.length cap:=by have:some (A.eval x)=some (vs[j]'(by rw[hmat.len];exact hjl)):=hv.symm.trans hc;rw[g2]at this;exact cF this
  rcases g6 with g6|⟨d,sz',k1,k2,k3,k4,k5⟩
  .subst g6;simp at h1;omega
  subst k1;refine⟨.pointer (some ⟨d,0+i.toNat*1,none⟩),?_,⟨e1.1.1,λk q es' hg'=>?_⟩,rfl⟩
  .simp only[execOp,ho,hve,e2,aT,uM w ha h0 h1,aU,aV]
  have:some (Blk.mat k q es')=some (.mat 1 0 es):=bB (bD hg') hgl;cases this;exact⟨by omega,λ_=>⟨b',d,inner.length,cap,hb,by rw[db,c7];exact hc.trans (by rw[g2]),by simp⟩⟩
end
def az.setCell{i:Nat}{z:aa}(hsc:∀x,x∈inner->∃t,x=[t]/\t.scal=true)(hi:i<inner.length)(hz:z.scal=true)(hv:Z7 (λ_=>True) w z v)(h:az (λ_=>True) w d inner 0) :
 az (λ_=>True) (w.setCells d i [v]) d (inner.set i [z]) 0:=by
 have hT:∀{w':World} {t:aa} {v:Value},t.scal=true->Z7 (λ_=>True) w t v->Z7 (λ_=>True) w' t v:=λ{w' t v} hs h=>Z7.scal hs h;have hk:∀el,el∈inner->el.length=1:=λel hel=>by obtain⟨t,rfl,_⟩:=hsc el hel;rfl
 have hthere:(w.cell? ⟨d,i,none⟩).isSome=true:=by have:=h.get i _ hk (bg hi);obtain⟨t,ht,_⟩:=hsc _ (kL hi);rw[ht]at this;simp only[Z4,jC,aM,db]at this;obtain⟨c,hc,_⟩:=this;rw[hc];rfl
 have hin:(w.setCells d i [v]).cell? ⟨d,i,none⟩=some v:=by
  have:=jw d [v] i w (λj hj=>by
   have hj0:j=0:=iS
   rw[hj0,c7];exact hthere) 0 ax
  simpa using this
 have hout:∀j,j≠i->(w.setCells d i [v]).cell? ⟨d,j,none⟩=w.cell? ⟨d,j,none⟩:=λj hj=>gA d [v] i w ⟨d,j,none⟩ (λ_ _=>by simp;omega);have key:∀(k:Nat) (fs:List (List aa)),(inner.set i [z]).drop k=fs->az (λ_=>True) (w.setCells d i [v]) d fs k:=by
  intro k fs;induction fs generalizing k with
  |nil=>intro _;simp[az]
  |cons e fs ih=>
   intro he;have hk':k<inner.length:=by
    rcases eu k inner.length with h|h
    .exact h
    rw[jZ iQ]at he;cases he
   have hek:(inner.set i [z])[k]?=some e:=by rw[<- List.head?_drop,he];rfl
   have hrest:(inner.set i [z]).drop (k+1)=fs:=by rw[<- hQ,he];rfl
   by_cases hki:k=i
   .subst hki;rw[ja hk']at hek;cases hek;simp only[az,Z4,jC];exact⟨⟨v,hin,hT hz hv⟩,ih (k+1) hrest⟩
   rw[gG (λe=>hki e.symm)]at hek;have hget:=h.get k _ hk hek;obtain⟨t,rfl,ht⟩:=hsc e (bF hek);simp only[az,Z4,jC,aM,db]at hget⊢;obtain⟨c,hc,hr⟩:=hget;exact⟨⟨c,(hout k hki).trans hc,hT ht hr⟩,ih (k+1) hrest⟩
 exact key 0 _ rfl
section
variable {P:Program} {o:Oper} {n:Nat} {tm:List (Nat×PV)} {Z:List (Nat×Blk)}
def ZU{i:Nat}{p:PV}{z:aa}(ho:o.op = .store t x y)(hd:o.dst=none)(hT:TyF P t false 1)(hx:ai tm x=some (.own l (.mel m j i)))(hy:ai tm y=some p)(hp:p = .t z)(hz:z.scal=true)
 (hg:get Z l=some (.mat 1 0 es)) (hm:es.length=m) (he:es[j]?=some [.sl inner]) (hi:i<inner.length):iE P o ⟨n,tm,Z⟩ ⟨n,tm,put Z l (.mat 1 0 (es.set j [.sl (inner.set i [z])]))⟩:=
 opup λG β A w hop hr=>by
  subst hp;have e1:=hop x _ hx;have e2:=hop y _ hy;simp only[VR]at e1;obtain⟨b,d,len,cap,hb,hcell,hv⟩:=(e1.1.2 1 0 es hg).2 hm.symm;rw[db,c7]at hcell;rcases cN.of (hr.blk l _ hg)with⟨hb',_⟩|⟨b',sz,vs,hb',hrow,hsz,hmat⟩
  .exact absurd (hb'.symm.trans hb) ax
  have:b'=b:=cR
  subst this;have hjl:j<es.length:=(aJ.1 he).1;have hvj:vs[j]?=some (vs[j]'(by rw[hmat.len];exact hjl)):=bg _;obtain⟨inner',a,cap',g1,g2,g3,g4,g5,g6⟩:=hmat.inn j _ _ he hvj;have hc:=hmat.cell j _ hvj;cases g1;rw[g2]at hc hvj;rw[hc]at hcell;cases hcell;rcases g6 with g6|⟨d',sz',k1,k2,k3,k4,k5⟩
  .subst g6;simp at hi
  cases k1;have hstore:=lY (P:=P) (c:=ctx G β w Z) hT w e2 (by simp[bz]) (by simp[bz,PV.one]) k3 (q:=i) O;have e2':Z7 (ctx G β w Z).I w z (A.eval y):=e2;have hcv:(A.eval y).cells.toList=[A.eval y]:=by have h1:=e2'.oneCell;revert h1;generalize A.eval y=u;intro h1;cases u<;>first|rfl|(simp[Value.oneCell']at h1;done)
  rw[hcv]at hstore;have hzv:Z7 (λ_=>True) w z (A.eval y):=Z7.mono (I:=(ctx G β w Z).I) (λ_ _=>⟨ab,rfl⟩) _ _ e2';have hdn:∀(q d2 l' c:Nat),vs[q]?=some (Value.slice (some ⟨d2,0,none⟩) l' c)->l'≠0->q≠j->d2≠d:=λq d2 l' c h hl hq e=>by subst e;exact hq (hmat.dis q j d2 l' inner.length c cap h hvj hl O)
  have hoth:∀d2,d2≠d->(w.setCells d i [A.eval y]).heap[d2]?=w.heap[d2]?:=λd2 h=>gb d [A.eval y] i w d2 h;have hmatN:cN (w.setCells d i [A.eval y]) b' (es.set j [.sl (inner.set i [z])]) vs:=by
   refine⟨by simpa using hmat.len,λq v hq=>(gU (w:=w) (hoth b' (dX k2))).trans (hmat.cell q v hq),λq e v he' hq=>?_,hmat.dis⟩;by_cases hqj:q=j
   .subst hqj;rw[ja hjl]at he';cases he';rw[hvj]at hq;cases hq;refine⟨inner.set i [z],_,cap,rfl,by rw[ew],by rw[ew];exact g3,g4,λx hx=>?_,.inr ⟨d,sz',rfl,k2,dV d [A.eval y] i w k3,k4,az.setCell g5 hi hz hzv k5⟩⟩;rcases kM hx with h|h
    .exact g5 x h
    exact⟨z,h,hz⟩
   rw[gG (λe=>hqj e.symm)]at he';obtain⟨inn,a2,cap2,f1,f2,f3,f4,f5,f6⟩:=hmat.inn q e v he' hq;refine⟨inn,a2,cap2,f1,f2,f3,f4,f5,?_⟩;by_cases hie:inn=[]
   .exact .inl hie
   rcases f6 with f6|⟨d2,s2,m1,m2,m3,m4,m5⟩
   .exact .inl f6
   have hne:d2≠d:=hdn q d2 inn.length cap2 (by rw[hq,f2,m1]) (λe=>hie (dv e)) hqj;exact .inr ⟨d2,s2,m1,m2,m3.of_heap (hoth d2 hne),m4,az.mono' (hoth d2 hne) f5 m5⟩
  have hOd:aH β w l (.mat 1 0 es) d :=.inr ⟨1,0,es,b',rfl,hb,hmat.subs.2 ⟨j,inner.length,cap,hvj,by omega⟩⟩;have habs:=jP hr (w.setCells d i [A.eval y]) (some b') l (.mat 1 0 (es.set j [.sl (inner.set i [z])])) [l] uj (dw d _ i w).1 (dw d _ i w).2.1 (dw d _ i w).2.2 ax
   (λb2 _ hn=>hoth b2 (λe=>hn l _ ax hg (by rw[e];exact hOd))) (λc hc =>.inr ?_) (.inl ?_) (λ_=>hmatN.br (cm _ _ _) (dV d [A.eval y] i w hrow) (by simpa using hsz))
  .refine⟨undef,w.setCells d i [A.eval y],.inr ⟨?_,rfl⟩,cy β l (some b'),?_⟩
   .simp only[execOp,ho,hv,aT,hstore,aU,aV]
   rw[hd];exact habs
  .rcases hc with hc|⟨k,q,es',b0,f1,f2,f3⟩
   .rw [cm]at hc;cases hc;exact⟨l,_,by simp,hg,.inl hb⟩
   cases f1;rw[cm]at f2;cases f2;obtain⟨q,l',c',hv,hl⟩:=hmatN.subs.1 f3;exact⟨l,_,by simp,hg,.inr ⟨1,0,es,b',rfl,hb,hmat.subs.2 ⟨q,l',c',hv,hl⟩⟩⟩
  have hgs:get (ctx G (cy β l (some b')) (w.setCells d i [A.eval y]) ((l,.mat 1 0 (es.set j [.sl (inner.set i [z])]))::bn [l] Z)).Z l=some (.mat 1 0 (es.set j [.sl (inner.set i [z])])):=gX
  refine⟨λk' es' h=>?_,λcs' h=>?_,λk' q' es' h=>?_,λk' es' h=>?_,λk' i' es' cs' h=>?_⟩
  .rw [hgs]at h;cases h
  .rw [hgs]at h;cases h
  .rw [hgs]at h;cases h;refine⟨es,hg,by simp,λ_=>⟨by show cy β l (some b') l=β l;rw[cm];exact hb.symm,λb2 hb2=>?_⟩⟩;have:b'=b2:=by have:=hb.symm.trans hb2;simpa using this
   subst this;exact⟨λm hr=>dV d [A.eval y] i w hr,λq _=>by show(w.setCells d i [A.eval y]).cell? _=w.cell? _;exact gU (w:=w) (hoth b' (dX k2))⟩
  .rw [hgs]at h;cases h
  rw[hgs]at h;cases h
end
section
variable {P:Program} {o:Oper} {ρ:List (Nat×PV)} {σ0:List (Nat×Blk)}
def ZV{parts:Array (Nat×Operand)}(L:Nat)(ho:o.op = .buildSlice t 0 parts)(hE:ElF P t e 1 bytes zero)(hp:gg ρ parts.toList=some []):OpF P o ρ σ0 [] [] (.own L (.msl 0)) [(L,.mat 1 0 [])]:=
 opFn λG β n tm Z A w hop hnd hfr hr=>by
  obtain⟨hf1,hf2⟩:=hfr L (.mat 1 0 []) ax ax;have hv:=nO (ρ:=ρ) (c:=ctx G β w Z) A.eval parts.toList _ (λx q hx hq=>hop x q qK hq) hp;obtain⟨us,h1,h2⟩:=uI hE (c:=ctx G β w Z) w (len:=0) (out:=[]) (vals:=parts.map λ(i,x)=>(i,A.eval x)) uJ O rfl;simp only[VRs]at h2;subst h2;have habs:=jP hr (w.alloc (.cells [].toArray e)) none L (.mat 1 0 []) [] ax rfl rfl rfl ax
   (λb hb _=>dW w _ b hb) (λc hc=>?_) (.inr ⟨hf1,λm y hy=>(hf2 m y hy).2⟩) (λ_=>⟨nm,by simp,.inl ⟨cm _ _ _,rfl⟩⟩)
  .refine⟨.slice (some ⟨w.heap.size,0,none⟩) 0 0,w.alloc (.cells [].toArray e),?_,_,habs,?_⟩
   .simp only[execOp,ho,aT,h1,aU,aV]
   simp only[VR];refine⟨λk q es' hg'=>?_,rfl⟩;have:some (Blk.mat k q es')=some (.mat 1 0 []):=bB (bD hg') gX;cases this;exact⟨by simp,λ_=>⟨_,0,rfl,by simp,by simp[maxLen],.inl ⟨rfl,cm _ _ _⟩⟩⟩
  rcases hc with hc|⟨k,q,es,b0,h3,h4,h5⟩
  .rw [cm]at hc;cases hc
  rw[cm]at h4;cases h4
end
end Go.PW
namespace Go.PW
open Go.RowKit
variable {α β:Type} {n:Int} {c:Ctx} {ag:Bool} {e t k:TypeId} {l:Nat} {es:List (Int×List aa)} {zs:List aa} {x y:Operand}
def dZ:List (Int×α)->Int->Option α
 |[],_=>none
 |(j,x)::r,n=>bif j==n then some x else dZ r n
def dA:List (Int×α)->Int->α->List (Int×α)
 |[],n,x=>[(n,x)]
 |(j,y)::r,n,x=>bif j==n then(j,x)::r else(j,y)::dA r n x
def mlk(m:List (Int×α))(n:Int)(z:α):α×Bool:=match dZ m n with|some x=>(x,true)|none=>(z,false)
def WG(f:α->β)(n:Int):∀m:List (Int×α),dZ (m.map λp=>(p.1,f p.2)) n=(dZ m n).map f
 |[]=>rfl
 |(j,x)::r=>by
  simp only[cd,dZ];cases j==n with
  |true=>rfl
  |false=>simp only[aD];exact WG f n r
def WH(f:α->β)(n:Int)(x:α):∀m:List (Int×α),(dA m n x).map (λp=>(p.1,f p.2))=dA (m.map λp=>(p.1,f p.2)) n (f x)
 |[]=>rfl
 |(j,y)::r=>by
  simp only[cd,dA];cases j==n with
  |true=>rfl
  |false=>simp only[aD,cd];rw[WH f n x r]
def Zkl(f:α->β)(m:List (Int×α))(n:Int)(z:α):mlk (m.map λp=>(p.1,f p.2)) n (f z)=(f (mlk m n z).1,(mlk m n z).2):=by unfold mlk;rw[WG];cases dZ m n<;>rfl
def Pm{x:α}{p:Int×α}:∀{m:List (Int×α)},p∈dA m n x->p∈m\/p.2=x
 |[],h=>by simp only[dA,dU]at h;subst h;exact .inr rfl
 |(j,y)::r,h=>by
  simp only[dA]at h;cases hb:j==n with
  |true=>
   simp only[hb,aB,cf]at h;rcases h with h|h
   .subst h;exact .inr rfl
   exact .inl (bW _ h)
  |false=>
   simp only[hb,aD,cf]at h;rcases h with h|h
   .subst h;exact .inl ax
   rcases Pm h with h|h
   .exact .inl (bW _ h)
   exact .inr h
def eD.length:∀{es:List MapEntry} {xs:List (Int×List aa)},eD c ag es xs->es.length=xs.length
 |[],_,h=>by rw[show _=_ from h];rfl
 |e::es,xs,h=>by obtain⟨n,ts,r,rfl,_,_,h⟩:=h;simp[eD.length h]
def eD.find{c:Ctx}{ag:Bool}{n:Int}:∀{es:List MapEntry} {xs:List (Int×List aa)} (i:Nat),eD c ag es xs ->
 (dZ xs n=none/\Instr.findNow (.int .i64) (.int .i64 n) es i=some none/\∀e:MapEntry,e.key = .int .i64 n->∀ts,VR c (mvP ag ts) e.val->eD c ag (es++[e]) (dA xs n ts)) \/
 ∃ts j e,dZ xs n=some ts/\Instr.findNow (.int .i64) (.int .i64 n) es i=some (some (i+j,e.val))/\es[j]?=some e/\e.key = .int .i64 n/\VR c (mvP ag ts) e.val /\
  ∀(g:MapEntry->MapEntry),(∀x,x.key = .int .i64 n->(g x).key = .int .i64 n)->∀ts',(∀x,VR c (mvP ag ts') (g x).val)->eD c ag (es.modify j g) (dA xs n ts')
 |[],xs,i,h=>by rw[show xs=[]from h];exact .inl ⟨rfl,rfl,λe he ts hv=>⟨n,ts,[],rfl,he,hv,rfl⟩⟩
 |e::es,xs,i,h=>by
  obtain⟨m,ts,r,rfl,hk,hv,h⟩:=h;by_cases hmn:m=n
  .subst hmn;refine .inr ⟨ts,0,e,by simp[dZ],by simp[Instr.findNow,Instr.sameNow,hk],rfl,hk,hv,λg hg ts' hv'=>?_⟩;simp only[List.modify_zero_cons,dA,beq_self_eq_true,aB];exact⟨m,ts',r,rfl,hg e hk,hv' e,h⟩
  have hb:(m==n)=false:=by simpa using hmn
  have hs:Instr.findNow (.int .i64) (.int .i64 n) (e::es) i=Instr.findNow (.int .i64) (.int .i64 n) es (i+1):=by simp only[Instr.findNow,hk,Instr.sameNow,dM];rw[show(n==m)=false by simpa using λe=>hmn e.symm]
  rcases eD.find (n:=n) (i+1) h with⟨h1,h2,h3⟩|⟨ts2,j,e2,h1,h2,h3,h4,h5,h6⟩
  .refine .inl ⟨by simp only[dZ,hb,aD];exact h1,hs.trans h2,λe' he' ts' hv'=>?_⟩;simp only[dA,hb,aD,gi];exact⟨m,ts,_,rfl,hk,hv,h3 e' he' ts' hv'⟩
  refine .inr ⟨ts2,j+1,e2,by simp only[dZ,hb,aD];exact h1,?_,by simpa using h3,h4,h5,λg hg ts' hv'=>?_⟩
  .rw [hs,h2];congr 3;omega
  simp only[dA,hb,aD,List.modify_succ_cons];exact⟨m,ts,_,rfl,hk,hv,h6 g hg ts' hv'⟩
def oC(P:Program)(ag:Bool)(e:TypeId):Option (List aa):=
 match(P.info? e).bind (·.zero),ag with
 |some (.agg cs),true=>(cs.toList.mapM jM).bind cw
 |some (.agg _),false=>none
 |some v,false=>([v].mapM jM).bind cw
 |_,_=>none
def Zkm{P:Program}{ts:List aa}(h:oC P ag e=some ts)(w:World):∃v,(zeroValue e).run P w = .ok v w/\VR c (mvP ag ts) v:=by
 have key:∀v,(P.info? e).bind (·.zero)=some v->(zeroValue e).run P w = .ok v w:=λv hv=>by obtain⟨i,h1,h2⟩:=dY.1 hv;simp[zeroValue,typeInfo,h1,h2]
 unfold oC at h;split at h
 .rename_i cs hz;obtain⟨ps,h1,h2⟩:=dY.1 h;refine⟨_,key _ hz,?_⟩;simp only[mvP,aB,VR];exact⟨cs.toList,by simp,l5 h2 (jF h1)⟩
 .cases h
 .rename_i v hna hz;obtain⟨ps,h1,h2⟩:=dY.1 h;have hv:=l5 h2 (jF (c:=c) h1);refine⟨v,key _ hz,?_⟩;have hl:=hv.length
  match ts,hl with
  |[t],_=>
   simp only[cd,fP,VRs]at hv;obtain⟨u,rest,e1,e2,rfl⟩:=hv;cases e1;simp only[mvP,aD];exact e2
 cases h
section
variable {P:Program} {o:Oper} {ρ:List (Nat×PV)} {σ0:List (Nat×Blk)}
def Zkg(ag:Bool)(L:Nat)(ho:o.op = .makeMap t none):OpF P o ρ σ0 [] [] (.own L .map) [(L,.map ag [])]:=
 opFn λG β n tm Z A w hop hnd hfr hr=>by
  obtain⟨hf1,hf2⟩:=hfr L (.map ag []) ax ax;have habs:=jP hr (w.alloc (.map #[] 0)) (some w.heap.size) L (.map ag []) [] ax rfl rfl rfl ax
   (λb hb _=>dW w _ b hb) (λc hc=>?_) (.inr ⟨hf1,λm y hy=>(hf2 m y hy).2⟩) (λ_=>⟨w.heap.size,#[],0,cm _ _ _,lG w _,rfl⟩)
  .refine⟨.map (some w.heap.size),w.alloc (.map #[] 0),?_,_,habs,?_⟩
   .have:(Instr.makeMap t none).run P w = .ok (.map (some w.heap.size)) (w.alloc (.map #[] 0)):=rfl;simp only[execOp,ho,nU,aT,this,aU,aV]
   simp only[VR];exact⟨λag' es' hg'=>⟨w.heap.size,cm _ _ _,rfl⟩,rfl⟩
  have:=aH.flat (o :=.map ag []) trivial hc;rw[cm]at this;cases this;exact .inl ⟨bh _,by simp⟩
def xV{G:Frm}{β:Nat->Option Nat}{n:Nat}{tm:List (Nat×PV)}{Z:List (Nat×Blk)}{a:Act}{w:World}(hr:aO G β ⟨n,tm,Z⟩ a w)(hg:get Z l=some (.map ag es)){v:Value}(hv:VR (ctx G β w Z) (.own l .map) v) :
 ∃b ents clock,β l=some b/\v = .map (some b)/\w.heap[b]?=some (.map ents clock)/\eD (ctx G β w Z) ag ents.toList es:=by
 simp only[VR]at hv;obtain⟨b,hb,rfl⟩:=hv.1 ag es hg;obtain⟨b',ents,clock,hb',hm,he⟩:=hr.blk l _ hg;have:b'=b:=cR
 subst this;exact⟨b',ents,clock,hb,rfl,hm,he⟩
variable {Z:List (Nat×Blk)}
def WI(ht:P.underlying t=some (.map k e))(hk:P.underlying k=some (.int .i64))(hz:oC P ag e=some zs)(w:World){b clock:Nat}{ents:Array MapEntry}(hm:w.heap[b]?=some (.map ents clock))(he:eD c ag ents.toList es)(n:Int)(ok:Bool) :
 ∃v,(Instr.lookup t (.map (some b)) (.int .i64 n) ok).run P w = .ok (if ok then .tuple #[v,.bool (mlk es n zs).2]else v) w/\VR c (mvP ag (mlk es n zs).1) v:=by
 have hkey:MapKept.IsKey (.int .i64) (.int .i64 n):=rfl;rcases he.find (n:=n) 0 with⟨h1,h2,_⟩|⟨ts,j,e2,h1,h2,h3,h4,h5,_⟩
 .obtain⟨z,hz1,hz2⟩:=Zkm (c:=c) hz w;refine⟨z,?_,by simp only[mlk,h1];exact hz2⟩;simp only[Instr.lookup,aT,cH ht,aU,sY hm,aV,xr hk hkey,xt hk h2,hz1,mlk,h1]
 refine⟨e2.val,?_,by simp only[mlk,h1];exact h5⟩;simp only[Instr.lookup,aT,cH ht,aU,sY hm,aV,xr hk hkey,xt hk h2,mlk,h1]
def Zkh(ho:o.op = .lookup t x y true)(ht:P.underlying t=some (.map k e))(hk:P.underlying k=some (.int .i64))(hz:oC P ag e=some zs)
 (hx:ai ρ x=some (.own l .map)) (hy:ai ρ y=some (.t (.int .i64 n))) (hg0:get σ0 l=some (.map ag es)):OpF P o ρ σ0 [l] [] (.tup [mvP ag (mlk es n zs).1,.t (.bool (mlk es n zs).2)]) []:=
 opFn λG β n' tm Z A w hop hnd hfr hr=>by
  have hg:get Z l=some (.map ag es):=(hnd l ax).trans hg0;have e1:=hop x _ aS hx;have e2:=hop y _ aS hy;simp only[VR,Z7]at e2;obtain⟨b,ents,clock,hb,hv,hm,he⟩:=xV hr hg e1;obtain⟨v,h1,h2⟩:=WI ht hk hz w hm he n true;refine⟨.tuple #[v,.bool (mlk es n zs).2],w,?_,β,hr,?_⟩
  .simp only[execOp,ho,hv,e2,aT,h1,aU,aV,dM]
  simp only[VR,VRs];exact⟨[v,.bool (mlk es n zs).2],rfl,v,_,rfl,h2,_,_,rfl,rfl,rfl⟩
def Zki(ho:o.op = .lookup t x y false)(ht:P.underlying t=some (.map k e))(hk:P.underlying k=some (.int .i64))(hz:oC P ag e=some zs)
 (hx:ai ρ x=some (.own l .map)) (hy:ai ρ y=some (.t (.int .i64 n))) (hg0:get σ0 l=some (.map ag es)):OpF P o ρ σ0 [l] [] (mvP ag (mlk es n zs).1) []:=
 opFn λG β n' tm Z A w hop hnd hfr hr=>by have hg:get Z l=some (.map ag es):=(hnd l ax).trans hg0;have e1:=hop x _ aS hx;have e2:=hop y _ aS hy;simp only[VR,Z7]at e2;obtain⟨b,ents,clock,hb,hv,hm,he⟩:=xV hr hg e1;obtain⟨v,h1,h2⟩:=WI ht hk hz w hm he n false;refine⟨v,w,?_,β,hr,h2⟩;simp only[execOp,ho,hv,e2,aT,h1,aU,aV];rfl
def Zkj(ho:o.op = .call { callee :=.builtin .len,args := #[x],argTypes := #[t] })(ht:P.underlying t=some (.map k e))
 (hx:ai ρ x=some (.own l .map)) (hg0:get σ0 l=some (.map ag es)):OpF P o ρ σ0 [l] [] (.t (.int .i64 es.length)) []:=
 opFn λG β n' tm Z A w hop hnd hfr hr=>by
  have hg:get Z l=some (.map ag es):=(hnd l ax).trans hg0;have e1:=hop x _ fj hx;obtain⟨b,ents,clock,hb,hv,hm,he⟩:=xV hr hg e1;refine⟨.int .i64 es.length,w,?_,β,hr,by simp only[VR,Z7]⟩;have hl:(Builtin.len_ #[t] o.type #[.map (some b)]).run P w = .ok (.int .i64 es.length) w:=by rw[<- he.length];simp[Builtin.len_,cH ht,sY hm,goInt]
  simp only[execOp,ho,resolve,invoke,builtin,aT,aV,aU,nV,cd,fP,hv,hl]
end
section
variable {P:Program} {o:Oper} {n:Nat} {tm:List (Nat×PV)} {Z:List (Nat×Blk)}
def Zie{z:Operand}{i:Int}{p:PV}{ts:List aa}(ho:o.op = .mapUpdate t x y z)(hd:o.dst=none)(ht:P.underlying t=some (.map k e))(hk:P.underlying k=some (.int .i64))
 (hx:ai tm x=some (.own l .map)) (hy:ai tm y=some (.t (.int .i64 i))) (hz:ai tm z=some p) (hp:p=mvP ag ts) (hg:get Z l=some (.map ag es)):iE P o ⟨n,tm,Z⟩ ⟨n,tm,put Z l (.map ag (dA es i ts))⟩:=
 opup λG β A w hop hr=>by
  subst hp;have e1:=hop x _ hx;have e2:=hop y _ hy;have e3:=hop z _ hz;simp only[VR,Z7]at e2;obtain⟨b,ents,clock,hb,hv,hm,he⟩:=xV hr hg e1;have hkey:MapKept.IsKey (.int .i64) (.int .i64 i):=rfl;have main:∀ents' clock',(∀c':Ctx,(∀q,(ctx G β w Z).I q->c'.I q/\c'.w.heap[q]?=(ctx G β w Z).w.heap[q]?)->eD c' ag ents'.toList (dA es i ts)) ->
   (Instr.mapUpdate t (.map (some b)) (.int .i64 i) (A.eval z)).run P w = .ok () { w with heap:=w.heap.setIfInBounds b (.map ents' clock') } ->
   ∃v w',((execOp A.eval o).run P w = .ok (.value v) w'\/((execOp A.eval o).run P w = .ok .skip w'/\v=undef))/\∃β',aO G β' ⟨n,tm,put Z l (.map ag (dA es i ts))⟩ (A.put o.dst v) w':=by
   intro ents' clock' hE hrun;obtain⟨hs1,hs2⟩:=MapKept.heap_set (o':=Obj.map ents' clock') hm;have habs:=jP hr { w with heap:=w.heap.setIfInBounds b (.map ents' clock') } (some b) l (.map ag (dA es i ts)) [l] ax rfl rfl rfl ax
    (λb2 _ hn=>hs2 b2 (λe=>hn l _ ax hg (by rw[e];exact .inl hb))) (λc hc =>.inr ⟨l,_,by simp,hg,?_⟩) (.inl ?_) (λhI=>⟨b,ents',clock',cm _ _ _,hs1,hE _ (λq hq=>hI q hq)⟩)
   .refine⟨undef,{ w with heap:=w.heap.setIfInBounds b (.map ents' clock') },.inr ⟨?_,rfl⟩,cy β l (some b),?_⟩
    .simp only[execOp,ho,hv,e2,aT,hrun,aU,aV]
    rw[hd];exact habs
   .have:=aH.flat (o :=.map ag _) trivial hc;rw[cm]at this;cases this;exact .inl hb
   have hgs:get (ctx G (cy β l (some b)) { w with heap:=w.heap.setIfInBounds b (.map ents' clock') } ((l,.map ag (dA es i ts))::bn [l] Z)).Z l=some (.map ag (dA es i ts)):=gX
   refine⟨λk' es' h=>?_,λcs' h=>?_,λk' q' es' h=>?_,λk' es' h=>?_,λk' i' es' cs' h=>?_⟩
   .rw [hgs]at h;cases h
   .rw [hgs]at h;cases h
   .rw [hgs]at h;cases h
   .rw [hgs]at h;cases h;exact⟨es,hg,by show cy β l (some b) l=β l;rw[cm];exact hb.symm⟩
   rw[hgs]at h;cases h
  rcases he.find (n:=i) 0 with⟨h1,h2,h3⟩|⟨ts0,j,e2',h1,h2,h3,h4,h5,h6⟩
  .refine main (ents.push { key :=.int .i64 i,val:=A.eval z,born:=clock }) (clock+1) (λc' hI=>?_) ?_
   .rw [Array.toList_push];exact eD.step hI (h3 _ rfl ts e3)
   simp only[Instr.mapUpdate,aT,cH ht,aU,sY hm,xr hk hkey,xt hk h2,MapKept.run_setObj_map _ hm]
  refine main (ents.modify j λx=>{ x with key :=.int .i64 i,val:=A.eval z }) clock (λc' hI=>?_) ?_
  .rw [Array.toList_modify];exact eD.step hI (h6 _ (λ_ _=>rfl) ts (λ_=>e3))
  have hej:((ents[j]?).map (·.key)).getD (.int .i64 i) = .int .i64 i:=by rw[<- Array.getElem?_toList,h3,Option.map_some,iw,h4]
  rw[aM]at h2;simp only[Instr.mapUpdate,aT,cH ht,aU,sY hm,xr hk hkey,xt hk h2,hej,MapKept.run_keyThatStays hkey,MapKept.run_setObj_map _ hm]
end
end Go.PW
namespace Go.PW
open Go.RowKit
variable {l m k:Nat} {t:TypeId} {x:Operand} {es:List (List aa)}
mutual
def PV.mo(l:Nat):PV->Bool
 |.t _=>true
 |.nils=>true
 |.osl m _ => !Nat.beq m l
 |.bptr m _ => !Nat.beq m l
 |.rptr m _ _ _ => !Nat.beq m l
 |.vptr _=>true
 |.agg cs=>PV.moAll l cs
 |.tup cs=>PV.moAll l cs
 |.fn _ cs=>PV.moAll l cs
 |.own _ (.msl _)=>true
 |.own m _ => !Nat.beq m l
def PV.moAll(l:Nat):List PV->Bool
 |[]=>true
 |p::ps=>p.mo l&&PV.moAll l ps
end
def Blk.mo(l:Nat):Blk->Bool
 |.box cs=>PV.moAll l cs
 |.prow _ _ _ _=>false
 |_=>true
def Z44(l:Nat):List (Nat×PV)->List (Nat×PV)
 |[]=>[]
 |(i,p)::r=>bif p.mo l then(i,p)::Z44 l r else Z44 l r
def Z45:∀{tm:List (Nat×PV)} {i:Nat} {p:PV},(i,p)∈Z44 l tm->(i,p)∈tm/\p.mo l=true
 |[],_,_,h=>dq
 |(j,q)::r,i,p,h=>by
  simp only[Z44]at h;cases hb:q.mo l with
  |false=>simp only[hb,aD]at h;have:=Z45 h;exact⟨bW _ this.1,this.2⟩
  |true=>
   simp only[hb,aB]at h;rcases cf.1 h with h|h
   .cases h;exact⟨by simp,hb⟩
   have:=Z45 h;exact⟨bW _ this.1,this.2⟩
section
variable {c c':Ctx} {l:Nat}
def Z9a(h:(!Nat.beq m l)=true):m≠l:=λe=>by subst e;simp at h
mutual
def VR.stepM(hI:∀b,c.I b->c'.I b/\c'.w.heap[b]?=c.w.heap[b]?)(hL:∀m,m≠l->a8 c c' m)(hM:∀n v,ODR c l v (.msl n)->ODR c' l v (.msl n)):∀(p:PV) (v:Value),p.mo l=true->VR c p v->VR c' p v
 |.t x,v,_,h=>VR.step hI (.t x) v (λ_ h=>by simp[PV.has]at h) h
 |.nils,v,_,h=>h
 |.osl m n,v,hm,h=>VR.step hI (.osl m n) v (λq hq=>hL q AB) h
 |.bptr m n,v,hm,h=>VR.step hI (.bptr m n) v (λq hq=>hL q AB) h
 |.rptr m n i o,v,hm,h=>VR.step hI (.rptr m n i o) v (λq hq=>hL q AB) h
 |.vptr cs,v,_,h=>VR.step hI (.vptr cs) v (λ_ h=>by simp[PV.has]at h) h
 |.agg cs,v,hm,h=>AC
 |.tup cs,v,hm,h=>AC
 |.fn f cs,v,hm,h=>AC
 |.own m d,v,hm,h=>by
  by_cases e:m=l
  .subst e;cases d with
   |msl n=>simp only[VR]at h⊢;exact⟨hM n v h.1,h.2⟩
   |_=>exact absurd rfl (Z9a hm)
  exact VR.step hI (.own m d) v (λq hq=>hL q (by rw[<- (Z9 _ _).1 hq];exact e)) h
def VRs.stepM(hI:∀b,c.I b->c'.I b/\c'.w.heap[b]?=c.w.heap[b]?)(hL:∀m,m≠l->a8 c c' m)(hM:∀n v,ODR c l v (.msl n)->ODR c' l v (.msl n)):∀(ps:List PV) (vs:List Value),PV.moAll l ps=true->VRs c ps vs->VRs c' ps vs
 |[],_,_,h=>h
 |p::ps,vs,hm,h=>by simp only[PV.moAll,aN]at hm;simp only[VRs]at h⊢;obtain⟨v,rest,rfl,hv,hr⟩:=h;exact⟨v,rest,rfl,VR.stepM hI hL hM p v hm.1 hv,VRs.stepM hI hL hM ps rest hm.2 hr⟩
end
def BR.stepM(hI:∀b,c.I b->c'.I b/\c'.w.heap[b]?=c.w.heap[b]?)(hL:∀m,m≠l->a8 c c' m)(hM:∀n v,ODR c l v (.msl n)->ODR c' l v (.msl n)){q:Nat}{o:Blk}(hβ:c'.β q=c.β q)(hh:∀b,aH c.β c.w q o b->c'.w.heap[b]?=c.w.heap[b]?)
 (hm:o.mo l=true) (h:BR c q o):BR c' q o:=by
 cases o with
 |box ps=>
  obtain⟨b,vs,h1,h2,h3,h4,h5⟩:=h;have hb:=hh b (.inl h1);exact⟨b,vs,hβ.trans h1,h2.of_heap hb,λj v hj=>(gU (w:=c.w) hb).trans (h3 j v hj),VRs.stepM hI hL hM ps vs hm h4,h5⟩
 |row k es=>exact BR.step hI hβ hh (λ_ h=>by simp[Blk.has]at h) h
 |mat k q es=>exact BR.step hI hβ hh (λ_ h=>by simp[Blk.has]at h) h
 |map ag es=>exact BR.step hI hβ hh (λ_ h=>by simp[Blk.has]at h) h
 |prow k i es cs=>cases hm
end
section
variable {P:Program} {o:Oper} {ρ:List (Nat×PV)} {Z:List (Nat×Blk)}
def Zb3{e:TypeId}{q:Nat}(ho:o.op = .call { callee :=.builtin .len,args := #[x],argTypes := #[t] })(hT:P.underlying t=some (.slice e))
 (hx:ai ρ x=some (.own l (.msl m))) (hg:get Z l=some (.mat k q es)) (hm:es.length=m):aR P o ρ Z [l] (.t (.int .i64 m)) []:=
 bo λG β n tm Z' A w hop hneed _=>by have h1:=hop x _ fj hx;simp only[VR]at h1;obtain⟨a,cap,hv,_⟩:=(h1.1 k q es Ng).2 hm.symm;exact⟨.int .i64 m,by simp[execOp,ho,resolve,invoke,builtin,Builtin.len_,hv,cH hT,goInt],by simp[VR,Z7]⟩
end
section
variable {P:Program} {o:Oper} {ρ:List (Nat×PV)} {Z:List (Nat×Blk)}
def Zb4{j i:Nat}{inner:List (List aa)}{z:aa}(ho:o.op = .load t x)(hT:TyF P t false 1)(hx:ai ρ x=some (.own l (.mel m j i)))(hg:get Z l=some (.mat 1 0 es))(hm:es.length=m)(he:es[j]?=some [.sl inner])(hi:inner[i]?=some [z])(hz:z.scal=true):aR P o ρ Z [l] (.t z) []:=
 bo λG β n tm Z' A w hop hneed hr=>by
  have e1:=hop x _ aS hx;simp only[VR]at e1⊢;have hgl:get Z' l=some (.mat 1 0 es):=(hneed l ax).trans hg;obtain⟨b,d,len,cap,hb,hcell,hv⟩:=(e1.1.2 1 0 es hgl).2 hm.symm;rw[db,c7]at hcell;rcases cN.of (hr.blk l _ hgl)with⟨hb',_⟩|⟨b',sz,vs,hb',hrow,hsz,hmat⟩
  .exact absurd (hb'.symm.trans hb) ax
  have:b'=b:=cR
  subst this;have hjl:j<es.length:=(aJ.1 he).1;have hvj:vs[j]?=some (vs[j]'(by rw[hmat.len];exact hjl)):=bg _;obtain⟨inner',a,cap',g1,g2,g3,g4,g5,g6⟩:=hmat.inn j _ _ he hvj;have hc:=hmat.cell j _ hvj;cases g1;have hc:w.cell? ⟨b',j,none⟩=_:=hc;have hcell:w.cell? ⟨b',j,none⟩=_:=hcell;rw[g2,hcell]at hc;have hil:=(aJ.1 hi).1;rcases g6 with g6|⟨d',sz',k1,k2,k3,k4,k5⟩
  .subst g6;simp at hil
  rw[k1]at hc;cases hc;have hk:∀el,el∈inner->el.length=1:=λel hel=>by obtain⟨t,rfl,_⟩:=g5 el hel;rfl
  have h5:=k5.get i _ hk hi;simp only[Z4,jC,aM,db]at h5;obtain⟨c,h6,h7⟩:=h5;have h6:w.cell? ⟨d,i,none⟩=some c:=h6;refine⟨c,?_,Z7.scal hz h7⟩;have hrun:(Instr.loadAt t (.pointer (some ⟨d,i,none⟩))).run P w = .ok c w:=by simp[Instr.loadAt,Instr.sureAddr,loadVar,hT.run_isAgg w,h6]
  simp only[execOp,ho,hv,aT,hrun,aU,aV]
end
section
variable {P:Program} {o:Oper} {n:Nat} {tm:List (Nat×PV)} {Z:List (Nat×Blk)}
def Zb5{y:Operand}{j l2 n2:Nat}{es2:List (List aa)}(ho:o.op = .store t x y)(hd:o.dst=none)(hT:TyF P t false 1)(hx:ai tm x=some (.own l (.mpt m j 0)))(hy:ai tm y=some (.osl l2 n2))
 (hg:get Z l=some (.mat 1 0 es)) (hm:es.length=m) (hj:j<m) (hg2:get Z l2=some (.row 1 es2)) (hm2:es2.length=n2) (hsc:SC1 es2) (hll:l≠l2) (hσ:(Z.all λq=>q.2.mo l)=true) (hon:Z1v tm=true) :
 iE P o ⟨n,tm,Z⟩ ⟨n,Z44 l tm,(l,.mat 1 0 (es.set j [.sl es2]))::bn [l,l2] Z⟩:=
 opup λG β A w hop hr=>by
  have e1:=hop x _ hx;have e2:=hop y _ hy;have e2v:=e2;simp only[VR]at e1 e2;obtain⟨b,hb,hv⟩:=(e1.1 1 0 es hg).2 hm.symm;rw[db,c7]at hv;obtain⟨ad,cap,hv2,hic,hcm,hin⟩:=Jq hr hg2 hm2 e2.1 hsc;rcases cN.of (hr.blk l _ hg)with⟨hb',_⟩|⟨b',sz,vs,hb',hrow,hsz,hmat⟩
  .exact absurd (hb'.symm.trans hb) ax
  have:b'=b:=cR
  subst this;have hmat:cN w b' es vs:=hmat;have hb:β l=some b':=hb;have hjl:j<es.length:=aW
  have hjv:j<vs.length:=by rw[hmat.len];exact hjl
  have hstore:=lY (P:=P) (c:=ctx G β w Z) hT w e2v (by simp[bz]) (by simp[bz,PV.one]) hrow (q:=j) O;have hcv:(A.eval y).cells.toList=[A.eval y]:=by rw[hv2];rfl
  rw[hcv]at hstore;have hoth:∀d2,d2≠b'->(w.setCells b' j [A.eval y]).heap[d2]?=w.heap[d2]?:=λd2 h=>gb b' [A.eval y] j w d2 h;have hOd2:∀d,β l2=some d->d≠b':=λd h e=>by subst e;exact hll (hr.inj l l2 _ _ d hg hg2 (.inl hb) (.inl h))
  have hmatN:cN (w.setCells b' j [A.eval y]) b' (es.set j [.sl es2]) (vs.set j (A.eval y)):=by
   refine⟨by simpa using hmat.len,λq v hq=>?_,λq e v he hq=>?_,λi k d l1 l1' c c' h1 h2 hl1 hl2=>?_⟩
   .by_cases hqj:q=j
    .subst hqj;rw[ja hjv]at hq;cases hq;have:=jw b' [A.eval y] q w (λk hk=>by
      have hk0:k=0:=lF
      rw[hk0,c7,hmat.cell q _ (bg hjv)];rfl) 0 ax
     simpa using this
    rw[gG (λe=>hqj e.symm)]at hq;rw[gA b' [A.eval y] j w ⟨b',q,none⟩ (λ_ _=>by simp;omega)];exact hmat.cell q v hq
   .by_cases hqj:q=j
    .subst hqj;rw[ja hjv]at hq;rw[ja hjl]at he;cases he;cases hq;refine⟨es2,ad,cap,rfl,hv2,hic,hcm,hsc,hin.imp id λ⟨d,s2,g1,g2,g3,g4,g5⟩=>?_⟩;have hne:=hOd2 d g2;exact⟨d,s2,g1,hne,g3.of_heap (hoth d hne),g4,az.mono' (hoth d hne) hsc g5⟩
    rw[gG (λe=>hqj e.symm)]at he hq;obtain⟨inn,a2,cap2,f1,f2,f3,f4,f5,f6⟩:=hmat.inn q e v he hq;refine⟨inn,a2,cap2,f1,f2,f3,f4,f5,f6.imp id λ⟨d2,s2,m1,m2,m3,m4,m5⟩=>?_⟩;exact⟨d2,s2,m1,m2,m3.of_heap (hoth d2 m2),m4,az.mono' (hoth d2 m2) f5 m5⟩
   have hne:∀(q d l1 c:Nat),(vs.set j (A.eval y))[q]?=some (Value.slice (some ⟨d,0,none⟩) l1 c)->l1≠0->q≠j->aH β w l (.mat 1 0 es) d:=λq d l1 c h hl hq=>by rw[gG (λe=>hq e.symm)]at h;exact .inr ⟨1,0,es,b',rfl,hb,hmat.subs.2 ⟨q,l1,c,h,hl⟩⟩
   have hj1:∀(d l1 c:Nat),(vs.set j (A.eval y))[j]?=some (Value.slice (some ⟨d,0,none⟩) l1 c)->l1≠0->β l2=some d:=λd l1 c h hl=>by
    rw[ja hjv,hv2]at h;simp only[aA,Value.slice.injEq]at h;rcases hin with hin|⟨d',s2,g1,g2,_⟩
    .subst hin;exact absurd h.2.1.symm hl
    rw[g1]at h;have h1:=h.1;simp only[aA,Addr.mk.injEq]at h1;rw[<- h1.1];exact g2
   by_cases hi:i=j
   .by_cases hk:k=j
    .rw [hi,hk]
    subst hi;exact absurd (hr.inj l l2 _ _ d hg hg2 (hne k d l1' c' h2 hl2 hk) (.inl (hj1 d l1 c h1 hl1))) hll
   by_cases hk:k=j
   .subst hk;exact absurd (hr.inj l l2 _ _ d hg hg2 (hne i d l1 c h1 hl1 hi) (.inl (hj1 d l1' c' h2 hl2))) hll
   rw[gG (λe=>hi e.symm)]at h1;rw[gG (λe=>hk e.symm)]at h2;exact hmat.dis i k d l1 l1' c c' h1 h2 hl1 hl2
  have hr0:aO G β ⟨n,Z44 l tm,Z⟩ A w:=
   { defers:=hr.defers,sz:=hr.sz,base:=hr.base,os:=hr.os,tape:=hr.tape,output:=hr.output,old:=hr.old,A:=hr.A,gl:=hr.gl,inj:=hr.inj,sep:=hr.sep,fix:=hr.fix,row0:=hr.row0,blk:=hr.blk,
     tm:=λi p hp=>hr.tm i p (qY hon (Z45 (fp hp)).1) }
  have hmo:∀i p,get (Z44 l tm) i=some p->p.mo l=true:=λi p hp=>(Z45 (fp hp)).2;have habs:=Jp hr0 (w.setCells b' j [A.eval y]) (some b') l (.mat 1 0 (es.set j [.sl es2])) [l,l2] uj (dw b' _ j w).1 (dw b' _ j w).2.1 (dw b' _ j w).2.2 ax
   (λb2 _ hn=>hoth b2 (λe=>hn l _ ax hg (by rw[e];exact .inl hb))) (λc hc =>.inr ?_) (λhI hL=>?_) (λ_=>hmatN.br (cm _ _ _) (dV b' [A.eval y] j w hrow) (by simpa using hsz))
  .refine⟨undef,w.setCells b' j [A.eval y],.inr ⟨?_,rfl⟩,cy β l (some b'),?_⟩
   .simp only[execOp,ho,hv,aT,hstore,aU,aV]
   rw[hd];exact habs
  .rcases hc with hc|⟨k,q,es',b0,f1,f2,f3⟩
   .rw [cm]at hc;cases hc;exact⟨l,_,by simp,hg,.inl hb⟩
   cases f1;rw[cm]at f2;cases f2;obtain⟨q,l',c',hv',hl'⟩:=hmatN.subs.1 f3;by_cases hqj:q=j
   .subst hqj;rw[ja hjv,hv2]at hv';simp only[aA,Value.slice.injEq]at hv';rcases hin with hin|⟨d',s2,g1,g2,_⟩
    .subst hin;exact absurd hv'.2.1.symm hl'
    rw[g1]at hv';have h1:=hv'.1;simp only[aA,Addr.mk.injEq]at h1;exact⟨l2,_,by simp,hg2,.inl (by rw[<- h1.1];exact g2)⟩
   rw[gG (λe=>hqj e.symm)]at hv';exact⟨l,_,by simp,hg,.inr ⟨1,0,es,b',rfl,hb,hmat.subs.2 ⟨q,l',c',hv',hl'⟩⟩⟩
  have hgs:get (ctx G (cy β l (some b')) (w.setCells b' j [A.eval y]) ((l,.mat 1 0 (es.set j [.sl es2]))::bn [l,l2] Z)).Z l=some (.mat 1 0 (es.set j [.sl es2])):=gX
  have hM:∀k v,ODR (ctx G β w Z) l v (.msl k)->ODR (ctx G (cy β l (some b')) (w.setCells b' j [A.eval y]) ((l,.mat 1 0 (es.set j [.sl es2]))::bn [l,l2] Z)) l v (.msl k):=λk v h k1 q1 es1 hg1=>by
   rw[hgs]at hg1;cases hg1;obtain⟨h1,h2⟩:=h 1 0 es hg;rw[ew];refine⟨h1,λhk=>?_⟩;obtain⟨a,cp,g1,g2,g3,g4⟩:=h2 hk;refine⟨a,cp,g1,g2,g3,?_⟩;rcases g4 with⟨_,g5⟩|⟨b2,m2,g5,g6,g7,g8⟩
   .exact absurd (g5.symm.trans hb) ax
   exact .inr ⟨b2,m2,g5,by show cy β l (some b') l=_;rw[cm,<- hb];exact g6,dV b' [A.eval y] j w g7,g8⟩
  exact⟨λi p v hp hv=>VR.stepM hI hL hM p v (hmo i p hp) hv,λq o hq hgq hk hbq=>BR.stepM hI hL hM (qJ β _ hq) hk (bK.1 hσ _ (fp hgq)) hbq⟩
end
def toM(l:Nat):List (Nat×PV)->List (Nat×PV)
 |[]=>[]
 |(i,p)::r=>
  match p with
  |.osl m k=>bif Nat.beq m l then(i,.own l (.msl k))::toM l r else(i,.osl m k)::toM l r
  |p=>bif p.has l then toM l r else(i,p)::toM l r
def Nh:∀{tm:List (Nat×PV)} {i:Nat} {p:PV},(i,p)∈toM l tm->(∃k,p = .own l (.msl k)/\(i,.osl l k)∈tm)\/((i,p)∈tm/\p.has l=false)
 |[],_,_,h=>dq
 |(j,q)::r,i,p,h=>by
  have up:(i,p)∈toM l r->(∃k,p = .own l (.msl k)/\(i,.osl l k)∈(j,q)::r)\/((i,p)∈(j,q)::r/\p.has l=false):=λh=>by
   rcases Nh h with⟨k,h1,h2⟩|⟨h1,h2⟩
   .exact .inl ⟨k,h1,bW _ h2⟩
   exact .inr ⟨bW _ h1,h2⟩
  simp only[toM]at h;split at h
  .rename_i m k;cases hb:Nat.beq m l with
   |true=>
    simp only[hb,aB]at h;have hm:=(Z9 _ _).1 hb;subst hm;rcases cf.1 h with h|h
    .cases h;exact .inl ⟨k,rfl,by simp⟩
    exact up h
   |false=>
    simp only[hb,aD]at h;rcases cf.1 h with h|h
    .cases h;exact .inr ⟨by simp,hb⟩
    exact up h
  cases hb:q.has l with
  |true=>simp only[hb,aB]at h;exact up h
  |false=>
   simp only[hb,aD]at h;rcases cf.1 h with h|h
   .cases h;exact .inr ⟨by simp,hb⟩
   exact up h
def Wk.tomat{st:St}(hg:get st.Z l=some (.row 1 es))(he:∀e,e∈es->e=[aa.sl []])(hσ:(st.Z.all λq => !q.2.has l)=true)(hon:Z1v st.tm=true) :
 Wk st ⟨st.n,toM l st.tm,put st.Z l (.mat 1 0 es)⟩:=by
 rintro G a w ⟨β,hr⟩;obtain⟨n,tm,Z⟩:=st;have hg:get Z l=some (.row 1 es):=hg;refine⟨β,?_⟩;have hgs:get (put Z l (.mat 1 0 es)) l=some (.mat 1 0 es):=fO Z l _;have hgo:∀q,q≠l->get (put Z l (.mat 1 0 es)) q=get Z q:=λq hq=>gj Z _ (dX hq);obtain⟨_,hk,hbr⟩:=hr.blk l _ hg;have hcell:∀b,β l=some b->∀j,j<es.length->∃a cap,w.cell? ⟨b,j*1+0,none⟩=some (.slice a 0 cap):=λb hb j hj=>by
  rcases hbr with⟨hb',_⟩|⟨b',m,hb',_,_,hel⟩
  .exact absurd (hb'.symm.trans hb) ax
  have:b'=b:=cR
  subst this;have h1:=hel.get j _ hk (bg hj);rw[he _ (kL hj)]at h1;simp only[Z4,jC,aM]at h1;obtain⟨c,h1,h2⟩:=h1;simp only[Z7]at h2;obtain⟨a,cap,rfl,_⟩:=h2;exact⟨a,cap,by rw[c7];exact h1⟩
 have hns:∀b d,β l=some b->¬Subs w b 1 0 es.length d:=λb d hb ⟨j,hj,len,cap,hl,hc⟩=>by obtain⟨a,cap',h1⟩:=hcell b hb j hj;rw[h1]at hc;cases hc;exact hl rfl
 have hO:∀q o b,get (put Z l (.mat 1 0 es)) q=some o->aH β w q o b->∃o2,get Z q=some o2/\aH β w q o2 b:=λq o b hq ho=>by
  by_cases hql:q=l
  .subst hql;have:some o=some (Blk.mat 1 0 es):=bB (bD hq) hgs;cases this;rcases ho with ho|⟨k,q0,es',b0,h1,h2,h3⟩
   .exact⟨_,hg,.inl ho⟩
   cases h1;exact absurd h3 (hns b0 b h2)
  exact⟨o,by rw[<- hgo q hql];exact hq,ho⟩
 have hI:∀b,(ctx G β w Z).I b->(ctx G β w (put Z l (.mat 1 0 es))).I b/\(ctx G β w (put Z l (.mat 1 0 es))).w.heap[b]?=(ctx G β w Z).w.heap[b]?:=λb hb=>⟨⟨hb.1,hb.2.1,λq o hq ho=>by obtain⟨o2,h1,h2⟩:=hO q o b hq ho;exact hb.2.2 q o2 h1 h2⟩,rfl⟩;have hL:∀q,q≠l->a8 (ctx G β w Z) (ctx G β w (put Z l (.mat 1 0 es))) q:=λq hq=>a8.same (hgo q hq) rfl (λ_ _=>rfl);exact
  { defers:=hr.defers,sz:=hr.sz,base:=hr.base,os:=hr.os,tape:=hr.tape,output:=hr.output,old:=hr.old,A:=hr.A,gl:=hr.gl,
    inj:=λq q' o o' b hq hq' hb hb'=>by obtain⟨o1,h1,h2⟩:=hO q o b hq hb;obtain⟨o2,h3,h4⟩:=hO q' o' b hq' hb';exact hr.inj q q' o1 o2 b h1 h3 h2 h4,
    sep:=λq o b hq hb=>by obtain⟨o1,h1,h2⟩:=hO q o b hq hb;exact hr.sep q o1 b h1 h2,
    fix:=λq cs hq1 hq=>by
     by_cases hql:q=l
     .subst hql;have:some (Blk.box cs)=some (Blk.mat 1 0 es):=bB (bD hq) hgs;cases this
     exact hr.fix q cs hq1 u4,
    row0:=λq k es' hq hg=>by
     by_cases hql:q=l
     .subst hql;have:some (Blk.row k es')=some (Blk.mat 1 0 es):=bB (bD hg) hgs;cases this
     exact hr.row0 q k es' hq (by rw[<- hgo q hql];exact hg),
    blk:=λq ob hq=>by
     by_cases hql:q=l
     .subst hql;have:some ob=some (Blk.mat 1 0 es):=bB (bD hq) hgs;cases this;refine⟨nm,hk,?_⟩;rcases hbr with h1|⟨b,m,h1,h2,h3,h4⟩
      .exact .inl h1
      refine .inr ⟨b,m,h1,h2,h3,az.mono (λd hd=>⟨.inl (hI d hd).1,rfl⟩) rfl _ _ h4,λi j d len len' cap cap' hi _ hl _ hc _=>?_,λj e hj=>?_⟩
      .obtain⟨a,cp,h5⟩:=hcell b h1 i hi;have hc:w.cell? _=_:=hc;rw[h5]at hc;cases hc;exact absurd rfl hl
      have hj':=(aJ.1 hj).1;obtain⟨a,cp,h5⟩:=hcell b h1 j hj';have:=he e (bF hj);subst this;exact⟨[],a,0,cp,rfl,by simp,h5,λh=>absurd rfl h⟩
     have hq':get Z q=some ob:=u4
     refine BR.step hI rfl (λ_ _=>rfl) (λm hm=>hL m (λe=>?_)) (hr.blk q ob hq');subst e;have:=bK.1 hσ _ (fp hq');rw[hm]at this;exact absurd this bE,
    tm:=λj p hp=>by
     rcases Nh (fp hp)with⟨k,rfl,h1⟩|⟨h1,h2⟩
     .have h3:=hr.tm j _ (qY hon h1);refine⟨h3.1,?_⟩;have h4:=h3.2;simp only[VR]at h4⊢;obtain⟨h4,a,m,cp,h5⟩:=h4;refine⟨λk' q' es' hg'=>?_,by rw[h5];rfl⟩;have:some (Blk.mat k' q' es')=some (Blk.mat 1 0 es):=bB (bD hg') hgs;cases this;exact h4 1 es hg
     have h3:=qY hon h1;exact⟨(hr.tm j p h3).1,VR.step hI p _ (λm hm=>hL m (λe=>by subst e;rw[h2]at hm;cases hm)) (hr.tm j p h3).2⟩ }
def Ni{I:Nat->Prop}{w:World}{b:Nat}:∀(ts:List aa) (off:Nat),Z4 I w b ts off->∃us:List aa,us.length=ts.length/\(∀x,x∈us->x.scal=true)/\(∀J,Z4 J w b us off) /\
 ∀{J I':Nat->Prop} {w':World} {b' off':Nat},Z4 J w' b' us off'->(∀c,I c->I' c/\w'.heap[c]?=w.heap[c]?)->Z4 I' w' b' ts off'
 |[],_,_=>⟨[],rfl,by simp,λ_=>trivial,λ_ _=>trivial⟩
 |t::ts,off,h=>by
  simp only[Z4]at h;obtain⟨⟨c,hc,ht⟩,h⟩:=h;obtain⟨us,h1,h2,h3,h4⟩:=Ni ts _ h;refine⟨.con c::us,by simp[h1],λx hx=>?_,λJ=>⟨⟨c,hc,rfl,ht.oneCell⟩,h3 J⟩,λ{J I' w' b' off'} hu hI=>?_⟩
  .rcases cf.1 hx with rfl|hx
   .rfl
   exact h2 x hx
  simp only[Z4]at hu⊢;obtain⟨⟨c',hc',hv,_⟩,hu⟩:=hu;subst hv;exact⟨⟨_,hc',ht.mono hI⟩,h4 hu hI⟩
def Nj{I:Nat->Prop}{w:World}{b:Nat}:∀(es:List (List aa)) (off:Nat),(∀el,el∈es->el.length=k)->az I w b es off->∃es':List (List aa),es'.length=es.length/\(∀e,e∈es'->e.length=k)/\(∀e,e∈es'->∀x,x∈e->x.scal=true)/\(∀J,az J w b es' off) /\
 ∀{J I':Nat->Prop} {w':World} {b' off':Nat},az J w' b' es' off'->(∀c,I c->I' c/\w'.heap[c]?=w.heap[c]?)->az I' w' b' es off'
 |[],_,_,_=>⟨[],rfl,by simp,by simp,λ_=>trivial,λ_ _=>trivial⟩
 |e::es,off,hk,h=>by
  simp only[az]at h;obtain⟨us,a1,a2,a3,a4⟩:=Ni e off h.1;obtain⟨es',b1,b2,b3,b4,b5⟩:=Nj es _ (λx hx=>hk x (bW _ hx)) h.2;refine⟨us::es',by simp[b1],λx hx=>?_,λx hx=>?_,λJ=>⟨a3 J,by rw[a1];exact b4 J⟩,λ{J I' w' b' off'} hu hI=>?_⟩
  .rcases cf.1 hx with rfl|hx
   .rw [a1];exact hk e ax
   exact b2 x hx
  .rcases cf.1 hx with rfl|hx
   .exact a2
   exact b3 x hx
  simp only[az]at hu⊢;refine⟨a4 hu.1 hI,?_⟩;have:=hu.2;rw[a1]at this;exact b5 this hI
def jJ(P:Program)(f:FuncId)(k bytes:Nat):Prop:=∀es:List (List aa),(∀e,e∈es->e.length=k)->es.length*bytes<=140737488355328->FnG P f [] [.t (.sl es)] [(5000,.row k es)] (.osl 5000 es.length)
section
variable {P:Program} {o:Oper} {ρ:List (Nat×PV)} {σ0:List (Nat×Blk)}
def Zb6{f:FuncId}{fo:Operand}{ats:Array TypeId}{L bytes:Nat}(hfn:jJ P f k bytes)(ho:o.op = .call { callee :=.value fo,args := #[x],argTypes:=ats })(hfo:ai ρ fo=some (.fn f []))(hx:ai ρ x=some (.osl l m))
 (hg0:get σ0 l=some (.row k es)) (hm:es.length=m) (hb:m*bytes<=140737488355328) (hL:L≠l) (h1000:1000<=L):OpF P o ρ σ0 [l] [] (.osl L m) [(L,.row k es)]:=by
 rintro G n tm Z a w K Q hag hnd hnews ⟨β,hr⟩ hK;have hg:get Z l=some (.row k es):=(hnd l ax).trans hg0;obtain⟨hf1,hf2⟩:=hnews L (.row k es) ax ax;have hps:(#[x].toList.mapM (ai ρ)).map (· ++ ([]:List PV))=some [.osl l m]:=by simp[hx]
 obtain⟨vals,hvs,hrun⟩:=uf (P:=P) ho hfo hps hr hag;simp only[VRs]at hvs;obtain⟨v,rest,rfl,hv,rfl⟩:=hvs;simp only[VR]at hv;obtain⟨ad,cap,hv0,hmc,hcm,h3⟩:=(hv.1 k es hg).2 hm.symm;obtain⟨hk0,hk,hbr⟩:=hr.blk l _ hg;have key:∃es':List (List aa),es'.length=es.length/\(∀e,e∈es'->e.length=k)/\(es'=[]\/∃b,ad=some ⟨b,0,none⟩/\b<w.heap.size/\∀J,az J w b es' 0) /\
  ∀{J I':Nat->Prop} {w':World} {b':Nat},az J w' b' es' 0->(∀c,(ctx G β w Z).I c->I' c/\w'.heap[c]?=w.heap[c]?)->az I' w' b' es 0:=by
  rcases hbr with⟨_,he⟩|⟨b,sz,hb1,hb2,hb3,hel⟩
  .subst he;exact⟨[],rfl,by simp,.inl rfl,λ_ _=>trivial⟩
  obtain⟨es',a1,a2,_,a4,a5⟩:=Nj es 0 hk hel;refine⟨es',a1,a2,?_,λh hI=>a5 h hI⟩;rcases h3 with⟨hc,_⟩|⟨b',sz',ha,hb',_,_⟩
  .exact .inl (dv O)
  have:b'=b:=Nk
  subst this;exact .inr ⟨b',ha,(hr.sep l _ b' hg (.inl hb1)).1,a4⟩
 obtain⟨es',e1,e2,e3,e4⟩:=key;have hfn':=hfn es' e2 (by rw[e1,hm];exact hb);have hent:aO (cT β [] (λb=>b<w.heap.size) w) β ⟨1,idx 0 [.t (.sl es')],[]⟩ ⟨[v].toArray,[]⟩ w:=by
  refine { defers:=rfl,sz:=by simp,base:=bh _,os:=rfl,tape:=rfl,output:=rfl,old:=λ_ _ _=>rfl,A:=λb hb=>⟨hb,λ⟨i,o,h,_⟩=>by simp[PW.get]at h⟩,gl:=λg q hg=>⟨(hr.glw g q hg).1,λ⟨i,o,h,_⟩=>by simp[PW.get]at h,(hr.glw g q hg).1,(hr.glw g q hg).2⟩,
           inj:=λi i' o o' b h=>by simp[PW.get]at h,sep:=λi o b h=>by simp[PW.get]at h,fix:=λ_ _ _ _=>rfl,row0:=λl _ _ _ h=>by simp[PW.get]at h,blk:=λi o h=>by simp[PW.get]at h,tm:=λi p hp=>?_ }
  rw[Z2c]at hp
  match i,hp with
  |0,hp=>
   simp only[bh,dM,vE,kv,aA]at hp;subst hp;refine⟨nm,?_⟩;simp only[VR,Z7];refine⟨ad,cap,by rw[e1,hm];exact hv0,by omega,hcm,e3.imp id λ⟨b,h1,h2,h4⟩=>⟨b,0,h1,⟨h2,.inr (.inl h2),λi o h=>by simp[PW.get]at h⟩,h4 _⟩⟩
  |i+1,hp=>simp at hp
 unfold Oper.wp;rw[hrun hfn'.1,ug];refine(hfn'.2 (λb=>b<w.heap.size) β w [v] rfl hent).mono ?_;rintro e w' ⟨v',β',rfl,hr'⟩;have hold:∀b,b<w.heap.size->w'.heap[b]?=w.heap[b]?:=λb hb=>hr'.old b hb (λ⟨i,o,h,_⟩=>by simp[PW.get]at h);have hsz:w.heap.size<=w'.heap.size:=hr'.base;have hgr:get ([(5000,Blk.row k es')]:List (Nat×Blk)) 5000=some (.row k es'):=by simp[PW.get]
 have habs:=jP hr w' (β' 5000) L (.row k es) [] hsz hr'.os hr'.tape hr'.output ⟨by simp,.inl h1000⟩ (λb hb _=>hold b hb) (λc hc =>.inl ?_) (.inr ⟨hf1,λm y hy=>(hf2 m y hy).2⟩) (λhI=>?_)
 .refine hK v' w' ⟨_,habs,?_⟩;have hres:=(hr'.tm 0 (.osl 5000 es'.length) rfl).2;simp only[VR]at hres⊢;refine⟨λk2 es2 h2=>?_,hres.2⟩;have:some (Blk.row k2 es2)=some (.row k es):=bB (bD h2) gX;cases this;refine⟨by omega,λ_=>?_⟩;obtain⟨a2,cap2,q1,q2,q3,q4⟩:=(hres.1 k es' hgr).2 rfl;have q1:v' = .slice a2 es'.length cap2:=q1;refine⟨a2,cap2,by rw[q1,e1,hm],by omega,q3,?_⟩;rcases q4 with⟨q5,q6⟩|⟨b2,m2,q5,q6,q7,q8⟩
  .exact .inl ⟨q5,by show cy β L (β' 5000) L=none;rw[cm];exact q6⟩
  exact .inr ⟨b2,m2,q5,by show cy β L (β' 5000) L=some b2;rw[cm];exact q6,q7,q8⟩
 .rcases hc with hc|⟨k2,q,es2,b0,h1,_⟩
  .rw [cm]at hc;have:=hr'.sep 5000 _ c hgr (.inl hc);refine⟨?_,this.1⟩;rcases this.2 with h|⟨i,o,h,_⟩
   .exact h
   simp[PW.get]at h
  cases h1
 obtain⟨_,_,hb2⟩:=hr'.blk 5000 _ hgr;refine⟨hk0,hk,?_⟩;rcases hb2 with⟨h1,h2⟩|⟨b2,m2,h1,h2,h3,h4⟩
 .refine .inl ⟨by show cy β L (β' 5000) L=none;rw[cm];exact h1,?_⟩;subst h2;exact dv (by simpa using e1.symm)
 exact .inr ⟨b2,m2,by show cy β L (β' 5000) L=some b2;rw[cm];exact h1,h2,by rw[<- e1];exact h3,e4 h4 hI⟩
end
end Go.PW
namespace Go.PW
open Go.RowKit
variable {k i off l m q size n:Nat} {es:List (List aa)} {cs:List PV} {x:Operand} {p:PV} {tm tm':List (Nat×PV)} {B':Blk} {f:PV->Option (List Prop×PV)} {qs rs:List Prop}
def wh(hk:∀el,el∈es->el.length=k)(hi:i<es.length):((es.take i).flatten.map PV.t).length=i*k:=by rw[cK,ju (k:=k) (λel hel=>hk el (iV hel)),eT,oE (uU hi)]
def Zd2{j:Nat}(hk:∀el,el∈es->el.length=k)(hi:i<es.length)(hj:j<cs.length):(eX i es cs)[i*k+j]?=cs[j]?:=by unfold eX;rw[ep (by rw[wh hk hi];omega),wh hk hi,Nat.add_sub_cancel_left,eo hj]
def OL(hk:∀el,el∈es->el.length=k)(hi:i<es.length):i*k+cs.length<=(eX i es cs).length:=by unfold eX;rw[bk,wh hk hi,bk];omega
def Zd3{c:Ctx}{vs:List Value}(hk:∀el,el∈es->el.length=k)(hi:i<es.length)(h:VRs c (eX i es cs) vs) :
 ∃us,VRs c cs us/\∀j v,us[j]?=some v->vs[i*k+j]?=some v:=by
 have hl:=h.length;have hp:=OL (cs:=cs) hk hi;have hg:∀j,j<cs.length->((vs.drop (i*k)).take cs.length)[j]?=vs[i*k+j]?:=λj hj=>by rw[jt,aq hj,kG]
 refine⟨(vs.drop (i*k)).take cs.length,VRs.of_get cg (λj p v hp' hv=>?_),λj v hv=>?_⟩
 .have hj:=(aJ.1 hp').1;obtain⟨v',h1,h2⟩:=h.get (i*k+j) p ((Zd2 hk hi hj).trans hp');rw[hg j hj,h1]at hv;cases hv;exact h2
 have hj:j<cs.length:=OM
 rwa[hg j hj]at hv
def Zd4{qs:List PV}(hk:∀el,el∈es->el.length=k)(hi:i<es.length)(hq:off+qs.length<=cs.length):splice (eX i es cs) (i*k+off) qs=eX i es (splice cs off qs):=by
 have hA:=wh hk hi;unfold eX splice;rw[u1,hA,c9 (by rw[hA];omega),Nat.add_sub_cancel_left,vC O,
  wi,hA,jZ (by rw[hA];omega),kU,show i*k+off+qs.length-i*k=off+qs.length by omega,List.drop_append_of_le_length hq]
 simp only[gV]
section
variable {P:Program} {o:Oper} {ρ:List (Nat×PV)} {Z:List (Nat×Blk)}
def Zd5{s:TypeId}{f:Nat}(ho:o.op = .fieldAddr s x f)(hf:fieldInfo P s f=some (off,size))(hs:size≠0)(hx:ai ρ x=some (.own l (.pp m q)))
 (hg:get Z l=some (.prow k i es cs)) (hm:es.length=m):aR P o ρ Z [l] (.own l (.pp m (q+off))) []:=
 bo λG β n tm Z' A w hop hneed _=>by
  have h1:=hop x _ aS hx;simp only[VR]at h1⊢;have hgl:get Z' l=some (.prow k i es cs):=(hneed l ax).trans hg;obtain⟨b,hb,hv⟩:=(h1.1 k i es cs hgl).2 hm.symm;refine⟨.pointer (some ⟨b,i*k+q+off,none⟩),?_,λk' i' es' cs' hes'=>?_,rfl⟩
  .simp only[execOp,ho,hv,aT,wj w hf hs,aU,aV]
  have:some (Blk.prow k' i' es' cs')=some (.prow k i es cs):=bB (bD hes') hgl;cases this;exact⟨by omega,λ_=>⟨b,hb,by rw[pj]⟩⟩
def Zd6(ho:o.op = .nilCheck x)(hx:ai ρ x=some (.own l (.pp m q)))(hg:get Z l=some (.prow k i es cs))(hm:es.length=m):aR P o ρ Z [l] (.own l (.pp m q)) []:=bo λG β n tm Z' A w hop hn _=>by have h1:=hop x _ aS hx;have h2:=h1;simp only[VR]at h1;obtain⟨b,_,hv⟩:=(h1.1 k i es cs ((hn l ax).trans hg)).2 hm.symm;exact⟨.pointer (some ⟨b,i*k+q,none⟩),by simp[execOp,ho,hv],by rw[<- hv];exact h2⟩
def Zd7{t:TypeId}{agg:Bool}(ho:o.op = .load t x)(hT:TyF P t agg size)(hx:ai ρ x=some (.own l (.pp m q)))(hg:get Z l=some (.prow k i es cs))(hm:es.length=m)
 (hp:dk agg size q cs=some p):aR P o ρ Z [l] p []:=
 bo λG β n tm Z' A w hop hneed hr=>by
  have e1:=hop x _ aS hx;simp only[VR]at e1;have hgl:get Z' l=some (.prow k i es cs):=(hneed l ax).trans hg;obtain⟨b,hb,hv⟩:=(e1.1 k i es cs hgl).2 hm.symm;obtain⟨_,hkl,hi,_,_,b',sz,vs,hb',hrow,hsz,hc,hvs⟩:=hr.blk l _ hgl;have:b'=b:=cR
  subst this;obtain⟨us,h1,h2⟩:=Zd3 hkl hi hvs;obtain⟨v,hrun,hpv⟩:=sb (q:=i*k) hT w h1 (λj v hj=>hc _ v (h2 j v hj)) hp;exact⟨v,by simp only[execOp,ho,hv,aT,hrun,aU,aV],hpv⟩
def Zd8{σ0:List (Nat×Blk)}{t:TypeId}{y:Operand}{m0:Nat}{agg:Bool}(ho:o.op = .store t x y)(hd:o.dst=none)(hT:TyF P t agg size)(hx:ai ρ x=some (.own l (.pp m0 off)))(hy:ai ρ y=some p)
 (hg0:get σ0 l=some (.prow k i es cs)) (hm0:es.length=m0) (hs:(bz p).length=size) (h1:(bz p).all PV.one=true) (hq:off+size<=cs.length):OpF P o ρ σ0 [l] [l] (.tup []) [(l,.prow k i es (splice cs off (bz p)))]:=by
 rintro G n tm Z a w K Q hag hneed _ ⟨β,hr⟩ hK;have hg:get Z l=some (.prow k i es cs):=BA
 have hop:∀x q,x∈o.op.operands->ai ρ x=some q->VR (ctx G β w Z) q (a.eval x):=λx q hx hq=>iZ hr hq (λt r ht hr'=>hag t r (ht▸hx) hr');have e1:=hop x _ aS hx;have e2:=hop y _ aS hy;simp only[VR]at e1;obtain⟨b,hb,hv⟩:=(e1.1 k i es cs hg).2 hm0.symm;obtain⟨hk0,hkl,hi,hcl,hone,b',sz,vs,hb',hrow,hsz,hc,hvs⟩:=hr.blk l _ hg;have:b'=b:=cR
 subst this;have hik:i*k+k<=sz:=by have h2:(i+1)*k<=es.length*k:=gH _ hi;rw[dE,e9]at h2;omega
 have hrun:=lY hT w e2 hs h1 hrow (q:=i*k+off) O;have hcells:=e2.cells;have hul:(a.eval y).cells.toList.length=size:=BB
 have hvl:i*k+off+size<=vs.length:=by rw[hvs.length];have:=OL (cs:=cs) hkl hi;omega
 obtain⟨hr',hI,hL⟩:=kR hr (off:=i*k+off) (blk' :=.prow k i es (splice cs off (bz p))) (a.eval y).cells.toList hg hb (.inr (.inr ⟨k,i,es,cs,_,rfl,rfl⟩)) (λhI hL=>by
  refine⟨hk0,hkl,hi,by rw[sd _ _ _ oF];exact hcl,?_,b',sz,splice vs (i*k+off) (a.eval y).cells.toList,hb,dV _ _ _ _ hrow,hsz,l6 hc (by rw[hul];exact hvl),?_⟩
  .unfold splice;simp only[List.all_append,aN];exact⟨⟨bK.2 λz hz=>bK.1 hone z (iV hz),h1⟩,bK.2 λz hz=>bK.1 hone z (kF hz)⟩
  rw[<- Zd4 hkl hi oF];exact(VRs.step hI _ _ (λm _=>hL m) hvs).splice _ (VRs.step hI _ _ (λm _=>hL m) hcells))
 have hrun2:(execOp a.eval o).run P w = .ok .skip (w.setCells b' (i*k+off) (a.eval y).cells.toList):=BC
 unfold Oper.wp;rw[hrun2,Oper.upon_skip,hd];have:=hK (.tuple #[]) (w.setCells b' (i*k+off) (a.eval y).cells.toList) ⟨β,hr',by simp[VR,VRs]⟩;rw[hd]at this;exact this
end
def Zd9{G:Frm}{β:Nat->Option Nat}{Z Z':List (Nat×Blk)}{a:Act}{w:World}(h:aO G β ⟨n,tm,Z⟩ a w){B:Blk}(hl:1000<=l)
 (hg:get Z l=some B) (hg':get Z' l=some B') (hfl':B'.flat)
 {Tn:List PV->List PV->Prop} (hσ:∀m o',m≠l->get Z' m=some o'->∃o,get Z m=some o/\((o'=o/\o.has l=false)\/∃cs cs',o = .box cs/\o' = .box cs'/\cs'.length=cs.length/\cs'.all PV.one=true/\Tn cs cs'))
 (hT:(∀b,(ctx G β w Z).I b->(ctx G β w Z').I b/\(ctx G β w Z').w.heap[b]?=(ctx G β w Z).w.heap[b]?)->(∀m,m≠l->a8 (ctx G β w Z) (ctx G β w Z') m)->∀cs cs',Tn cs cs'->∀vs,VRs (ctx G β w Z) cs vs->VRs (ctx G β w Z') cs' vs)
 (hbr:(∀b,(ctx G β w Z).I b->(ctx G β w Z').I b/\(ctx G β w Z').w.heap[b]?=(ctx G β w Z).w.heap[b]?)->(∀m,m≠l->a8 (ctx G β w Z) (ctx G β w Z') m)->BR (ctx G β w Z) l B->BR (ctx G β w Z') l B')
 (ht:(∀b,(ctx G β w Z).I b->(ctx G β w Z').I b/\(ctx G β w Z').w.heap[b]?=(ctx G β w Z).w.heap[b]?)->(∀m,m≠l->a8 (ctx G β w Z) (ctx G β w Z') m)->∀i q,get tm' i=some q->∃p,get tm i=some p/\∀v,VR (ctx G β w Z) p v->VR (ctx G β w Z') q v) :
 aO G β ⟨n,tm',Z'⟩ a w:=by
 have hO:∀m o' b,get Z' m=some o'->aH β w m o' b->∃o,get Z m=some o/\aH β w m o b:=λm o' b hm ho=>by
  by_cases e:m=l
  .subst e;rw[hg']at hm;cases hm;exact⟨B,hg,.inl (ho.flat hfl')⟩
  obtain⟨o,h1,h2⟩:=hσ m o' e hm;rcases h2 with⟨rfl,_⟩|⟨cs,cs',rfl,rfl,_⟩
  .exact⟨_,h1,ho⟩
  exact⟨_,h1,.inl (aH.flat (o :=.box cs') trivial ho)⟩
 have hI:∀b,(ctx G β w Z).I b->(ctx G β w Z').I b/\(ctx G β w Z').w.heap[b]?=(ctx G β w Z).w.heap[b]?:=λb hb=>⟨⟨hb.1,hb.2.1,λm o hm ho=>by obtain⟨o2,h1,h2⟩:=hO m o b hm ho;exact hb.2.2 m o2 h1 h2⟩,rfl⟩;have hL:∀m,m≠l->a8 (ctx G β w Z) (ctx G β w Z') m:=λm e=>by
  refine⟨λk es' hm=>?_,λcs' hm=>?_,λk q es' hm=>?_,λag es' hm=>?_,λk i es' cs' hm=>?_⟩;all_goals obtain⟨o,h1,h2⟩:=hσ m _ e hm
  .rcases h2 with⟨h2,_⟩|⟨_,_,_,h2,_⟩
   .subst h2;exact⟨es',h1,bh _,λ_=>⟨rfl,λ_ _ _ h=>h⟩⟩
   cases h2
  .rcases h2 with⟨h2,_⟩|⟨cs,cs2,h3,h2,_⟩
   .subst h2;exact⟨cs',h1,rfl⟩
   subst h3;exact⟨cs,h1,rfl⟩
  .rcases h2 with⟨h2,_⟩|⟨_,_,_,h2,_⟩
   .subst h2;exact⟨es',h1,bh _,λ_=>⟨rfl,λ_ _=>⟨λ_ h=>h,λ_ _=>rfl⟩⟩⟩
   cases h2
  .rcases h2 with⟨h2,_⟩|⟨_,_,_,h2,_⟩
   .subst h2;exact⟨es',h1,rfl⟩
   cases h2
  rcases h2 with⟨h2,_⟩|⟨_,_,_,h2,_⟩
  .subst h2;exact⟨es',cs',h1,rfl,rfl,λ_ _ _ h=>h⟩
  cases h2
 exact { defers:=h.defers,sz:=h.sz,base:=h.base,os:=h.os,tape:=h.tape,output:=h.output,old:=h.old,A:=h.A,gl:=h.gl,
         inj:=λm m' o o' b hm hm' hb hb'=>by obtain⟨o1,h1,h2⟩:=hO m o b hm hb;obtain⟨o2,h3,h4⟩:=hO m' o' b hm' hb';exact h.inj m m' o1 o2 b h1 h3 h2 h4,
         sep:=λm o b hm hb=>by obtain⟨o1,h1,h2⟩:=hO m o b hm hb;exact h.sep m o1 b h1 h2,
         fix:=λm cs hm1 hm=>by
          have e:m≠l:=aW
          obtain⟨o,h1,h2⟩:=hσ m _ e hm;rcases h2 with⟨h2,_⟩|⟨cs0,cs2,h3,h2,_⟩
          .subst h2;exact h.fix m cs hm1 h1
          subst h3;exact h.fix m cs0 hm1 h1,
         row0:=h.row0.step (λm hm=>hL m O),
         blk:=λm o hm=>by
          by_cases e:m=l
          .subst e;have:some o=some B':=bB (bD hm) hg';cases this;exact hbr hI hL (h.blk m _ hg)
          obtain⟨o0,h1,h2⟩:=hσ m o e hm;have hb:=h.blk m o0 h1;rcases h2 with⟨rfl,h3⟩|⟨cs,cs',rfl,rfl,h3,h4,h5⟩
          .exact BR.step hI rfl (λ_ _=>rfl) (λq hq=>hL q (λe2=>by subst e2;rw[h3]at hq;cases hq)) hb
          obtain⟨b,vs,f1,f2,f3,f4,f5⟩:=hb;exact⟨b,vs,f1,by rw[h3];exact f2,f3,hT hI hL cs cs' h5 vs f4,h4⟩,
         tm:=λi q hq=>by obtain⟨p,hp,hv⟩:=ht hI hL i q hq;exact⟨(h.tm i p hp).1,hv _ (h.tm i p hp).2⟩ }
def opnV(l i:Nat):PV->Option (List Prop×PV)
 |.osl m n=>bif Nat.beq m l then some ([],.own l (.pw n))else some ([],.osl m n)
 |.rptr m n j off=>bif Nat.beq m l then some ([j=i],.own l (.pp n off))else some ([],.rptr m n j off)
 |p=>bif p.has l then none else some ([],p)
def clsV(l i len:Nat):PV->Option (List Prop×PV)
 |.own m (.pw n)=>bif Nat.beq m l then some ([n=len],.osl l n)else some ([],.own m (.pw n))
 |.own m (.pp n off)=>bif Nat.beq m l then some ([n=len],.rptr l n i off)else some ([],.own m (.pp n off))
 |p=>bif p.has l then none else some ([],p)
def iM(f:PV->Option (List Prop×PV)):List PV->Option (List Prop×List PV)
 |[]=>some ([],[])
 |p::ps=>
  match f p,iM f ps with
  |some (q,p'),some (qs,ps')=>some (q++qs,p'::ps')
  |_,_=>none
def Z1w(f:PV->Option (List Prop×PV)):List (Nat×PV)->Option (List Prop×List (Nat×PV))
 |[]=>some ([],[])
 |(i,p)::r=>
  match f p,Z1w f r with
  |some (q,p'),some (qs,r')=>some (q++qs,(i,p')::r')
  |_,_=>none
def mapσ(l:Nat)(B':Blk)(f:PV->Option (List Prop×PV)):List (Nat×Blk)->Option (List Prop×List (Nat×Blk))
 |[]=>some ([],[])
 |(m,b)::r=>
  match mapσ l B' f r with
  |none=>none
  |some (qs,r')=>
   bif Nat.beq m l then some (qs,(m,B')::r')else
   match b with
   |.box cs=>match iM f cs with|some (q,cs')=>bif cs'.all PV.one then some (q++qs,(m,.box cs')::r')else none|none=>none
   |b=>bif b.has l then none else some (qs,(m,b)::r')
def ON{c c':Ctx}(hf:∀p qs p',f p=some (qs,p')->aL qs->∀v,VR c p v->VR c' p' v):∀{ps:List PV} {qs:List Prop} {ps':List PV},iM f ps=some (qs,ps')->aL qs->ps'.length=ps.length/\∀vs,VRs c ps vs->VRs c' ps' vs
 |[],qs,ps',h,_=>by simp only[iM,aA,bI]at h;obtain⟨_,rfl⟩:=h;exact⟨rfl,λvs h=>h⟩
 |p::ps,qs,ps',h,hc=>by
  simp only[iM]at h;split at h
  .rename_i q p' qs' ps2 h1 h2;cases h;obtain⟨c1,c2⟩:=Z5.1 hc;obtain⟨g1,g2⟩:=ON hf h2 c2;refine⟨by simp[g1],λvs hv=>?_⟩;simp only[VRs]at hv⊢;obtain⟨v,rest,rfl,hv,hr⟩:=hv;exact⟨v,rest,rfl,hf p q p' h1 c1 v hv,g2 rest hr⟩
  cases h
def OO:∀{tm tm':List (Nat×PV)} {qs:List Prop},Z1w f tm=some (qs,tm')->aL qs->∀i q,get tm' i=some q->∃p r,get tm i=some p/\f p=some (r,q)/\aL r
 |[],tm',qs,h,_,i,q,hq=>by simp only[Z1w,aA,bI]at h;obtain⟨_,rfl⟩:=h;cases hq
 |(j,p)::r,tm',qs,h,hc,i,q,hq=>by
  simp only[Z1w]at h;split at h
  .rename_i q1 p' qs' r' h1 h2;cases h;obtain⟨c1,c2⟩:=Z5.1 hc;simp only[PW.get]at hq⊢;cases hb:Nat.beq j i with
   |true=>simp only[hb,aB,aA]at hq⊢;subst hq;exact⟨p,q1,rfl,h1,c1⟩
   |false=>simp only[hb,aD]at hq⊢;exact OO h2 c2 i q hq
  cases h
def OP:∀{ps:List PV} {qs:List Prop} {ps':List PV},iM f ps=some (qs,ps')->ps'.length=ps.length
 |[],qs,ps',h=>by simp only[iM,aA,bI]at h;obtain⟨_,rfl⟩:=h;rfl
 |p::ps,qs,ps',h=>by
  simp only[iM]at h;split at h
  .rename_i q p' qs' ps2 h1 h2;cases h;simp[OP h2]
  cases h
def BD:∀{Z Z':List (Nat×Blk)} {qs:List Prop},mapσ l B' f Z=some (qs,Z')->aL qs ->
 (∀m o',m≠l->get Z' m=some o'->∃o,get Z m=some o/\((o'=o/\o.has l=false)\/∃cs cs',o = .box cs/\o' = .box cs'/\cs'.length=cs.length/\cs'.all PV.one=true/\∃q,iM f cs=some (q,cs')/\aL q)) /\
 ((∃o,get Z l=some o)->get Z' l=some B')
 |[],Z',qs,h,_=>by simp only[mapσ,aA,bI]at h;obtain⟨_,rfl⟩:=h;exact⟨λm o' _ h=>dq,λ⟨o,h⟩=>dq⟩
 |(j,b)::r,Z',qs,h,hc=>by
  simp only[mapσ]at h;split at h
  .cases h
  rename_i qs' r' h1;cases hb:Nat.beq j l with
  |true=>
   simp only[hb,aB,aA,bI]at h;obtain⟨rfl,rfl⟩:=h;obtain⟨g1,_⟩:=BD h1 hc;have hjl:j=l:=(Z9 _ _).1 hb;subst hjl;refine⟨λm o' hm ho=>?_,λ_=>by simp[PW.get]⟩;simp only[PW.get,e8 (dX hm),aD]at ho⊢;exact g1 m o' hm ho
  |false=>
   simp only[hb,aD]at h;have hjl:j≠l:=λe=>zz
   have key:∀(b':Blk) (q:List Prop),Z'=(j,b')::r'->(aL qs')->((b'=b/\b.has l=false)\/∃cs cs',b = .box cs/\b' = .box cs'/\cs'.length=cs.length/\cs'.all PV.one=true/\∃q,iM f cs=some (q,cs')/\aL q) ->
    (∀m o',m≠l->get Z' m=some o'->∃o,get ((j,b)::r) m=some o/\((o'=o/\o.has l=false)\/∃cs cs',o = .box cs/\o' = .box cs'/\cs'.length=cs.length/\cs'.all PV.one=true/\∃q,iM f cs=some (q,cs')/\aL q)) /\
    ((∃o,get ((j,b)::r) l=some o)->get Z' l=some B'):=by
    intro b' q hσ hcq hbb;subst hσ;obtain⟨g1,g2⟩:=BD h1 hcq;refine⟨λm o' hm ho=>?_,λho=>?_⟩
    .simp only[PW.get]at ho⊢;cases hm2:Nat.beq j m with
     |true=>simp only[hm2,aB,aA]at ho⊢;subst ho;exact⟨b,rfl,hbb⟩
     |false=>simp only[hm2,aD]at ho⊢;exact g1 m o' hm ho
    simp only[PW.get,e8 hjl,aD]at ho⊢;exact g2 ho
   split at h
   .rename_i cs;split at h
    .rename_i q cs' h2;cases ho:cs'.all PV.one with
     |false=>simp[ho]at h
     |true=>
      simp only[ho,aB,aA,bI]at h;obtain⟨rfl,rfl⟩:=h;obtain⟨c1,c2⟩:=Z5.1 hc;exact key _ q rfl c2 (.inr ⟨cs,cs',rfl,rfl,OP h2,ho,q,h2,c1⟩)
    cases h
   cases hh:b.has l with
   |true=>simp[hh]at h
   |false=>
    simp only[hh,aD,aA,bI]at h;obtain⟨rfl,rfl⟩:=h;exact key b [] rfl hc (.inl ⟨rfl,hh⟩)
section
variable {G:Frm} {β:Nat->Option Nat} {w:World} {Z Z':List (Nat×Blk)} {l i k:Nat} {es:List (List aa)}
def OQ{a:Act}{B:Blk}(h:aO G β ⟨n,tm,Z⟩ a w)(hl:1000<=l)(hg:get Z l=some B)(hfl:B'.flat)
 (htm:Z1w f tm=some (qs,tm')) (hσ:mapσ l B' f Z=some (rs,Z')) (cq:aL qs) (cr:aL rs)
 (hf:(∀b,(ctx G β w Z).I b->(ctx G β w Z').I b/\(ctx G β w Z').w.heap[b]?=(ctx G β w Z).w.heap[b]?)->(∀m,m≠l->a8 (ctx G β w Z) (ctx G β w Z') m)->get Z' l=some B'->∀p qs p',f p=some (qs,p')->aL qs->∀v,VR (ctx G β w Z) p v->VR (ctx G β w Z') p' v)
 (hbr:(∀b,(ctx G β w Z).I b->(ctx G β w Z').I b/\(ctx G β w Z').w.heap[b]?=(ctx G β w Z).w.heap[b]?)->(∀m,m≠l->a8 (ctx G β w Z) (ctx G β w Z') m)->BR (ctx G β w Z) l B->BR (ctx G β w Z') l B'):aO G β ⟨n,tm',Z'⟩ a w:=by
 obtain⟨g1,g2⟩:=BD hσ cr;have hg':=g2 ⟨_,hg⟩;refine Zd9 h hl hg hg' hfl (Tn:=λcs cs'=>∃q,iM f cs=some (q,cs')/\aL q) g1 (λhI hL cs cs' ⟨q,h1,h2⟩ vs hv=>(ON (hf hI hL hg') h1 h2).2 vs hv) hbr (λhI hL j q hq=>?_);obtain⟨p,r,h1,h2,h3⟩:=OO htm cq j q hq;exact⟨p,h1,λv hv=>hf hI hL hg' p r q h2 h3 v hv⟩
def BE{p':PV}(hI:∀b,(ctx G β w Z).I b->(ctx G β w Z').I b/\(ctx G β w Z').w.heap[b]?=(ctx G β w Z).w.heap[b]?)(hL:∀m,m≠l->a8 (ctx G β w Z) (ctx G β w Z') m)
 (h:(bif p.has l then none else some (([]:List Prop),p))=some (qs,p')) (v:Value) (hv:VR (ctx G β w Z) p v):VR (ctx G β w Z') p' v:=by
 cases hh:p.has l with
 |true=>simp[hh]at h
 |false=>
  simp only[hh,aD,aA,bI]at h;obtain⟨_,rfl⟩:=h;exact VR.step hI p v (λm hm=>hL m (λe=>by subst e;rw[hh]at hm;cases hm)) hv
def Wk.opn{e:List aa}(hl:1000<=l)(hg:get Z l=some (.row k es))(he:es[i]?=some e)(htm:Z1w (opnV l i) tm=some (qs,tm'))(hσ:mapσ l (.prow k i es (e.map .t)) (opnV l i) Z=some (rs,Z'))(cq:aL qs)(cr:aL rs) :
 Wk ⟨n,tm,Z⟩ ⟨n,tm',Z'⟩:=by
 rintro G a w ⟨β,h⟩;have hi:i<es.length:=(aJ.1 he).1;obtain⟨hk0,hkl,hb⟩:=h.blk l _ hg;rcases hb with⟨_,hb⟩|⟨b,m,hb,hrow,hsz,hel⟩
 .subst hb;simp at hi
 refine⟨β,OQ h hl hg (by trivial) htm hσ cq cr (λhI hL hg' p qs p' hp hq v hv=>?_) (λhI hL _=>?_)⟩
 .cases p
  case osl m0 n0=>
   simp only[opnV]at hp;cases hb2:Nat.beq m0 l with
   |false=>
    simp only[hb2,aD,aA,bI]at hp;obtain⟨_,rfl⟩:=hp;exact VR.step hI _ v (λq hq2=>hL q (λe2=>by subst e2;simp only[PV.has]at hq2;rw[hq2]at hb2;cases hb2)) hv
   |true=>
    simp only[hb2,aB,aA,bI]at hp;obtain⟨_,rfl⟩:=hp;have:=(Z9 _ _).1 hb2;subst this;simp only[VR]at hv⊢;obtain⟨ho,a0,m1,cap1,rfl⟩:=hv;refine⟨λk' i' es' cs' hes'=>?_,rfl⟩;have:some (Blk.prow k' i' es' cs')=some (.prow k i es (e.map .t)):=bB (bD hes') hg';cases this;obtain⟨g1,g2⟩:=ho k es hg;refine⟨g1,λhn=>?_⟩;obtain⟨a2,cap,hv2,hc1,hc2,h3⟩:=g2 hn;rcases h3 with⟨h3,_⟩|⟨b2,m2,h3,h4,h5,h6⟩
    .omega
    exact⟨b2,m2,cap,by rw[hv2,h3],hc1,hc2,h4,h5,h6⟩
  case rptr m0 n0 j off=>
   simp only[opnV]at hp;cases hb2:Nat.beq m0 l with
   |false=>
    simp only[hb2,aD,aA,bI]at hp;obtain⟨_,rfl⟩:=hp;exact VR.step hI _ v (λq hq2=>hL q (λe2=>by subst e2;simp only[PV.has]at hq2;rw[hq2]at hb2;cases hb2)) hv
   |true=>
    simp only[hb2,aB,aA,bI]at hp;obtain⟨rfl,rfl⟩:=hp;have:=(Z9 _ _).1 hb2;subst this;obtain⟨rfl,_⟩:=hq;simp only[VR]at hv⊢;obtain⟨ho,a0,rfl⟩:=hv;refine⟨λk' i' es' cs' hes'=>?_,rfl⟩;have:some (Blk.prow k' i' es' cs')=some (.prow k j es (e.map .t)):=bB (bD hes') hg';cases this;obtain⟨g1,g2⟩:=ho k es hg;exact⟨g1,λhn=>g2 hn⟩
  all_goals (simp only[opnV]at hp;exact BE hI hL hp v hv)
 have hflat:=az.flat.1 hel;obtain⟨vs,hvs,hcs⟩:=Z4.vals (c:=ctx G β w Z) hflat;refine⟨hk0,hkl,hi,by rw[cK];exact hkl e (bF he),by rw[List.all_map];exact bK.2 λ_ _=>rfl,b,m,vs,hb,hrow,hsz,λj v hj=>by have:=hcs j v hj;rwa[aM]at this,?_⟩;have hsplit:es.flatten.map PV.t=eX i es (e.map .t):=by
  have h1:es=es.take i++e::es.drop (i+1):=by
   have h2:=List.getElem_cons_drop hi;have h3:es[i]=e:=by rw[bg hi]at he;exact cF he
   rw[h3]at h2;rw[h2,mx]
  unfold eX
  conv=>lhs;rw[h1]
  rw[nk,gW,fi,fi]
 rw[<- hsplit];exact VRs.step hI _ _ (λq hq=>by rw[iz]at hq;cases hq) hvs
def Wk.cls{ts:List aa}{es':List (List aa)}(hl:1000<=l)(hg:get Z l=some (.prow k i es cs))(ht:jG cs=some ts)(he:es.set i ts=es')(htm:Z1w (clsV l i es.length) tm=some (qs,tm'))(hσ:mapσ l (.row k es') (clsV l i es.length) Z=some (rs,Z'))(cq:aL qs)(cr:aL rs) :
 Wk ⟨n,tm,Z⟩ ⟨n,tm',Z'⟩:=by
 rintro G a w ⟨β,h⟩;obtain⟨hk0,hkl,hi,hcl,hone,b,m,vs,hb,hrow,hsz,hcs,hvs⟩:=h.blk l _ hg;have hlen:es'.length=es.length:=by rw[<- he,ew]
 have hcs':=nX ht;subst hcs';refine⟨β,OQ h hl hg (by trivial) htm hσ cq cr (λhI hL hg' p qs p' hp hq v hv=>?_) (λhI hL _=>?_)⟩
 .cases p
  case own m0 d=>
   cases d
   case pw n0=>
    simp only[clsV]at hp;cases hb2:Nat.beq m0 l with
    |false=>
     simp only[hb2,aD,aA,bI]at hp;obtain⟨_,rfl⟩:=hp;exact VR.step hI _ v (λq hq2=>hL q (λe2=>by subst e2;simp only[PV.has]at hq2;rw[hq2]at hb2;cases hb2)) hv
    |true=>
     simp only[hb2,aB,aA,bI]at hp;obtain⟨rfl,rfl⟩:=hp;obtain⟨hq,_⟩:=hq;have:=(Z9 _ _).1 hb2;subst this;simp only[VR]at hv⊢;obtain⟨ho,h1⟩:=hv;obtain⟨g1,g2⟩:=ho k i es _ hg;obtain⟨b2,m2,cap,hv2,hc1,hc2,h4,h5,h6⟩:=g2 hq;refine⟨λk' es2 hes2=>?_,_,_,_,hv2⟩;have:some (Blk.row k' es2)=some (.row k es'):=bB (bD hes2) hg';cases this;exact⟨by omega,λ_=>⟨_,cap,hv2,hc1,hc2,.inr ⟨b2,m2,rfl,h4,h5,h6⟩⟩⟩
   case pp n0 off=>
    simp only[clsV]at hp;cases hb2:Nat.beq m0 l with
    |false=>
     simp only[hb2,aD,aA,bI]at hp;obtain⟨_,rfl⟩:=hp;exact VR.step hI _ v (λq hq2=>hL q (λe2=>by subst e2;simp only[PV.has]at hq2;rw[hq2]at hb2;cases hb2)) hv
    |true=>
     simp only[hb2,aB,aA,bI]at hp;obtain⟨rfl,rfl⟩:=hp;obtain⟨hq,_⟩:=hq;have:=(Z9 _ _).1 hb2;subst this;simp only[VR]at hv⊢;obtain⟨ho,h1⟩:=hv;obtain⟨g1,g2⟩:=ho k i es _ hg;obtain⟨b2,h4,hv2⟩:=g2 hq;refine⟨λk' es2 hes2=>?_,_,hv2⟩;have:some (Blk.row k' es2)=some (.row k es'):=bB (bD hes2) hg';cases this;exact⟨by omega,λ_=>⟨b2,h4,hv2⟩⟩
   all_goals (simp only[clsV]at hp;exact BE hI hL hp v hv)
  all_goals (simp only[clsV]at hp;exact BE hI hL hp v hv)
 refine⟨hk0,λel hel=>?_,.inr ⟨b,m,hb,hrow,by rw[hlen];exact hsz,az.flat.2 ?_⟩⟩
 .rw [<- he]at hel;rcases kM hel with h1|h1
  .exact hkl el h1
  subst h1;rw[cK]at hcl;exact hcl
 have hsplit:es'.flatten.map PV.t=eX i es (ts.map .t):=by rw[<- he];unfold eX;rw[List.set_eq_take_append_cons_drop,aq hi,nk,gW,fi,fi]
 rw[<- hsplit]at hvs;exact iW (c:=ctx G β w Z') (VRs.step hI _ _ (λq hq=>by rw[iz]at hq;cases hq) hvs) (λj v hj=>by rw[aM];exact hcs j v hj)
end
end Go.PW
open Go Go.Proofs
namespace Go.PW
variable {v:Value} {P:Program}
structure Z7i (P:Program) (f:FuncId) (e:TypeId) (z:Value) (bytes:Nat):Prop where
 ok:FnOk P f
 zc:z.cells.size=1
 fits:∀{n:Nat},n*bytes<=140737488355328->n<=140737488355328
 shift:∀(b n c i vb vc:Nat) (cs:List Value) (v:Value) (w:World),i<n->n+1<=c->c<=9223372036854775807->vb≠b->cs.length=n ->
  (∀j u,cs[j]?=some u->w.cell? ⟨b,j,none⟩=some u)->(∀j,j<n+1->(w.cell? ⟨b,j,none⟩).isSome=true)->(∀j,j<n+1->w.frozen? ⟨b,j,none⟩=false)->w.cell? ⟨vb,0,none⟩=some v->(∀u∈cs,u.oneCell'=true)->v.oneCell'=true ->
  ∀(tA tB:TypeId) (kA kB:Nat),w.shape? vb=some (tA,kA)->w.shape? b=some (tB,kB)->kB≠0->w.frozen? ⟨vb,0,none⟩=false->w.frozen? ⟨vb,kA,none⟩=false ->
  Calls P f #[.slice (some ⟨b,0,none⟩) n c,.int .i64 i,.slice (some ⟨vb,0,none⟩) 1 vc] w λx w'=>x = .returned (.slice (some ⟨b,0,none⟩) (n+1) c)/\w'=(w.drew.setCells b (i+1) (cs.drop i)).setCells b i [v]
 room:∀(b n c vb vc:Nat) (v:Value) (w:World),n+1<=c->c<=9223372036854775807->(w.cell? ⟨b,n,none⟩).isSome=true->w.frozen? ⟨b,n,none⟩=false->w.cell? ⟨vb,0,none⟩=some v->v.oneCell'=true ->
  Calls P f #[.slice (some ⟨b,0,none⟩) n c,.int .i64 n,.slice (some ⟨vb,0,none⟩) 1 vc] w λx w'=>x = .returned (.slice (some ⟨b,0,none⟩) (n+1) c)/\w'=w.setCells b n [v]
 egrow:∀(base:Option Addr) (n c vb vc:Nat) (cs:List Value) (v:Value) (w:World),n<=c->c<n+1->(n+1)*bytes<=140737488355328->cs.length=n->(base=none->n=0) ->
  (∀a,base=some a->∀j u,cs[j]?=some u->w.cell? (a.add j)=some u)->w.cell? ⟨vb,0,none⟩=some v->v.oneCell'=true ->
  Calls P f #[.slice base n c,.int .i64 n,.slice (some ⟨vb,0,none⟩) 1 vc] w λx w'=>x = .returned (.slice (some ⟨w.heap.size,0,none⟩) (n+1) (grownCap w (n+1) c e)) /\
   w'=w.drew.alloc (.cells ((cs++[v]).toArray++Builtin.zeroCells z.cells (grownCap w (n+1) c e-(n+1))) e)
 grow:∀(b n c i vb vc:Nat) (cs:List Value) (v:Value) (w:World),i<n->n<=c->c<n+1->(n+1)*bytes<=140737488355328->cs.length=n ->
  (∀j u,cs[j]?=some u->w.cell? ⟨b,j,none⟩=some u)->w.cell? ⟨vb,0,none⟩=some v->(∀u∈cs,u.oneCell'=true)->v.oneCell'=true ->
  Calls P f #[.slice (some ⟨b,0,none⟩) n c,.int .i64 i,.slice (some ⟨vb,0,none⟩) 1 vc] w λx w'=>x = .returned (.slice (some ⟨w.heap.size,0,none⟩) (n+1) (grownCap w (n+1) c e)) /\
   w'=(((w.alloc (.cells ((cs.take i).toArray++Builtin.zeroCells z.cells (n+1-i)++Builtin.zeroCells z.cells (grownCap w (n+1) c e-(n+1))) e)).drew.setCells w.heap.size i [v]).drew).setCells w.heap.size (i+1) (cs.drop i)
def kD{w:World}{vb:Nat}(h:w.cell? ⟨vb,0,none⟩=some v):∀j u,[v][j]?=some u->w.cell? ⟨vb,0+j,none⟩=some u:=λj u hj=>by
 cases j with
 |zero=>simp at hj;subst hj;exact h
 |succ j=>simp at hj
def kE(h:v.oneCell'=true):∀u∈[v],u.oneCell'=true:=λu hu=>by rw[dU]at hu;rw[hu];exact h
def Z7i.str{ρ:Go.Shelf.Ren}(L:Lays2.n22 P ρ):Z7i P (ρ.f 22) (ρ.t 9) (.string ⟨#[]⟩) 16 where
 ok:=⟨_,_,L.f22,rfl,by kernel_rfl⟩
 zc:=rfl
 fits:=λh=>aW
 shift:=λb n c i vb vc cs v w h1 h2 h3 h4 h5 h6 h7 h8 h9 h10 h11 tA tB kA kB h12 h13 h14 h15 h16=>by
  have:=Any2.slices_Insert_string_shift L b 0 n c i vb 0 1 vc cs [v] w h1 Nat.one_pos h2 h3 h4 h5 rfl uh (by simpa only[aM]using h7) (by simpa only[aM]using h8) (kD h9) h10 (kE h11) tA tB kA kB h12 h13 h14 h15 h16
  simpa only[aM]using this
 room:=λb n c vb vc v w h1 h2 h3 h4 h5 h6=>by
  have:=Any2.slices_Insert_string_end_room L b 0 n c vb 0 1 vc [v] w Nat.one_pos h1 h2 rfl (λj hj=>by rw[show 0+n+j=n by omega];exact h3) (λj hj=>by rw[show 0+n+j=n by omega];exact h4) (kD h5) (kE h6)
  simpa only[aM]using this
 egrow:=λbase n c vb vc cs v w h1 h2 h3 h4 h5 h6 h7 h8=>Any2.slices_Insert_string_end_grow L base n c vb 0 1 vc cs [v] w Nat.one_pos h1 h2 h3 h4 rfl h5 h6 (kD h7) (kE h8)
 grow:=λb n c i vb vc cs v w h1 h2 h3 h4 h5 h6 h7 h8 h9=>Any2.slices_Insert_string_grow L b 0 n c i vb 0 1 vc cs [v] w h1 Nat.one_pos h2 h3 h4 h5 rfl uh (kD h7) h8 (kE h9)
def Z7i.int{ρ:Go.Shelf.Ren}(L:Lays2.n21 P ρ):Z7i P (ρ.f 21) (ρ.t 3) (.int .i64 0) 8 where
 ok:=⟨_,_,L.f21,rfl,by kernel_rfl⟩
 zc:=rfl
 fits:=λh=>aW
 shift:=λb n c i vb vc cs v w h1 h2 h3 h4 h5 h6 h7 h8 h9 h10 h11 tA tB kA kB h12 h13 h14 h15 h16=>by
  have:=Any2.slices_Insert_int_shift L b 0 n c i vb 0 1 vc cs [v] w h1 Nat.one_pos h2 h3 h4 h5 rfl uh (by simpa only[aM]using h7) (by simpa only[aM]using h8) (kD h9) h10 (kE h11) tA tB kA kB h12 h13 h14 h15 h16
  simpa only[aM]using this
 room:=λb n c vb vc v w h1 h2 h3 h4 h5 h6=>by
  have:=Any2.slices_Insert_int_end_room L b 0 n c vb 0 1 vc [v] w Nat.one_pos h1 h2 rfl (λj hj=>by rw[show 0+n+j=n by omega];exact h3) (λj hj=>by rw[show 0+n+j=n by omega];exact h4) (kD h5) (kE h6)
  simpa only[aM]using this
 egrow:=λbase n c vb vc cs v w h1 h2 h3 h4 h5 h6 h7 h8=>Any2.slices_Insert_int_end_grow L base n c vb 0 1 vc cs [v] w Nat.one_pos h1 h2 h3 h4 rfl h5 h6 (kD h7) (kE h8)
 grow:=λb n c i vb vc cs v w h1 h2 h3 h4 h5 h6 h7 h8 h9=>Any2.slices_Insert_int_grow L b 0 n c i vb 0 1 vc cs [v] w h1 Nat.one_pos h2 h3 h4 h5 rfl uh (kD h7) h8 (kE h9)
def EN:∀(es:List (List aa)),(∀el,el∈es->el.length=1)->∃ts:List aa,es=ts.map λt=>[t]
 |[],_=>⟨[],rfl⟩
 |el::es,h=>by
  obtain⟨ts,rfl⟩:=EN es (λx hx=>h x (bW _ hx));have h1:=h el ax
  match el,h1 with
  |[t],_=>exact⟨t::ts,rfl⟩
def Z46:∀(ts:List aa),(ts.map λt=>[t]).flatten=ts
 |[]=>rfl
 |t::ts=>by simp[Z46 ts]
def Yo{es:List (List aa)}(h:∀el,el∈es->el.length=1)(i:Nat)(x:aa):(es.take i++[x]::es.drop i).flatten=es.flatten.take i++x::es.flatten.drop i:=by obtain⟨ts,rfl⟩:=EN es h;rw[Z46,nk,gW,<- lE,<- po,Z46,Z46];rfl
abbrev fM(es:List (List aa))(x:aa):List (Nat×Blk):=[(0,.row 1 es),(1,.row 1 [[x]])]
abbrev insA(es:List (List aa))(i:Nat):List PV:=[.osl 0 es.length,.t (.int .i64 i),.osl 1 1]
abbrev Z7j(es:List (List aa))(i:Nat)(x:aa):List (List aa):=es.take i++[x]::es.drop i
def ui{A:Nat->Prop}{β:Nat->Option Nat}{w w':World}{es:List (List aa)}{i:Nat}{x:aa}{a:Act}(hr:aO (cT β (fM es x) A w) β ⟨3,idx 0 (insA es i),fM es x⟩ a w)
 {cs:List Value} (hcs:VRs (ctx (cT β (fM es x) A w) β w (fM es x)) (es.flatten.map .t) cs) (hv:VRs (ctx (cT β (fM es x) A w) β w (fM es x)) [.t x] [v]) (h1:∀el,el∈es->el.length=1)
 {bN mN capN:Nat} (hsz:w.heap.size<=w'.heap.size) (hos:w'.os=w.os) (htp:w'.tape=w.tape) (hout:w'.output=w.output) (hheap:∀d,d<w.heap.size->β 0≠some d->w'.heap[d]?=w.heap[d]?)
 (hbN:(w.heap.size<=bN/\bN<w'.heap.size)\/β 0=some bN) (hrow:bm w' bN mN) (hcap:es.length+1<=capN) (hcm:capN<=mN) (hmax:capN<=maxLen)
 (hcells:∀j u,(cs.take i++v::cs.drop i)[j]?=some u->w'.cell? ⟨bN,j,none⟩=some u) (hi:i<=es.length) {r:Value} (hr0:r = .slice (some ⟨bN,0,none⟩) (es.length+1) capN) :
 ∃β',aO (cT β (fM es x) A w) β' ⟨1,[(0,.osl 5000 (es.length+1))],[(5000,.row 1 (Z7j es i x))]⟩ ⟨#[r],[]⟩ w':=by
 have hlen:(Z7j es i x).length=es.length+1:=by simp[Z7j];omega
 have habs:=jP hr w' (some bN) 5000 (.row 1 (Z7j es i x)) [0,1] hsz hos htp hout ⟨by simp,.inl O⟩ (λb' hb' hn=>hheap b' hb' (λe=>hn 0 _ ax rfl (.inl e))) (λc hc=>?_) (.inr ⟨λj q h=>?_,λm y h=>?_⟩) (λhI=>?_)
 .have hd:bn [0,1] (fM es x)=[]:=rfl;rw[hd]at habs;refine⟨_,{ defers:=rfl,sz:=by simp,base:=habs.base,os:=habs.os,tape:=habs.tape,output:=habs.output,old:=habs.old,A:=habs.A,gl:=habs.gl,inj:=habs.inj,sep:=habs.sep,fix:=habs.fix,row0:=habs.row0,blk:=habs.blk,tm:=λj p hp=>?_ }⟩
  match j,hp with
  |0,hp=>
   simp only[PW.get,Nat.beq,aB,aA]at hp;subst hp;subst hr0;refine⟨nm,?_⟩;simp only[VR];refine⟨λk es' hg'=>?_,_,_,_,rfl⟩;have:some (Blk.row k es')=some (.row 1 (Z7j es i x)):=bB (bD hg') gX;cases this;exact⟨by omega,λ_=>⟨_,capN,rfl,hcap,hmax,.inr ⟨bN,mN,rfl,cm β 5000 (some bN),hrow,by omega⟩⟩⟩
  |j+1,hp=>have h:(none:Option PV)=some p:=hp;cases h
 .have h:=aH.flat (by simp[Blk.flat]) hc;rw[cm]at h;cases h;rcases hbN with h|h
  .exact .inl h
  exact .inr ⟨0,_,by simp,rfl,.inl h⟩
 .rw [Z2c]at h
  match j,h with
  |0,h=>simp at h;subst h;rfl
  |1,h=>simp at h;subst h;rfl
  |2,h=>simp at h;subst h;rfl
  |j+3,h=>simp at h
 .match m,h with
  |0,h=>have h:some (Blk.row 1 es)=some y:=h;cases h;rfl
  |1,h=>have h:some (Blk.row 1 [[x]])=some y:=h;cases h;rfl
  |m+2,h=>have h:(none:Option Blk)=some y:=h;cases h
 .have hv':=VRs.step hI _ _ (λm hm=>by rw[iz]at hm;cases hm) hcs;have hx':=VRs.step hI _ _ (λm hm=>by simp[PV.hasAny,PV.has]at hm) hv;have hall:=(VRs.take i hv').append (hx'.append (VRs.drop i hv'));refine⟨nm,λel hel=>?_,.inr ⟨bN,mN,cm β 5000 (some bN),hrow,by omega,az.flat.2 ?_⟩⟩
  .simp only[Z7j,b9,cf]at hel;rcases hel with h|rfl|h
   .exact h1 el (iV h)
   .rfl
   exact h1 el (kF h)
  rw[Yo h1];refine iW (vs:=cs.take i++v::cs.drop i) (off:=0) ?_ (λj u hj=>by rw[aM];exact hcells j u hj);simpa only[fi,cd,lE,po,List.singleton_append]using hall
def yp{cs:List Value}{i:Nat}(hi:i<=cs.length)(j:Nat)(u:Value)(h:(cs.take i++v::cs.drop i)[j]?=some u):(j<i/\cs[j]?=some u)\/(j=i/\u=v)\/(i<j/\cs[j-1]?=some u):=by
 rcases nh j i with h1|h1|h1
 .rw [eo cg,jt,aq h1]at h;exact .inl ⟨h1,h⟩
 .rw [ep cg,eT,show j-min i cs.length=0 by omega]at h;simp at h;exact .inr (.inl ⟨h1,h.symm⟩)
 rw[ep cg,eT,show j-min i cs.length=(j-i-1)+1 by omega,List.getElem?_cons_succ,kG,show i+(j-i-1)=j-1 by omega]at h;exact .inr (.inr ⟨h1,h⟩)
def Z7i.fn{f:FuncId}{e:TypeId}{z:Value}{bytes:Nat}(R:Z7i P f e z bytes)(es:List (List aa))(x:aa)(i:Nat)(hi:i<=es.length)(hby:(es.length+1)*bytes<=140737488355328) :
 FnG P f (fM es x) (insA es i) [(5000,.row 1 (Z7j es i x))] (.osl 5000 (es.length+1)):=by
 refine⟨R.ok,λA β w vals hl hr=>?_⟩;obtain⟨v0,v1,v2,rfl⟩:∃v0 v1 v2,vals=[v0,v1,v2]:=by
  match vals,hl with
  |[a,b,c],_=>exact⟨a,b,c,rfl⟩
 have h63:=R.fits hby
 have t0:=(hr.tm 0 (.osl 0 es.length) rfl).2;have t1:=(hr.tm 1 (.t (.int .i64 i)) rfl).2;have t2:=(hr.tm 2 (.osl 1 1) rfl).2;have e0:(Act.tmps ⟨[v0,v1,v2].toArray,[]⟩).getD 0 undef=v0:=rfl;have e1:(Act.tmps ⟨[v0,v1,v2].toArray,[]⟩).getD 1 undef=v1:=rfl;have e2:(Act.tmps ⟨[v0,v1,v2].toArray,[]⟩).getD 2 undef=v2:=rfl;rw[e0]at t0;rw[e1]at t1;rw[e2]at t2;simp only[VR,Z7]at t0 t1 t2;obtain⟨hk0,h1,hb0⟩:=hr.blk 0 (.row 1 es) rfl;obtain⟨_,_,hb1⟩:=hr.blk 1 (.row 1 [[x]]) rfl;obtain⟨a0,cap,hv0,hnc,hcm,hq0⟩:=(t0.1 1 es rfl).2 rfl;obtain⟨a2,cap2,hv2,hnc2,_,hq2⟩:=(t2.1 1 [[x]] rfl).2 rfl;rcases hb1 with⟨_,h⟩|⟨vb,m2,hvb,hrow2,hm2,hel2⟩
 .cases h
 rcases hq2 with⟨h,_⟩|⟨vb',m2',ha2,hvb',_,_⟩
 .omega
 have:vb'=vb:=by have:=hvb'.symm.trans hvb;simpa using this
 subst this;subst ha2;obtain⟨xs,hxs,hxc⟩:=Z4.vals (c:=ctx (cT β (fM es x) A w) β w (fM es x)) (az.flat.1 hel2);obtain⟨v,rfl⟩:∃v,xs=[v]:=by
  have:=hxs.length
  match xs,this with
  |[v],_=>exact⟨v,rfl⟩
 have hx0:w.cell? ⟨vb',0,none⟩=some v:=hxc 0 v rfl;have hx1:v.oneCell'=true:=Z89 hxs rfl v ax;obtain⟨cs,hcs,hcc⟩:∃cs,VRs (ctx (cT β (fM es x) A w) β w (fM es x)) (es.flatten.map .t) cs/\(es=[]\/∃b m,β 0=some b/\bm w b m/\es.length<=m/\∀j u,cs[j]?=some u->w.cell? ⟨b,j,none⟩=some u):=by
  rcases hb0 with⟨_,rfl⟩|⟨b,m,hb,hrow,hm,hel⟩
  .exact⟨[],rfl,.inl rfl⟩
  obtain⟨cs,h,hc⟩:=Z4.vals (c:=ctx (cT β (fM es x) A w) β w (fM es x)) (az.flat.1 hel);exact⟨cs,h,.inr ⟨b,m,hb,hrow,by omega,λj u hj=>by have h:w.cell? ⟨b,0+j,none⟩=some u:=hc j u hj;rwa[aM]at h⟩⟩
 have hcl:cs.length=es.length:=by rw[hcs.length,cK,ju h1,db]
 have hc1:∀u,u∈cs->u.oneCell'=true:=Z89 hcs (by rw[List.all_map];exact bK.2 λ_ _=>rfl);have hvals:([v0,v1,v2].toArray:Array Value) = #[.slice a0 es.length cap,.int .i64 i,.slice (some ⟨vb',0,none⟩) 1 cap2]:=by rw[hv0,t1,hv2]
 have hap:∀b,β 0=some b->vb'≠b:=λb hb hne=>by have:=hr.inj 0 1 (.row 1 es) (.row 1 [[x]]) vb' rfl rfl (.inl (by rw[hb,hne])) (.inl hvb);cases this
 have hbel:∀b,β 0=some b->b<w.heap.size:=λb hb=>(hr.sep 0 (.row 1 es) b rfl (.inl hb)).1;have hcap63:cap<=9223372036854775807:=by unfold maxLen at hcm;omega
 have hrv:=hr;rw[hvals];by_cases hroom:es.length+1<=cap
 .rcases hq0 with⟨h,_⟩|⟨b,m,ha,hb,hrow,hcapm⟩
  .omega
  subst ha;have hb:β 0=some b:=hb;have hcb:∀j u,cs[j]?=some u->w.cell? ⟨b,j,none⟩=some u:=by
   rcases hcc with rfl|⟨b',_,hb',_,_,h⟩
   .intro j u hj;have:cs=[]:=dv hcl;subst this;simp at hj
   have:b'=b:=cR
   subst this;exact h
  have hth:=jQ hrow (o:=0) (n:=m) O;have hsp:∀j,j<es.length+1->(w.cell? ⟨b,j,none⟩).isSome=true:=λj hj=>by have h:(w.cell? ⟨b,0+j,none⟩).isSome=true:=(hth j O).1;rwa[aM]at h
  have hfz:∀j,j<es.length+1->w.frozen? ⟨b,j,none⟩=false:=λj hj=>by have h:w.frozen? ⟨b,0+j,none⟩=false:=(hth j O).2;rwa[aM]at h
  by_cases hin:i<es.length
  .obtain⟨c2,e2,fr2,g1,g2,g3⟩:=hrow2;obtain⟨c3,e3,fr3,g4,g5,g6⟩:=hrow;have g1:w.heap[vb']?=some (.cells c2 e2 fr2):=g1;have g4:w.heap[b]?=some (.cells c3 e3 fr3):=g4;have g3:fr2=(0,0):=g3.resolve_right id;subst g3;have hsa:w.shape? vb'=some (e2,m2):=by unfold World.shape?;rw[g1];simp[g2]
   have hsb:w.shape? b=some (e3,m):=by unfold World.shape?;rw[g4];simp[g5]
   have hfr:∀q,w.frozen? ⟨vb',q,none⟩=false:=λq=>by unfold World.frozen?;simp[g1]
   refine(R.shift b es.length cap i vb' cap2 cs v w hin hroom hcap63 (hap b hb) hcl hcb hsp hfz hx0 hc1 hx1 e2 e3 m2 m hsa hsb O (hfr 0) (hfr m2)).mono ?_;rintro r w' ⟨rfl,rfl⟩;refine⟨.slice (some ⟨b,0,none⟩) (es.length+1) cap,?_⟩;have hst:∀j,j<(cs.drop i).length->(w.drew.cell? ⟨b,(i+1)+j,none⟩).isSome=true:=λj hj=>hsp _ (by rw[jv]at hj;omega);have hcells:∀j u,(cs.take i++v::cs.drop i)[j]?=some u->((w.drew.setCells b (i+1) (cs.drop i)).setCells b i [v]).cell? ⟨b,j,none⟩=some u:=λj u hj=>by
    rcases yp O j u hj with⟨q1,q2⟩|⟨q1,q2⟩|⟨q1,q2⟩
    .rw [gA b _ _ _ ⟨b,j,none⟩ (λ_ _ =>.inl q1),gA b _ _ _ ⟨b,j,none⟩ (λ_ _ =>.inl (by show j<i+1;omega))];exact hcb j u q2
    .subst q1;subst q2;have:=jw b [u] j (w.drew.setCells b (j+1) (cs.drop j)) (λk hk=>by
      have:k=0:=lF
      subst this;rw[gA b _ _ _ _ (λ_ _ =>.inl (by show j+0<j+1;omega))];exact hsp _ O) 0 ax
     simpa using this
    rw[gA b _ _ _ ⟨b,j,none⟩ (λ_ _ =>.inr (by show i+1<=j;omega))];have hlt:=(aJ.1 q2).1;have:=jw b (cs.drop i) (i+1) w.drew hst (j-(i+1)) (by rw[jv];omega);rw[show i+1+(j-(i+1))=j by omega]at this;rw[this,<- q2,<- bg,kG,show i+(j-(i+1))=j-1 by omega]
   obtain⟨β',h⟩:=ui (w':=(w.drew.setCells b (i+1) (cs.drop i)).setCells b i [v]) (capN:=cap) (bN:=b) (mN:=m) hrv hcs hxs h1 (by rw[iX,iX];exact bh _)
    ((dw b [v] i _).1.trans (dw b (cs.drop i) (i+1) w.drew).1) ((dw b [v] i _).2.1.trans (dw b (cs.drop i) (i+1) w.drew).2.1) ((dw b [v] i _).2.2.trans (dw b (cs.drop i) (i+1) w.drew).2.2)
    (λd _ hd=>by have hne:d≠b:=λh=>hd (by rw[hb,h]);rw[gb b _ _ _ d hne,gb b _ _ _ d hne];rfl)
    (.inr hb) (dV b _ _ _ (dV b _ _ w.drew ⟨c3,e3,fr3,g4,g5,g6⟩)) hroom O hcm hcells O rfl
   exact⟨β',rfl,h⟩
  have hie:i=es.length:=aW
  subst hie;refine(R.room b es.length cap vb' cap2 v w hroom hcap63 (hsp _ O) (hfz _ O) hx0 hx1).mono ?_;rintro r w' ⟨rfl,rfl⟩;refine⟨.slice (some ⟨b,0,none⟩) (es.length+1) cap,?_⟩;have hcells:∀j u,(cs.take es.length++v::cs.drop es.length)[j]?=some u->(w.setCells b es.length [v]).cell? ⟨b,j,none⟩=some u:=λj u hj=>by
   rcases yp O j u hj with⟨q1,q2⟩|⟨q1,q2⟩|⟨q1,q2⟩
   .rw [gA b _ _ _ ⟨b,j,none⟩ (λ_ _ =>.inl q1)];exact hcb j u q2
   .subst q1;subst q2;have:=jw b [u] es.length w (λk hk=>by
     have:k=0:=lF
     subst this;exact hsp _ O) 0 ax
    simpa using this
   have hlt:=(aJ.1 q2).1;omega
  obtain⟨β',h⟩:=ui (w':=w.setCells b es.length [v]) (capN:=cap) (bN:=b) (mN:=m) hrv hcs hxs h1 uj
   (dw b _ _ _).1 (dw b _ _ _).2.1 (dw b _ _ _).2.2
   (λd _ hd=>gb b _ _ _ d (λh=>hd (by rw[hb,h])))
   (.inr hb) (dV b _ _ _ hrow) hroom O hcm hcells O rfl
  exact⟨β',rfl,h⟩
 have hlt:cap<es.length+1:=aW
 have hge:=pq w (es.length+1) cap e;have hcmN:grownCap w (es.length+1) cap e<=maxLen:=pr w (es.length+1) cap e pv;by_cases hin:i<es.length
 .rcases hcc with rfl|⟨b,m,hb,hrow,hm,hcb⟩
  .simp at hin
  rcases hq0 with⟨h,_⟩|⟨b',m',ha,hb',_,_⟩
  .omega
  have:b'=b:=cR
  subst this;subst ha;refine(R.grow b' es.length cap i vb' cap2 cs v w hin hnc hlt hby hcl hcb hx0 hc1 hx1).mono ?_;rintro r w' ⟨rfl,rfl⟩;refine⟨.slice (some ⟨w.heap.size,0,none⟩) (es.length+1) (grownCap w (es.length+1) cap e),?_⟩;generalize hG:grownCap w (es.length+1) cap e=G at hge hcmN⊢;generalize hROW:(cs.take i).toArray++Builtin.zeroCells z.cells (es.length+1-i)++Builtin.zeroCells z.cells (G-(es.length+1))=ROW;have hRs:ROW.size=G:=by rw[<- hROW];simp only[pz,pA,eT,pB,R.zc];omega
  have hnew:∀j,j<G->((w.alloc (.cells ROW e)).cell? ⟨w.heap.size,j,none⟩).isSome=true:=λj hj=>by rw[World.cell?_alloc_at ROW _ w.heap.size j rfl,Array.getElem?_eq_getElem O];rfl
  have hrowN:bm (w.alloc (.cells ROW e)) w.heap.size G:=⟨ROW,e,(0,0),lG w _,hRs,.inl rfl⟩;have hW:∀a,((w.alloc (.cells ROW e)).drew.setCells w.heap.size i [v]).drew.cell? a=((w.alloc (.cells ROW e)).setCells w.heap.size i [v]).cell? a:=λa=>by rw[<- drew_setCells];rfl
  have hcells:∀j u,(cs.take i++v::cs.drop i)[j]?=some u->((((w.alloc (.cells ROW e)).drew.setCells w.heap.size i [v]).drew).setCells w.heap.size (i+1) (cs.drop i)).cell? ⟨w.heap.size,j,none⟩=some u:=λj u hj=>by
   have hin1:∀j,j<(cs.drop i).length->(((w.alloc (.cells ROW e)).drew.setCells w.heap.size i [v]).drew.cell? ⟨w.heap.size,i+1+j,none⟩).isSome=true:=λj hj=>by
    rw[jv]at hj;show(((w.alloc (.cells ROW e)).drew.setCells w.heap.size i [v]).cell? _).isSome=true;exact isSome_setCells _ _ _ _ (λk hk=>by
     have:k=0:=lF
     subst this;exact hnew _ O) _ (hnew _ O)
   rcases yp O j u hj with⟨q1,q2⟩|⟨q1,q2⟩|⟨q1,q2⟩
   .rw [gA _ _ _ _ ⟨w.heap.size,j,none⟩ (λ_ _ =>.inl (by show j<i+1;omega))];show((w.alloc (.cells ROW e)).drew.setCells w.heap.size i [v]).cell? _=_;rw[gA _ _ _ _ ⟨w.heap.size,j,none⟩ (λ_ _ =>.inl q1)];show(w.alloc (.cells ROW e)).cell? _=_;rw[World.cell?_alloc_at ROW _ w.heap.size j rfl,<- hROW];rw[kH cg,kH cg];simp only[uk,jt,aq q1];exact q2
   .subst q1;subst q2;rw[gA _ _ _ _ ⟨w.heap.size,j,none⟩ (λ_ _ =>.inl (by show j<j+1;omega))];show((w.alloc (.cells ROW e)).drew.setCells w.heap.size j [u]).cell? _=_;have:=jw w.heap.size [u] j (w.alloc (.cells ROW e)).drew (λk hk=>by
     have:k=0:=lF
     subst this;exact hnew _ O) 0 ax
    simpa using this
   have hlt:=(aJ.1 q2).1;have:=jw w.heap.size (cs.drop i) (i+1) ((w.alloc (.cells ROW e)).drew.setCells w.heap.size i [v]).drew hin1 (j-(i+1)) (by rw[jv];omega);rw[show i+1+(j-(i+1))=j by omega]at this;rw[this,<- q2,<- bg,kG,show i+(j-(i+1))=j-1 by omega]
  obtain⟨β',h⟩:=ui (w':=(((w.alloc (.cells ROW e)).drew.setCells w.heap.size i [v]).drew).setCells w.heap.size (i+1) (cs.drop i)) (capN:=G) (bN:=w.heap.size) (mN:=G) hrv hcs hxs h1
   (by rw[iX];show _<=((w.alloc (.cells ROW e)).drew.setCells w.heap.size i [v]).heap.size;rw[iX];show _<=(w.alloc (.cells ROW e)).heap.size;simp)
   ((dw w.heap.size (cs.drop i) (i+1) _).1.trans (dw w.heap.size [v] i (w.alloc (.cells ROW e)).drew).1) ((dw w.heap.size (cs.drop i) (i+1) _).2.1.trans (dw w.heap.size [v] i (w.alloc (.cells ROW e)).drew).2.1) ((dw w.heap.size (cs.drop i) (i+1) _).2.2.trans (dw w.heap.size [v] i (w.alloc (.cells ROW e)).drew).2.2)
   (λd hd _=>by
    have hne:d≠w.heap.size:=aW
    rw[gb _ _ _ _ d hne];show((w.alloc (.cells ROW e)).drew.setCells w.heap.size i [v]).heap[d]?=_;rw[gb _ _ _ _ d hne];exact dW w _ d hd)
   (.inl ⟨bh _,by rw[iX];show _<((w.alloc (.cells ROW e)).drew.setCells w.heap.size i [v]).heap.size;rw[iX];show _<(w.alloc (.cells ROW e)).heap.size;simp⟩)
   (dV _ _ _ _ (dV _ [v] i (w.alloc (.cells ROW e)).drew hrowN)) hge (bh _) hcmN hcells O rfl
  exact⟨β',rfl,h⟩
 have hie:i=es.length:=aW
 subst hie;have hcba:∀a,a0=some a->∀j u,cs[j]?=some u->w.cell? (a.add j)=some u:=λa ha j u hj=>by
  rcases hcc with rfl|⟨b,m,hb,hrow,hm,hcb⟩
  .have:cs=[]:=dv hcl;subst this;simp at hj
  rcases hq0 with⟨h,_⟩|⟨b',m',ha',hb',_,_⟩
  .have:cs=[]:=dv O;subst this;simp at hj
  have:b'=b:=cR
  subst this;subst ha';cases ha;rw[gY,aM];exact hcb j u hj
 refine(R.egrow a0 es.length cap vb' cap2 cs v w hnc hlt hby hcl (λha=>?_) hcba hx0 hx1).mono ?_
 .subst ha;rcases hq0 with⟨h,_⟩|⟨b',m',ha',hb',_,_⟩
  .omega
  cases ha'
 rintro r w' ⟨rfl,rfl⟩;refine⟨.slice (some ⟨w.heap.size,0,none⟩) (es.length+1) (grownCap w (es.length+1) cap e),?_⟩;generalize hG:grownCap w (es.length+1) cap e=G at hge hcmN⊢;generalize hROW:(cs++[v]).toArray++Builtin.zeroCells z.cells (G-(es.length+1))=ROW;have hRs:ROW.size=G:=by rw[<- hROW];simp only[pz,pA,bk,nn,pB,R.zc];omega
 have hcells:∀j u,(cs.take es.length++v::cs.drop es.length)[j]?=some u->(w.drew.alloc (.cells ROW e)).cell? ⟨w.heap.size,j,none⟩=some u:=λj u hj=>by rw[<- hcl,um,List.drop_length]at hj;have hj1:=(aJ.1 hj).1;show(w.drew.alloc _).cell? ⟨w.drew.heap.size,_,none⟩=_;rw[jR,<- hROW,kH (by simpa using hj1)];simpa using hj
 obtain⟨β',h⟩:=ui (w':=w.drew.alloc (.cells ROW e)) (capN:=G) (bN:=w.heap.size) (mN:=G) hrv hcs hxs h1 ax rfl rfl rfl
  (λd hd _=>dW w.drew _ d hd) (.inl ⟨bh _,by simp⟩) ⟨ROW,e,(0,0),lG w.drew _,hRs,.inl rfl⟩ hge (bh _) hcmN hcells O rfl
 exact⟨β',rfl,h⟩
end Go.PW
