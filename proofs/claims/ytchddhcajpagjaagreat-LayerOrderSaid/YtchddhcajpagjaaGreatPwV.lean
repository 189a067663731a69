import Derived.Test.YtchddhcajpagjaaGreatPwR
import Derived.ProofKit
import GoSem.ClaimJoined
set_option linter.all false
namespace Go.PW
open Go.RowKit
def Zwk(P:Program):List Field->Nat->Nat->Bool
 | [],off,Zat7=>Nat.beq off Zat7
 | f::fs,off,Zat7=>Nat.beq f.offset off&&Zwk P fs (off+P.cellsOf f.type) Zat7
def Zqr(P:Program):Nat->TypeId->Bool
 | 0,_=>false
 | d+1,t=>
  match P.underlying t with
  | some .bool=>true
  | some (.int _)=>true
  | some .string=>true
  | some (.slice e)=>Zqr P d e&&Nat.blt 0 (P.cellsOf e)
  | some (.struct fs)=>(fs.toList.all fun f=>Zqr P d f.type)&&Zwk P fs.toList 0 (P.cellsOf t)
  | some (.array n e)=>Zqr P d e&&Nat.beq (n*P.cellsOf e) (P.cellsOf t)
  | _=>false
def Seq(Q:TypeId->List Zf->Prop):List TypeId->List Zf->Prop
 | [],ts=>ts=[]
 | t::l,ts=>∃ a b,ts=a++b/\Q t a/\Seq Q l b
def WT(P:Program):Nat->TypeId->List Zf->Prop
 | 0,_,_=>False
 | d+1,t,ts=>
  match P.underlying t with
  | some .bool=>∃ b,ts=[.bool b]
  | some (.int k)=>∃ n,ts=[.int k n]/\(Lit.int k n).wf=true
  | some .string=>∃ s,ts=[.str s]/\(s.length<=maxLen/\s.length<=reachBytes)
  | some (.slice e)=>∃ es,ts=[.sl es]/\(es.length<=maxLen/\es.length*P.bytesOf e<=reachBytes)/\∀ el∈es,WT P d e el
  | some (.struct fs)=>Seq (WT P d) (fs.toList.map (·.type)) ts
  | some (.array n e)=>Seq (WT P d) (List.replicate n e) ts
  | _=>False
def Rd(w:World):Ctx:=⟨fun _=>none,fun b=>b < w.heap.size,w,[]⟩
theorem Zavq{I:Nat->Prop}{w:World}{b k:Nat}{Q:List Zf->Prop}:∀ (n off:Nat),(∀ i,i < n->∃ ts,ts.length=k/\Zw I w b ts (off+i*k)/\Q ts)->∃ es,es.length=n/\Zr I w b es off/\∀ el∈es,Q el
 | 0,off,_=>⟨[],rfl,trivial,fun _ h=>by cases h⟩
 | n+1,off,h=>by
  obtain⟨t0,h0,hc,hq⟩:=h 0 O
  obtain⟨es,h1,h2,h3⟩:=Zavq (I:=I) (w:=w) (b:=b) (k:=k) (Q:=Q) n (off+k) (fun i hi=>by
   obtain⟨ts,g1,g2,g3⟩:=h (i+1) O
   exact⟨ts,g1,by rwa [show off+(i+1)*k=off+k+i*k by rw [Nat.add_mul,Nat.one_mul];omega] at g2,g3⟩)
  refine⟨t0::es,by simp [h1],?_,fun el hel=>?_⟩
  .simp only [Zr]
   exact⟨by simpa using hc,by rw [h0];exact h2⟩
  .rcases List.mem_cons.1 hel with h | h
   .subst h;exact hq
   .exact h3 el h
theorem mapM_mem'{α β:Type}{f:α->Option β}:∀ {l:List α} {xs:List β},l.mapM f=some xs->∀ a∈l,∃ x,f a=some x/\x∈xs
 | [],_,_,a,h=>by cases h
 | b::l,xs,h,a,ha=>by
  rw [List.mapM_cons] at h
  simp only [bind,Option.bind_eq_some_iff,pure,Option.some.injEq] at h
  obtain⟨y,hy,ys,hys,rfl⟩:=h
  rcases List.mem_cons.1 ha with e | e
  .subst e;exact⟨y,hy,by simp⟩
  .obtain⟨x,h1,h2⟩:=mapM_mem' hys a e
   exact⟨x,h1,by simp [h2]⟩
section
variable {P:Program} {w:World}
theorem Zakt{Q:TypeId->List Zf->Prop}{cs:List Value}:∀ (fs:List Field) (off:Nat),Zwk P fs off cs.length=true->off<=cs.length ->
 (∀ f∈fs,∃ ts,VRs (Rd w) (ts.map .t) ((cs.drop f.offset).take (P.cellsOf f.type))/\Q f.type ts)->∃ ts:List Zf,VRs (Rd w) (ts.map .t) (cs.drop off)/\Seq Q (fs.map (·.type)) ts
 | [],off,h,_,_=>by
  simp only [Zwk,Z1] at h
  exact⟨[],by simp [VRs,h],rfl⟩
 | f::fs,off,h,hle,hf=>by
  simp only [Zwk,Bool.and_eq_true,Z1] at h
  obtain⟨h1,h2⟩:=h
  obtain⟨a,ha,hq⟩:=hf f (by simp)
  rw [h1] at ha
  have hle2:off+P.cellsOf f.type<=cs.length:=by
   have:∀ (fs:List Field) (o:Nat),Zwk P fs o cs.length=true->o<=cs.length:=by
    intro fs
    induction fs with
    | nil=>intro o h;simp only [Zwk,Z1] at h;omega
    | cons g fs ih=>intro o h;simp only [Zwk,Bool.and_eq_true] at h;have:=ih _ h.2;omega
   exact this fs _ h2
  obtain⟨b,hb,hs⟩:=Zakt (Q:=Q) fs (off+P.cellsOf f.type) h2 hle2 (fun g hg=>hf g (List.mem_cons_of_mem _ hg))
  refine⟨a++b,?_,a,b,rfl,hq,hs⟩
  rw [List.map_append]
  have:=ha.append hb
  rwa [show (cs.drop off).take (P.cellsOf f.type)++cs.drop (off+P.cellsOf f.type)=cs.drop off by rw [<- List.drop_drop];exact List.take_append_drop _ _] at this
theorem Zaq9{Q:TypeId->List Zf->Prop}{cs:List Value}{e k:Nat}:∀ (n off:Nat),off+n*k=cs.length ->
 (∀ i,i < n->∃ ts,VRs (Rd w) (ts.map .t) ((cs.drop (off+i*k)).take k)/\Q e ts)->∃ ts:List Zf,VRs (Rd w) (ts.map .t) (cs.drop off)/\Seq Q (List.replicate n e) ts
 | 0,off,h,_=>⟨[],by simp [VRs,show off=cs.length by omega],rfl⟩
 | n+1,off,h,hf=>by
  have e1:(n+1)*k=n*k+k:=by rw [Nat.add_mul,Nat.one_mul]
  obtain⟨a,ha,hq⟩:=hf 0 O
  rw [Nat.zero_mul,Nat.add_zero] at ha
  obtain⟨b,hb,hs⟩:=Zaq9 (Q:=Q) (cs:=cs) (e:=e) (k:=k) n (off+k) O (fun i hi=>by
   obtain⟨ts,g1,g2⟩:=hf (i+1) O
   exact⟨ts,by rwa [show off+(i+1)*k=off+k+i*k by rw [Nat.add_mul,Nat.one_mul];omega] at g1,g2⟩)
  refine⟨a++b,?_,a,b,rfl,hq,hs⟩
  rw [List.map_append]
  have:=ha.append hb
  rwa [show (cs.drop off).take k++cs.drop (off+k)=cs.drop off by rw [<- List.drop_drop];exact List.take_append_drop _ _] at this
theorem Zu0{H:Type}{e:TypeId}{d:DataW H}{n:Nat}:∀ {ds:List (DataW H)},d∈ds->n∈d.weights P e->n∈DataW.weightsAll P e ds
 | [],h,_=>by cases h
 | y::ds,h,hn=>by
  simp only [DataW.weightsAll,List.mem_append]
  rcases List.mem_cons.1 h with h | h
  .subst h;exact .inl hn
  .exact .inr (Zu0 h hn)
theorem Zs7{H:Type}{t:TypeId}{d:DataW H}{n:Nat}:∀ {ts:List TypeId} {ds:List (DataW H)} {i:Nat},ts[i]?=some t->ds[i]?=some d->n∈d.weights P t->n∈DataW.weightsEach P ts ds
 | [],_,_,h,_,_=>by simp at h
 | _::_,[],_,_,h,_=>by simp at h
 | u::ts,y::ds,0,ht,hd,hn=>by
  simp only [List.getElem?_cons_zero,Option.some.injEq] at ht hd
  subst ht;subst hd
  simp only [DataW.weightsEach,List.mem_append]
  exact .inl hn
 | u::ts,y::ds,i+1,ht,hd,hn=>by
  simp only [DataW.weightsEach,List.mem_append]
  exact .inr (Zs7 (by simpa using ht) (by simpa using hd) hn)
theorem Zzk{H:Type}{enc:TypeId×Value->H}:∀ (D fuel:Nat) (t:TypeId) (cs:List Value) (x:DataW H×List MemPlace),DataW.trod enc P w 0 (fun _=>true) true fuel t cs=some x->Zqr P D t=true->(∀ n∈x.1.weights P t,n<=reachBytes) ->
 ∃ ts:List Zf,VRs (Rd w) (ts.map .t) cs/\WT P D t ts
 | 0,_,_,_,_,_,hp,_=>by simp [Zqr] at hp
 | D+1,fuel,t,cs,x,h,hp,hwt=>by
  unfold Zqr at hp
  unfold WT
  cases hu:P.underlying t with
  | none=>simp [hu] at hp
  | some u=>
   simp only [hu] at hp ⊢
   cases u<;>simp only [Bool.false_eq_true] at hp
   case bool=>
    obtain⟨b,rfl,_⟩:=DataW.trod_bool hu h
    exact⟨[.bool b],by simp [VRs,VR,Z0],b,rfl⟩
   case int k=>
    obtain⟨n,rfl,_,hw⟩:=DataW.trod_int hu h
    exact⟨[.int k n],by simp [VRs,VR,Z0],n,rfl,hw⟩
   case string=>
    obtain⟨s,rfl,rfl,hl⟩:=DataW.trod_string hu h
    refine⟨[.str s.data.toList],by simp [VRs,VR,Z0],_,rfl,by rw [Array.length_toList];exact hl,hwt _ (by simp [DataW.weights])⟩
   case slice e=>
    obtain⟨hp1,hp2⟩:=Bool.and_eq_true_iff.1 hp
    rw [Nat.blt_eq] at hp2
    rcases DataW.trod_slice hu h with ⟨rfl,_⟩ | ⟨a,len,cap,elems,rest,n,_,rfl,rfl,_,hlc,hcm,hel,hE,_⟩
    .refine⟨[.sl []],?_,[],rfl,⟨Nat.zero_le _,by simp⟩,fun _ h=>by cases h⟩
     simp only [List.map_cons,List.map_nil,VRs,VR,Z0]
     exact⟨_,_,rfl,⟨none,0,rfl,Nat.le_refl _,Nat.zero_le _,.inl trivial⟩,rfl⟩
    .by_cases h0:len=0
     .subst h0
      refine⟨[.sl []],?_,[],rfl,⟨Nat.zero_le _,by simp⟩,fun _ h=>by cases h⟩
      simp only [List.map_cons,List.map_nil,VRs,VR,Z0]
      exact⟨_,_,rfl,⟨some a,cap,rfl,hlc,hcm,.inl trivial⟩,rfl⟩
     .have hwl:(elems.length+rest.length)*P.bytesOf e<=reachBytes:=hwt _ (by simp [DataW.weights,hu])
      have hone:∀ i,i < len->∃ cs' y,w.cells? 0 (a.add (i*P.cellsOf e)) (P.cellsOf e)=some cs'/\DataW.trod enc P w 0 (fun _=>true) true n e cs'=some y/\∀ m∈y.1.weights P e,m<=reachBytes:=by
       intro i hi
       have:=hE i hi
       have hlt:i < elems.length:=by omega
       rw [List.getElem?_eq_getElem hlt] at this
       obtain⟨cs',h1,h2⟩:=Option.bind_eq_some_iff.1 this
       refine⟨cs',_,h1,h2,fun m hm=>hwt m ?_⟩
       simp only [DataW.weights,hu]
       exact List.mem_cons_of_mem _ (List.mem_append.2 (.inl (Zu0 (List.mem_map.2 ⟨_,List.getElem_mem hlt,rfl⟩) hm)))
      have hspot:a.spot=none:=by
       obtain⟨cs',y,h1,_,_⟩:=hone 0 O
       obtain⟨_,hl,hc⟩:=World.cells?_some h1
       have:=hc 0 hp2
       rw [List.getElem?_eq_getElem O] at this
       have e0:(a.add (0*P.cellsOf e)).add 0=a:=by simp [Addr.add]
       rw [e0] at this
       unfold World.cell? at this
       split at this
       .split at this
        .cases this
        .rename_i hs;simpa using hs
       .cases this
      obtain⟨b,off,spot⟩:=a
      simp only at hspot
      subst hspot
      have hbl:b < w.heap.size:=by
       obtain⟨cs',y,h1,_,_⟩:=hone 0 O
       have:=World.cells?_block h1 hp2
       simpa [Addr.add] using this
      obtain⟨es,g1,g2,g3⟩:=Zavq (I:=(Rd w).I) (w:=w) (b:=b) (k:=P.cellsOf e) (Q:=WT P D e) len off (fun i hi=>by
       obtain⟨cs',y,h1,h2,hy⟩:=hone i hi
       obtain⟨ts,ht,hw⟩:=Zzk D n e cs' y h2 hp1 hy
       obtain⟨_,hl,hc⟩:=World.cells?_some h1
       refine⟨ts,by have:=ht.length;simp at this;omega,Zdx (c:=Rd w) ht (fun j v hj=>?_),hw⟩
       have hjl:j < P.cellsOf e:=by rw [<- hl];exact (List.getElem?_eq_some_iff.1 hj).1
       have:=hc j hjl
       rw [Addr.add_mid,Addr.add_mid] at this
       exact this.trans hj)
      refine⟨[.sl es],?_,es,rfl,⟨by omega,Nat.le_trans (Nat.mul_le_mul_right _ O) hwl⟩,g3⟩
      simp only [List.map_cons,List.map_nil,VRs,VR,Z0]
      exact⟨_,_,rfl,⟨some ⟨b,off,none⟩,cap,by rw [g1],by omega,hcm,.inr ⟨b,off,rfl,hbl,g2⟩⟩,rfl⟩
   case struct fs=>
    obtain⟨hp1,hp2⟩:=Bool.and_eq_true_iff.1 hp
    obtain⟨xs,n,_,rfl,hl,hlen,hf⟩:=DataW.trod_struct hu h
    rw [<- hl] at hp2
    have:=Zakt (Q:=WT P D) fs.toList 0 hp2 (Nat.zero_le _) (fun f hfm=>by
     obtain⟨i,hi⟩:=List.mem_iff_getElem?.1 hfm
     have hi':fs[i]?=some f:=by simpa using hi
     have hlt:i < xs.length:=by rw [hlen];exact (Array.getElem?_eq_some_iff.1 hi').1
     have h2:=hf i f hi'
     rw [List.getElem?_eq_getElem hlt] at h2
     refine Zzk D n f.type _ _ h2 (List.all_eq_true.1 hp1 f hfm) (fun m hm=>hwt m ?_)
     simp only [DataW.weights,hu]
     exact Zs7 (i:=i) (t:=f.type) (d:=xs[i].1) (by simp [hi]) (by simp [List.getElem?_eq_getElem hlt]) hm)
    simpa using this
   case array n e=>
    obtain⟨hp1,hp2⟩:=Bool.and_eq_true_iff.1 hp
    cases fuel with
    | zero=>simp [DataW.trod] at h
    | succ m=>
     unfold DataW.trod at h
     simp only [hu] at h
     have harr:cs.length=P.cellsOf t/\∃ xs,(List.range n).mapM (fun i=>DataW.trod enc P w 0 (fun _=>true) true m e ((cs.drop (i*P.cellsOf e)).take (P.cellsOf e)))=some xs/\x.1 = .agg (xs.map (·.1)):=by
      split at h
      .rename_i hl
       simp only [Option.map_eq_some_iff] at h
       obtain⟨xs,h1,h2⟩:=h
       exact⟨hl,xs,h1,by rw [<- h2]⟩
      .cases h
     obtain⟨hl,xs,hx,hx1⟩:=harr
     have hwx:∀ y∈xs,∀ k∈y.1.weights P e,k<=reachBytes:=fun y hy k hk=>hwt k (by
      rw [hx1]
      simp only [DataW.weights,hu]
      exact Zu0 (List.mem_map.2 ⟨y,hy,rfl⟩) hk)
     have:=Zaq9 (w:=w) (Q:=WT P D) (cs:=cs) (e:=e) (k:=P.cellsOf e) n 0 (by rw [hl];have:=(Z1 _ _).1 hp2;omega) (fun i hi=>by
      obtain⟨y,hy,hym⟩:=mapM_mem' hx i (by simpa using hi)
      rw [Nat.zero_add]
      exact Zzk D m e _ _ hy hp1 (hwx y hym))
     simpa using this
end
end Go.PW
