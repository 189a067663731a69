import Derived.Test.YtchddhcajpagjaaGreatPwLn
import Derived.MapKept
set_option linter.all false
namespace Go.PW
open Go.RowKit
def Zi9{α:Type}:List (Int×α)->Int->Option α
 | [],_=>none
 | (j,x)::r,n=>bif j==n then some x else Zi9 r n
def Zhl{α:Type}:List (Int×α)->Int->α->List (Int×α)
 | [],n,x=>[(n,x)]
 | (j,y)::r,n,x=>bif j==n then (j,x)::r else (j,y)::Zhl r n x
def mlk{α:Type}(m:List (Int×α))(n:Int)(z:α):α×Bool:=match Zi9 m n with | some x=>(x,true) | none=>(z,false)
theorem Zau2{α β:Type}(f:α->β)(n:Int):∀ m:List (Int×α),Zi9 (m.map fun p=>(p.1,f p.2)) n=(Zi9 m n).map f
 | []=>rfl
 | (j,x)::r=>by
  simp only [List.map_cons,Zi9]
  cases j==n with
  | true=>rfl
  | false=>simp only [cond_false];exact Zau2 f n r
theorem Zau3{α β:Type}(f:α->β)(n:Int)(x:α):∀ m:List (Int×α),(Zhl m n x).map (fun p=>(p.1,f p.2))=Zhl (m.map fun p=>(p.1,f p.2)) n (f x)
 | []=>rfl
 | (j,y)::r=>by
  simp only [List.map_cons,Zhl]
  cases j==n with
  | true=>rfl
  | false=>simp only [cond_false,List.map_cons];rw [Zau3 f n x r]
theorem Zbd7{α β:Type}(f:α->β)(m:List (Int×α))(n:Int)(z:α):mlk (m.map fun p=>(p.1,f p.2)) n (f z)=(f (mlk m n z).1,(mlk m n z).2):=by
 unfold mlk
 rw [Zau2]
 cases Zi9 m n<;>rfl
theorem Zau4{α:Type}{n:Int}{x:α}{p:Int×α}:∀ {m:List (Int×α)},p∈Zhl m n x->p∈m\/p.2=x
 | [],h=>by simp only [Zhl,List.mem_singleton] at h;subst h;exact .inr rfl
 | (j,y)::r,h=>by
  simp only [Zhl] at h
  cases hb:j==n with
  | true=>
   simp only [hb,cond_true,List.mem_cons] at h
   rcases h with h | h
   .subst h;exact .inr rfl
   .exact .inl (List.mem_cons_of_mem _ h)
  | false=>
   simp only [hb,cond_false,List.mem_cons] at h
   rcases h with h | h
   .subst h;exact .inl (by simp)
   .rcases Zau4 h with h | h
    .exact .inl (List.mem_cons_of_mem _ h)
    .exact .inr h
theorem Zhb.length{c:Ctx}{ag:Bool}:∀ {es:List MapEntry} {xs:List (Int×List Zf)},Zhb c ag es xs->es.length=xs.length
 | [],_,h=>by rw [show _=_ from h];rfl
 | e::es,xs,h=>by
  obtain⟨n,ts,r,rfl,_,_,h⟩:=h
  simp [Zhb.length h]
theorem Zhb.find{c:Ctx}{ag:Bool}{n:Int}:∀ {es:List MapEntry} {xs:List (Int×List Zf)} (i:Nat),Zhb c ag es xs ->
 (Zi9 xs n=none/\Instr.findNow (.int .i64) (.int .i64 n) es i=some none/\∀ e:MapEntry,e.key = .int .i64 n->∀ ts,VR c (mvP ag ts) e.val->Zhb c ag (es++[e]) (Zhl xs n ts)) \/
 ∃ ts j e,Zi9 xs n=some ts/\Instr.findNow (.int .i64) (.int .i64 n) es i=some (some (i+j,e.val))/\es[j]?=some e/\e.key = .int .i64 n/\VR c (mvP ag ts) e.val /\
  ∀ (g:MapEntry->MapEntry),(∀ x,x.key = .int .i64 n->(g x).key = .int .i64 n)->∀ ts',(∀ x,VR c (mvP ag ts') (g x).val)->Zhb c ag (es.modify j g) (Zhl xs n ts')
 | [],xs,i,h=>by
  rw [show xs=[] from h]
  exact .inl ⟨rfl,rfl,fun e he ts hv=>⟨n,ts,[],rfl,he,hv,rfl⟩⟩
 | e::es,xs,i,h=>by
  obtain⟨m,ts,r,rfl,hk,hv,h⟩:=h
  by_cases hmn:m=n
  .subst hmn
   refine .inr ⟨ts,0,e,by simp [Zi9],by simp [Instr.findNow,Instr.sameNow,hk],rfl,hk,hv,fun g hg ts' hv'=>?_⟩
   simp only [List.modify_zero_cons,Zhl,beq_self_eq_true,cond_true]
   exact⟨m,ts',r,rfl,hg e hk,hv' e,h⟩
  .have hb:(m==n)=false:=by simpa using hmn
   have hs:Instr.findNow (.int .i64) (.int .i64 n) (e::es) i=Instr.findNow (.int .i64) (.int .i64 n) es (i+1):=by
    simp only [Instr.findNow,hk,Instr.sameNow,if_true]
    rw [show (n==m)=false by simpa using fun e=>hmn e.symm]
   rcases Zhb.find (n:=n) (i+1) h with ⟨h1,h2,h3⟩ | ⟨ts2,j,e2,h1,h2,h3,h4,h5,h6⟩
   .refine .inl ⟨by simp only [Zi9,hb,cond_false];exact h1,hs.trans h2,fun e' he' ts' hv'=>?_⟩
    simp only [Zhl,hb,cond_false,List.cons_append]
    exact⟨m,ts,_,rfl,hk,hv,h3 e' he' ts' hv'⟩
   .refine .inr ⟨ts2,j+1,e2,by simp only [Zi9,hb,cond_false];exact h1,?_,by simpa using h3,h4,h5,fun g hg ts' hv'=>?_⟩
    .rw [hs,h2];congr 3;omega
    .simp only [Zhl,hb,cond_false,List.modify_succ_cons]
     exact⟨m,ts,_,rfl,hk,hv,h6 g hg ts' hv'⟩
def Zad9(P:Program)(ag:Bool)(e:TypeId):Option (List Zf):=
 match (P.info? e).bind (·.zero),ag with
 | some (.agg cs),true=>(cs.toList.mapM Zlg).bind Zeb
 | some (.agg _),false=>none
 | some v,false=>([v].mapM Zlg).bind Zeb
 | _,_=>none
theorem Za9s{P:Program}{ag:Bool}{e:TypeId}{ts:List Zf}(h:Zad9 P ag e=some ts){c:Ctx}(w:World):∃ v,(zeroValue e).run P w = .ok v w/\VR c (mvP ag ts) v:=by
 have key:∀ v,(P.info? e).bind (·.zero)=some v->(zeroValue e).run P w = .ok v w:=fun v hv=>by
  obtain⟨i,h1,h2⟩:=Option.bind_eq_some_iff.1 hv
  simp [zeroValue,typeInfo,h1,h2]
 unfold Zad9 at h
 split at h
 .rename_i cs hz
  obtain⟨ps,h1,h2⟩:=Option.bind_eq_some_iff.1 h
  refine⟨_,key _ hz,?_⟩
  simp only [mvP,cond_true,VR]
  exact⟨cs.toList,by simp,Zoj h2 (Zhk h1)⟩
 .cases h
 .rename_i v hna hz
  obtain⟨ps,h1,h2⟩:=Option.bind_eq_some_iff.1 h
  have hv:=Zoj h2 (Zhk (c:=c) h1)
  refine⟨v,key _ hz,?_⟩
  have hl:=hv.length
  match ts,hl with
  | [t],_=>
   simp only [List.map_cons,List.map_nil,VRs] at hv
   obtain⟨u,rest,e1,e2,rfl⟩:=hv
   cases e1
   simp only [mvP,cond_false]
   exact e2
 .cases h
section
variable {P:Program} {o:Oper} {ρ:List (Nat×PV)} {σ0:List (Nat×Blk)}
theorem Za6f{t:TypeId}(ag:Bool)(L:Nat)(ho:o.op = .makeMap t none):OpF P o ρ σ0 [] [] (.own L .map) [(L,.map ag [])]:=
 opFn fun G β n tm Z A w hop hnd hfr hr=>by
  obtain⟨hf1,hf2⟩:=hfr L (.map ag []) (by simp) (by simp)
  have habs:=Zj9 hr (w.alloc (.map #[] 0)) (some w.heap.size) L (.map ag []) [] (by simp) rfl rfl rfl (by simp)
   (fun b hb _=>Zap w _ b hb) (fun c hc=>?_) (.inr ⟨hf1,fun m y hy=>(hf2 m y hy).2⟩) (fun _=>⟨w.heap.size,#[],0,Zau _ _ _,heap_alloc_new w _,rfl⟩)
  .refine⟨.map (some w.heap.size),w.alloc (.map #[] 0),?_,_,habs,?_⟩
   .have:(Instr.makeMap t none).run P w = .ok (.map (some w.heap.size)) (w.alloc (.map #[] 0)):=rfl
    simp only [execOp,ho,Option.map_none,Sem.run_bind,this,Result.andThen_ok,Sem.run_pure]
   .simp only [VR]
    exact⟨fun ag' es' hg'=>⟨w.heap.size,Zau _ _ _,rfl⟩,rfl⟩
  .have:=Zae.flat (o := .map ag []) trivial hc
   rw [Zau] at this;cases this
   exact .inl ⟨Nat.le_refl _,by simp⟩
theorem Zaea{G:Frm}{β:Nat->Option Nat}{n:Nat}{tm:List (Nat×PV)}{Z:List (Nat×Blk)}{a:Act}{w:World}(hr:Zan G β ⟨n,tm,Z⟩ a w){l:Nat}{ag:Bool}{es:List (Int×List Zf)}(hg:get Z l=some (.map ag es)){v:Value}(hv:VR (ctx G β w Z) (.own l .map) v) :
 ∃ b ents clock,β l=some b/\v = .map (some b)/\w.heap[b]?=some (.map ents clock)/\Zhb (ctx G β w Z) ag ents.toList es:=by
 simp only [VR] at hv
 obtain⟨b,hb,rfl⟩:=hv.1 ag es hg
 obtain⟨b',ents,clock,hb',hm,he⟩:=hr.blk l _ hg
 have:b'=b:=by have:=hb'.symm.trans hb;simpa using this
 subst this
 exact⟨b',ents,clock,hb,rfl,hm,he⟩
variable {Z:List (Nat×Blk)}
theorem Zafj{t k e:TypeId}(ht:P.underlying t=some (.map k e))(hk:P.underlying k=some (.int .i64)){ag:Bool}{zs:List Zf}(hz:Zad9 P ag e=some zs){c:Ctx}(w:World){b clock:Nat}{ents:Array MapEntry}(hm:w.heap[b]?=some (.map ents clock)){es:List (Int×List Zf)}(he:Zhb c ag ents.toList es)(n:Int)(ok:Bool) :
 ∃ v,(Instr.lookup t (.map (some b)) (.int .i64 n) ok).run P w = .ok (if ok then .tuple #[v,.bool (mlk es n zs).2] else v) w/\VR c (mvP ag (mlk es n zs).1) v:=by
 have hkey:MapKept.IsKey (.int .i64) (.int .i64 n):=rfl
 rcases he.find (n:=n) 0 with ⟨h1,h2,_⟩ | ⟨ts,j,e2,h1,h2,h3,h4,h5,_⟩
 .obtain⟨z,hz1,hz2⟩:=Za9s (c:=c) hz w
  refine⟨z,?_,by simp only [mlk,h1];exact hz2⟩
  simp only [Instr.lookup,Sem.run_bind,run_underlying ht,Result.andThen_ok,MapKept.run_getObj_map hm,Sem.run_pure,MapKept.run_checkKey hk hkey,MapKept.run_findKey hk h2,hz1,mlk,h1]
 .refine⟨e2.val,?_,by simp only [mlk,h1];exact h5⟩
  simp only [Instr.lookup,Sem.run_bind,run_underlying ht,Result.andThen_ok,MapKept.run_getObj_map hm,Sem.run_pure,MapKept.run_checkKey hk hkey,MapKept.run_findKey hk h2,mlk,h1]
theorem Za6g{t k e:TypeId}{x y:Operand}{l:Nat}{ag:Bool}{es:List (Int×List Zf)}{zs:List Zf}{n:Int}(ho:o.op = .lookup t x y true)(ht:P.underlying t=some (.map k e))(hk:P.underlying k=some (.int .i64))(hz:Zad9 P ag e=some zs)
 (hx:Zp ρ x=some (.own l .map)) (hy:Zp ρ y=some (.t (.int .i64 n))) (hg0:get σ0 l=some (.map ag es)):OpF P o ρ σ0 [l] [] (.tup [mvP ag (mlk es n zs).1,.t (.bool (mlk es n zs).2)]) []:=
 opFn fun G β n' tm Z A w hop hnd hfr hr=>by
  have hg:get Z l=some (.map ag es):=(hnd l (by simp)).trans hg0
  have e1:=hop x _ (by simp [ho,Op.operands]) hx
  have e2:=hop y _ (by simp [ho,Op.operands]) hy
  simp only [VR,Z0] at e2
  obtain⟨b,ents,clock,hb,hv,hm,he⟩:=Zaea hr hg e1
  obtain⟨v,h1,h2⟩:=Zafj ht hk hz w hm he n true
  refine⟨.tuple #[v,.bool (mlk es n zs).2],w,?_,β,hr,?_⟩
  .simp only [execOp,ho,hv,e2,Sem.run_bind,h1,Result.andThen_ok,Sem.run_pure,if_true]
  .simp only [VR,VRs]
   exact⟨[v,.bool (mlk es n zs).2],rfl,v,_,rfl,h2,_,_,rfl,rfl,rfl⟩
theorem Za6h{t k e:TypeId}{x y:Operand}{l:Nat}{ag:Bool}{es:List (Int×List Zf)}{zs:List Zf}{n:Int}(ho:o.op = .lookup t x y false)(ht:P.underlying t=some (.map k e))(hk:P.underlying k=some (.int .i64))(hz:Zad9 P ag e=some zs)
 (hx:Zp ρ x=some (.own l .map)) (hy:Zp ρ y=some (.t (.int .i64 n))) (hg0:get σ0 l=some (.map ag es)):OpF P o ρ σ0 [l] [] (mvP ag (mlk es n zs).1) []:=
 opFn fun G β n' tm Z A w hop hnd hfr hr=>by
  have hg:get Z l=some (.map ag es):=(hnd l (by simp)).trans hg0
  have e1:=hop x _ (by simp [ho,Op.operands]) hx
  have e2:=hop y _ (by simp [ho,Op.operands]) hy
  simp only [VR,Z0] at e2
  obtain⟨b,ents,clock,hb,hv,hm,he⟩:=Zaea hr hg e1
  obtain⟨v,h1,h2⟩:=Zafj ht hk hz w hm he n false
  refine⟨v,w,?_,β,hr,h2⟩
  simp only [execOp,ho,hv,e2,Sem.run_bind,h1,Result.andThen_ok,Sem.run_pure]
  rfl
theorem Zbgc{t:TypeId}{k e:TypeId}{x:Operand}{l:Nat}{ag:Bool}{es:List (Int×List Zf)}(ho:o.op = .call { callee := .builtin .len,args := #[x],argTypes := #[t] })(ht:P.underlying t=some (.map k e))
 (hx:Zp ρ x=some (.own l .map)) (hg0:get σ0 l=some (.map ag es)):OpF P o ρ σ0 [l] [] (.t (.int .i64 es.length)) []:=
 opFn fun G β n' tm Z A w hop hnd hfr hr=>by
  have hg:get Z l=some (.map ag es):=(hnd l (by simp)).trans hg0
  have e1:=hop x _ (by simp [ho,Op.operands,Call.operands]) hx
  obtain⟨b,ents,clock,hb,hv,hm,he⟩:=Zaea hr hg e1
  refine⟨.int .i64 es.length,w,?_,β,hr,by simp only [VR,Z0]⟩
  have hl:(Builtin.len_ #[t] o.type #[.map (some b)]).run P w = .ok (.int .i64 es.length) w:=by
   rw [<- he.length]
   simp [Builtin.len_,run_underlying ht,MapKept.run_getObj_map hm,goInt]
  simp only [execOp,ho,resolve,invoke,builtin,Sem.run_bind,Sem.run_pure,Result.andThen_ok,List.map_toArray,List.map_cons,List.map_nil,hv,hl]
end
section
variable {P:Program} {o:Oper} {n:Nat} {tm:List (Nat×PV)} {Z:List (Nat×Blk)}
theorem Zau5{t k e:TypeId}{x y z:Operand}{l:Nat}{ag:Bool}{es:List (Int×List Zf)}{i:Int}{p:PV}{ts:List Zf}(ho:o.op = .mapUpdate t x y z)(hd:o.dst=none)(ht:P.underlying t=some (.map k e))(hk:P.underlying k=some (.int .i64))
 (hx:Zp tm x=some (.own l .map)) (hy:Zp tm y=some (.t (.int .i64 i))) (hz:Zp tm z=some p) (hp:p=mvP ag ts) (hg:get Z l=some (.map ag es)):Zxt P o ⟨n,tm,Z⟩ ⟨n,tm,put Z l (.map ag (Zhl es i ts))⟩:=
 opup fun G β A w hop hr=>by
  subst hp
  have e1:=hop x _ hx
  have e2:=hop y _ hy
  have e3:=hop z _ hz
  simp only [VR,Z0] at e2
  obtain⟨b,ents,clock,hb,hv,hm,he⟩:=Zaea hr hg e1
  have hkey:MapKept.IsKey (.int .i64) (.int .i64 i):=rfl
  have main:∀ ents' clock',(∀ c':Ctx,(∀ q,(ctx G β w Z).I q->c'.I q/\c'.w.heap[q]?=(ctx G β w Z).w.heap[q]?)->Zhb c' ag ents'.toList (Zhl es i ts)) ->
   (Instr.mapUpdate t (.map (some b)) (.int .i64 i) (A.eval z)).run P w = .ok () { w with heap:=w.heap.setIfInBounds b (.map ents' clock') } ->
   ∃ v w',((execOp A.eval o).run P w = .ok (.value v) w'\/((execOp A.eval o).run P w = .ok .skip w'/\v=undef))/\∃ β',Zan G β' ⟨n,tm,put Z l (.map ag (Zhl es i ts))⟩ (A.put o.dst v) w':=by
   intro ents' clock' hE hrun
   obtain⟨hs1,hs2⟩:=MapKept.heap_set (o':=Obj.map ents' clock') hm
   have habs:=Zj9 hr { w with heap:=w.heap.setIfInBounds b (.map ents' clock') } (some b) l (.map ag (Zhl es i ts)) [l] (by simp) rfl rfl rfl (by simp)
    (fun b2 _ hn=>hs2 b2 (fun e=>hn l _ (by simp) hg (by rw [e];exact .inl hb))) (fun c hc => .inr ⟨l,_,by simp,hg,?_⟩) (.inl ?_) (fun hI=>⟨b,ents',clock',Zau _ _ _,hs1,hE _ (fun q hq=>hI q hq)⟩)
   .refine⟨undef,{ w with heap:=w.heap.setIfInBounds b (.map ents' clock') },.inr ⟨?_,rfl⟩,Zeg β l (some b),?_⟩
    .simp only [execOp,ho,hv,e2,Sem.run_bind,hrun,Result.andThen_ok,Sem.run_pure]
    .rw [hd];exact habs
   .have:=Zae.flat (o := .map ag _) trivial hc
    rw [Zau] at this;cases this
    exact .inl hb
   .have hgs:get (ctx G (Zeg β l (some b)) { w with heap:=w.heap.setIfInBounds b (.map ents' clock') } ((l,.map ag (Zhl es i ts))::Zbo [l] Z)).Z l=some (.map ag (Zhl es i ts)):=by simp [ctx,PW.get]
    refine⟨fun k' es' h=>?_,fun cs' h=>?_,fun k' q' es' h=>?_,fun k' es' h=>?_,fun k' i' es' cs' h=>?_⟩
    .rw [hgs] at h;cases h
    .rw [hgs] at h;cases h
    .rw [hgs] at h;cases h
    .rw [hgs] at h;cases h
     exact⟨es,hg,by show Zeg β l (some b) l=β l;rw [Zau];exact hb.symm⟩
    .rw [hgs] at h;cases h
  rcases he.find (n:=i) 0 with ⟨h1,h2,h3⟩ | ⟨ts0,j,e2',h1,h2,h3,h4,h5,h6⟩
  .refine main (ents.push { key := .int .i64 i,val:=A.eval z,born:=clock }) (clock+1) (fun c' hI=>?_) ?_
   .rw [Array.toList_push]
    exact Zhb.step hI (h3 _ rfl ts e3)
   .simp only [Instr.mapUpdate,Sem.run_bind,run_underlying ht,Result.andThen_ok,MapKept.run_getObj_map hm,MapKept.run_checkKey hk hkey,MapKept.run_findKey hk h2,MapKept.run_setObj_map _ hm]
  .refine main (ents.modify j fun x=>{ x with key := .int .i64 i,val:=A.eval z }) clock (fun c' hI=>?_) ?_
   .rw [Array.toList_modify]
    exact Zhb.step hI (h6 _ (fun _ _=>rfl) ts (fun _=>e3))
   .have hej:((ents[j]?).map (·.key)).getD (.int .i64 i) = .int .i64 i:=by
     rw [<- Array.getElem?_toList,h3,Option.map_some,Option.getD_some,h4]
    rw [Nat.zero_add] at h2
    simp only [Instr.mapUpdate,Sem.run_bind,run_underlying ht,Result.andThen_ok,MapKept.run_getObj_map hm,MapKept.run_checkKey hk hkey,MapKept.run_findKey hk h2,hej,MapKept.run_keyThatStays hkey,MapKept.run_setObj_map _ hm]
end
end Go.PW
