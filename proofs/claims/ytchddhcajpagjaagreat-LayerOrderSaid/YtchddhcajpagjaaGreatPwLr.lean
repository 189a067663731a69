import Derived.Test.YtchddhcajpagjaaGreatPwLq
import Derived.Shelf.Spec.SlicesInsertGrow
set_option linter.all false
open Go Go.Proofs
namespace Go.PW
structure Z4o (P:Program) (f:FuncId) (e:TypeId) (z:Value) (bytes:Nat):Prop where
 ok:FnOk P f
 zc:z.cells.size=1
 fits:∀ {n:Nat},n*bytes<=140737488355328->n<=140737488355328
 shift:∀ (b n c i vb vc:Nat) (cs:List Value) (v:Value) (w:World),i < n->n+1<=c->c<=9223372036854775807->vb≠b->cs.length=n ->
  (∀ j u,cs[j]?=some u->w.cell? ⟨b,j,none⟩=some u)->(∀ j,j < n+1->(w.cell? ⟨b,j,none⟩).isSome=true)->(∀ j,j < n+1->w.frozen? ⟨b,j,none⟩=false)->w.cell? ⟨vb,0,none⟩=some v->(∀ u∈cs,u.oneCell'=true)->v.oneCell'=true ->
  ∀ (tA tB:TypeId) (kA kB:Nat),w.shape? vb=some (tA,kA)->w.shape? b=some (tB,kB)->kB≠0->w.frozen? ⟨vb,0,none⟩=false->w.frozen? ⟨vb,kA,none⟩=false ->
  Calls P f #[.slice (some ⟨b,0,none⟩) n c,.int .i64 i,.slice (some ⟨vb,0,none⟩) 1 vc] w fun x w'=>x = .returned (.slice (some ⟨b,0,none⟩) (n+1) c)/\w'=(w.drew.setCells b (i+1) (cs.drop i)).setCells b i [v]
 room:∀ (b n c vb vc:Nat) (v:Value) (w:World),n+1<=c->c<=9223372036854775807->(w.cell? ⟨b,n,none⟩).isSome=true->w.frozen? ⟨b,n,none⟩=false->w.cell? ⟨vb,0,none⟩=some v->v.oneCell'=true ->
  Calls P f #[.slice (some ⟨b,0,none⟩) n c,.int .i64 n,.slice (some ⟨vb,0,none⟩) 1 vc] w fun x w'=>x = .returned (.slice (some ⟨b,0,none⟩) (n+1) c)/\w'=w.setCells b n [v]
 egrow:∀ (base:Option Addr) (n c vb vc:Nat) (cs:List Value) (v:Value) (w:World),n<=c->c < n+1->(n+1)*bytes<=140737488355328->cs.length=n->(base=none->n=0) ->
  (∀ a,base=some a->∀ j u,cs[j]?=some u->w.cell? (a.add j)=some u)->w.cell? ⟨vb,0,none⟩=some v->v.oneCell'=true ->
  Calls P f #[.slice base n c,.int .i64 n,.slice (some ⟨vb,0,none⟩) 1 vc] w fun x w'=>x = .returned (.slice (some ⟨w.heap.size,0,none⟩) (n+1) (grownCap w (n+1) c e)) /\
   w'=w.drew.alloc (.cells ((cs++[v]).toArray++Builtin.zeroCells z.cells (grownCap w (n+1) c e - (n+1))) e)
 grow:∀ (b n c i vb vc:Nat) (cs:List Value) (v:Value) (w:World),i < n->n<=c->c < n+1->(n+1)*bytes<=140737488355328->cs.length=n ->
  (∀ j u,cs[j]?=some u->w.cell? ⟨b,j,none⟩=some u)->w.cell? ⟨vb,0,none⟩=some v->(∀ u∈cs,u.oneCell'=true)->v.oneCell'=true ->
  Calls P f #[.slice (some ⟨b,0,none⟩) n c,.int .i64 i,.slice (some ⟨vb,0,none⟩) 1 vc] w fun x w'=>x = .returned (.slice (some ⟨w.heap.size,0,none⟩) (n+1) (grownCap w (n+1) c e)) /\
   w'=(((w.alloc (.cells ((cs.take i).toArray++Builtin.zeroCells z.cells (n+1 - i)++Builtin.zeroCells z.cells (grownCap w (n+1) c e - (n+1))) e)).drew.setCells w.heap.size i [v]).drew).setCells w.heap.size (i+1) (cs.drop i)
theorem Zwc{w:World}{vb:Nat}{v:Value}(h:w.cell? ⟨vb,0,none⟩=some v):∀ j u,[v][j]?=some u->w.cell? ⟨vb,0+j,none⟩=some u:=fun j u hj=>by
 cases j with
 | zero=>simp at hj;subst hj;exact h
 | succ j=>simp at hj
theorem Zwd{v:Value}(h:v.oneCell'=true):∀ u∈[v],u.oneCell'=true:=fun u hu=>by rw [List.mem_singleton] at hu;rw [hu];exact h
theorem Z4o.str{P:Program}{ρ:Go.Shelf.Ren}(L:Lays2.n22 P ρ):Z4o P (ρ.f 22) (ρ.t 9) (.string ⟨#[]⟩) 16 where
 ok:=⟨_,_,L.f22,rfl,by kernel_rfl⟩
 zc:=rfl
 fits:=fun h=>by omega
 shift:=fun b n c i vb vc cs v w h1 h2 h3 h4 h5 h6 h7 h8 h9 h10 h11 tA tB kA kB h12 h13 h14 h15 h16=>by
  have:=Any2.slices_Insert_string_shift L b 0 n c i vb 0 1 vc cs [v] w h1 Nat.one_pos h2 h3 h4 h5 rfl (by simpa only [Nat.zero_add] using h6) (by simpa only [Nat.zero_add] using h7) (by simpa only [Nat.zero_add] using h8) (Zwc h9) h10 (Zwd h11) tA tB kA kB h12 h13 h14 h15 h16
  simpa only [Nat.zero_add] using this
 room:=fun b n c vb vc v w h1 h2 h3 h4 h5 h6=>by
  have:=Any2.slices_Insert_string_end_room L b 0 n c vb 0 1 vc [v] w Nat.one_pos h1 h2 rfl (fun j hj=>by rw [show 0+n+j=n by omega];exact h3) (fun j hj=>by rw [show 0+n+j=n by omega];exact h4) (Zwc h5) (Zwd h6)
  simpa only [Nat.zero_add] using this
 egrow:=fun base n c vb vc cs v w h1 h2 h3 h4 h5 h6 h7 h8=>Any2.slices_Insert_string_end_grow L base n c vb 0 1 vc cs [v] w Nat.one_pos h1 h2 h3 h4 rfl h5 h6 (Zwc h7) (Zwd h8)
 grow:=fun b n c i vb vc cs v w h1 h2 h3 h4 h5 h6 h7 h8 h9=>Any2.slices_Insert_string_grow L b 0 n c i vb 0 1 vc cs [v] w h1 Nat.one_pos h2 h3 h4 h5 rfl (by simpa only [Nat.zero_add] using h6) (Zwc h7) h8 (Zwd h9)
theorem Z4o.int{P:Program}{ρ:Go.Shelf.Ren}(L:Lays2.n21 P ρ):Z4o P (ρ.f 21) (ρ.t 3) (.int .i64 0) 8 where
 ok:=⟨_,_,L.f21,rfl,by kernel_rfl⟩
 zc:=rfl
 fits:=fun h=>by omega
 shift:=fun b n c i vb vc cs v w h1 h2 h3 h4 h5 h6 h7 h8 h9 h10 h11 tA tB kA kB h12 h13 h14 h15 h16=>by
  have:=Any2.slices_Insert_int_shift L b 0 n c i vb 0 1 vc cs [v] w h1 Nat.one_pos h2 h3 h4 h5 rfl (by simpa only [Nat.zero_add] using h6) (by simpa only [Nat.zero_add] using h7) (by simpa only [Nat.zero_add] using h8) (Zwc h9) h10 (Zwd h11) tA tB kA kB h12 h13 h14 h15 h16
  simpa only [Nat.zero_add] using this
 room:=fun b n c vb vc v w h1 h2 h3 h4 h5 h6=>by
  have:=Any2.slices_Insert_int_end_room L b 0 n c vb 0 1 vc [v] w Nat.one_pos h1 h2 rfl (fun j hj=>by rw [show 0+n+j=n by omega];exact h3) (fun j hj=>by rw [show 0+n+j=n by omega];exact h4) (Zwc h5) (Zwd h6)
  simpa only [Nat.zero_add] using this
 egrow:=fun base n c vb vc cs v w h1 h2 h3 h4 h5 h6 h7 h8=>Any2.slices_Insert_int_end_grow L base n c vb 0 1 vc cs [v] w Nat.one_pos h1 h2 h3 h4 rfl h5 h6 (Zwc h7) (Zwd h8)
 grow:=fun b n c i vb vc cs v w h1 h2 h3 h4 h5 h6 h7 h8 h9=>Any2.slices_Insert_int_grow L b 0 n c i vb 0 1 vc cs [v] w h1 Nat.one_pos h2 h3 h4 h5 rfl (by simpa only [Nat.zero_add] using h6) (Zwc h7) h8 (Zwd h9)
theorem Za1d:∀ (es:List (List Zf)),(∀ el,el∈es->el.length=1)->∃ ts:List Zf,es=ts.map fun t=>[t]
 | [],_=>⟨[],rfl⟩
 | el::es,h=>by
  obtain⟨ts,rfl⟩:=Za1d es (fun x hx=>h x (List.mem_cons_of_mem _ hx))
  have h1:=h el (by simp)
  match el,h1 with
  | [t],_=>exact⟨t::ts,rfl⟩
theorem Z2i:∀ (ts:List Zf),(ts.map fun t=>[t]).flatten=ts
 | []=>rfl
 | t::ts=>by simp [Z2i ts]
theorem Za9x{es:List (List Zf)}(h:∀ el,el∈es->el.length=1)(i:Nat)(x:Zf):(es.take i++[x]::es.drop i).flatten=es.flatten.take i++x::es.flatten.drop i:=by
 obtain⟨ts,rfl⟩:=Za1d es h
 rw [Z2i,List.flatten_append,List.flatten_cons,<- List.map_take,<- List.map_drop,Z2i,Z2i]
 rfl
abbrev Zqe(es:List (List Zf))(x:Zf):List (Nat×Blk):=[(0,.row 1 es),(1,.row 1 [[x]])]
abbrev insA(es:List (List Zf))(i:Nat):List PV:=[.osl 0 es.length,.t (.int .i64 i),.osl 1 1]
abbrev Z4p(es:List (List Zf))(i:Nat)(x:Zf):List (List Zf):=es.take i++[x]::es.drop i
theorem Zaeb{A:Nat->Prop}{β:Nat->Option Nat}{w w':World}{es:List (List Zf)}{i:Nat}{x:Zf}{a:Act}(hr:Zan (Zbr β (Zqe es x) A w) β ⟨3,idx 0 (insA es i),Zqe es x⟩ a w)
 {cs:List Value} {v:Value} (hcs:VRs (ctx (Zbr β (Zqe es x) A w) β w (Zqe es x)) (es.flatten.map .t) cs) (hv:VRs (ctx (Zbr β (Zqe es x) A w) β w (Zqe es x)) [.t x] [v]) (h1:∀ el,el∈es->el.length=1)
 {bN mN capN:Nat} (hsz:w.heap.size<=w'.heap.size) (hos:w'.os=w.os) (htp:w'.tape=w.tape) (hout:w'.output=w.output) (hheap:∀ d,d < w.heap.size->β 0≠some d->w'.heap[d]?=w.heap[d]?)
 (hbN:(w.heap.size<=bN/\bN < w'.heap.size)\/β 0=some bN) (hrow:Za4 w' bN mN) (hcap:es.length+1<=capN) (hcm:capN<=mN) (hmax:capN<=maxLen)
 (hcells:∀ j u,(cs.take i++v::cs.drop i)[j]?=some u->w'.cell? ⟨bN,j,none⟩=some u) (hi:i<=es.length) {r:Value} (hr0:r = .slice (some ⟨bN,0,none⟩) (es.length+1) capN) :
 ∃ β',Zan (Zbr β (Zqe es x) A w) β' ⟨1,[(0,.osl 5000 (es.length+1))],[(5000,.row 1 (Z4p es i x))]⟩ ⟨#[r],[]⟩ w':=by
 have hlen:(Z4p es i x).length=es.length+1:=by simp [Z4p];omega
 have habs:=Zj9 hr w' (some bN) 5000 (.row 1 (Z4p es i x)) [0,1] hsz hos htp hout ⟨by simp,.inl O⟩ (fun b' hb' hn=>hheap b' hb' (fun e=>hn 0 _ (by simp) rfl (.inl e))) (fun c hc=>?_) (.inr ⟨fun j q h=>?_,fun m y h=>?_⟩) (fun hI=>?_)
 .have hd:Zbo [0,1] (Zqe es x)=[]:=rfl
  rw [hd] at habs
  refine⟨_,{ defers:=rfl,sz:=by simp,base:=habs.base,os:=habs.os,tape:=habs.tape,output:=habs.output,old:=habs.old,A:=habs.A,gl:=habs.gl,inj:=habs.inj,sep:=habs.sep,fix:=habs.fix,row0:=habs.row0,blk:=habs.blk,tm:=fun j p hp=>?_ }⟩
  match j,hp with
  | 0,hp=>
   simp only [PW.get,Nat.beq,cond_true,Option.some.injEq] at hp
   subst hp
   subst hr0
   refine⟨Nat.zero_lt_one,?_⟩
   simp only [VR]
   refine⟨fun k es' hg'=>?_,_,_,_,rfl⟩
   have:some (Blk.row k es')=some (.row 1 (Z4p es i x)):=Eq.trans (Eq.symm hg') (by simp [ctx,PW.get])
   cases this
   exact⟨by omega,fun _=>⟨_,capN,rfl,hcap,hmax,.inr ⟨bN,mN,rfl,Zau β 5000 (some bN),hrow,by omega⟩⟩⟩
  | j+1,hp=>have h:(none:Option PV)=some p:=hp;cases h
 .have h:=Zae.flat (by simp [Blk.flat]) hc
  rw [Zau] at h
  cases h
  rcases hbN with h | h
  .exact .inl h
  .exact .inr ⟨0,_,by simp,rfl,.inl h⟩
 .rw [Zzy] at h
  match j,h with
  | 0,h=>simp at h;subst h;rfl
  | 1,h=>simp at h;subst h;rfl
  | 2,h=>simp at h;subst h;rfl
  | j+3,h=>simp at h
 .match m,h with
  | 0,h=>have h:some (Blk.row 1 es)=some y:=h;cases h;rfl
  | 1,h=>have h:some (Blk.row 1 [[x]])=some y:=h;cases h;rfl
  | m+2,h=>have h:(none:Option Blk)=some y:=h;cases h
 .have hv':=VRs.step hI _ _ (fun m hm=>by rw [Zh3] at hm;cases hm) hcs
  have hx':=VRs.step hI _ _ (fun m hm=>by simp [PV.hasAny,PV.has] at hm) hv
  have hall:=(VRs.take i hv').append (hx'.append (VRs.drop i hv'))
  refine⟨Nat.zero_lt_one,fun el hel=>?_,.inr ⟨bN,mN,Zau β 5000 (some bN),hrow,by omega,Zr.flat.2 ?_⟩⟩
  .simp only [Z4p,List.mem_append,List.mem_cons] at hel
   rcases hel with h | rfl | h
   .exact h1 el (List.mem_of_mem_take h)
   .rfl
   .exact h1 el (List.mem_of_mem_drop h)
  .rw [Za9x h1]
   refine Zdx (vs:=cs.take i++v::cs.drop i) (off:=0) ?_ (fun j u hj=>by rw [Nat.zero_add];exact hcells j u hj)
   simpa only [List.map_append,List.map_cons,List.map_take,List.map_drop,List.singleton_append] using hall
theorem Zavc{cs:List Value}{v:Value}{i:Nat}(hi:i<=cs.length)(j:Nat)(u:Value)(h:(cs.take i++v::cs.drop i)[j]?=some u):(j < i/\cs[j]?=some u)\/(j=i/\u=v)\/(i < j/\cs[j - 1]?=some u):=by
 rcases Nat.lt_trichotomy j i with h1 | h1 | h1
 .rw [List.getElem?_append_left (by simp;omega),List.getElem?_take,if_pos h1] at h
  exact .inl ⟨h1,h⟩
 .rw [List.getElem?_append_right (by simp;omega),List.length_take,show j - min i cs.length=0 by omega] at h
  simp at h
  exact .inr (.inl ⟨h1,h.symm⟩)
 .rw [List.getElem?_append_right (by simp;omega),List.length_take,show j - min i cs.length=(j - i - 1)+1 by omega,List.getElem?_cons_succ,List.getElem?_drop,show i+(j - i - 1)=j - 1 by omega] at h
  exact .inr (.inr ⟨h1,h⟩)
theorem Z4o.fn{P:Program}{f:FuncId}{e:TypeId}{z:Value}{bytes:Nat}(R:Z4o P f e z bytes)(es:List (List Zf))(x:Zf)(i:Nat)(hi:i<=es.length)(hby:(es.length+1)*bytes<=140737488355328) :
 FnG P f (Zqe es x) (insA es i) [(5000,.row 1 (Z4p es i x))] (.osl 5000 (es.length+1)):=by
 refine⟨R.ok,fun A β w vals hl hr=>?_⟩
 obtain⟨v0,v1,v2,rfl⟩:∃ v0 v1 v2,vals=[v0,v1,v2]:=by
  match vals,hl with
  | [a,b,c],_=>exact⟨a,b,c,rfl⟩
 have h63:=R.fits hby
 have t0:=(hr.tm 0 (.osl 0 es.length) rfl).2
 have t1:=(hr.tm 1 (.t (.int .i64 i)) rfl).2
 have t2:=(hr.tm 2 (.osl 1 1) rfl).2
 have e0:(Act.tmps ⟨[v0,v1,v2].toArray,[]⟩).getD 0 undef=v0:=rfl
 have e1:(Act.tmps ⟨[v0,v1,v2].toArray,[]⟩).getD 1 undef=v1:=rfl
 have e2:(Act.tmps ⟨[v0,v1,v2].toArray,[]⟩).getD 2 undef=v2:=rfl
 rw [e0] at t0;rw [e1] at t1;rw [e2] at t2
 simp only [VR,Z0] at t0 t1 t2
 obtain⟨hk0,h1,hb0⟩:=hr.blk 0 (.row 1 es) rfl
 obtain⟨_,_,hb1⟩:=hr.blk 1 (.row 1 [[x]]) rfl
 obtain⟨a0,cap,hv0,hnc,hcm,hq0⟩:=(t0.1 1 es rfl).2 rfl
 obtain⟨a2,cap2,hv2,hnc2,_,hq2⟩:=(t2.1 1 [[x]] rfl).2 rfl
 rcases hb1 with ⟨_,h⟩ | ⟨vb,m2,hvb,hrow2,hm2,hel2⟩
 .cases h
 rcases hq2 with ⟨h,_⟩ | ⟨vb',m2',ha2,hvb',_,_⟩
 .omega
 have:vb'=vb:=by have:=hvb'.symm.trans hvb;simpa using this
 subst this;subst ha2
 obtain⟨xs,hxs,hxc⟩:=Zw.vals (c:=ctx (Zbr β (Zqe es x) A w) β w (Zqe es x)) (Zr.flat.1 hel2)
 obtain⟨v,rfl⟩:∃ v,xs=[v]:=by
  have:=hxs.length
  match xs,this with
  | [v],_=>exact⟨v,rfl⟩
 have hx0:w.cell? ⟨vb',0,none⟩=some v:=hxc 0 v rfl
 have hx1:v.oneCell'=true:=Z5z hxs rfl v (by simp)
 obtain⟨cs,hcs,hcc⟩:∃ cs,VRs (ctx (Zbr β (Zqe es x) A w) β w (Zqe es x)) (es.flatten.map .t) cs/\(es=[]\/∃ b m,β 0=some b/\Za4 w b m/\es.length<=m/\∀ j u,cs[j]?=some u->w.cell? ⟨b,j,none⟩=some u):=by
  rcases hb0 with ⟨_,rfl⟩ | ⟨b,m,hb,hrow,hm,hel⟩
  .exact⟨[],rfl,.inl rfl⟩
  .obtain⟨cs,h,hc⟩:=Zw.vals (c:=ctx (Zbr β (Zqe es x) A w) β w (Zqe es x)) (Zr.flat.1 hel)
   exact⟨cs,h,.inr ⟨b,m,hb,hrow,by omega,fun j u hj=>by have h:w.cell? ⟨b,0+j,none⟩=some u:=hc j u hj;rwa [Nat.zero_add] at h⟩⟩
 have hcl:cs.length=es.length:=by rw [hcs.length,List.length_map,Zcz h1,Nat.mul_one]
 have hc1:∀ u,u∈cs->u.oneCell'=true:=Z5z hcs (by rw [List.all_map];exact List.all_eq_true.2 fun _ _=>rfl)
 have hvals:([v0,v1,v2].toArray:Array Value) = #[.slice a0 es.length cap,.int .i64 i,.slice (some ⟨vb',0,none⟩) 1 cap2]:=by rw [hv0,t1,hv2]
 have hap:∀ b,β 0=some b->vb'≠b:=fun b hb hne=>by
  have:=hr.inj 0 1 (.row 1 es) (.row 1 [[x]]) vb' rfl rfl (.inl (by rw [hb,hne])) (.inl hvb)
  cases this
 have hbel:∀ b,β 0=some b->b < w.heap.size:=fun b hb=>(hr.sep 0 (.row 1 es) b rfl (.inl hb)).1
 have hcap63:cap<=9223372036854775807:=by unfold maxLen at hcm;omega
 have hrv:=hr
 rw [hvals]
 by_cases hroom:es.length+1<=cap
 .rcases hq0 with ⟨h,_⟩ | ⟨b,m,ha,hb,hrow,hcapm⟩
  .omega
  subst ha
  have hb:β 0=some b:=hb
  have hcb:∀ j u,cs[j]?=some u->w.cell? ⟨b,j,none⟩=some u:=by
   rcases hcc with rfl | ⟨b',_,hb',_,_,h⟩
   .intro j u hj
    have:cs=[]:=List.eq_nil_of_length_eq_zero hcl
    subst this;simp at hj
   .have:b'=b:=by have:=hb'.symm.trans hb;simpa using this
    subst this;exact h
  have hth:=Zj8 hrow (o:=0) (n:=m) O
  have hsp:∀ j,j < es.length+1->(w.cell? ⟨b,j,none⟩).isSome=true:=fun j hj=>by have h:(w.cell? ⟨b,0+j,none⟩).isSome=true:=(hth j O).1;rwa [Nat.zero_add] at h
  have hfz:∀ j,j < es.length+1->w.frozen? ⟨b,j,none⟩=false:=fun j hj=>by have h:w.frozen? ⟨b,0+j,none⟩=false:=(hth j O).2;rwa [Nat.zero_add] at h
  by_cases hin:i < es.length
  .obtain⟨c2,e2,fr2,g1,g2,g3⟩:=hrow2
   obtain⟨c3,e3,fr3,g4,g5,g6⟩:=hrow
   have g1:w.heap[vb']?=some (.cells c2 e2 fr2):=g1
   have g4:w.heap[b]?=some (.cells c3 e3 fr3):=g4
   have g3:fr2=(0,0):=g3.resolve_right id
   subst g3
   have hsa:w.shape? vb'=some (e2,m2):=by unfold World.shape?;rw [g1];simp [g2]
   have hsb:w.shape? b=some (e3,m):=by unfold World.shape?;rw [g4];simp [g5]
   have hfr:∀ q,w.frozen? ⟨vb',q,none⟩=false:=fun q=>by unfold World.frozen?;simp [g1]
   refine (R.shift b es.length cap i vb' cap2 cs v w hin hroom hcap63 (hap b hb) hcl hcb hsp hfz hx0 hc1 hx1 e2 e3 m2 m hsa hsb O (hfr 0) (hfr m2)).mono ?_
   rintro r w' ⟨rfl,rfl⟩
   refine⟨.slice (some ⟨b,0,none⟩) (es.length+1) cap,?_⟩
   have hst:∀ j,j < (cs.drop i).length->(w.drew.cell? ⟨b,(i+1)+j,none⟩).isSome=true:=fun j hj=>hsp _ (by rw [List.length_drop] at hj;omega)
   have hcells:∀ j u,(cs.take i++v::cs.drop i)[j]?=some u->((w.drew.setCells b (i+1) (cs.drop i)).setCells b i [v]).cell? ⟨b,j,none⟩=some u:=fun j u hj=>by
    rcases Zavc O j u hj with ⟨q1,q2⟩ | ⟨q1,q2⟩ | ⟨q1,q2⟩
    .rw [World.cell?_setCells_out b _ _ _ ⟨b,j,none⟩ (fun _ _ => .inl q1),World.cell?_setCells_out b _ _ _ ⟨b,j,none⟩ (fun _ _ => .inl (by show j < i+1;omega))]
     exact hcb j u q2
    .subst q1;subst q2
     have:=World.cell?_setCells_in b [u] j (w.drew.setCells b (j+1) (cs.drop j)) (fun k hk=>by
      have:k=0:=by simpa using hk
      subst this
      rw [World.cell?_setCells_out b _ _ _ _ (fun _ _ => .inl (by show j+0 < j+1;omega))]
      exact hsp _ O) 0 (by simp)
     simpa using this
    .rw [World.cell?_setCells_out b _ _ _ ⟨b,j,none⟩ (fun _ _ => .inr (by show i+1<=j;omega))]
     have hlt:=(List.getElem?_eq_some_iff.1 q2).1
     have:=World.cell?_setCells_in b (cs.drop i) (i+1) w.drew hst (j - (i+1)) (by rw [List.length_drop];omega)
     rw [show i+1+(j - (i+1))=j by omega] at this
     rw [this,<- q2,<- List.getElem?_eq_getElem,List.getElem?_drop,show i+(j - (i+1))=j - 1 by omega]
   obtain⟨β',h⟩:=Zaeb (w':=(w.drew.setCells b (i+1) (cs.drop i)).setCells b i [v]) (capN:=cap) (bN:=b) (mN:=m) hrv hcs hxs h1 (by rw [Zck,Zck];exact Nat.le_refl _)
    ((Za5 b [v] i _).1.trans (Za5 b (cs.drop i) (i+1) w.drew).1) ((Za5 b [v] i _).2.1.trans (Za5 b (cs.drop i) (i+1) w.drew).2.1) ((Za5 b [v] i _).2.2.trans (Za5 b (cs.drop i) (i+1) w.drew).2.2)
    (fun d _ hd=>by
     have hne:d≠b:=fun h=>hd (by rw [hb,h])
     rw [Za3 b _ _ _ d hne,Za3 b _ _ _ d hne];rfl)
    (.inr hb) (Za8 b _ _ _ (Za8 b _ _ w.drew ⟨c3,e3,fr3,g4,g5,g6⟩)) hroom O hcm hcells O rfl
   exact⟨β',rfl,h⟩
  .have hie:i=es.length:=by omega
   subst hie
   refine (R.room b es.length cap vb' cap2 v w hroom hcap63 (hsp _ O) (hfz _ O) hx0 hx1).mono ?_
   rintro r w' ⟨rfl,rfl⟩
   refine⟨.slice (some ⟨b,0,none⟩) (es.length+1) cap,?_⟩
   have hcells:∀ j u,(cs.take es.length++v::cs.drop es.length)[j]?=some u->(w.setCells b es.length [v]).cell? ⟨b,j,none⟩=some u:=fun j u hj=>by
    rcases Zavc O j u hj with ⟨q1,q2⟩ | ⟨q1,q2⟩ | ⟨q1,q2⟩
    .rw [World.cell?_setCells_out b _ _ _ ⟨b,j,none⟩ (fun _ _ => .inl q1)]
     exact hcb j u q2
    .subst q1;subst q2
     have:=World.cell?_setCells_in b [u] es.length w (fun k hk=>by
      have:k=0:=by simpa using hk
      subst this
      exact hsp _ O) 0 (by simp)
     simpa using this
    .have hlt:=(List.getElem?_eq_some_iff.1 q2).1
     omega
   obtain⟨β',h⟩:=Zaeb (w':=w.setCells b es.length [v]) (capN:=cap) (bN:=b) (mN:=m) hrv hcs hxs h1 (by rw [Zck];exact Nat.le_refl _)
    (Za5 b _ _ _).1 (Za5 b _ _ _).2.1 (Za5 b _ _ _).2.2
    (fun d _ hd=>Za3 b _ _ _ d (fun h=>hd (by rw [hb,h])))
    (.inr hb) (Za8 b _ _ _ hrow) hroom O hcm hcells O rfl
   exact⟨β',rfl,h⟩
 .have hlt:cap < es.length+1:=by omega
  have hge:=grownCap_ge w (es.length+1) cap e
  have hcmN:grownCap w (es.length+1) cap e<=maxLen:=grownCap_le_maxLen w (es.length+1) cap e (by simp only [maxLen];omega)
  by_cases hin:i < es.length
  .rcases hcc with rfl | ⟨b,m,hb,hrow,hm,hcb⟩
   .simp at hin
   rcases hq0 with ⟨h,_⟩ | ⟨b',m',ha,hb',_,_⟩
   .omega
   have:b'=b:=by have:=hb'.symm.trans hb;simpa using this
   subst this;subst ha
   refine (R.grow b' es.length cap i vb' cap2 cs v w hin hnc hlt hby hcl hcb hx0 hc1 hx1).mono ?_
   rintro r w' ⟨rfl,rfl⟩
   refine⟨.slice (some ⟨w.heap.size,0,none⟩) (es.length+1) (grownCap w (es.length+1) cap e),?_⟩
   generalize hG:grownCap w (es.length+1) cap e=G at hge hcmN ⊢
   generalize hROW:(cs.take i).toArray++Builtin.zeroCells z.cells (es.length+1 - i)++Builtin.zeroCells z.cells (G - (es.length+1))=ROW
   have hRs:ROW.size=G:=by
    rw [<- hROW]
    simp only [Array.size_append,List.size_toArray,List.length_take,size_zeroCells,R.zc]
    omega
   have hnew:∀ j,j < G->((w.alloc (.cells ROW e)).cell? ⟨w.heap.size,j,none⟩).isSome=true:=fun j hj=>by
    rw [World.cell?_alloc_at ROW _ w.heap.size j rfl,Array.getElem?_eq_getElem O];rfl
   have hrowN:Za4 (w.alloc (.cells ROW e)) w.heap.size G:=⟨ROW,e,(0,0),heap_alloc_new w _,hRs,.inl rfl⟩
   have hW:∀ a,((w.alloc (.cells ROW e)).drew.setCells w.heap.size i [v]).drew.cell? a=((w.alloc (.cells ROW e)).setCells w.heap.size i [v]).cell? a:=fun a=>by rw [<- drew_setCells];rfl
   have hcells:∀ j u,(cs.take i++v::cs.drop i)[j]?=some u->((((w.alloc (.cells ROW e)).drew.setCells w.heap.size i [v]).drew).setCells w.heap.size (i+1) (cs.drop i)).cell? ⟨w.heap.size,j,none⟩=some u:=fun j u hj=>by
    have hin1:∀ j,j < (cs.drop i).length->(((w.alloc (.cells ROW e)).drew.setCells w.heap.size i [v]).drew.cell? ⟨w.heap.size,i+1+j,none⟩).isSome=true:=fun j hj=>by
     rw [List.length_drop] at hj
     show (((w.alloc (.cells ROW e)).drew.setCells w.heap.size i [v]).cell? _).isSome=true
     exact isSome_setCells _ _ _ _ (fun k hk=>by
      have:k=0:=by simpa using hk
      subst this
      exact hnew _ O) _ (hnew _ O)
    rcases Zavc O j u hj with ⟨q1,q2⟩ | ⟨q1,q2⟩ | ⟨q1,q2⟩
    .rw [World.cell?_setCells_out _ _ _ _ ⟨w.heap.size,j,none⟩ (fun _ _ => .inl (by show j < i+1;omega))]
     show ((w.alloc (.cells ROW e)).drew.setCells w.heap.size i [v]).cell? _=_
     rw [World.cell?_setCells_out _ _ _ _ ⟨w.heap.size,j,none⟩ (fun _ _ => .inl q1)]
     show (w.alloc (.cells ROW e)).cell? _=_
     rw [World.cell?_alloc_at ROW _ w.heap.size j rfl,<- hROW]
     rw [Array.getElem?_append_left (by simp;omega),Array.getElem?_append_left (by simp;omega)]
     simp only [List.getElem?_toArray,List.getElem?_take,if_pos q1]
     exact q2
    .subst q1;subst q2
     rw [World.cell?_setCells_out _ _ _ _ ⟨w.heap.size,j,none⟩ (fun _ _ => .inl (by show j < j+1;omega))]
     show ((w.alloc (.cells ROW e)).drew.setCells w.heap.size j [u]).cell? _=_
     have:=World.cell?_setCells_in w.heap.size [u] j (w.alloc (.cells ROW e)).drew (fun k hk=>by
      have:k=0:=by simpa using hk
      subst this
      exact hnew _ O) 0 (by simp)
     simpa using this
    .have hlt:=(List.getElem?_eq_some_iff.1 q2).1
     have:=World.cell?_setCells_in w.heap.size (cs.drop i) (i+1) ((w.alloc (.cells ROW e)).drew.setCells w.heap.size i [v]).drew hin1 (j - (i+1)) (by rw [List.length_drop];omega)
     rw [show i+1+(j - (i+1))=j by omega] at this
     rw [this,<- q2,<- List.getElem?_eq_getElem,List.getElem?_drop,show i+(j - (i+1))=j - 1 by omega]
   obtain⟨β',h⟩:=Zaeb (w':=(((w.alloc (.cells ROW e)).drew.setCells w.heap.size i [v]).drew).setCells w.heap.size (i+1) (cs.drop i)) (capN:=G) (bN:=w.heap.size) (mN:=G) hrv hcs hxs h1
    (by rw [Zck];show _<=((w.alloc (.cells ROW e)).drew.setCells w.heap.size i [v]).heap.size;rw [Zck];show _<=(w.alloc (.cells ROW e)).heap.size;simp)
    ((Za5 w.heap.size (cs.drop i) (i+1) _).1.trans (Za5 w.heap.size [v] i (w.alloc (.cells ROW e)).drew).1) ((Za5 w.heap.size (cs.drop i) (i+1) _).2.1.trans (Za5 w.heap.size [v] i (w.alloc (.cells ROW e)).drew).2.1) ((Za5 w.heap.size (cs.drop i) (i+1) _).2.2.trans (Za5 w.heap.size [v] i (w.alloc (.cells ROW e)).drew).2.2)
    (fun d hd _=>by
     have hne:d≠w.heap.size:=by omega
     rw [Za3 _ _ _ _ d hne]
     show ((w.alloc (.cells ROW e)).drew.setCells w.heap.size i [v]).heap[d]?=_
     rw [Za3 _ _ _ _ d hne]
     exact Zap w _ d hd)
    (.inl ⟨Nat.le_refl _,by rw [Zck];show _ < ((w.alloc (.cells ROW e)).drew.setCells w.heap.size i [v]).heap.size;rw [Zck];show _ < (w.alloc (.cells ROW e)).heap.size;simp⟩)
    (Za8 _ _ _ _ (Za8 _ [v] i (w.alloc (.cells ROW e)).drew hrowN)) hge (Nat.le_refl _) hcmN hcells O rfl
   exact⟨β',rfl,h⟩
  .have hie:i=es.length:=by omega
   subst hie
   have hcba:∀ a,a0=some a->∀ j u,cs[j]?=some u->w.cell? (a.add j)=some u:=fun a ha j u hj=>by
    rcases hcc with rfl | ⟨b,m,hb,hrow,hm,hcb⟩
    .have:cs=[]:=List.eq_nil_of_length_eq_zero hcl
     subst this;simp at hj
    .rcases hq0 with ⟨h,_⟩ | ⟨b',m',ha',hb',_,_⟩
     .have:cs=[]:=List.eq_nil_of_length_eq_zero O
      subst this;simp at hj
     .have:b'=b:=by have:=hb'.symm.trans hb;simpa using this
      subst this;subst ha'
      cases ha
      rw [Addr.add_mid,Nat.zero_add]
      exact hcb j u hj
   refine (R.egrow a0 es.length cap vb' cap2 cs v w hnc hlt hby hcl (fun ha=>?_) hcba hx0 hx1).mono ?_
   .subst ha
    rcases hq0 with ⟨h,_⟩ | ⟨b',m',ha',hb',_,_⟩
    .omega
    .cases ha'
   rintro r w' ⟨rfl,rfl⟩
   refine⟨.slice (some ⟨w.heap.size,0,none⟩) (es.length+1) (grownCap w (es.length+1) cap e),?_⟩
   generalize hG:grownCap w (es.length+1) cap e=G at hge hcmN ⊢
   generalize hROW:(cs++[v]).toArray++Builtin.zeroCells z.cells (G - (es.length+1))=ROW
   have hRs:ROW.size=G:=by
    rw [<- hROW]
    simp only [Array.size_append,List.size_toArray,List.length_append,List.length_singleton,size_zeroCells,R.zc]
    omega
   have hcells:∀ j u,(cs.take es.length++v::cs.drop es.length)[j]?=some u->(w.drew.alloc (.cells ROW e)).cell? ⟨w.heap.size,j,none⟩=some u:=fun j u hj=>by
    rw [<- hcl,List.take_length,List.drop_length] at hj
    have hj1:=(List.getElem?_eq_some_iff.1 hj).1
    show (w.drew.alloc _).cell? ⟨w.drew.heap.size,_,none⟩=_
    rw [World.cell?_alloc_new,<- hROW,Array.getElem?_append_left (by simpa using hj1)]
    simpa using hj
   obtain⟨β',h⟩:=Zaeb (w':=w.drew.alloc (.cells ROW e)) (capN:=G) (bN:=w.heap.size) (mN:=G) hrv hcs hxs h1 (by simp) rfl rfl rfl
    (fun d hd _=>Zap w.drew _ d hd) (.inl ⟨Nat.le_refl _,by simp⟩) ⟨ROW,e,(0,0),heap_alloc_new w.drew _,hRs,.inl rfl⟩ hge (Nat.le_refl _) hcmN hcells O rfl
   exact⟨β',rfl,h⟩
end Go.PW
