import Derived.Test.YtiglnkgoicjjfaaPwLt
import Derived.Shelf.Spec.SlicesInsertGrow
import Derived.Test.YtiglnkgoicjjfaaPwY
set_option linter.all false
open Go Go.Proofs
namespace Go.PW
structure Z0v (P:Program) (f:FuncId) (e:TypeId) (z:Value) (bytes:Nat):Prop where
 ok:Zuh P f
 zc:z.cells.size=1
 fits:∀ {n:Nat},n*bytes<=140737488355328->n<=140737488355328
 shift:∀ (b n c i vb vc:Nat) (cs:List Value) (v:Value) (w:World),i < n->n+1<=c->c<=9223372036854775807->vb≠b->cs.length=n ->
  (∀ j u,cs[j]?=some u->w.cell? ⟨b,j,none⟩=some u)->(∀ j,j < n+1->(w.cell? ⟨b,j,none⟩).isSome=true)->(∀ j,j < n+1->w.frozen? ⟨b,j,none⟩=false)->w.cell? ⟨vb,0,none⟩=some v->(∀ u∈cs,u.oneCell'=true)->v.oneCell'=true ->
  ∀ (tA tB:TypeId) (kA kB:Nat),w.shape? vb=some (tA,kA)->w.shape? b=some (tB,kB)->kB≠0->w.frozen? ⟨vb,0,none⟩=false->w.frozen? ⟨vb,kA,none⟩=false ->
  Calls P f #[.slice (some ⟨b,0,none⟩) n c,.int .i64 i,.slice (some ⟨vb,0,none⟩) 1 vc] w fun x w'=>x = .returned (.slice (some ⟨b,0,none⟩) (n+1) c)/\w'=(w.drew.setCells b (i+1) (cs.drop i)).setCells b i [v]
 room:∀ (b n c vb vc:Nat) (v:Value) (w:World),n+1<=c->c<=9223372036854775807->(w.cell? ⟨b,n,none⟩).isSome=true->w.frozen? ⟨b,n,none⟩=false->w.cell? ⟨vb,0,none⟩=some v->v.oneCell'=true ->
  Calls P f #[.slice (some ⟨b,0,none⟩) n c,.int .i64 n,.slice (some ⟨vb,0,none⟩) 1 vc] w fun x w'=>x = .returned (.slice (some ⟨b,0,none⟩) (n+1) c)/\w'=w.setCells b n [v]
 egrow:∀ (base:Option Addr) (n c vb vc:Nat) (cs:List Value) (v:Value) (w:World),n<=c->c < n+1->(n+1)*bytes<=140737488355328->cs.length=n->(base=none->n=0) ->
  (∀ a,base=some a->∀ j u,cs[j]?=some u->w.cell? (a.add j)=some u)->w.cell? ⟨vb,0,none⟩=some v->v.oneCell'=true ->
  Calls P f #[.slice base n c,.int .i64 n,.slice (some ⟨vb,0,none⟩) 1 vc] w fun x w'=>x = .returned (.slice (some ⟨w.heap.size,0,none⟩) (n+1) (grownCap w (n+1) c e)) /\
   w'=w.drew.alloc (.cells ((cs++[v]).toArray++Builtin.zeroCells z.cells (grownCap w (n+1) c e - (n+1))) e)
 grow:∀ (b n c i vb vc:Nat) (cs:List Value) (v:Value) (w:World),i < n->n<=c->c < n+1->(n+1)*bytes<=140737488355328->cs.length=n ->
  (∀ j u,cs[j]?=some u->w.cell? ⟨b,j,none⟩=some u)->w.cell? ⟨vb,0,none⟩=some v->(∀ u∈cs,u.oneCell'=true)->v.oneCell'=true ->
  Calls P f #[.slice (some ⟨b,0,none⟩) n c,.int .i64 i,.slice (some ⟨vb,0,none⟩) 1 vc] w fun x w'=>x = .returned (.slice (some ⟨w.heap.size,0,none⟩) (n+1) (grownCap w (n+1) c e)) /\
   w'=(((w.alloc (.cells ((cs.take i).toArray++Builtin.zeroCells z.cells (n+1 - i)++Builtin.zeroCells z.cells (grownCap w (n+1) c e - (n+1))) e)).drew.setCells w.heap.size i [v]).drew).setCells w.heap.size (i+1) (cs.drop i)
theorem Zoc{w:World}{vb:Nat}{v:Value}(h:w.cell? ⟨vb,0,none⟩=some v):∀ j u,[v][j]?=some u->w.cell? ⟨vb,0+j,none⟩=some u:=fun j u hj=>by
 cases j with
 | zero=>simp at hj;subst hj;exact h
 | succ j=>simp at hj
theorem Zod{v:Value}(h:v.oneCell'=true):∀ u∈[v],u.oneCell'=true:=fun u hu=>by rw [List.mem_singleton] at hu;rw [hu];exact h
theorem Z0v.int{P:Program}{ρ:Go.Shelf.Ren}(L:Lays2.n21 P ρ):Z0v P (ρ.f 21) (ρ.t 3) (.int .i64 0) 8 where
 ok:=⟨_,_,L.f21,rfl,by kernel_rfl⟩
 zc:=rfl
 fits:=fun h=>by omega
 shift:=fun b n c i vb vc cs v w h1 h2 h3 h4 h5 h6 h7 h8 h9 h10 h11 tA tB kA kB h12 h13 h14 h15 h16=>by
  have:=Any2.slices_Insert_int_shift L b 0 n c i vb 0 1 vc cs [v] w h1 Nat.one_pos h2 h3 h4 h5 rfl (by simpa only [Nat.zero_add] using h6) (by simpa only [Nat.zero_add] using h7) (by simpa only [Nat.zero_add] using h8) (Zoc h9) h10 (Zod h11) tA tB kA kB h12 h13 h14 h15 h16
  simpa only [Nat.zero_add] using this
 room:=fun b n c vb vc v w h1 h2 h3 h4 h5 h6=>by
  have:=Any2.slices_Insert_int_end_room L b 0 n c vb 0 1 vc [v] w Nat.one_pos h1 h2 rfl (fun j hj=>by rw [show 0+n+j=n by omega];exact h3) (fun j hj=>by rw [show 0+n+j=n by omega];exact h4) (Zoc h5) (Zod h6)
  simpa only [Nat.zero_add] using this
 egrow:=fun base n c vb vc cs v w h1 h2 h3 h4 h5 h6 h7 h8=>Any2.slices_Insert_int_end_grow L base n c vb 0 1 vc cs [v] w Nat.one_pos h1 h2 h3 h4 rfl h5 h6 (Zoc h7) (Zod h8)
 grow:=fun b n c i vb vc cs v w h1 h2 h3 h4 h5 h6 h7 h8 h9=>Any2.slices_Insert_int_grow L b 0 n c i vb 0 1 vc cs [v] w h1 Nat.one_pos h2 h3 h4 h5 rfl (by simpa only [Nat.zero_add] using h6) (Zoc h7) h8 (Zod h9)
end Go.PW
namespace Go.PW
open Go.RowKit
abbrev bx(l:List Za):List PV:=l.map .t
abbrev wI(n:Int):PV := .t (.int .i64 n)
abbrev wB(b:Bool):PV := .t (.bool b)
abbrev wL{α:Type}(f:α->List Za)(xs:List α):PV := .t (.sl (xs.map f))
abbrev wA(l:List Za):PV := .agg (bx l)
abbrev wO{α:Type}(f:α->List Za)(l:Nat)(xs:List α):PV := .osl l (xs.map f).length
abbrev wR{α:Type}(f:α->List Za)(k:Nat)(xs:List α):Blk := .row k (xs.map f)
class Sd (P:Program) (T:outParam TS):Prop where
 hm:P.follows .mixedOrders=true
 hT:TOK P T
section
variable {P:Program} {T:TS} [i:Sd P T] {S R:Type}
def Zvi(P:Program)(f:Nat):Nat:=match P.funcs[f]? with | some fn=>fn.ntmps | none=>0
def Zzc(P:Program)(T:TS)(f:Nat)(rs:List RV)(args:List PV):Bool:=
 match P.funcs[f]? with
 | some fn => fn.body.isSome && (!(fn.name == "runtime.NumGoroutine")) && Nat.ble args.length fn.ntmps && Zng T rs
 | none=>false
theorem LF.fn(F:LF S R){args:List PV}{σ:List (Nat×Blk)}{t:LT S R}{r:R}(h:F.run t=some r)
 (h0:(chk P T F t (.code (Zll P F.f) []) [] [] ⟨[],[]⟩ ⟨Zvi P F.f,idx 0 args,σ⟩).l=(chk P T F t (.code (Zll P F.f) []) [] [] ⟨[],[]⟩ ⟨Zvi P F.f,idx 0 args,σ⟩).r:=by kernel_rfl)
 (hl:∀ s,(chk P T F (F.body s) (F.cfg P s) [] [] ⟨[],[]⟩ (F.stf s)).l=(chk P T F (F.body s) (F.cfg P s) [] [] ⟨[],[]⟩ (F.stf s)).r:=by intro s;cases s<;>kernel_rfl)
 (hs:Zzc P T F.f F.rs args=true:=by kernel_rfl) (hr:(P.funcs[F.f]?).map (·.results)=some (F.rs.map RV.to).toArray:=by kernel_rfl) :
 FnG P F.f σ args (F.sr r) (F.res r):=by
 unfold Zzc at hs
 split at hs
 .rename_i fn hf
  simp only [Bool.and_eq_true,Bool.not_eq_true',Zag] at hs
  obtain⟨⟨⟨h1,h2⟩,h3⟩,h4⟩:=hs
  have hr':fn.results=(F.rs.map RV.to).toArray:=by rw [hf] at hr;exact Option.some.inj hr
  obtain⟨c,hc⟩:=Option.isSome_iff_exists.1 h1
  have e1:Zll P F.f=c:=by unfold Zll;rw [hf];show (fn.body).getD .skip=c;rw [hc];rfl
  have e2:Zvi P F.f=fn.ntmps:=by unfold Zvi;rw [hf]
  refine FnG.of_cfg i.hT hf hc h2 fn.ntmps rfl h3 F.rs hr' h4 ?_
  have J:∀ s,(chk P T F (F.body s) (F.cfg P s) [] [] ⟨[],[]⟩ (F.stf s)).ok:=fun s=>E.sound _ (hl s)
  unfold LF.run at h
  obtain⟨y,hy,he⟩:=Option.bind_eq_some_iff.1 h
  have h0':=E.sound _ h0
  rw [e1,e2] at h0'
  refine Zw2 i.hm i.hT F J t _ _ _ _ _ y h0' trivial ⟨fun _ hp=>(nomatch hp),fun _ hp=>(nomatch hp)⟩ hy (Z05 (fun s y hs hk=>?_) he)
  exact Zw2 i.hm i.hT F J _ _ _ _ _ _ y (J s) trivial ⟨fun _ hp=>(nomatch hp),fun _ hp=>(nomatch hp)⟩ hs hk
 .cases hs
end
section
def Zy1(P:Program)(t:Nat):TK:=
 match P.underlying t with
 | some .bool => .bool
 | some (.int k) => .int k
 | some .string => .str
 | some (.slice e) => .slice e
 | some (.struct fs) => .struct (fs.toList.map fun f=>(f.offset,f.type))
 | some (.array n e) => .arr n e
 | some (.map k e) => .map k e
 | some (.pointer _) => .ptr
 | _ => .other
theorem Z0b(P:Program)(t:Nat):Zyb P t (Zy1 P t):=by
 unfold Zy1
 split<;>rename_i h<;>simp only [Zyb]
 all_goals first | exact h | exact⟨_,h,rfl⟩ | (unfold Program.pointee;rw [h])
abbrev Zy2:=Option (Bool×Nat×Nat×Option (List PV)×TK×Option (Nat×List LK))
def Zvj(P:Program)(t:Nat)(i:Zeu):Zy2:=
 match P.underlying t,P.info? t with
 | some d,some j=>some (d.isRow,j.size,j.bytes,(match i.zero with | none=>none | some _=>Za8 P t),Zy1 P t,
  (match i.flat with | none=>none | some (d,_)=>bif Nat.ble d 10000&&i.agg && !(P.eqGuardType P.depth t) then (Zck P d t).map fun ks=>(d,ks) else none))
 | _,_=>none
def Zy3(P:Program):TS->List Zy2
 | []=>[]
 | (t,i)::r=>Zvj P t i::Zy3 P r
def Zy4:TS->List Zy2
 | []=>[]
 | (_,i)::r=>some (i.agg,i.size,i.bytes,i.zero,i.k,i.flat)::Zy4 r
theorem Zlg.of_eq{P:Program}{t:Nat}{i:Zeu}(h:Zvj P t i=some (i.agg,i.size,i.bytes,i.zero,i.k,i.flat)):Zlg P t i:=by
 unfold Zvj at h
 split at h
 .rename_i d j hd hj
  simp only [Option.some.injEq,Prod.mk.injEq] at h
  obtain⟨h1,h2,h3,h4,h5,h6⟩:=h
  refine { ty:=⟨⟨d,hd,h1⟩,by rw [hj];simp [h2]⟩,by_:=by rw [hj];simp [h2,h3],z:=fun z hz=>?_,k:=h5▸Z0b P t,fl:=fun d ks hf=>?_ }
  .rw [hz] at h4;exact h4
  .rw [hf] at h6
   simp only at h6
   cases hb:(Nat.ble d 10000&&i.agg && !(P.eqGuardType P.depth t)) with
   | false=>rw [hb] at h6;cases h6
   | true=>
    rw [hb,cond_true] at h6
    simp only [Bool.and_eq_true,Zag,Bool.not_eq_true'] at hb
    simp only [Option.map_eq_some_iff,Prod.mk.injEq] at h6
    obtain⟨ks',e1,_,e2⟩:=h6
    exact⟨hb.1.1,by rw [e1,e2],hb.1.2,hb.2⟩
 .cases h
theorem TOK.of_eq{P:Program}{T:TS}(h:Zy3 P T=Zy4 T):TOK P T:=by
 refine TOK.of_all ?_
 induction T with
 | nil=>trivial
 | cons x r ih=>
  obtain⟨t,i⟩:=x
  simp only [Zy3,Zy4,List.cons.injEq] at h
  exact⟨Zlg.of_eq h.1,ih h.2⟩
end
class Cl {α:Type} (f:α->List Za) (k:outParam Nat):Prop where
 l:∀ x,(f x).length=k
instance (k:IntKind):Cl (cI k) 1:=⟨fun _=>rfl⟩
instance:Cl cB 1:=⟨fun _=>rfl⟩
instance:Cl cS 1:=⟨fun _=>rfl⟩
instance {α:Type} (f:α->List Za):Cl (cL f) 1:=⟨fun _=>rfl⟩
class Cs {α:Type} (f:α->List Za):Prop where
 s:∀ x,∃ t,f x=[t]/\t.scal=true
instance (k:IntKind):Cs (cI k):=⟨fun _=>⟨_,rfl,rfl⟩⟩
instance:Cs cB:=⟨fun _=>⟨_,rfl,rfl⟩⟩
instance:Cs cS:=⟨fun _=>⟨_,rfl,rfl⟩⟩
abbrev LF.z{R:Type}(f:Nat)(rs:List RV)(own:Bool)(sr:R->List (Nat×Blk))(res:R->PV):LF Empty R:=⟨f,rs,own,(fun s=>nomatch s),(fun s=>nomatch s),sr,res,(fun s=>nomatch s)⟩
abbrev LF.z0{R:Type}(f:Nat)(rs:List RV)(res:R->PV):LF Empty R := .z f rs false (fun _=>[]) res
abbrev LF.m{S R:Type}(f:Nat)(rs:List RV)(own:Bool)(sr:R->List (Nat×Blk))(res:R->PV)(b:S->List Nat×PW.St×LT S R):LF S R:=⟨f,rs,own,fun s=>(b s).1,fun s=>(b s).2.1,sr,res,fun s=>(b s).2.2⟩
abbrev LF.m0{S R:Type}(f:Nat)(rs:List RV)(res:R->PV)(b:S->List Nat×PW.St×LT S R):LF S R := .m f rs false (fun _=>[]) res b
abbrev Opq(k:Nat):={ l:List Za // l.length=k }
abbrev Zsp{k:Nat}(x:Opq k):List Za:=x.1
instance {k:Nat}:Cl (Zsp (k:=k)) k:=⟨fun x=>x.2⟩
theorem Zjp.of{P:Program}{f k b:Nat}{g:List (Opq k)->Option (List (Opq k))}(hg:∀ a:List (Opq k),a.length*b<=140737488355328->g a=some a)
 (H:∀ (a:List (Opq k)) {r:List (Opq k)},g a=some r->FnG P f [] [wL Zsp a] [(5000,wR Zsp k r)] (wO Zsp 5000 r)):Zjp P f k b:=fun es hk hb=>by
 have hm:(es.pmap (fun l h=>(⟨l,h⟩:Opq k)) hk).map Zsp=es:=by rw [List.map_pmap];simp
 have:=H _ (hg (es.pmap (fun l h=>(⟨l,h⟩:Opq k)) hk) (by simpa using hb))
 simpa only [wL,wR,wO,hm] using this
namespace LT
section
variable {S R α:Type}
abbrev AM{α:Type}(f:α->List Za)(k:Nat)(xs:List α):Prop:=∀ el,el∈xs.map f->el.length=k
theorem am(f:α->List Za){k:Nat} [c:Cl f k] (xs:List α):AM f k xs:=all_map f k c.l xs
abbrev RL{α:Type}(f:α->List Za)(xs:List α):Prop:=(xs.map f).length=(xs.map f).length
abbrev LM{α:Type}(f:α->List Za)(xs:List α):Prop:=(((xs.map f).length:Nat):Int)=(xs.length:Int)
abbrev rt(r:R):LT S R := .ret r []
abbrev g0(s:S):LT S R := .go s []
abbrev j0(s:S)(t:LT S R):LT S R := .jn 0 s [] t
abbrev dr(xs:List Orc)(t:LT S R):LT S R := .ev xs [] trivial t
abbrev lb(l:Nat)(t:LT S R):LT S R := .ev [.lab l] [] trivial t
abbrev kb(b:Bool)(t:LT S R):LT S R := .ev [.br b] [b=b] ⟨rfl,trivial⟩ t
abbrev k2(n:Nat)(t:LT S R):LT S R := .kg n (.kg n t)
abbrev k3(n:Nat)(t:LT S R):LT S R := .kg n (.kg n (.kg n t))
abbrev k4(n:Nat)(t:LT S R):LT S R := .kg n (.kg n (.kg n (.kg n t)))
abbrev k5(n:Nat)(t:LT S R):LT S R := .kg n (.kg n (.kg n (.kg n (.kg n t))))
abbrev k8(n:Nat)(t:LT S R):LT S R := .kg n (.kg n (.kg n (.kg n (.kg n (.kg n (.kg n (.kg n t)))))))
abbrev k16(n:Nat)(t:LT S R):LT S R := .kg n (.kg n (.kg n (.kg n (.kg n (.kg n (.kg n (.kg n (.kg n (.kg n (.kg n (.kg n (.kg n (.kg n (.kg n (.kg n t)))))))))))))))
abbrev b2(b:Bool)(t:LT S R):LT S R := .kb b (.kb b t)
abbrev b3(b:Bool)(t:LT S R):LT S R := .kb b (.kb b (.kb b t))
abbrev b4(b:Bool)(t:LT S R):LT S R := .kb b (.kb b (.kb b (.kb b t)))
abbrev b5(b:Bool)(t:LT S R):LT S R := .kb b (.kb b (.kb b (.kb b (.kb b t))))
abbrev b8(b:Bool)(t:LT S R):LT S R := .kb b (.kb b (.kb b (.kb b (.kb b (.kb b (.kb b (.kb b t)))))))
abbrev b16(b:Bool)(t:LT S R):LT S R := .kb b (.kb b (.kb b (.kb b (.kb b (.kb b (.kb b (.kb b (.kb b (.kb b (.kb b (.kb b (.kb b (.kb b (.kb b (.kb b t)))))))))))))))
abbrev rl(f:α->List Za)(xs:List α)(t:LT S R):LT S R := .ev [] [RL f xs] ⟨rfl,trivial⟩ t
abbrev len(f:α->List Za)(xs:List α)(t:LT S R):LT S R := .ev [.num xs.length] [LM f xs] ⟨Zt5 f xs,trivial⟩ t
abbrev lenO(f:α->List Za)(xs:List α)(t:LT S R):LT S R := .ev [.num xs.length] [RL f xs,LM f xs] ⟨rfl,Zt5 f xs,trivial⟩ t
abbrev ok(p:Prop) [Decidable p] (t:LT S R):LT S R := .op (ok? (decide p)) (fun _=>[]) (fun _=>[p]) (fun _=>[]) (fun _ h=>⟨⟨Zz3 h,trivial⟩,trivial⟩) fun _=>t
abbrev idx(f:α->List Za){n:Nat} [Cl f n] (xs:List α) (i:Int) (k:α->LT S R):LT S R:=
 .op (idx? xs i) (fun x=>[.cs (f x)]) (fun x=>[AM f n xs,0<=i,(xs.map f)[i.toNat]?=some (f x)]) (fun x=>[AM f n xs,0<=i,(xs.map f)[i.toNat]?=some (f x)])
  (fun _ h=>⟨⟨am f xs,Zon h,Zpo f h,trivial⟩,am f xs,Zon h,Zpo f h,trivial⟩) k
abbrev idxR(f:α->List Za)(xs:List α)(i:Int)(k:α->LT S R):LT S R:=
 .op (idx? xs i) (fun _=>[.nat i.toNat]) (fun _=>[RL f xs,0<=i,i < ((xs.map f).length:Nat),i.toNat=i.toNat]) (fun x=>[0<=i,i < ((xs.map f).length:Nat),(xs.map f)[i.toNat]?=some (f x)])
  (fun _ h=>⟨⟨rfl,Zon h,Zwx f h,rfl,trivial⟩,Zon h,Zwx f h,Zpo f h,trivial⟩) k
abbrev setR(f:α->List Za)(xs:List α)(i:Int)(x x':α)(m q:Nat)(ts:List Za)(hs:splice (f x) q ts=f x')(k:List α->LT S R):LT S R:=
 .ev [.cs (f x)] [RL f xs] ⟨rfl,trivial⟩ (.us [m] (.op (set? xs i x') (fun z=>[.es (z.map f)]) (fun z=>[(xs.map f).set i.toNat (splice (f x) q ts)=z.map f]) (fun z=>[(xs.map f).length=(z.map f).length])
  (fun _ h=>⟨⟨Z0y f h hs,trivial⟩,Zz7 f h,trivial⟩) k))
abbrev sl(f:α->List Za){n:Nat} [Cl f n] (xs:List α) (l h:Int) (k:List α->LT S R):LT S R:=
 .op (slice? xs l h) (fun z=>[.es (z.map f)]) (fun z=>[AM f n xs,0<=l,l<=h,h<=((xs.map f).length:Nat),((xs.map f).take h.toNat).drop l.toNat=z.map f]) (fun _=>[])
  (fun _ e=>⟨⟨am f xs,Zz4 e,Zz5 e,Zz6 f e,Zwy f e,trivial⟩,trivial⟩) k
abbrev mk(f:α->List Za)(l b:Nat)(z:α)(m c:Int)(k:List α->LT S R):LT S R:=
 .op (make? b z m c) (fun x=>[.lab l,.nat (x.map f).length,.es (x.map f)]) (fun x=>[0<=m,m<=c,(b:Int)*c<=281474976710656,c<=9223372036854775807,m.toNat=(x.map f).length,List.replicate (x.map f).length (f z)=x.map f]) (fun _=>[])
  (fun _ e=>⟨⟨(Zh0 e).1,(Zh0 e).2.1,(Zh0 e).2.2.1,(Zh0 e).2.2.2,Zyv f e,Zyw f e,trivial⟩,trivial⟩) k
abbrev apN(f:α->List Za){n:Nat} [Cl f n] (l b:Nat) (ys:List α) (k:List α->LT S R):LT S R:=
 .op (app? b [] ys) (fun z=>[.lab l,.es (z.map f)]) (fun z=>[ys.map f=z.map f,AM f n z,(z.map f).length<=9223372036854775807,(z.map f).length*b<=140737488355328]) (fun _=>[])
  (fun z h=>⟨⟨Zt6 f h,am f z,Zpq f h,Zi7 f h,trivial⟩,trivial⟩) k
abbrev apR(f:α->List Za){n:Nat} [Cl f n] (b:Nat) (xs ys:List α) (k:List α->LT S R):LT S R:=
 .op (app? b xs ys) (fun z=>[.es (z.map f)]) (fun z=>[RL f xs,xs.map f++ys.map f=z.map f,AM f n ys,(z.map f).length<=9223372036854775807,(z.map f).length*b<=140737488355328]) (fun _=>[])
  (fun _ h=>⟨⟨rfl,Zpp f h,am f ys,Zpq f h,Zi7 f h,trivial⟩,trivial⟩) k
abbrev str(xs:List Int)(k:List UInt8->LT S R):LT S R:=
 .op (str? xs) (fun z=>[.cs [.str z]]) (fun z=>[Zb3 z=xs.map (cI .u8),z≠[]]) (fun _=>[]) (fun _ h=>⟨⟨(Zqd h).1,(Zqd h).2,trivial⟩,trivial⟩) k
abbrev call{P:Program}{f:Nat}{args:List PV}{o:Option α}{p:α->PV}(H:∀ {r:α},o=some r->Fn P f args (p r))(k:α->LT S R):LT S R:=
 .op o (fun x=>[.call (p x)]) (fun x=>[Fn P f args (p x)]) (fun _=>[]) (fun _ h=>⟨⟨H h,trivial⟩,trivial⟩) k
abbrev callO{P:Program}{f:Nat}{args:List PV}{o:Option α}{p:α->PV}{σ:List (Nat×Blk)}{σ1:α->List (Nat×Blk)}(H:∀ {r:α},o=some r->FnG P f σ args (σ1 r) (p r))(ls:List Nat)(d:Nat)(fr:α->List (Nat×Blk))(k:α->LT S R):LT S R:=
 .op o (fun x=>[.callO false ls d (fr x) (p x)]) (fun x=>[FnG P f σ args (σ1 x) (p x)]) (fun _=>[]) (fun _ h=>⟨⟨H h,trivial⟩,trivial⟩) k
abbrev callU{P:Program}{f:Nat}{args:List PV}{o:Option α}{p:α->PV}{σ:List (Nat×Blk)}{σ1:α->List (Nat×Blk)}(H:∀ {r:α},o=some r->FnG P f σ args (σ1 r) (p r))(ls:List Nat)(d:Nat)(k:α->LT S R):LT S R:=
 .op o (fun x=>[.callU false ls d (σ1 x) (p x)]) (fun x=>[FnG P f σ args (σ1 x) (p x)]) (fun _=>[]) (fun _ h=>⟨⟨H h,trivial⟩,trivial⟩) k
abbrev callF{P:Program}{f:Nat}{args:List PV}{o:Option α}{p:α->PV}{σ1:α->List (Nat×Blk)}(H:∀ {r:α},o=some r->FnG P f [] args (σ1 r) (p r))(d:Nat)(k:α->LT S R):LT S R:=
 .op o (fun x=>[.callO false [] d (σ1 x) (p x)]) (fun x=>[FnG P f [] args (σ1 x) (p x)]) (fun _=>[]) (fun _ h=>⟨⟨H h,trivial⟩,trivial⟩) k
abbrev callS{P:Program}{f:Nat}{args:List PV}{o:Option α}{p:α->PV}{σ1:α->List (Nat×Blk)}(H:∀ {r:α},o=some r->FnG P f [] args (σ1 r) (p r))(d:Nat)(hs:∀ x,Zo (scC true (σ1 x) (p x)))(k:α->LT S R):LT S R:=
 .op o (fun x=>[.callO true [] d (σ1 x) (p x)]) (fun x=>scC true (σ1 x) (p x)++[FnG P f [] args (σ1 x) (p x)]) (fun _=>[]) (fun x h=>⟨Zf.2 ⟨hs x,H h,trivial⟩,trivial⟩) k
abbrev ag(f:α->List Za)(x:α)(n:Nat)(t:LT S R):LT S R := .ev [.cs (f x)] [] trivial (.us [n,n+1,n+2] t)
abbrev m0(l:Nat)(t:LT S R):LT S R := .ev [.num 0,.lab l] [] trivial t
abbrev callC{P:Program}{fn n b:Nat}(H:Zjp P fn n b)(f:α->List Za) [Cl f n] (l:Nat) (xs:List α) (t:LT S R):LT S R:=
 .op (app? b [] xs) (fun _=>[.callC l b]) (fun _=>[RL f xs,Zjp P fn n b,(xs.map f).length*b<=140737488355328]) (fun _=>[])
  (fun z h=>⟨⟨rfl,H,by have h1:=Zi7 f h;rwa [<- Zt6 f h] at h1,trivial⟩,trivial⟩) fun _=>t
abbrev scl(f:α->List Za)(hs:∀ a,(f a).all Za.scal=true)(xs:List α)(t:LT S R):LT S R := .ev [] [∀ el,el∈xs.map f->∀ x,x∈el->Za.scal x=true] ⟨Zsh f hs xs,trivial⟩ t
abbrev apX(f:α->List Za)(b:Nat)(xs ys:List α)(k:List α->LT S R):LT S R:=
 .op (app? b xs ys) (fun z=>[.es (z.map f)]) (fun z=>[RL f xs,RL f xs,RL f ys,RL f ys,xs.map f++ys.map f=z.map f,(z.map f).length<=9223372036854775807,(z.map f).length*b<=140737488355328]) (fun _=>[])
  (fun _ h=>⟨⟨rfl,rfl,rfl,rfl,Zpp f h,Zpq f h,Zi7 f h,trivial⟩,trivial⟩) k
abbrev ne(f:α->List Za){xs:List α}(h:xs≠[])(t:LT S R):LT S R := .ev [] [xs.map f≠[]] ⟨Z0x f h,trivial⟩ t
end
end LT
end Go.PW
namespace Go.PW
theorem tX{S R:Type}{Inv:S->Prop}{μ:S->M6}{m:M6}{post:R->Prop}{F:LF S R}{t:LT S R}(h0:Tot t.den (Nx Inv μ m post))(hs:∀ s,Inv s->Tot (F.body s).den (Nx Inv μ (μ s) post)):Tot (F.run t) post:=
 Tot.fin h0 hs
abbrev iv0:Empty->Prop:=fun _=>True
abbrev mu0:Empty->M6:=fun _=>(0,0,0,0,0,0)
theorem tZ{R:Type}{post:R->Prop}{F:LF Empty R}{t:LT Empty R}(h0:Tot t.den (Nx iv0 mu0 (1000000,0,0,0,0,0) post)):Tot (F.run t) post:=
 Tot.fin h0 fun s=>nomatch s
theorem tJ{S R:Type}{Inv:S->Prop}{μ:S->M6}{m m':M6}{post:R->Prop}{o:Option (S ⊕ R)}(h:Tot o (Nx Inv μ m' post))(hm:le6 m' m:=by unfold le6 lt6;dsimp only;omega):Tot o (Nx Inv μ m post):=Tot.join h hm
theorem qw{p:Prop}(n:Int)(h:(-9223372036854775808<=n->n < 9223372036854775808->IntKind.wrap .i64 n=n)->(-9223372036854775808<=IntKind.wrap .i64 n/\IntKind.wrap .i64 n < 9223372036854775808)->p):p:=h (Z06 n) (Z07 n)
theorem lo{p:Prop}(h:p:=by first | omega | (dsimp only;omega)):p:=h
theorem cl{p:Prop}(h:p:=by first | omega | (simp only [List.length_append,List.length_cons,List.length_nil];omega) | trivial | decide | assumption | exact shl_ne' (by omega) (by omega) | (simp;done) | (simp;omega)):p:=h
theorem Tot.mk{α:Type}{b:Nat}{z:α}{m c:Int}(h:0<=m/\m<=c/\(b:Int)*c<=281474976710656/\c<=9223372036854775807:=by refine⟨?_,?_,?_,?_⟩<;>omega):Tot (make? b z m c) fun x=>(x.length:Int)=m/\∀ y,y∈x->y=z:=Tot.make h
theorem me1{α:Type}{P:α->Prop}{a:α}(h:P a):∀ x,x∈[a]->P x:=mem_cons' h fun _ h=>by cases h
theorem SzL.one{α:Type}{P:α->Prop}{a:α}{k:Nat}(h:P a)(hk:k<=140737488351232:=by decide):SzL k P [a]:=⟨by simp only [List.length_cons,List.length_nil];omega,me1 h⟩
theorem SzL.tr{α:Type}{l:List α}{k:Nat}(h:l.length*k<=140737488351232:=by first | omega | (simp only [List.length_cons,List.length_nil];omega)):SzL k (fun _=>True) l:=⟨h,fun _ _=>trivial⟩
theorem cs{p:Prop}(h:p:=by repeat' (first | exact cl | apply And.intro)):p:=h
end Go.PW
namespace Go.PW
open Go.RowKit
end Go.PW
