import Derived.Test.YtiglnkgoicjjfaaGreatPwLt
import Derived.Shelf.Spec.SlicesInsertGrow
import Derived.Test.YtiglnkgoicjjfaaGreatPwY
set_option linter.all false
open Go Go.Proofs
namespace Go.PW
structure InsR (P:Program) (f:FuncId) (e:TypeId) (z:Value) (bytes:Nat):Prop where
 ok:FnOk P f
 zc:z.cells.size=1
 fits:∀ {n:Nat},n*bytes<=140737488355328->n<=140737488355328
 shift:∀ (b n c i vb vc:Nat) (cs:List Value) (v:Value) (w:World),i < n->n+1<=c->c<=9223372036854775807->vb≠b->cs.length=n ->
  (∀ j u,cs[j]?=some u->w.cell? ⟨b,j,none⟩=some u)->(∀ j,j < n+1->(w.cell? ⟨b,j,none⟩).isSome=true)->(∀ j,j < n+1->w.frozen? ⟨b,j,none⟩=false)->w.cell? ⟨vb,0,none⟩=some v->(∀ u∈cs,u.oneCell'=true)->v.oneCell'=true ->
  ∀ (tA tB:TypeId) (kA kB:Nat),w.shape? vb=some (tA,kA)->w.shape? b=some (tB,kB)->kB≠0->w.frozen? ⟨vb,0,none⟩=false->w.frozen? ⟨vb,kA,none⟩=false ->
  Calls P f #[.slice (some ⟨b,0,none⟩) n c,.int .i64 i,.slice (some ⟨vb,0,none⟩) 1 vc] w fun x w'=>x = .returned (.slice (some ⟨b,0,none⟩) (n+1) c)/\w'=(w.drew.setCells b (i+1) (cs.drop i)).setCells b i [v]
 room:∀ (b n c vb vc:Nat) (v:Value) (w:World),n+1<=c->c<=9223372036854775807->(w.cell? ⟨b,n,none⟩).isSome=true->w.frozen? ⟨b,n,none⟩=false->w.cell? ⟨vb,0,none⟩=some v->v.oneCell'=true ->
  Calls P f #[.slice (some ⟨b,0,none⟩) n c,.int .i64 n,.slice (some ⟨vb,0,none⟩) 1 vc] w fun x w'=>x = .returned (.slice (some ⟨b,0,none⟩) (n+1) c)/\w'=w.setCells b n [v]
 egrow:∀ (base:Option Addr) (n c vb vc:Nat) (cs:List Value) (v:Value) (w:World),n<=c->c < n+1->(n+1)*bytes<=140737488355328->cs.length=n->(base=none->n=0) ->
  (∀ a,base=some a->∀ j u,cs[j]?=some u->w.cell? (a.add j)=some u)->w.cell? ⟨vb,0,none⟩=some v->v.oneCell'=true ->
  Calls P f #[.slice base n c,.int .i64 n,.slice (some ⟨vb,0,none⟩) 1 vc] w fun x w'=>x = .returned (.slice (some ⟨w.heap.size,0,none⟩) (n+1) (grownCap w (n+1) c e)) /\
   w'=w.drew.alloc (.cells ((cs++[v]).toArray++Builtin.zeroCells z.cells (grownCap w (n+1) c e - (n+1))) e)
 grow:∀ (b n c i vb vc:Nat) (cs:List Value) (v:Value) (w:World),i < n->n<=c->c < n+1->(n+1)*bytes<=140737488355328->cs.length=n ->
  (∀ j u,cs[j]?=some u->w.cell? ⟨b,j,none⟩=some u)->w.cell? ⟨vb,0,none⟩=some v->(∀ u∈cs,u.oneCell'=true)->v.oneCell'=true ->
  Calls P f #[.slice (some ⟨b,0,none⟩) n c,.int .i64 i,.slice (some ⟨vb,0,none⟩) 1 vc] w fun x w'=>x = .returned (.slice (some ⟨w.heap.size,0,none⟩) (n+1) (grownCap w (n+1) c e)) /\
   w'=(((w.alloc (.cells ((cs.take i).toArray++Builtin.zeroCells z.cells (n+1 - i)++Builtin.zeroCells z.cells (grownCap w (n+1) c e - (n+1))) e)).drew.setCells w.heap.size i [v]).drew).setCells w.heap.size (i+1) (cs.drop i)
theorem Zaeb{w:World}{vb:Nat}{v:Value}(h:w.cell? ⟨vb,0,none⟩=some v):∀ j u,[v][j]?=some u->w.cell? ⟨vb,0+j,none⟩=some u:=fun j u hj=>by
 cases j with
 | zero=>simp at hj;subst hj;exact h
 | succ j=>simp at hj
theorem Zaec{v:Value}(h:v.oneCell'=true):∀ u∈[v],u.oneCell'=true:=fun u hu=>by rw [List.mem_singleton] at hu;rw [hu];exact h
theorem InsR.int{P:Program}{ρ:Go.Shelf.Ren}(L:Lays2.n21 P ρ):InsR P (ρ.f 21) (ρ.t 3) (.int .i64 0) 8 where
 ok:=⟨_,_,L.f21,rfl,by kernel_rfl⟩
 zc:=rfl
 fits:=fun h=>by omega
 shift:=fun b n c i vb vc cs v w h1 h2 h3 h4 h5 h6 h7 h8 h9 h10 h11 tA tB kA kB h12 h13 h14 h15 h16=>by
  have:=Any2.slices_Insert_int_shift L b 0 n c i vb 0 1 vc cs [v] w h1 Nat.one_pos h2 h3 h4 h5 rfl (by simpa only [Nat.zero_add] using h6) (by simpa only [Nat.zero_add] using h7) (by simpa only [Nat.zero_add] using h8) (Zaeb h9) h10 (Zaec h11) tA tB kA kB h12 h13 h14 h15 h16
  simpa only [Nat.zero_add] using this
 room:=fun b n c vb vc v w h1 h2 h3 h4 h5 h6=>by
  have:=Any2.slices_Insert_int_end_room L b 0 n c vb 0 1 vc [v] w Nat.one_pos h1 h2 rfl (fun j hj=>by rw [show 0+n+j=n by omega];exact h3) (fun j hj=>by rw [show 0+n+j=n by omega];exact h4) (Zaeb h5) (Zaec h6)
  simpa only [Nat.zero_add] using this
 egrow:=fun base n c vb vc cs v w h1 h2 h3 h4 h5 h6 h7 h8=>Any2.slices_Insert_int_end_grow L base n c vb 0 1 vc cs [v] w Nat.one_pos h1 h2 h3 h4 rfl h5 h6 (Zaeb h7) (Zaec h8)
 grow:=fun b n c i vb vc cs v w h1 h2 h3 h4 h5 h6 h7 h8 h9=>Any2.slices_Insert_int_grow L b 0 n c i vb 0 1 vc cs [v] w h1 Nat.one_pos h2 h3 h4 h5 rfl (by simpa only [Nat.zero_add] using h6) (Zaeb h7) h8 (Zaec h9)
end Go.PW
namespace Go.PW
open Go.RowKit
abbrev bx(l:List Zb):List PV:=l.map .t
abbrev wI(n:Int):PV := .t (.int .i64 n)
abbrev wB(b:Bool):PV := .t (.bool b)
abbrev wS(s:List UInt8):PV := .t (.str s)
abbrev wL{α:Type}(f:α->List Zb)(xs:List α):PV := .t (.sl (xs.map f))
abbrev wA(l:List Zb):PV := .agg (bx l)
abbrev wO{α:Type}(f:α->List Zb)(l:Nat)(xs:List α):PV := .osl l (xs.map f).length
abbrev wR{α:Type}(f:α->List Zb)(k:Nat)(xs:List α):Blk := .row k (xs.map f)
def Zs8:List (Nat×Blk)->Bool
 | []=>true
 | (_,.box cs)::r=>PV.scs cs&&Zs8 r
 | (_,.row _ es)::r=>(es.all fun el=>el.all Zb.scal)&&Zs8 r
 | (_,.mat k q _)::r=>(Nat.beq k 1&&Nat.beq q 0)&&Zs8 r
 | (_,.map _ _)::_=>false
 | (_,.prow _ _ _ _)::_=>false
 | (_,.reg _)::r=>Zs8 r
 | (_,.xrow _ _ _ _)::_=>false
theorem Z20:∀ {σ:List (Nat×Blk)},Zs8 σ=true->Zaj (scB σ)
 | [],_=>trivial
 | (l,b)::r,h=>by
  cases b with
  | box cs=>simp only [Zs8,Bool.and_eq_true] at h;exact⟨h.1,Z20 h.2⟩
  | row k es=>
   simp only [Zs8,Bool.and_eq_true] at h
   exact⟨fun el hel x hx=>List.all_eq_true.1 (List.all_eq_true.1 h.1 el hel) x hx,Z20 h.2⟩
  | mat k q es=>
   simp only [Zs8,Bool.and_eq_true,Zu] at h
   exact⟨h.1,Z20 h.2⟩
  | map ag es=>cases h
  | prow k i es cs=>cases h
  | reg h'=>exact⟨trivial,Z20 h⟩
  | xrow k i q es=>cases h
theorem Za0q{σ:List (Nat×Blk)}{p:PV}(h:(p.sc&&Zs8 σ)=true):Zaj (scC true σ p):=by
 simp only [Bool.and_eq_true] at h
 exact⟨h.1,Z20 h.2⟩
def dry? {α:Type} (σ1:α->List (Nat×Blk)) (p:α->PV) (o:Option α):Option α:=o.bind fun x=>bif (p x).sc&&Zs8 (σ1 x) then some x else none
theorem Zase{α:Type}{σ1:α->List (Nat×Blk)}{p:α->PV}{o:Option α}{x:α}(h:dry? σ1 p o=some x):o=some x/\((p x).sc&&Zs8 (σ1 x))=true:=by
 unfold dry? at h
 obtain⟨y,h1,h2⟩:=Option.bind_eq_some_iff.1 h
 cases hb:((p y).sc&&Zs8 (σ1 y)) with
 | true=>rw [hb,cond_true] at h2;cases h2;exact⟨h1,hb⟩
 | false=>rw [hb,cond_false] at h2;cases h2
class Sd (P:Program) (T:outParam TS):Prop where
 hm:P.follows .mixedOrders=true
 hT:TOK P T
section
variable {P:Program} {T:TS} [i:Sd P T] {S R:Type}
def ntOf(P:Program)(f:Nat):Nat:=match P.funcs[f]? with | some fn=>fn.ntmps | none=>0
def Zayp(P:Program)(T:TS)(f:Nat)(rs:List RV)(args:List PV):Bool:=
 match P.funcs[f]? with
 | some fn => fn.body.isSome && (!(fn.name == "runtime.NumGoroutine")) && Nat.ble args.length fn.ntmps && rvOK T rs
 | none=>false
theorem LF.fn(F:LF S R){args:List PV}{σ:List (Nat×Blk)}{t:LT S R}{r:R}(h:F.run t=some r)
 (h0:(chk P T F t (.code (Z6z P F.f) []) [] [] ⟨[],[]⟩ ⟨ntOf P F.f,idx 0 args,σ⟩).l=(chk P T F t (.code (Z6z P F.f) []) [] [] ⟨[],[]⟩ ⟨ntOf P F.f,idx 0 args,σ⟩).r:=by kernel_rfl)
 (hl:∀ s,(chk P T F (F.body s) (F.cfg P s) [] [] ⟨[],[]⟩ (F.stf s)).l=(chk P T F (F.body s) (F.cfg P s) [] [] ⟨[],[]⟩ (F.stf s)).r:=by intro s;cases s<;>kernel_rfl)
 (hs:Zayp P T F.f F.rs args=true:=by kernel_rfl) (hr:(P.funcs[F.f]?).map (·.results)=some (F.rs.map RV.to).toArray:=by kernel_rfl) :
 FnG P F.f σ args (F.sr r) (F.res r):=by
 unfold Zayp at hs
 split at hs
 .rename_i fn hf
  simp only [Bool.and_eq_true,Bool.not_eq_true',Zdj] at hs
  obtain⟨⟨⟨h1,h2⟩,h3⟩,h4⟩:=hs
  have hr':fn.results=(F.rs.map RV.to).toArray:=by rw [hf] at hr;exact Option.some.inj hr
  obtain⟨c,hc⟩:=Option.isSome_iff_exists.1 h1
  have e1:Z6z P F.f=c:=by unfold Z6z;rw [hf];show (fn.body).getD .skip=c;rw [hc];rfl
  have e2:ntOf P F.f=fn.ntmps:=by unfold ntOf;rw [hf]
  refine FnG.of_cfg i.hT hf hc h2 fn.ntmps rfl h3 F.rs hr' h4 ?_
  have J:∀ s,(chk P T F (F.body s) (F.cfg P s) [] [] ⟨[],[]⟩ (F.stf s)).ok:=fun s=>E.sound _ (hl s)
  unfold LF.run at h
  obtain⟨y,hy,he⟩:=Option.bind_eq_some_iff.1 h
  have h0':=E.sound _ h0
  rw [e1,e2] at h0'
  refine Zavx i.hm i.hT F J t _ _ _ _ _ y h0' trivial ⟨fun _ hp=>(nomatch hp),fun _ hp=>(nomatch hp)⟩ hy (Za03 (fun s y hs hk=>?_) he)
  exact Zavx i.hm i.hT F J _ _ _ _ _ _ y (J s) trivial ⟨fun _ hp=>(nomatch hp),fun _ hp=>(nomatch hp)⟩ hs hk
 .cases hs
end
section
def tkOf(P:Program)(t:Nat):TK:=
 match P.underlying t with
 | some .bool => .bool
 | some (.int k) => .int k
 | some .string => .str
 | some (.slice e) => .slice e
 | some (.struct fs) => .struct (fs.toList.map fun f=>(f.offset,f.type))
 | some (.array n e) => .arr n e
 | some (.map k e) => .map k e
 | some (.pointer _) => .ptr
 | _ => .other
theorem Zazs(P:Program)(t:Nat):TKOK P t (tkOf P t):=by
 unfold tkOf
 split<;>rename_i h<;>simp only [TKOK]
 all_goals first | exact h | exact⟨_,h,rfl⟩ | (unfold Program.pointee;rw [h])
abbrev TRow:=Option (Bool×Nat×Nat×Option (List PV)×TK×Option (Nat×List LK))
def Zatq(P:Program)(t:Nat)(i:Zo1):TRow:=
 match P.underlying t,P.info? t with
 | some d,some j=>some (d.isRow,j.size,j.bytes,(match i.zero with | none=>none | some _=>Zge P t),tkOf P t,
  (match i.flat with | none=>none | some (d,_)=>bif Nat.ble d 10000&&i.agg && !(P.eqGuardType P.depth t) then (Zjw P d t).map fun ks=>(d,ks) else none))
 | _,_=>none
def tabL(P:Program):TS->List TRow
 | []=>[]
 | (t,i)::r=>Zatq P t i::tabL P r
def tabR:TS->List TRow
 | []=>[]
 | (_,i)::r=>some (i.agg,i.size,i.bytes,i.zero,i.k,i.flat)::tabR r
theorem Z6s.of_eq{P:Program}{t:Nat}{i:Zo1}(h:Zatq P t i=some (i.agg,i.size,i.bytes,i.zero,i.k,i.flat)):Z6s P t i:=by
 unfold Zatq at h
 split at h
 .rename_i d j hd hj
  simp only [Option.some.injEq,Prod.mk.injEq] at h
  obtain⟨h1,h2,h3,h4,h5,h6⟩:=h
  refine { ty:=⟨⟨d,hd,h1⟩,by rw [hj];simp [h2]⟩,by_:=by rw [hj];simp [h2,h3],z:=fun z hz=>?_,k:=h5▸Zazs P t,fl:=fun d ks hf=>?_ }
  .rw [hz] at h4;exact h4
  .rw [hf] at h6
   simp only at h6
   cases hb:(Nat.ble d 10000&&i.agg && !(P.eqGuardType P.depth t)) with
   | false=>rw [hb] at h6;cases h6
   | true=>
    rw [hb,cond_true] at h6
    simp only [Bool.and_eq_true,Zdj,Bool.not_eq_true'] at hb
    simp only [Option.map_eq_some_iff,Prod.mk.injEq] at h6
    obtain⟨ks',e1,_,e2⟩:=h6
    exact⟨hb.1.1,by rw [e1,e2],hb.1.2,hb.2⟩
 .cases h
theorem TOK.of_eq{P:Program}{T:TS}(h:tabL P T=tabR T):TOK P T:=by
 refine TOK.of_all ?_
 induction T with
 | nil=>trivial
 | cons x r ih=>
  obtain⟨t,i⟩:=x
  simp only [tabL,tabR,List.cons.injEq] at h
  exact⟨Z6s.of_eq h.1,ih h.2⟩
end
class Cl {α:Type} (f:α->List Zb) (k:outParam Nat):Prop where
 l:∀ x,(f x).length=k
instance (k:IntKind):Cl (cI k) 1:=⟨fun _=>rfl⟩
instance:Cl cB 1:=⟨fun _=>rfl⟩
instance:Cl cS 1:=⟨fun _=>rfl⟩
instance {α:Type} (f:α->List Zb):Cl (cL f) 1:=⟨fun _=>rfl⟩
class Cs {α:Type} (f:α->List Zb):Prop where
 s:∀ x,∃ t,f x=[t]/\t.scal=true
instance (k:IntKind):Cs (cI k):=⟨fun _=>⟨_,rfl,rfl⟩⟩
instance:Cs cB:=⟨fun _=>⟨_,rfl,rfl⟩⟩
instance:Cs cS:=⟨fun _=>⟨_,rfl,rfl⟩⟩
theorem Zayc{α:Type}(f:α->Zb){xs:List α}{i:Int}{v:α}(h:idx? xs i=some v):Zec false 1 (i.toNat*1) ((xs.map f).map .t)=some (Zld false [f v]):=by
 have hm:=Z2y f h
 simp only [Zec,cond_false,Nat.mul_one,List.getElem?_map (f:=PV.t),hm,Option.map_some]
 rfl
abbrev LF.z{R:Type}(f:Nat)(rs:List RV)(own:Bool)(sr:R->List (Nat×Blk))(res:R->PV):LF Empty R:=⟨f,rs,own,(fun s=>nomatch s),(fun s=>nomatch s),sr,res,(fun s=>nomatch s)⟩
abbrev LF.z0{R:Type}(f:Nat)(rs:List RV)(res:R->PV):LF Empty R := .z f rs false (fun _=>[]) res
abbrev LF.m{S R:Type}(f:Nat)(rs:List RV)(own:Bool)(sr:R->List (Nat×Blk))(res:R->PV)(b:S->List Nat×PW.St×LT S R):LF S R:=⟨f,rs,own,fun s=>(b s).1,fun s=>(b s).2.1,sr,res,fun s=>(b s).2.2⟩
abbrev LF.m0{S R:Type}(f:Nat)(rs:List RV)(res:R->PV)(b:S->List Nat×PW.St×LT S R):LF S R := .m f rs false (fun _=>[]) res b
abbrev Opq(k:Nat):={ l:List Zb // l.length=k }
abbrev cOpq{k:Nat}(x:Opq k):List Zb:=x.1
instance {k:Nat}:Cl (cOpq (k:=k)) k:=⟨fun x=>x.2⟩
theorem Z2u.of{P:Program}{f k b:Nat}{g:List (Opq k)->Option (List (Opq k))}(hg:∀ a:List (Opq k),a.length*b<=140737488355328->g a=some a)
 (H:∀ (a:List (Opq k)) {r:List (Opq k)},g a=some r->FnG P f [] [wL cOpq a] [(5000,wR cOpq k r)] (wO cOpq 5000 r)):Z2u P f k b:=fun es hk hb=>by
 have hm:(es.pmap (fun l h=>(⟨l,h⟩:Opq k)) hk).map cOpq=es:=by rw [List.map_pmap];simp
 have:=H _ (hg (es.pmap (fun l h=>(⟨l,h⟩:Opq k)) hk) (by simpa using hb))
 simpa only [wL,wR,wO,hm] using this
namespace LT
section
variable {S R α:Type}
abbrev AM{α:Type}(f:α->List Zb)(k:Nat)(xs:List α):Prop:=∀ el,el∈xs.map f->el.length=k
theorem am(f:α->List Zb){k:Nat} [c:Cl f k] (xs:List α):AM f k xs:=all_map f k c.l xs
abbrev RL{α:Type}(f:α->List Zb)(xs:List α):Prop:=(xs.map f).length=(xs.map f).length
abbrev LM{α:Type}(f:α->List Zb)(xs:List α):Prop:=(((xs.map f).length:Nat):Int)=(xs.length:Int)
abbrev rt(r:R):LT S R := .ret r []
abbrev g0(s:S):LT S R := .go s []
abbrev j0(s:S)(t:LT S R):LT S R := .jn 0 s [] t
abbrev dr(xs:List Orc)(t:LT S R):LT S R := .ev xs [] trivial t
abbrev lb(l:Nat)(t:LT S R):LT S R := .ev [.lab l] [] trivial t
abbrev kb(b:Bool)(t:LT S R):LT S R := .ev [.br b] [b=b] ⟨rfl,trivial⟩ t
abbrev k2(n:Nat)(t:LT S R):LT S R := .kg n (.kg n t)
abbrev k3(n:Nat)(t:LT S R):LT S R := .kg n (.kg n (.kg n t))
abbrev k4(n:Nat)(t:LT S R):LT S R := .kg n (.kg n (.kg n (.kg n t)))
abbrev k5(n:Nat)(t:LT S R):LT S R := .kg n (.kg n (.kg n (.kg n (.kg n t))))
abbrev k8(n:Nat)(t:LT S R):LT S R := .kg n (.kg n (.kg n (.kg n (.kg n (.kg n (.kg n (.kg n t)))))))
abbrev k16(n:Nat)(t:LT S R):LT S R := .kg n (.kg n (.kg n (.kg n (.kg n (.kg n (.kg n (.kg n (.kg n (.kg n (.kg n (.kg n (.kg n (.kg n (.kg n (.kg n t)))))))))))))))
abbrev b2(b:Bool)(t:LT S R):LT S R := .kb b (.kb b t)
abbrev b3(b:Bool)(t:LT S R):LT S R := .kb b (.kb b (.kb b t))
abbrev b4(b:Bool)(t:LT S R):LT S R := .kb b (.kb b (.kb b (.kb b t)))
abbrev b5(b:Bool)(t:LT S R):LT S R := .kb b (.kb b (.kb b (.kb b (.kb b t))))
abbrev b8(b:Bool)(t:LT S R):LT S R := .kb b (.kb b (.kb b (.kb b (.kb b (.kb b (.kb b (.kb b t)))))))
abbrev b16(b:Bool)(t:LT S R):LT S R := .kb b (.kb b (.kb b (.kb b (.kb b (.kb b (.kb b (.kb b (.kb b (.kb b (.kb b (.kb b (.kb b (.kb b (.kb b (.kb b t)))))))))))))))
abbrev rl(f:α->List Zb)(xs:List α)(t:LT S R):LT S R := .ev [] [RL f xs] ⟨rfl,trivial⟩ t
abbrev len(f:α->List Zb)(xs:List α)(t:LT S R):LT S R := .ev [.num xs.length] [LM f xs] ⟨Zar9 f xs,trivial⟩ t
abbrev lenO(f:α->List Zb)(xs:List α)(t:LT S R):LT S R := .ev [.num xs.length] [RL f xs,LM f xs] ⟨rfl,Zar9 f xs,trivial⟩ t
abbrev lenS(s:List UInt8)(t:LT S R):LT S R := .ev [.num s.length] [(s.length:Int)=s.length] ⟨rfl,trivial⟩ t
abbrev dc(p:Prop) [Decidable p] (h:decide p=true) (t:LT S R):LT S R := .ev [] [p] ⟨of_decide_eq_true h,trivial⟩ t
abbrev ok(p:Prop) [Decidable p] (t:LT S R):LT S R := .op (ok? (decide p)) (fun _=>[]) (fun _=>[p]) (fun _=>[]) (fun _ h=>⟨⟨Zazh h,trivial⟩,trivial⟩) fun _=>t
abbrev idx(f:α->List Zb){n:Nat} [Cl f n] (xs:List α) (i:Int) (k:α->LT S R):LT S R:=
 .op (idx? xs i) (fun x=>[.cs (f x)]) (fun x=>[AM f n xs,0<=i,(xs.map f)[i.toNat]?=some (f x)]) (fun x=>[AM f n xs,0<=i,(xs.map f)[i.toNat]?=some (f x)])
  (fun _ h=>⟨⟨am f xs,Z2x h,Z2y f h,trivial⟩,am f xs,Z2x h,Z2y f h,trivial⟩) k
abbrev idxR(f:α->List Zb)(xs:List α)(i:Int)(k:α->LT S R):LT S R:=
 .op (idx? xs i) (fun _=>[.nat i.toNat]) (fun _=>[RL f xs,0<=i,i < ((xs.map f).length:Nat),i.toNat=i.toNat]) (fun x=>[0<=i,i < ((xs.map f).length:Nat),(xs.map f)[i.toNat]?=some (f x)])
  (fun _ h=>⟨⟨rfl,Z2x h,Zamv f h,rfl,trivial⟩,Z2x h,Zamv f h,Z2y f h,trivial⟩) k
abbrev idxS(s:List UInt8)(i:Int)(k:UInt8->LT S R):LT S R:=
 .op (idx? s i) (fun x=>[.byte x]) (fun x=>[0<=i,s[i.toNat]?=some x]) (fun _=>[]) (fun _ h=>⟨⟨Z2x h,Z4e h,trivial⟩,trivial⟩) k
abbrev plR(f:α->List Zb)(xs:List α)(i:Int)(n:Nat)(t:LT S R):LT S R := .ev [.nat i.toNat] [RL f xs] ⟨rfl,trivial⟩ (.us [n,n+1] (.ev [] [i.toNat=i.toNat] ⟨rfl,trivial⟩ t))
abbrev ldR(f:α->List Zb)(xs:List α)(x:α)(n:Nat)(t:LT S R):LT S R := .ev [.cs (f x)] [RL f xs] ⟨rfl,trivial⟩ (.us [n] t)
abbrev setD(f:α->List Zb)(xs:List α)(i:Int)(x x':α)(m q:Nat)(ts:List Zb)(hs:splice (f x) q ts=f x')(k:List α->LT S R):LT S R:=
 .ev [.cs (f x)] [RL f xs] ⟨rfl,trivial⟩ (.us [m] (.op (set? xs i x') (fun z=>[.es (z.map f)]) (fun z=>[(xs.map f).set i.toNat (splice (f x) q ts)=z.map f]) (fun z=>[(xs.map f).length=(z.map f).length,(z.map f)[i.toNat]?=some (f x'),(z.map f).length=(xs.map f).length])
  (fun _ h=>⟨⟨Za0h f h hs,trivial⟩,Zah2 f h,Zazl f h,(Zah2 f h).symm,trivial⟩) k))
abbrev sl(f:α->List Zb){n:Nat} [Cl f n] (xs:List α) (l h:Int) (k:List α->LT S R):LT S R:=
 .op (slice? xs l h) (fun z=>[.es (z.map f)]) (fun z=>[AM f n xs,0<=l,l<=h,h<=((xs.map f).length:Nat),((xs.map f).take h.toNat).drop l.toNat=z.map f]) (fun _=>[])
  (fun _ e=>⟨⟨am f xs,Zazi e,Zazj e,Zazk f e,Zavr f e,trivial⟩,trivial⟩) k
abbrev slS(s:List UInt8)(l h:Int)(k:List UInt8->LT S R):LT S R:=
 .op (slice? s l h) (fun z=>[.cs [.str z]]) (fun z=>[0<=l,l<=h,h<=(s.length:Int),(s.take h.toNat).drop l.toNat=z]) (fun _=>[])
  (fun _ e=>⟨⟨(Zz3 e).1,(Zz3 e).2.1,(Zz3 e).2.2.1,(Zz3 e).2.2.2,trivial⟩,trivial⟩) k
abbrev mk(f:α->List Zb)(l b:Nat)(z:α)(m c:Int)(k:List α->LT S R):LT S R:=
 .op (make? b z m c) (fun x=>[.lab l,.nat (x.map f).length,.es (x.map f)]) (fun x=>[0<=m,m<=c,(b:Int)*c<=281474976710656,c<=9223372036854775807,m.toNat=(x.map f).length,List.replicate (x.map f).length (f z)=x.map f]) (fun _=>[])
  (fun _ e=>⟨⟨(Zxh e).1,(Zxh e).2.1,(Zxh e).2.2.1,(Zxh e).2.2.2,Zaxy f e,Zaxz f e,trivial⟩,trivial⟩) k
abbrev apN(f:α->List Zb){n:Nat} [Cl f n] (l b:Nat) (ys:List α) (k:List α->LT S R):LT S R:=
 .op (app? b [] ys) (fun z=>[.lab l,.es (z.map f)]) (fun z=>[ys.map f=z.map f,AM f n z,(z.map f).length<=9223372036854775807,(z.map f).length*b<=140737488355328]) (fun _=>[])
  (fun z h=>⟨⟨Zasa f h,am f z,Zah1 f h,Zz2 f h,trivial⟩,trivial⟩) k
abbrev apR(f:α->List Zb){n:Nat} [Cl f n] (b:Nat) (xs ys:List α) (k:List α->LT S R):LT S R:=
 .op (app? b xs ys) (fun z=>[.es (z.map f)]) (fun z=>[RL f xs,xs.map f++ys.map f=z.map f,AM f n ys,(z.map f).length<=9223372036854775807,(z.map f).length*b<=140737488355328]) (fun _=>[])
  (fun _ h=>⟨⟨rfl,Zah0 f h,am f ys,Zah1 f h,Zz2 f h,trivial⟩,trivial⟩) k
abbrev str(xs:List Int)(k:List UInt8->LT S R):LT S R:=
 .op (str? xs) (fun z=>[.cs [.str z]]) (fun z=>[Ziy z=xs.map (cI .u8),z≠[]]) (fun _=>[]) (fun _ h=>⟨⟨(Zajh h).1,(Zajh h).2,trivial⟩,trivial⟩) k
abbrev call{P:Program}{f:Nat}{args:List PV}{o:Option α}{p:α->PV}(H:∀ {r:α},o=some r->Fn P f args (p r))(k:α->LT S R):LT S R:=
 .op o (fun x=>[.call (p x)]) (fun x=>[Fn P f args (p x)]) (fun _=>[]) (fun _ h=>⟨⟨H h,trivial⟩,trivial⟩) k
abbrev callO{P:Program}{f:Nat}{args:List PV}{o:Option α}{p:α->PV}{σ:List (Nat×Blk)}{σ1:α->List (Nat×Blk)}(H:∀ {r:α},o=some r->FnG P f σ args (σ1 r) (p r))(ls:List Nat)(d:Nat)(fr:α->List (Nat×Blk))(k:α->LT S R):LT S R:=
 .op o (fun x=>[.callO false ls d (fr x) (p x)]) (fun x=>[FnG P f σ args (σ1 x) (p x)]) (fun _=>[]) (fun _ h=>⟨⟨H h,trivial⟩,trivial⟩) k
abbrev callU{P:Program}{f:Nat}{args:List PV}{o:Option α}{p:α->PV}{σ:List (Nat×Blk)}{σ1:α->List (Nat×Blk)}(H:∀ {r:α},o=some r->FnG P f σ args (σ1 r) (p r))(ls:List Nat)(d:Nat)(k:α->LT S R):LT S R:=
 .op o (fun x=>[.callU false ls d (σ1 x) (p x)]) (fun x=>[FnG P f σ args (σ1 x) (p x)]) (fun _=>[]) (fun _ h=>⟨⟨H h,trivial⟩,trivial⟩) k
abbrev callF{P:Program}{f:Nat}{args:List PV}{o:Option α}{p:α->PV}{σ1:α->List (Nat×Blk)}(H:∀ {r:α},o=some r->FnG P f [] args (σ1 r) (p r))(d:Nat)(k:α->LT S R):LT S R:=
 .op o (fun x=>[.callO false [] d (σ1 x) (p x)]) (fun x=>[FnG P f [] args (σ1 x) (p x)]) (fun _=>[]) (fun _ h=>⟨⟨H h,trivial⟩,trivial⟩) k
abbrev callD{P:Program}{f:Nat}{args:List PV}{o:Option α}{p:α->PV}{σ1:α->List (Nat×Blk)}(H:∀ {r:α},o=some r->FnG P f [] args (σ1 r) (p r))(d:Nat)(k:α->LT S R):LT S R:=
 .op (dry? σ1 p o) (fun x=>[.callO true [] d (σ1 x) (p x)]) (fun x=>scC true (σ1 x) (p x)++[FnG P f [] args (σ1 x) (p x)]) (fun _=>[]) (fun _ h=>⟨Zw.2 ⟨Za0q (Zase h).2,H (Zase h).1,trivial⟩,trivial⟩) k
abbrev ag(f:α->List Zb)(x:α)(n:Nat)(t:LT S R):LT S R := .ev [.cs (f x)] [] trivial (.us [n,n+1,n+2] t)
abbrev idA(f:α->Zb)(xs:List α)(i:Int)(cs:List PV)(q m:Nat)(k:α->LT S R):LT S R:=
 .op (idx? xs i) (fun _=>[.nat i.toNat]) (fun _=>[0<=i,i < (xs.length:Int),i.toNat=i.toNat]) (fun v=>[Zec false 1 ((cs.take q).length+i.toNat*1) (cs.take q++((xs.map f).map .t++cs.drop m))=some (Zld false [f v])])
  (fun _ h=>⟨⟨Z2x h,by simpa using Zamv f h,rfl,trivial⟩,Zax1 _ _ (Zayc f h),trivial⟩) k
abbrev ldC(f:α->Zb)(d:Nat)(v:α)(n:Nat)(t:LT S R):LT S R := .ev [.cell d [f v]] [] trivial (.us [n] t)
abbrev stA(o:Option α){p:Prop}{l:List PV}{g:α->List PV}(H:∀ {y:α},o=some y->p/\l=g y)(k:α->LT S R):LT S R:=
 .op o (fun y=>[.sp (g y)]) (fun y=>[p,l=g y]) (fun _=>[]) (fun _ h=>⟨⟨(H h).1,(H h).2,trivial⟩,trivial⟩) k
abbrev m0(l:Nat)(t:LT S R):LT S R := .ev [.num 0,.lab l] [] trivial t
abbrev callC{P:Program}{fn n b:Nat}(H:Z2u P fn n b)(f:α->List Zb) [Cl f n] (l:Nat) (xs:List α) (t:LT S R):LT S R:=
 .op (app? b [] xs) (fun _=>[.callC l b]) (fun _=>[RL f xs,Z2u P fn n b,(xs.map f).length*b<=140737488355328]) (fun _=>[])
  (fun z h=>⟨⟨rfl,H,by have h1:=Zz2 f h;rwa [<- Zasa f h] at h1,trivial⟩,trivial⟩) fun _=>t
abbrev scl(f:α->List Zb)(hs:∀ a,(f a).all Zb.scal=true)(xs:List α)(t:LT S R):LT S R := .ev [] [∀ el,el∈xs.map f->∀ x,x∈el->Zb.scal x=true] ⟨Zax0 f hs xs,trivial⟩ t
abbrev scl0(f:α->List Zb)(t:LT S R):LT S R := .ev [] [∀ el,el∈([]:List α).map f->∀ x,x∈el->Zb.scal x=true] ⟨(fun _ h=>absurd h (List.not_mem_nil)),trivial⟩ t
abbrev ldX(f:α->List Zb)(xs:List α)(x:α)(i:Int)(n:Nat)(t:LT S R):LT S R := .ev [.cs (f x)] [RL f xs,i.toNat<=i.toNat] ⟨rfl,Nat.le_refl _,trivial⟩ (.us [n] t)
abbrev stX(f:α->List Zb)(xs:List α)(i j:Int)(x x':α)(m:Nat)(k:List α->LT S R):LT S R:=
 .ev [.cs (f x)] [RL f xs,i.toNat=i.toNat] ⟨rfl,rfl,trivial⟩ (.us [m] (.op (set? xs i x') (fun z=>[.es (z.map f),.nat j.toNat]) (fun z=>[(xs.map f).set i.toNat (f x')=z.map f]) (fun z=>[(xs.map f).length=(z.map f).length])
  (fun _ h=>⟨⟨Zazm f h,trivial⟩,Zah2 f h,trivial⟩) k))
abbrev apX(f:α->List Zb)(b:Nat)(xs ys:List α)(k:List α->LT S R):LT S R:=
 .op (app? b xs ys) (fun z=>[.es (z.map f)]) (fun z=>[RL f xs,RL f xs,RL f ys,RL f ys,xs.map f++ys.map f=z.map f,(z.map f).length<=9223372036854775807,(z.map f).length*b<=140737488355328]) (fun _=>[])
  (fun _ h=>⟨⟨rfl,rfl,rfl,rfl,Zah0 f h,Zah1 f h,Zz2 f h,trivial⟩,trivial⟩) k
abbrev ne(f:α->List Zb){xs:List α}(h:xs≠[])(t:LT S R):LT S R := .ev [] [xs.map f≠[]] ⟨Za0g f h,trivial⟩ t
end
end LT
end Go.PW
namespace Go.PW
theorem tX{S R:Type}{Inv:S->Prop}{μ:S->M6}{m:M6}{post:R->Prop}{F:LF S R}{t:LT S R}(h0:Tot t.den (Nx Inv μ m post))(hs:∀ s,Inv s->Tot (F.body s).den (Nx Inv μ (μ s) post)):Tot (F.run t) post:=
 Tot.fin h0 hs
abbrev iv0:Empty->Prop:=fun _=>True
abbrev mu0:Empty->M6:=fun _=>(0,0,0,0,0,0)
theorem tZ{R:Type}{post:R->Prop}{F:LF Empty R}{t:LT Empty R}(h0:Tot t.den (Nx iv0 mu0 (1000000,0,0,0,0,0) post)):Tot (F.run t) post:=
 Tot.fin h0 fun s=>nomatch s
theorem tJ{S R:Type}{Inv:S->Prop}{μ:S->M6}{m m':M6}{post:R->Prop}{o:Option (S ⊕ R)}(h:Tot o (Nx Inv μ m' post))(hm:le6 m' m:=by unfold le6 lt6;dsimp only;omega):Tot o (Nx Inv μ m post):=Tot.join h hm
theorem qw{p:Prop}(n:Int)(h:(-9223372036854775808<=n->n < 9223372036854775808->IntKind.wrap .i64 n=n)->(-9223372036854775808<=IntKind.wrap .i64 n/\IntKind.wrap .i64 n < 9223372036854775808)->p):p:=h (Za05 n) (Za06 n)
theorem lo{p:Prop}(h:p:=by first | omega | (dsimp only;omega)):p:=h
theorem cl{p:Prop}(h:p:=by first | omega | (simp only [List.length_append,List.length_cons,List.length_nil];omega) | trivial | decide | assumption | exact shl_ne' (by omega) (by omega) | (simp;done) | (simp;omega)):p:=h
theorem me1{α:Type}{P:α->Prop}{a:α}(h:P a):∀ x,x∈[a]->P x:=mem_cons' h fun _ h=>by cases h
theorem SzL.tr{α:Type}{l:List α}{k:Nat}(h:l.length*k<=140737488351232:=by first | omega | (simp only [List.length_cons,List.length_nil];omega)):SzL k (fun _=>True) l:=⟨h,fun _ _=>trivial⟩
theorem cs{p:Prop}(h:p:=by repeat' (first | exact cl | apply And.intro)):p:=h
end Go.PW
namespace Go.PW
open Go.RowKit
end Go.PW
