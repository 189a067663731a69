import Derived.Test.YtncgejlelfefdaaGreatPwY
set_option linter.all false
namespace Go.PW
open Go.RowKit
abbrev bx(l:List Zn):List PV:=l.map .t
abbrev wI(n:Int):PV := .t (.int .i64 n)
abbrev wB(b:Bool):PV := .t (.bool b)
abbrev wS(s:List UInt8):PV := .t (.str s)
abbrev wL{α:Type}(f:α->List Zn)(xs:List α):PV := .t (.sl (xs.map f))
abbrev wA(l:List Zn):PV := .agg (bx l)
abbrev wO{α:Type}(f:α->List Zn)(l:Nat)(xs:List α):PV := .osl l (xs.map f).length
abbrev wR{α:Type}(f:α->List Zn)(k:Nat)(xs:List α):Blk := .row k (xs.map f)
abbrev wM{α:Type}(f:α->List Zn)(l:Nat)(xs:List α):PV := .own l (.msl (xs.map f).length)
abbrev wT{α:Type}(f:α->List Zn)(xs:List α):Blk := .mat 1 0 (xs.map f)
def Zym:List (Nat×Blk)->Bool
 | []=>true
 | (_,.box cs)::r=>PV.scs cs&&Zym r
 | (_,.row _ es)::r=>(es.all fun el=>el.all Zn.scal)&&Zym r
 | (_,.mat k q _)::r=>(Nat.beq k 1&&Nat.beq q 0)&&Zym r
 | (_,.map _ _)::_=>false
theorem Zako:∀ {σ:List (Nat×Blk)},Zym σ=true->Zbd (scB σ)
 | [],_=>trivial
 | (l,b)::r,h=>by
  cases b with
  | box cs=>simp only [Zym,Bool.and_eq_true] at h;exact⟨h.1,Zako h.2⟩
  | row k es=>
   simp only [Zym,Bool.and_eq_true] at h
   exact⟨fun el hel x hx=>List.all_eq_true.1 (List.all_eq_true.1 h.1 el hel) x hx,Zako h.2⟩
  | mat k q es=>
   simp only [Zym,Bool.and_eq_true,Zaq] at h
   exact⟨h.1,Zako h.2⟩
  | map ag es=>cases h
theorem Zbrb{σ:List (Nat×Blk)}{p:PV}(h:(p.sc&&Zym σ)=true):Zbd (scC true σ p):=by
 simp only [Bool.and_eq_true] at h
 exact⟨h.1,Zako h.2⟩
def dry? {α:Type} (σ1:α->List (Nat×Blk)) (p:α->PV) (o:Option α):Option α:=o.bind fun x=>bif (p x).sc&&Zym (σ1 x) then some x else none
theorem Zbcw{α:Type}{σ1:α->List (Nat×Blk)}{p:α->PV}{o:Option α}{x:α}(h:dry? σ1 p o=some x):o=some x/\((p x).sc&&Zym (σ1 x))=true:=by
 unfold dry? at h
 obtain⟨y,h1,h2⟩:=Option.bind_eq_some_iff.1 h
 cases hb:((p y).sc&&Zym (σ1 y)) with
 | true=>rw [hb,cond_true] at h2;cases h2;exact⟨h1,hb⟩
 | false=>rw [hb,cond_false] at h2;cases h2
class Sd (P:Program) (T:outParam TS):Prop where
 hm:P.follows .mixedOrders=true
 hT:TOK P T
section
variable {P:Program} {T:TS} [i:Sd P T] {S R:Type}
def ntOf(P:Program)(f:Nat):Nat:=match P.funcs[f]? with | some fn=>fn.ntmps | none=>0
def Zbnb(P:Program)(T:TS)(f:Nat)(rs:List RV)(args:List PV):Bool:=
 match P.funcs[f]? with
 | some fn => fn.body.isSome && (!(fn.name == "runtime.NumGoroutine")) && Nat.ble args.length fn.ntmps && rvOK T rs
 | none=>false
theorem LF.fn(F:LF S R){args:List PV}{σ:List (Nat×Blk)}{t:LT S R}{r:R}(h:F.run t=some r)
 (h0:(chk P T F t (.code (Zafi P F.f) []) [] [] ⟨[],[]⟩ ⟨ntOf P F.f,idx 0 args,σ⟩).l=(chk P T F t (.code (Zafi P F.f) []) [] [] ⟨[],[]⟩ ⟨ntOf P F.f,idx 0 args,σ⟩).r:=by kernel_rfl)
 (hl:∀ s,(chk P T F (F.body s) (F.cfg P s) [] [] ⟨[],[]⟩ (F.stf s)).l=(chk P T F (F.body s) (F.cfg P s) [] [] ⟨[],[]⟩ (F.stf s)).r:=by intro s;cases s<;>kernel_rfl)
 (hs:Zbnb P T F.f F.rs args=true:=by kernel_rfl) (hr:(P.funcs[F.f]?).map (·.results)=some (F.rs.map RV.to).toArray:=by kernel_rfl) :
 FnG P F.f σ args (F.sr r) (F.res r):=by
 unfold Zbnb at hs
 split at hs
 .rename_i fn hf
  simp only [Bool.and_eq_true,Bool.not_eq_true',Zfp] at hs
  obtain⟨⟨⟨h1,h2⟩,h3⟩,h4⟩:=hs
  have hr':fn.results=(F.rs.map RV.to).toArray:=by rw [hf] at hr;exact Option.some.inj hr
  obtain⟨c,hc⟩:=Option.isSome_iff_exists.1 h1
  have e1:Zafi P F.f=c:=by unfold Zafi;rw [hf];show (fn.body).getD .skip=c;rw [hc];rfl
  have e2:ntOf P F.f=fn.ntmps:=by unfold ntOf;rw [hf]
  refine FnG.of_cfg i.hT hf hc h2 fn.ntmps rfl h3 F.rs hr' h4 ?_
  have J:∀ s,(chk P T F (F.body s) (F.cfg P s) [] [] ⟨[],[]⟩ (F.stf s)).ok:=fun s=>E.sound _ (hl s)
  unfold LF.run at h
  obtain⟨y,hy,he⟩:=Option.bind_eq_some_iff.1 h
  have h0':=E.sound _ h0
  rw [e1,e2] at h0'
  refine Zbh8 i.hm i.hT F J t _ _ _ _ _ y h0' trivial ⟨fun _ hp=>(nomatch hp),fun _ hp=>(nomatch hp)⟩ hy (Zbvf (fun s y hs hk=>?_) he)
  exact Zbh8 i.hm i.hT F J _ _ _ _ _ _ y (J s) trivial ⟨fun _ hp=>(nomatch hp),fun _ hp=>(nomatch hp)⟩ hs hk
 .cases hs
end
section
def tkOf(P:Program)(t:Nat):TK:=
 match P.underlying t with
 | some .bool => .bool
 | some (.int k) => .int k
 | some .string => .str
 | some (.slice e) => .slice e
 | some (.struct fs) => .struct (fs.toList.map fun f=>(f.offset,f.type))
 | some (.array n e) => .arr n e
 | some (.map k e) => .map k e
 | some (.pointer _) => .ptr
 | _ => .other
theorem Zbps(P:Program)(t:Nat):TKOK P t (tkOf P t):=by
 unfold tkOf
 split<;>rename_i h<;>simp only [TKOK]
 all_goals first | exact h | exact⟨_,h,rfl⟩ | (unfold Program.pointee;rw [h])
abbrev TRow:=Option (Bool×Nat×Nat×Option (List PV)×TK×Option (Nat×List LK))
def Zbem(P:Program)(t:Nat)(i:Zpu):TRow:=
 match P.underlying t,P.info? t with
 | some d,some j=>some (d.isRow,j.size,j.bytes,(match i.zero with | none=>none | some _=>Zi7 P t),tkOf P t,
  (match i.flat with | none=>none | some (d,_)=>bif Nat.ble d 10000&&i.agg && !(P.eqGuardType P.depth t) then (Zji P d t).map fun ks=>(d,ks) else none))
 | _,_=>none
def tabL(P:Program):TS->List TRow
 | []=>[]
 | (t,i)::r=>Zbem P t i::tabL P r
def tabR:TS->List TRow
 | []=>[]
 | (_,i)::r=>some (i.agg,i.size,i.bytes,i.zero,i.k,i.flat)::tabR r
theorem Zae9.of_eq{P:Program}{t:Nat}{i:Zpu}(h:Zbem P t i=some (i.agg,i.size,i.bytes,i.zero,i.k,i.flat)):Zae9 P t i:=by
 unfold Zbem at h
 split at h
 .rename_i d j hd hj
  simp only [Option.some.injEq,Prod.mk.injEq] at h
  obtain⟨h1,h2,h3,h4,h5,h6⟩:=h
  refine { ty:=⟨⟨d,hd,h1⟩,by rw [hj];simp [h2]⟩,by_:=by rw [hj];simp [h2,h3],z:=fun z hz=>?_,k:=h5▸Zbps P t,fl:=fun d ks hf=>?_ }
  .rw [hz] at h4;exact h4
  .rw [hf] at h6
   simp only at h6
   cases hb:(Nat.ble d 10000&&i.agg && !(P.eqGuardType P.depth t)) with
   | false=>rw [hb] at h6;cases h6
   | true=>
    rw [hb,cond_true] at h6
    simp only [Bool.and_eq_true,Zfp,Bool.not_eq_true'] at hb
    simp only [Option.map_eq_some_iff,Prod.mk.injEq] at h6
    obtain⟨ks',e1,_,e2⟩:=h6
    exact⟨hb.1.1,by rw [e1,e2],hb.1.2,hb.2⟩
 .cases h
theorem TOK.of_eq{P:Program}{T:TS}(h:tabL P T=tabR T):TOK P T:=by
 refine TOK.of_all ?_
 induction T with
 | nil=>trivial
 | cons x r ih=>
  obtain⟨t,i⟩:=x
  simp only [tabL,tabR,List.cons.injEq] at h
  exact⟨Zae9.of_eq h.1,ih h.2⟩
end
class Cl {α:Type} (f:α->List Zn) (k:outParam Nat):Prop where
 l:∀ x,(f x).length=k
instance (k:IntKind):Cl (cI k) 1:=⟨fun _=>rfl⟩
instance:Cl cB 1:=⟨fun _=>rfl⟩
instance:Cl cS 1:=⟨fun _=>rfl⟩
instance {α:Type} (f:α->List Zn):Cl (cL f) 1:=⟨fun _=>rfl⟩
class Cs {α:Type} (f:α->List Zn):Prop where
 s:∀ x,∃ t,f x=[t]/\t.scal=true
instance (k:IntKind):Cs (cI k):=⟨fun _=>⟨_,rfl,rfl⟩⟩
instance:Cs cB:=⟨fun _=>⟨_,rfl,rfl⟩⟩
instance:Cs cS:=⟨fun _=>⟨_,rfl,rfl⟩⟩
theorem sc1{α:Type}(f:α->List Zn) [c:Cs f] (xs:List α):SC1 (xs.map f):=fun x hx=>by
 obtain⟨a,_,rfl⟩:=List.mem_map.1 hx
 exact c.s a
theorem Za6b{α:Type}(f:α->Zn){xs:List α}{i:Int}{v:α}(h:idx? xs i=some v):Zd7 false 1 (i.toNat*1) ((xs.map f).map .t)=some (Zjz false [f v]):=by
 have hm:=Z00 f h
 simp only [Zd7,cond_false,Nat.mul_one,List.getElem?_map (f:=PV.t),hm,Option.map_some]
 rfl
abbrev LF.z{R:Type}(f:Nat)(rs:List RV)(own:Bool)(sr:R->List (Nat×Blk))(res:R->PV):LF Empty R:=⟨f,rs,own,(fun s=>nomatch s),(fun s=>nomatch s),sr,res,(fun s=>nomatch s)⟩
abbrev LF.z0{R:Type}(f:Nat)(rs:List RV)(res:R->PV):LF Empty R := .z f rs false (fun _=>[]) res
abbrev LF.m{S R:Type}(f:Nat)(rs:List RV)(own:Bool)(sr:R->List (Nat×Blk))(res:R->PV)(b:S->List Nat×PW.St×LT S R):LF S R:=⟨f,rs,own,fun s=>(b s).1,fun s=>(b s).2.1,sr,res,fun s=>(b s).2.2⟩
abbrev LF.m0{S R:Type}(f:Nat)(rs:List RV)(res:R->PV)(b:S->List Nat×PW.St×LT S R):LF S R := .m f rs false (fun _=>[]) res b
namespace LT
section
variable {S R α:Type}
abbrev AM{α:Type}(f:α->List Zn)(k:Nat)(xs:List α):Prop:=∀ el,el∈xs.map f->el.length=k
theorem am(f:α->List Zn){k:Nat} [c:Cl f k] (xs:List α):AM f k xs:=all_map f k c.l xs
abbrev RL{α:Type}(f:α->List Zn)(xs:List α):Prop:=(xs.map f).length=(xs.map f).length
abbrev LM{α:Type}(f:α->List Zn)(xs:List α):Prop:=(((xs.map f).length:Nat):Int)=(xs.length:Int)
abbrev rt(r:R):LT S R := .ret r []
abbrev g0(s:S):LT S R := .go s []
abbrev j0(s:S)(t:LT S R):LT S R := .jn 0 s [] t
abbrev dr(xs:List Orc)(t:LT S R):LT S R := .ev xs [] trivial t
abbrev lb(l:Nat)(t:LT S R):LT S R := .ev [.lab l] [] trivial t
abbrev kb(b:Bool)(t:LT S R):LT S R := .ev [.br b] [b=b] ⟨rfl,trivial⟩ t
abbrev k2(n:Nat)(t:LT S R):LT S R := .kg n (.kg n t)
abbrev k3(n:Nat)(t:LT S R):LT S R := .kg n (.kg n (.kg n t))
abbrev k4(n:Nat)(t:LT S R):LT S R := .kg n (.kg n (.kg n (.kg n t)))
abbrev k5(n:Nat)(t:LT S R):LT S R := .kg n (.kg n (.kg n (.kg n (.kg n t))))
abbrev k8(n:Nat)(t:LT S R):LT S R := .kg n (.kg n (.kg n (.kg n (.kg n (.kg n (.kg n (.kg n t)))))))
abbrev k16(n:Nat)(t:LT S R):LT S R := .kg n (.kg n (.kg n (.kg n (.kg n (.kg n (.kg n (.kg n (.kg n (.kg n (.kg n (.kg n (.kg n (.kg n (.kg n (.kg n t)))))))))))))))
abbrev b2(b:Bool)(t:LT S R):LT S R := .kb b (.kb b t)
abbrev b3(b:Bool)(t:LT S R):LT S R := .kb b (.kb b (.kb b t))
abbrev b4(b:Bool)(t:LT S R):LT S R := .kb b (.kb b (.kb b (.kb b t)))
abbrev b5(b:Bool)(t:LT S R):LT S R := .kb b (.kb b (.kb b (.kb b (.kb b t))))
abbrev b8(b:Bool)(t:LT S R):LT S R := .kb b (.kb b (.kb b (.kb b (.kb b (.kb b (.kb b (.kb b t)))))))
abbrev b16(b:Bool)(t:LT S R):LT S R := .kb b (.kb b (.kb b (.kb b (.kb b (.kb b (.kb b (.kb b (.kb b (.kb b (.kb b (.kb b (.kb b (.kb b (.kb b (.kb b t)))))))))))))))
abbrev rl(f:α->List Zn)(xs:List α)(t:LT S R):LT S R := .ev [] [RL f xs] ⟨rfl,trivial⟩ t
abbrev len(f:α->List Zn)(xs:List α)(t:LT S R):LT S R := .ev [.num xs.length] [LM f xs] ⟨Zbcj f xs,trivial⟩ t
abbrev lenO(f:α->List Zn)(xs:List α)(t:LT S R):LT S R := .ev [.num xs.length] [RL f xs,LM f xs] ⟨rfl,Zbcj f xs,trivial⟩ t
abbrev lenS(s:List UInt8)(t:LT S R):LT S R := .ev [.num s.length] [(s.length:Int)=s.length] ⟨rfl,trivial⟩ t
abbrev dc(p:Prop) [Decidable p] (h:decide p=true) (t:LT S R):LT S R := .ev [] [p] ⟨of_decide_eq_true h,trivial⟩ t
abbrev ok(p:Prop) [Decidable p] (t:LT S R):LT S R := .op (ok? (decide p)) (fun _=>[]) (fun _=>[p]) (fun _=>[]) (fun _ h=>⟨⟨Zbpc h,trivial⟩,trivial⟩) fun _=>t
abbrev idx(f:α->List Zn){n:Nat} [Cl f n] (xs:List α) (i:Int) (k:α->LT S R):LT S R:=
 .op (idx? xs i) (fun x=>[.cs (f x)]) (fun x=>[AM f n xs,0<=i,(xs.map f)[i.toNat]?=some (f x)]) (fun x=>[AM f n xs,0<=i,(xs.map f)[i.toNat]?=some (f x)])
  (fun _ h=>⟨⟨am f xs,Zn8 h,Z00 f h,trivial⟩,am f xs,Zn8 h,Z00 f h,trivial⟩) k
abbrev idxR(f:α->List Zn)(xs:List α)(i:Int)(k:α->LT S R):LT S R:=
 .op (idx? xs i) (fun _=>[.nat i.toNat]) (fun _=>[RL f xs,0<=i,i < ((xs.map f).length:Nat),i.toNat=i.toNat]) (fun x=>[0<=i,i < ((xs.map f).length:Nat),(xs.map f)[i.toNat]?=some (f x)])
  (fun _ h=>⟨⟨rfl,Zn8 h,Zw4 f h,rfl,trivial⟩,Zn8 h,Zw4 f h,Z00 f h,trivial⟩) k
abbrev idxS(s:List UInt8)(i:Int)(k:UInt8->LT S R):LT S R:=
 .op (idx? s i) (fun x=>[.byte x]) (fun x=>[0<=i,s[i.toNat]?=some x]) (fun _=>[]) (fun _ h=>⟨⟨Zn8 h,Zbk1 h,trivial⟩,trivial⟩) k
abbrev plR(f:α->List Zn)(xs:List α)(i:Int)(n:Nat)(t:LT S R):LT S R := .ev [.nat i.toNat] [RL f xs] ⟨rfl,trivial⟩ (.us [n,n+1] (.ev [] [i.toNat=i.toNat] ⟨rfl,trivial⟩ t))
abbrev ldR(f:α->List Zn)(xs:List α)(x:α)(n:Nat)(t:LT S R):LT S R := .ev [.cs (f x)] [RL f xs] ⟨rfl,trivial⟩ (.us [n] t)
abbrev setR(f:α->List Zn)(xs:List α)(i:Int)(x x':α)(m q:Nat)(ts:List Zn)(hs:splice (f x) q ts=f x')(k:List α->LT S R):LT S R:=
 .ev [.cs (f x)] [RL f xs] ⟨rfl,trivial⟩ (.us [m] (.op (set? xs i x') (fun z=>[.es (z.map f)]) (fun z=>[(xs.map f).set i.toNat (splice (f x) q ts)=z.map f]) (fun z=>[(xs.map f).length=(z.map f).length])
  (fun _ h=>⟨⟨Zbqv f h hs,trivial⟩,Zbpd f h,trivial⟩) k))
abbrev sl(f:α->List Zn){n:Nat} [Cl f n] (xs:List α) (l h:Int) (k:List α->LT S R):LT S R:=
 .op (slice? xs l h) (fun z=>[.es (z.map f)]) (fun z=>[AM f n xs,0<=l,l<=h,h<=((xs.map f).length:Nat),((xs.map f).take h.toNat).drop l.toNat=z.map f]) (fun _=>[])
  (fun _ e=>⟨⟨am f xs,Zbcl e,Zax4 e,Zbcm f e,Zaff f e,trivial⟩,trivial⟩) k
abbrev slN(f:α->List Zn){n:Nat} [Cl f n] (xs:List α) (l:Int) (k:List α->LT S R):LT S R:=
 .op (slice? xs l xs.length) (fun z=>[.es (z.map f)]) (fun z=>[AM f n xs,0<=l,l<=((xs.map f).length:Nat),(((xs.map f).length:Nat):Int)<=(((xs.map f).length:Nat):Int),((xs.map f).take (((xs.map f).length:Nat):Int).toNat).drop l.toNat=z.map f]) (fun _=>[])
  (fun _ e=>⟨⟨am f xs,Zbcl e,Zbkx f e,Int.le_refl _,Zbeg f e,trivial⟩,trivial⟩) k
abbrev slS(s:List UInt8)(l h:Int)(k:List UInt8->LT S R):LT S R:=
 .op (slice? s l h) (fun z=>[.cs [.str z]]) (fun z=>[0<=l,l<=h,h<=(s.length:Int),(s.take h.toNat).drop l.toNat=z]) (fun _=>[])
  (fun _ e=>⟨⟨(Z3y e).1,(Z3y e).2.1,(Z3y e).2.2.1,(Z3y e).2.2.2,trivial⟩,trivial⟩) k
abbrev mk(f:α->List Zn)(l b:Nat)(z:α)(m c:Int)(k:List α->LT S R):LT S R:=
 .op (make? b z m c) (fun x=>[.lab l,.nat (x.map f).length,.es (x.map f)]) (fun x=>[0<=m,m<=c,(b:Int)*c<=281474976710656,c<=9223372036854775807,m.toNat=(x.map f).length,List.replicate (x.map f).length (f z)=x.map f]) (fun _=>[])
  (fun _ e=>⟨⟨(Z0o e).1,(Z0o e).2.1,(Z0o e).2.2.1,(Z0o e).2.2.2,Zbky f e,Zbkz f e,trivial⟩,trivial⟩) k
abbrev apN(f:α->List Zn){n:Nat} [Cl f n] (l b:Nat) (ys:List α) (k:List α->LT S R):LT S R:=
 .op (app? b [] ys) (fun z=>[.lab l,.es (z.map f)]) (fun z=>[ys.map f=z.map f,AM f n z,(z.map f).length<=9223372036854775807,(z.map f).length*b<=140737488355328]) (fun _=>[])
  (fun z h=>⟨⟨Zbpb f h,am f z,Zbck f h,Za0c f h,trivial⟩,trivial⟩) k
abbrev apR(f:α->List Zn){n:Nat} [Cl f n] (b:Nat) (xs ys:List α) (k:List α->LT S R):LT S R:=
 .op (app? b xs ys) (fun z=>[.es (z.map f)]) (fun z=>[RL f xs,xs.map f++ys.map f=z.map f,AM f n ys,(z.map f).length<=9223372036854775807,(z.map f).length*b<=140737488355328]) (fun _=>[])
  (fun _ h=>⟨⟨rfl,Zax3 f h,am f ys,Zbck f h,Za0c f h,trivial⟩,trivial⟩) k
abbrev bys(s:List UInt8)(k:List Int->LT S R):LT S R:=
 .op (bytes? s) (fun z=>[.es (z.map (cI .u8))]) (fun z=>[Zf5 s=z.map (cI .u8),s.length<=9223372036854775807]) (fun _=>[]) (fun _ h=>⟨⟨Zbh1 h,Zbh2 h,trivial⟩,trivial⟩) k
abbrev str(xs:List Int)(k:List UInt8->LT S R):LT S R:=
 .op (str? xs) (fun z=>[.cs [.str z]]) (fun z=>[Zf5 z=xs.map (cI .u8),z≠[]]) (fun _=>[]) (fun _ h=>⟨⟨(Za0d h).1,(Za0d h).2,trivial⟩,trivial⟩) k
abbrev call{P:Program}{f:Nat}{args:List PV}{o:Option α}{p:α->PV}(H:∀ {r:α},o=some r->Fn P f args (p r))(k:α->LT S R):LT S R:=
 .op o (fun x=>[.call (p x)]) (fun x=>[Fn P f args (p x)]) (fun _=>[]) (fun _ h=>⟨⟨H h,trivial⟩,trivial⟩) k
abbrev callO{P:Program}{f:Nat}{args:List PV}{o:Option α}{p:α->PV}{σ:List (Nat×Blk)}{σ1:α->List (Nat×Blk)}(H:∀ {r:α},o=some r->FnG P f σ args (σ1 r) (p r))(ls:List Nat)(d:Nat)(fr:α->List (Nat×Blk))(k:α->LT S R):LT S R:=
 .op o (fun x=>[.callO false ls d (fr x) (p x)]) (fun x=>[FnG P f σ args (σ1 x) (p x)]) (fun _=>[]) (fun _ h=>⟨⟨H h,trivial⟩,trivial⟩) k
abbrev callU{P:Program}{f:Nat}{args:List PV}{o:Option α}{p:α->PV}{σ:List (Nat×Blk)}{σ1:α->List (Nat×Blk)}(H:∀ {r:α},o=some r->FnG P f σ args (σ1 r) (p r))(ls:List Nat)(d:Nat)(k:α->LT S R):LT S R:=
 .op o (fun x=>[.callU false ls d (σ1 x) (p x)]) (fun x=>[FnG P f σ args (σ1 x) (p x)]) (fun _=>[]) (fun _ h=>⟨⟨H h,trivial⟩,trivial⟩) k
abbrev callF{P:Program}{f:Nat}{args:List PV}{o:Option α}{p:α->PV}{σ1:α->List (Nat×Blk)}(H:∀ {r:α},o=some r->FnG P f [] args (σ1 r) (p r))(d:Nat)(k:α->LT S R):LT S R:=
 .op o (fun x=>[.callO false [] d (σ1 x) (p x)]) (fun x=>[FnG P f [] args (σ1 x) (p x)]) (fun _=>[]) (fun _ h=>⟨⟨H h,trivial⟩,trivial⟩) k
abbrev callS{P:Program}{f:Nat}{args:List PV}{o:Option α}{p:α->PV}{σ1:α->List (Nat×Blk)}(H:∀ {r:α},o=some r->FnG P f [] args (σ1 r) (p r))(d:Nat)(hs:∀ x,Zbd (scC true (σ1 x) (p x)))(k:α->LT S R):LT S R:=
 .op o (fun x=>[.callO true [] d (σ1 x) (p x)]) (fun x=>scC true (σ1 x) (p x)++[FnG P f [] args (σ1 x) (p x)]) (fun _=>[]) (fun x h=>⟨Zan.2 ⟨hs x,H h,trivial⟩,trivial⟩) k
abbrev callW{P:Program}{f:Nat}{args:List PV}{o:Option α}{p:α->PV}{σ:List (Nat×Blk)}{σ1:α->List (Nat×Blk)}(H:∀ {r:α},o=some r->FnG P f σ args (σ1 r) (p r))(ls:List Nat)(d:Nat)(hs:∀ x,Zbd (scC true (σ1 x) (p x)))(k:α->LT S R):LT S R:=
 .op o (fun x=>[.callU true ls d (σ1 x) (p x)]) (fun x=>scC true (σ1 x) (p x)++[FnG P f σ args (σ1 x) (p x)]) (fun _=>[]) (fun x h=>⟨Zan.2 ⟨hs x,H h,trivial⟩,trivial⟩) k
abbrev callD{P:Program}{f:Nat}{args:List PV}{o:Option α}{p:α->PV}{σ1:α->List (Nat×Blk)}(H:∀ {r:α},o=some r->FnG P f [] args (σ1 r) (p r))(d:Nat)(k:α->LT S R):LT S R:=
 .op (dry? σ1 p o) (fun x=>[.callO true [] d (σ1 x) (p x)]) (fun x=>scC true (σ1 x) (p x)++[FnG P f [] args (σ1 x) (p x)]) (fun _=>[]) (fun _ h=>⟨Zan.2 ⟨Zbrb (Zbcw h).2,H (Zbcw h).1,trivial⟩,trivial⟩) k
abbrev ag(f:α->List Zn)(x:α)(n:Nat)(t:LT S R):LT S R := .ev [.cs (f x)] [] trivial (.us [n,n+1,n+2] t)
abbrev idA(f:α->Zn)(xs:List α)(i:Int)(cs:List PV)(q m:Nat)(k:α->LT S R):LT S R:=
 .op (idx? xs i) (fun _=>[.nat i.toNat]) (fun _=>[0<=i,i < (xs.length:Int),i.toNat=i.toNat]) (fun v=>[Zd7 false 1 ((cs.take q).length+i.toNat*1) (cs.take q++((xs.map f).map .t++cs.drop m))=some (Zjz false [f v])])
  (fun _ h=>⟨⟨Zn8 h,by simpa using Zw4 f h,rfl,trivial⟩,Zbk0 _ _ (Za6b f h),trivial⟩) k
abbrev idX(f:α->Zn)(xs:List α)(i:Int)(k:α->LT S R):LT S R:=
 .op (idx? xs i) (fun v=>[.cs [f v]]) (fun v=>[0<=i,i < (xs.length:Int),Zd7 false 1 (i.toNat*1) ((xs.map f).map .t)=some (Zjz false [f v])]) (fun _=>[])
  (fun _ h=>⟨⟨Zn8 h,by simpa using Zw4 f h,Za6b f h,trivial⟩,trivial⟩) k
abbrev ldC(f:α->Zn)(d:Nat)(v:α)(n:Nat)(t:LT S R):LT S R := .ev [.cell d [f v]] [] trivial (.us [n] t)
abbrev stA(o:Option α){p:Prop}{l:List PV}{g:α->List PV}(H:∀ {y:α},o=some y->p/\l=g y)(k:α->LT S R):LT S R:=
 .op o (fun y=>[.sp (g y)]) (fun y=>[p,l=g y]) (fun _=>[]) (fun _ h=>⟨⟨(H h).1,(H h).2,trivial⟩,trivial⟩) k
abbrev tlR(f:α->List Zn)(xs:List α)(i:Int)(z:α)(k:List α->LT S R):LT S R:=
 .op (clr? xs i z) (fun _=>[.nat i.toNat]) (fun _=>[RL f xs,0<=i,i<=((xs.map f).length:Nat),i.toNat=i.toNat]) (fun z'=>[i.toNat<=(xs.map f).length,(xs.map f).take i.toNat++List.replicate ((xs.map f).length - i.toNat) (f z)=z'.map f,(xs.map f).length=(z'.map f).length])
  (fun _ h=>⟨⟨rfl,Zbm4 h,Zbm5 f h,rfl,trivial⟩,by have:=Zbm5 f h;have:=Zbm4 h;omega,Zbpg f h,Zbph f h,trivial⟩) k
abbrev clR(f:α->List Zn)(xs z:List α)(n:Nat)(t:LT S R):LT S R := .ev [.es (z.map f)] [RL f xs] ⟨rfl,trivial⟩ (.us [n,n+1] t)
abbrev trR(f:α->List Zn)(xs:List α)(i:Int)(k:List α->LT S R):LT S R:=
 .op (slice? xs 0 i) (fun z=>[.nat (z.map f).length,.es (z.map f)]) (fun z=>[RL f xs,0<=i,i<=((xs.map f).length:Nat),i.toNat=(z.map f).length,(xs.map f).take i.toNat=z.map f]) (fun _=>[])
  (fun _ h=>⟨⟨rfl,Zax4 h,Zbcm f h,Zbpi f h,Zbpj f h,trivial⟩,trivial⟩) k
abbrev m0(l:Nat)(t:LT S R):LT S R := .ev [.num 0,.lab l] [] trivial t
abbrev mkM(f:α->List Zn) [Cs f] (l l2:Nat) (y:List α) (t:LT S R):LT S R:=
 .ev [.lab l] [([.osl l2 (y.map f).length]:List PV)=[.osl l2 (y.map f).length],RL f y,SC1 (y.map f)] ⟨rfl,rfl,sc1 f y,trivial⟩ t
abbrev apM(f:α->List Zn)(b:Nat)(xs:List (List α))(y:List α)(k:List (List α)->LT S R):LT S R:=
 .op (app? b xs [y]) (fun z=>[.es (z.map (cL f))]) (fun z=>[RL (cL f) xs,([y].map (cL f)).length=1,xs.map (cL f)++[y].map (cL f)=z.map (cL f),(xs.map (cL f)).length+1<=9223372036854775807,((xs.map (cL f)).length+1)*b<=140737488355328]) (fun _=>[])
  (fun _ h=>⟨⟨rfl,rfl,Zax3 (cL f) h,(Za51 f h).1,(Za51 f h).2,trivial⟩,trivial⟩) k
abbrev idM(f:α->List Zn)(xs:List (List α))(i:Int)(k:List α->LT S R):LT S R:=
 .op (idx? xs i) (fun _=>[.nat i.toNat]) (fun _=>[RL (cL f) xs,0<=i,i < ((xs.map (cL f)).length:Nat),i.toNat=i.toNat]) (fun y=>[i.toNat < (xs.map (cL f)).length,(xs.map (cL f))[i.toNat]?=some [.sl (y.map f)]])
  (fun _ h=>⟨⟨rfl,Zn8 h,Zw4 (cL f) h,rfl,trivial⟩,by have:=Zw4 (cL f) h;have:=Zn8 h;omega,Z00 (cL f) h,trivial⟩) k
abbrev ldM(f:α->List Zn)(xs:List (List α))(n:Nat)(t:LT S R):LT S R := .ev [] [RL (cL f) xs] ⟨rfl,trivial⟩ (.us [n] t)
abbrev idN(f:α->List Zn)(xs:List (List α))(y:List α)(j:Int)(n:Nat)(k:α->LT S R):LT S R:=
 .ev [.es (y.map f)] [RL (cL f) xs] ⟨rfl,trivial⟩ (.us [n+1] (.op (idx? y j) (fun _=>[.nat j.toNat]) (fun _=>[0<=j,j < ((y.map f).length:Nat),j.toNat=j.toNat]) (fun _=>[j.toNat < (y.map f).length])
  (fun _ h=>⟨⟨Zn8 h,Zw4 f h,rfl,trivial⟩,by have:=Zw4 f h;have:=Zn8 h;omega,trivial⟩) k))
abbrev stM(f:α->List Zn)(xs:List (List α))(i:Int)(y:List α)(j:Int)(v:α)(n m:Nat)(k:List (List α)->LT S R):LT S R:=
 .ev [.es (y.map f)] [RL (cL f) xs] ⟨rfl,trivial⟩ (.us [n+1,m] (.op (setM? xs i y j v) (fun z=>[.es (z.map (cL f))]) (fun z=>[(xs.map (cL f)).set i.toNat [.sl ((y.map f).set j.toNat (f v))]=z.map (cL f)]) (fun z=>[(xs.map (cL f)).length=(z.map (cL f)).length])
  (fun _ h=>⟨⟨Zbk2 f h,trivial⟩,Zbk3 f h,trivial⟩) k))
abbrev ne(f:α->List Zn){xs:List α}(h:xs≠[])(t:LT S R):LT S R := .ev [] [xs.map f≠[]] ⟨Zbqu f h,trivial⟩ t
end
end LT
end Go.PW
