import Derived.Test.YtchddhcajpagjaaGreatPwY
set_option linter.all false
namespace Go.PW
open Go.RowKit
abbrev bx(l:List Zf):List PV:=l.map .t
abbrev wI(n:Int):PV := .t (.int .i64 n)
abbrev wB(b:Bool):PV := .t (.bool b)
abbrev wS(s:List UInt8):PV := .t (.str s)
abbrev wL{α:Type}(f:α->List Zf)(xs:List α):PV := .t (.sl (xs.map f))
abbrev wA(l:List Zf):PV := .agg (bx l)
abbrev wO{α:Type}(f:α->List Zf)(l:Nat)(xs:List α):PV := .osl l (xs.map f).length
abbrev wR{α:Type}(f:α->List Zf)(k:Nat)(xs:List α):Blk := .row k (xs.map f)
abbrev wM{α:Type}(f:α->List Zf)(l:Nat)(xs:List α):PV := .own l (.msl (xs.map f).length)
abbrev wT{α:Type}(f:α->List Zf)(xs:List α):Blk := .mat 1 0 (xs.map f)
abbrev cM{α:Type}(f:α->List Zf)(m:List (Int×α)):List (Int×List Zf):=m.map fun p=>(p.1,f p.2)
abbrev wG{α:Type}(ag:Bool)(f:α->List Zf)(m:List (Int×α)):Blk := .map ag (cM f m)
class Sd (P:Program) (T:outParam TS):Prop where
 hm:P.follows .mixedOrders=true
 hT:TOK P T
section
variable {P:Program} {T:TS} [i:Sd P T] {S R:Type}
def ntOf(P:Program)(f:Nat):Nat:=match P.funcs[f]? with | some fn=>fn.ntmps | none=>0
def Zbcq(P:Program)(T:TS)(f:Nat)(rs:List RV)(args:List PV):Bool:=
 match P.funcs[f]? with
 | some fn => fn.body.isSome && (!(fn.name == "runtime.NumGoroutine")) && Nat.ble args.length fn.ntmps && rvOK T rs
 | none=>false
theorem LF.fn(F:LF S R){args:List PV}{Z:List (Nat×Blk)}{t:LT S R}{r:R}(h:F.run t=some r)
 (h0:(chk P T F t (.code (Zabl P F.f) []) [] [] ⟨[],[]⟩ ⟨ntOf P F.f,idx 0 args,Z⟩).l=(chk P T F t (.code (Zabl P F.f) []) [] [] ⟨[],[]⟩ ⟨ntOf P F.f,idx 0 args,Z⟩).r:=by kernel_rfl)
 (hl:∀ s,(chk P T F (F.body s) (F.cfg P s) [] [] ⟨[],[]⟩ (F.stf s)).l=(chk P T F (F.body s) (F.cfg P s) [] [] ⟨[],[]⟩ (F.stf s)).r:=by intro s;cases s<;>kernel_rfl)
 (hs:Zbcq P T F.f F.rs args=true:=by kernel_rfl) (hr:(P.funcs[F.f]?).map (·.results)=some (F.rs.map RV.to).toArray:=by kernel_rfl) :
 FnG P F.f Z args (F.sr r) (F.res r):=by
 unfold Zbcq at hs
 split at hs
 .rename_i fn hf
  simp only [Bool.and_eq_true,Bool.not_eq_true',Zd8] at hs
  obtain⟨⟨⟨h1,h2⟩,h3⟩,h4⟩:=hs
  have hr':fn.results=(F.rs.map RV.to).toArray:=by rw [hf] at hr;exact Option.some.inj hr
  obtain⟨c,hc⟩:=Option.isSome_iff_exists.1 h1
  have e1:Zabl P F.f=c:=by unfold Zabl;rw [hf];show (fn.body).getD .skip=c;rw [hc];rfl
  have e2:ntOf P F.f=fn.ntmps:=by unfold ntOf;rw [hf]
  refine FnG.of_cfg i.hT hf hc h2 fn.ntmps rfl h3 F.rs hr' h4 ?_
  have J:∀ s,(chk P T F (F.body s) (F.cfg P s) [] [] ⟨[],[]⟩ (F.stf s)).ok:=fun s=>E.sound _ (hl s)
  unfold LF.run at h
  obtain⟨y,hy,he⟩:=Option.bind_eq_some_iff.1 h
  have h0':=E.sound _ h0
  rw [e1,e2] at h0'
  refine Za63 i.hm i.hT F J t _ _ _ _ _ y h0' trivial ⟨fun _ hp=>(nomatch hp),fun _ hp=>(nomatch hp)⟩ hy (Zbkx (fun s y hs hk=>?_) he)
  exact Za63 i.hm i.hT F J _ _ _ _ _ _ y (J s) trivial ⟨fun _ hp=>(nomatch hp),fun _ hp=>(nomatch hp)⟩ hs hk
 .cases hs
end
section
def tkOf(P:Program)(t:Nat):TK:=
 match P.underlying t with
 | some .bool => .bool
 | some (.int k) => .int k
 | some .string => .str
 | some (.slice e) => .slice e
 | some (.struct fs) => .struct (fs.toList.map fun f=>(f.offset,f.type))
 | some (.array n e) => .arr n e
 | some (.map k e) => .map k e
 | some (.pointer _) => .ptr
 | _ => .other
theorem Zbev(P:Program)(t:Nat):TKOK P t (tkOf P t):=by
 unfold tkOf
 split<;>rename_i h<;>simp only [TKOK]
 all_goals first | exact h | exact⟨_,h,rfl⟩ | (unfold Program.pointee;rw [h])
abbrev TRow:=Option (Bool×Nat×Nat×Option (List PV)×TK×Option (Nat×List LK))
def Za3t(P:Program)(t:Nat)(i:Zqf):TRow:=
 match P.underlying t,P.info? t with
 | some d,some j=>some (d.isRow,j.size,j.bytes,(match i.zero with | none=>none | some _=>Zi6 P t),tkOf P t,
  (match i.flat with | none=>none | some (d,_)=>bif Nat.ble d 10000&&i.agg && !(P.eqGuardType P.depth t) then (Zjh P d t).map fun ks=>(d,ks) else none))
 | _,_=>none
def tabL(P:Program):TS->List TRow
 | []=>[]
 | (t,i)::r=>Za3t P t i::tabL P r
def tabR:TS->List TRow
 | []=>[]
 | (_,i)::r=>some (i.agg,i.size,i.bytes,i.zero,i.k,i.flat)::tabR r
theorem Zabb.of_eq{P:Program}{t:Nat}{i:Zqf}(h:Za3t P t i=some (i.agg,i.size,i.bytes,i.zero,i.k,i.flat)):Zabb P t i:=by
 unfold Za3t at h
 split at h
 .rename_i d j hd hj
  simp only [Option.some.injEq,Prod.mk.injEq] at h
  obtain⟨h1,h2,h3,h4,h5,h6⟩:=h
  refine { ty:=⟨⟨d,hd,h1⟩,by rw [hj];simp [h2]⟩,by_:=by rw [hj];simp [h2,h3],z:=fun z hz=>?_,k:=h5▸Zbev P t,fl:=fun d ks hf=>?_ }
  .rw [hz] at h4;exact h4
  .rw [hf] at h6
   simp only at h6
   cases hb:(Nat.ble d 10000&&i.agg && !(P.eqGuardType P.depth t)) with
   | false=>rw [hb] at h6;cases h6
   | true=>
    rw [hb,cond_true] at h6
    simp only [Bool.and_eq_true,Zd8,Bool.not_eq_true'] at hb
    simp only [Option.map_eq_some_iff,Prod.mk.injEq] at h6
    obtain⟨ks',e1,_,e2⟩:=h6
    exact⟨hb.1.1,by rw [e1,e2],hb.1.2,hb.2⟩
 .cases h
theorem TOK.of_eq{P:Program}{T:TS}(h:tabL P T=tabR T):TOK P T:=by
 refine TOK.of_all ?_
 induction T with
 | nil=>trivial
 | cons x r ih=>
  obtain⟨t,i⟩:=x
  simp only [tabL,tabR,List.cons.injEq] at h
  exact⟨Zabb.of_eq h.1,ih h.2⟩
end
class Cl {α:Type} (f:α->List Zf) (k:outParam Nat):Prop where
 l:∀ x,(f x).length=k
instance (k:IntKind):Cl (cI k) 1:=⟨fun _=>rfl⟩
instance:Cl cB 1:=⟨fun _=>rfl⟩
instance:Cl cS 1:=⟨fun _=>rfl⟩
instance {α:Type} (f:α->List Zf):Cl (cL f) 1:=⟨fun _=>rfl⟩
class Cs {α:Type} (f:α->List Zf):Prop where
 s:∀ x,∃ t,f x=[t]/\t.scal=true
instance (k:IntKind):Cs (cI k):=⟨fun _=>⟨_,rfl,rfl⟩⟩
instance:Cs cB:=⟨fun _=>⟨_,rfl,rfl⟩⟩
instance:Cs cS:=⟨fun _=>⟨_,rfl,rfl⟩⟩
theorem sc1{α:Type}(f:α->List Zf) [c:Cs f] (xs:List α):SC1 (xs.map f):=fun x hx=>by
 obtain⟨a,_,rfl⟩:=List.mem_map.1 hx
 exact c.s a
theorem Zavw{α:Type}(f:α->Zf){xs:List α}{i:Int}{v:α}(h:idx? xs i=some v):Zda false 1 (i.toNat*1) ((xs.map f).map .t)=some (Zkb false [f v]):=by
 have hm:=Zuy f h
 simp only [Zda,cond_false,Nat.mul_one,List.getElem?_map (f:=PV.t),hm,Option.map_some]
 rfl
abbrev LF.z{R:Type}(f:Nat)(rs:List RV)(own:Bool)(sr:R->List (Nat×Blk))(res:R->PV):LF Empty R:=⟨f,rs,own,(fun s=>nomatch s),(fun s=>nomatch s),sr,res,(fun s=>nomatch s)⟩
abbrev LF.z0{R:Type}(f:Nat)(rs:List RV)(res:R->PV):LF Empty R := .z f rs false (fun _=>[]) res
abbrev LF.m{S R:Type}(f:Nat)(rs:List RV)(own:Bool)(sr:R->List (Nat×Blk))(res:R->PV)(b:S->List Nat×PW.St×LT S R):LF S R:=⟨f,rs,own,fun s=>(b s).1,fun s=>(b s).2.1,sr,res,fun s=>(b s).2.2⟩
abbrev LF.m0{S R:Type}(f:Nat)(rs:List RV)(res:R->PV)(b:S->List Nat×PW.St×LT S R):LF S R := .m f rs false (fun _=>[]) res b
abbrev Opq(k:Nat):={ l:List Zf // l.length=k }
abbrev Zkv{k:Nat}(x:Opq k):List Zf:=x.1
instance {k:Nat}:Cl (Zkv (k:=k)) k:=⟨fun x=>x.2⟩
theorem Za1v{α:Type}{k:Nat}{a:List α}(h:a.length*k<=140737488355328)(hk:0 < k):app? k [] a=some a:=by
 unfold app?
 rw [if_pos (by have:a.length<=a.length*k:=Nat.le_mul_of_pos_right _ hk;simp;omega)]
 rfl
theorem Zqq.of{P:Program}{f k b:Nat}{g:List (Opq k)->Option (List (Opq k))}(hg:∀ a:List (Opq k),a.length*b<=140737488355328->g a=some a)
 (H:∀ (a:List (Opq k)) {r:List (Opq k)},g a=some r->FnG P f [] [wL Zkv a] [(5000,wR Zkv k r)] (wO Zkv 5000 r)):Zqq P f k b:=fun es hk hb=>by
 have hm:(es.pmap (fun l h=>(⟨l,h⟩:Opq k)) hk).map Zkv=es:=by rw [List.map_pmap];simp
 have:=H _ (hg (es.pmap (fun l h=>(⟨l,h⟩:Opq k)) hk) (by simpa using hb))
 simpa only [wL,wR,wO,hm] using this
namespace LT
section
variable {S R α:Type}
abbrev AM{α:Type}(f:α->List Zf)(k:Nat)(xs:List α):Prop:=∀ el,el∈xs.map f->el.length=k
theorem am(f:α->List Zf){k:Nat} [c:Cl f k] (xs:List α):AM f k xs:=all_map f k c.l xs
abbrev RL{α:Type}(f:α->List Zf)(xs:List α):Prop:=(xs.map f).length=(xs.map f).length
abbrev LM{α:Type}(f:α->List Zf)(xs:List α):Prop:=(((xs.map f).length:Nat):Int)=(xs.length:Int)
abbrev rt(r:R):LT S R := .ret r []
abbrev g0(s:S):LT S R := .go s []
abbrev j0(s:S)(t:LT S R):LT S R := .jn 0 s [] t
abbrev dr(xs:List Orc)(t:LT S R):LT S R := .ev xs [] trivial t
abbrev lb(l:Nat)(t:LT S R):LT S R := .ev [.lab l] [] trivial t
abbrev kb(b:Bool)(t:LT S R):LT S R := .ev [.br b] [b=b] ⟨rfl,trivial⟩ t
abbrev k2(n:Nat)(t:LT S R):LT S R := .kg n (.kg n t)
abbrev k3(n:Nat)(t:LT S R):LT S R := .kg n (.kg n (.kg n t))
abbrev k4(n:Nat)(t:LT S R):LT S R := .kg n (.kg n (.kg n (.kg n t)))
abbrev k5(n:Nat)(t:LT S R):LT S R := .kg n (.kg n (.kg n (.kg n (.kg n t))))
abbrev k8(n:Nat)(t:LT S R):LT S R := .kg n (.kg n (.kg n (.kg n (.kg n (.kg n (.kg n (.kg n t)))))))
abbrev k16(n:Nat)(t:LT S R):LT S R := .kg n (.kg n (.kg n (.kg n (.kg n (.kg n (.kg n (.kg n (.kg n (.kg n (.kg n (.kg n (.kg n (.kg n (.kg n (.kg n t)))))))))))))))
abbrev b2(b:Bool)(t:LT S R):LT S R := .kb b (.kb b t)
abbrev b3(b:Bool)(t:LT S R):LT S R := .kb b (.kb b (.kb b t))
abbrev b4(b:Bool)(t:LT S R):LT S R := .kb b (.kb b (.kb b (.kb b t)))
abbrev b5(b:Bool)(t:LT S R):LT S R := .kb b (.kb b (.kb b (.kb b (.kb b t))))
abbrev b8(b:Bool)(t:LT S R):LT S R := .kb b (.kb b (.kb b (.kb b (.kb b (.kb b (.kb b (.kb b t)))))))
abbrev b16(b:Bool)(t:LT S R):LT S R := .kb b (.kb b (.kb b (.kb b (.kb b (.kb b (.kb b (.kb b (.kb b (.kb b (.kb b (.kb b (.kb b (.kb b (.kb b (.kb b t)))))))))))))))
abbrev rl(f:α->List Zf)(xs:List α)(t:LT S R):LT S R := .ev [] [RL f xs] ⟨rfl,trivial⟩ t
abbrev len(f:α->List Zf)(xs:List α)(t:LT S R):LT S R := .ev [.num xs.length] [LM f xs] ⟨Za1j f xs,trivial⟩ t
abbrev lenO(f:α->List Zf)(xs:List α)(t:LT S R):LT S R := .ev [.num xs.length] [RL f xs,LM f xs] ⟨rfl,Za1j f xs,trivial⟩ t
abbrev lenS(s:List UInt8)(t:LT S R):LT S R := .ev [.num s.length] [(s.length:Int)=s.length] ⟨rfl,trivial⟩ t
abbrev dc(p:Prop) [Decidable p] (h:decide p=true) (t:LT S R):LT S R := .ev [] [p] ⟨of_decide_eq_true h,trivial⟩ t
abbrev ok(p:Prop) [Decidable p] (t:LT S R):LT S R := .op (ok? (decide p)) (fun _=>[]) (fun _=>[p]) (fun _=>[]) (fun _ h=>⟨⟨Zbef h,trivial⟩,trivial⟩) fun _=>t
abbrev idx(f:α->List Zf){n:Nat} [Cl f n] (xs:List α) (i:Int) (k:α->LT S R):LT S R:=
 .op (idx? xs i) (fun x=>[.cs (f x)]) (fun x=>[AM f n xs,0<=i,(xs.map f)[i.toNat]?=some (f x)]) (fun x=>[AM f n xs,0<=i,(xs.map f)[i.toNat]?=some (f x)])
  (fun _ h=>⟨⟨am f xs,Zor h,Zuy f h,trivial⟩,am f xs,Zor h,Zuy f h,trivial⟩) k
abbrev idxR(f:α->List Zf)(xs:List α)(i:Int)(k:α->LT S R):LT S R:=
 .op (idx? xs i) (fun _=>[.nat i.toNat]) (fun _=>[RL f xs,0<=i,i < ((xs.map f).length:Nat),i.toNat=i.toNat]) (fun x=>[0<=i,i < ((xs.map f).length:Nat),(xs.map f)[i.toNat]?=some (f x)])
  (fun _ h=>⟨⟨rfl,Zor h,Zwj f h,rfl,trivial⟩,Zor h,Zwj f h,Zuy f h,trivial⟩) k
abbrev idxS(s:List UInt8)(i:Int)(k:UInt8->LT S R):LT S R:=
 .op (idx? s i) (fun x=>[.byte x]) (fun x=>[0<=i,s[i.toNat]?=some x]) (fun _=>[]) (fun _ h=>⟨⟨Zor h,Zbaj h,trivial⟩,trivial⟩) k
abbrev plR(f:α->List Zf)(xs:List α)(i:Int)(n:Nat)(t:LT S R):LT S R := .ev [.nat i.toNat] [RL f xs] ⟨rfl,trivial⟩ (.us [n,n+1] (.ev [] [i.toNat=i.toNat] ⟨rfl,trivial⟩ t))
abbrev ldR(f:α->List Zf)(xs:List α)(x:α)(n:Nat)(t:LT S R):LT S R := .ev [.cs (f x)] [RL f xs] ⟨rfl,trivial⟩ (.us [n] t)
abbrev setR(f:α->List Zf)(xs:List α)(i:Int)(x x':α)(m q:Nat)(ts:List Zf)(hs:splice (f x) q ts=f x')(k:List α->LT S R):LT S R:=
 .ev [.cs (f x)] [RL f xs] ⟨rfl,trivial⟩ (.us [m] (.op (set? xs i x') (fun z=>[.es (z.map f)]) (fun z=>[(xs.map f).set i.toNat (splice (f x) q ts)=z.map f]) (fun z=>[(xs.map f).length=(z.map f).length])
  (fun _ h=>⟨⟨Zavp f h hs,trivial⟩,Zuz f h,trivial⟩) k))
abbrev setD(f:α->List Zf)(xs:List α)(i:Int)(x x':α)(m q:Nat)(ts:List Zf)(hs:splice (f x) q ts=f x')(k:List α->LT S R):LT S R:=
 .ev [.cs (f x)] [RL f xs] ⟨rfl,trivial⟩ (.us [m] (.op (set? xs i x') (fun z=>[.es (z.map f)]) (fun z=>[(xs.map f).set i.toNat (splice (f x) q ts)=z.map f]) (fun z=>[(xs.map f).length=(z.map f).length,(z.map f)[i.toNat]?=some (f x'),(z.map f).length=(xs.map f).length])
  (fun _ h=>⟨⟨Zavp f h hs,trivial⟩,Zuz f h,Za1n f h,(Zuz f h).symm,trivial⟩) k))
abbrev setE(f:α->List Zf)(z0 xs:List α)(i:Int)(x x':α)(m n q:Nat)(ts:List Zf)(hs:splice (f x) q ts=f x')(k:List α->LT S R):LT S R:=
 .op (set2? z0 xs i x') (fun z=>[.cs (f x),.es (z.map f)]) (fun _=>[(xs.map f).length=(z0.map f).length]) (fun z=>[(z0.map f).length=(z.map f).length,(z.map f)[i.toNat]?=some (f x'),(z.map f).length=(z0.map f).length,(xs.map f).set i.toNat (splice (f x) q ts)=z.map f])
  (fun _ h=>⟨⟨by simp [(Zru h).1],trivial⟩,by rw [<- Zuz f (Zru h).2];simp [(Zru h).1],Za1n f (Zru h).2,by rw [<- Zuz f (Zru h).2];simp [(Zru h).1],Zavp f (Zru h).2 hs,trivial⟩) fun z => .us [m,n] (k z)
abbrev iq(i:Int)(t:LT S R):LT S R := .ev [] [i.toNat=i.toNat] ⟨rfl,trivial⟩ t
abbrev clsR(f:α->List Zf)(xs:List α)(i:Int)(x':α)(k:List α->LT S R):LT S R:=
 .op (set? xs i x') (fun _=>[]) (fun _=>[]) (fun z=>[(xs.map f).set i.toNat (f x')=z.map f,(xs.map f).length=(z.map f).length]) (fun _ h=>⟨trivial,Za1o f h,Zuz f h,trivial⟩) k
abbrev sl(f:α->List Zf){n:Nat} [Cl f n] (xs:List α) (l h:Int) (k:List α->LT S R):LT S R:=
 .op (slice? xs l h) (fun z=>[.es (z.map f)]) (fun z=>[AM f n xs,0<=l,l<=h,h<=((xs.map f).length:Nat),((xs.map f).take h.toNat).drop l.toNat=z.map f]) (fun _=>[])
  (fun _ e=>⟨⟨am f xs,Zbeg e,Za1l e,Za1m f e,Zaq7 f e,trivial⟩,trivial⟩) k
abbrev slS(s:List UInt8)(l h:Int)(k:List UInt8->LT S R):LT S R:=
 .op (slice? s l h) (fun z=>[.cs [.str z]]) (fun z=>[0<=l,l<=h,h<=(s.length:Int),(s.take h.toNat).drop l.toNat=z]) (fun _=>[])
  (fun _ e=>⟨⟨(Z2m e).1,(Z2m e).2.1,(Z2m e).2.2.1,(Z2m e).2.2.2,trivial⟩,trivial⟩) k
abbrev mk(f:α->List Zf)(l b:Nat)(z:α)(m c:Int)(k:List α->LT S R):LT S R:=
 .op (make? b z m c) (fun x=>[.lab l,.nat (x.map f).length,.es (x.map f)]) (fun x=>[0<=m,m<=c,(b:Int)*c<=281474976710656,c<=9223372036854775807,m.toNat=(x.map f).length,List.replicate (x.map f).length (f z)=x.map f]) (fun _=>[])
  (fun _ e=>⟨⟨(Zkd e).1,(Zkd e).2.1,(Zkd e).2.2.1,(Zkd e).2.2.2,Zavo f e,Zaid f e,trivial⟩,trivial⟩) k
abbrev apR(f:α->List Zf){n:Nat} [Cl f n] (b:Nat) (xs ys:List α) (k:List α->LT S R):LT S R:=
 .op (app? b xs ys) (fun z=>[.es (z.map f)]) (fun z=>[RL f xs,xs.map f++ys.map f=z.map f,AM f n ys,(z.map f).length<=9223372036854775807,(z.map f).length*b<=140737488355328]) (fun _=>[])
  (fun _ h=>⟨⟨rfl,Za1k f h,am f ys,Zbee f h,Zaq6 f h,trivial⟩,trivial⟩) k
abbrev bys(s:List UInt8)(k:List Int->LT S R):LT S R:=
 .op (bytes? s) (fun z=>[.es (z.map (cI .u8))]) (fun z=>[Zf2 s=z.map (cI .u8),s.length<=9223372036854775807]) (fun _=>[]) (fun _ h=>⟨⟨Za6v h,Za6w h,trivial⟩,trivial⟩) k
abbrev str(xs:List Int)(k:List UInt8->LT S R):LT S R:=
 .op (str? xs) (fun z=>[.cs [.str z]]) (fun z=>[Zf2 z=xs.map (cI .u8),z≠[]]) (fun _=>[]) (fun _ h=>⟨⟨(Zaq8 h).1,(Zaq8 h).2,trivial⟩,trivial⟩) k
abbrev call{P:Program}{f:Nat}{args:List PV}{o:Option α}{p:α->PV}(H:∀ {r:α},o=some r->Fn P f args (p r))(k:α->LT S R):LT S R:=
 .op o (fun x=>[.call (p x)]) (fun x=>[Fn P f args (p x)]) (fun _=>[]) (fun _ h=>⟨⟨H h,trivial⟩,trivial⟩) k
abbrev callO{P:Program}{f:Nat}{args:List PV}{o:Option α}{p:α->PV}{Z:List (Nat×Blk)}{σ1:α->List (Nat×Blk)}(H:∀ {r:α},o=some r->FnG P f Z args (σ1 r) (p r))(ls:List Nat)(d:Nat)(fr:α->List (Nat×Blk))(k:α->LT S R):LT S R:=
 .op o (fun x=>[.callO false ls d (fr x) (p x)]) (fun x=>[FnG P f Z args (σ1 x) (p x)]) (fun _=>[]) (fun _ h=>⟨⟨H h,trivial⟩,trivial⟩) k
abbrev callU{P:Program}{f:Nat}{args:List PV}{o:Option α}{p:α->PV}{Z:List (Nat×Blk)}{σ1:α->List (Nat×Blk)}(H:∀ {r:α},o=some r->FnG P f Z args (σ1 r) (p r))(ls:List Nat)(d:Nat)(k:α->LT S R):LT S R:=
 .op o (fun x=>[.callU false ls d (σ1 x) (p x)]) (fun x=>[FnG P f Z args (σ1 x) (p x)]) (fun _=>[]) (fun _ h=>⟨⟨H h,trivial⟩,trivial⟩) k
abbrev callF{P:Program}{f:Nat}{args:List PV}{o:Option α}{p:α->PV}{σ1:α->List (Nat×Blk)}(H:∀ {r:α},o=some r->FnG P f [] args (σ1 r) (p r))(d:Nat)(k:α->LT S R):LT S R:=
 .op o (fun x=>[.callO false [] d (σ1 x) (p x)]) (fun x=>[FnG P f [] args (σ1 x) (p x)]) (fun _=>[]) (fun _ h=>⟨⟨H h,trivial⟩,trivial⟩) k
abbrev callS{P:Program}{f:Nat}{args:List PV}{o:Option α}{p:α->PV}{σ1:α->List (Nat×Blk)}(H:∀ {r:α},o=some r->FnG P f [] args (σ1 r) (p r))(d:Nat)(hs:∀ x,Zak (scC true (σ1 x) (p x)))(k:α->LT S R):LT S R:=
 .op o (fun x=>[.callO true [] d (σ1 x) (p x)]) (fun x=>scC true (σ1 x) (p x)++[FnG P f [] args (σ1 x) (p x)]) (fun _=>[]) (fun x h=>⟨Zx.2 ⟨hs x,H h,trivial⟩,trivial⟩) k
abbrev callW{P:Program}{f:Nat}{args:List PV}{o:Option α}{p:α->PV}{Z:List (Nat×Blk)}{σ1:α->List (Nat×Blk)}(H:∀ {r:α},o=some r->FnG P f Z args (σ1 r) (p r))(ls:List Nat)(d:Nat)(hs:∀ x,Zak (scC true (σ1 x) (p x)))(k:α->LT S R):LT S R:=
 .op o (fun x=>[.callU true ls d (σ1 x) (p x)]) (fun x=>scC true (σ1 x) (p x)++[FnG P f Z args (σ1 x) (p x)]) (fun _=>[]) (fun x h=>⟨Zx.2 ⟨hs x,H h,trivial⟩,trivial⟩) k
abbrev lkG(f:α->List Zf)(m:List (Int×α))(n:Int)(z:α)(k:α×Bool->LT S R):LT S R:=
 .op (some (mlk m n z)) (fun x=>[.cs (f x.1),.br x.2]) (fun x=>[mlk (cM f m) n (f z)=(f x.1,x.2)]) (fun _=>[]) (fun _ h=>⟨⟨by cases h;exact Zbd7 f m n z,trivial⟩,trivial⟩) k
abbrev stG(f:α->List Zf)(m:List (Int×α))(n:Int)(x:α)(p q:PV)(hp:p=q)(k:List (Int×α)->LT S R):LT S R:=
 .op (some (Zhl m n x)) (fun z=>[.cs (f x),.mp (cM f z)]) (fun z=>[p=q,Zhl (cM f m) n (f x)=cM f z]) (fun _=>[]) (fun _ h=>⟨⟨hp,by cases h;exact (Zau3 f n x m).symm,trivial⟩,trivial⟩) k
abbrev lenG(f:α->List Zf)(m:List (Int×α))(t:LT S R):LT S R := .ev [.num m.length] [((cM f m).length:Int)=m.length] ⟨by simp [cM],trivial⟩ t
abbrev ag(f:α->List Zf)(x:α)(n:Nat)(t:LT S R):LT S R := .ev [.cs (f x)] [] trivial (.us [n,n+1,n+2] t)
abbrev idA(f:α->Zf)(xs:List α)(i:Int)(cs:List PV)(q m:Nat)(k:α->LT S R):LT S R:=
 .op (idx? xs i) (fun _=>[.nat i.toNat]) (fun _=>[0<=i,i < (xs.length:Int),i.toNat=i.toNat]) (fun v=>[Zda false 1 ((cs.take q).length+i.toNat*1) (cs.take q++((xs.map f).map .t++cs.drop m))=some (Zkb false [f v])])
  (fun _ h=>⟨⟨Zor h,by simpa using Zwj f h,rfl,trivial⟩,Zbai _ _ (Zavw f h),trivial⟩) k
abbrev idX(f:α->Zf)(xs:List α)(i:Int)(k:α->LT S R):LT S R:=
 .op (idx? xs i) (fun v=>[.cs [f v]]) (fun v=>[0<=i,i < (xs.length:Int),Zda false 1 (i.toNat*1) ((xs.map f).map .t)=some (Zkb false [f v])]) (fun _=>[])
  (fun _ h=>⟨⟨Zor h,by simpa using Zwj f h,Zavw f h,trivial⟩,trivial⟩) k
abbrev ldC(f:α->Zf)(d:Nat)(v:α)(n:Nat)(t:LT S R):LT S R := .ev [.cell d [f v]] [] trivial (.us [n] t)
abbrev stA(o:Option α){p:Prop}{l:List PV}{g:α->List PV}(H:∀ {y:α},o=some y->p/\l=g y)(k:α->LT S R):LT S R:=
 .op o (fun y=>[.sp (g y)]) (fun y=>[p,l=g y]) (fun _=>[]) (fun _ h=>⟨⟨(H h).1,(H h).2,trivial⟩,trivial⟩) k
abbrev tlR(f:α->List Zf)(xs:List α)(i:Int)(z:α)(k:List α->LT S R):LT S R:=
 .op (clr? xs i z) (fun _=>[.nat i.toNat]) (fun _=>[RL f xs,0<=i,i<=((xs.map f).length:Nat),i.toNat=i.toNat]) (fun z'=>[i.toNat<=(xs.map f).length,(xs.map f).take i.toNat++List.replicate ((xs.map f).length - i.toNat) (f z)=z'.map f,(xs.map f).length=(z'.map f).length])
  (fun _ h=>⟨⟨rfl,Zbcj h,Zbck f h,rfl,trivial⟩,by have:=Zbck f h;have:=Zbcj h;omega,Zbei f h,Zbej f h,trivial⟩) k
abbrev clR(f:α->List Zf)(xs z:List α)(n:Nat)(t:LT S R):LT S R := .ev [.es (z.map f)] [RL f xs] ⟨rfl,trivial⟩ (.us [n,n+1] t)
abbrev trR(f:α->List Zf)(xs:List α)(i:Int)(k:List α->LT S R):LT S R:=
 .op (slice? xs 0 i) (fun z=>[.nat (z.map f).length,.es (z.map f)]) (fun z=>[RL f xs,0<=i,i<=((xs.map f).length:Nat),i.toNat=(z.map f).length,(xs.map f).take i.toNat=z.map f]) (fun _=>[])
  (fun _ h=>⟨⟨rfl,Za1l h,Za1m f h,Zbek f h,Zbel f h,trivial⟩,trivial⟩) k
abbrev m0(l:Nat)(t:LT S R):LT S R := .ev [.num 0,.lab l] [] trivial t
abbrev idM(f:α->List Zf)(xs:List (List α))(i:Int)(k:List α->LT S R):LT S R:=
 .op (idx? xs i) (fun _=>[.nat i.toNat]) (fun _=>[RL (cL f) xs,0<=i,i < ((xs.map (cL f)).length:Nat),i.toNat=i.toNat]) (fun y=>[i.toNat < (xs.map (cL f)).length,(xs.map (cL f))[i.toNat]?=some [.sl (y.map f)]])
  (fun _ h=>⟨⟨rfl,Zor h,Zwj (cL f) h,rfl,trivial⟩,by have:=Zwj (cL f) h;have:=Zor h;omega,Zuy (cL f) h,trivial⟩) k
abbrev ldM(f:α->List Zf)(xs:List (List α))(n:Nat)(t:LT S R):LT S R := .ev [] [RL (cL f) xs] ⟨rfl,trivial⟩ (.us [n] t)
abbrev idN(f:α->List Zf)(xs:List (List α))(y:List α)(j:Int)(n:Nat)(k:α->LT S R):LT S R:=
 .ev [.es (y.map f)] [RL (cL f) xs] ⟨rfl,trivial⟩ (.us [n+1] (.op (idx? y j) (fun _=>[.nat j.toNat]) (fun _=>[0<=j,j < ((y.map f).length:Nat),j.toNat=j.toNat]) (fun x=>[j.toNat < (y.map f).length,(y.map f)[j.toNat]?=some (f x)])
  (fun _ h=>⟨⟨Zor h,Zwj f h,rfl,trivial⟩,by have:=Zwj f h;have:=Zor h;omega,Zuy f h,trivial⟩) k))
abbrev ldN(f:α->List Zf)(xs:List (List α))(y:List α)(x:α)(n m:Nat)(t:LT S R):LT S R := .ev [.es (y.map f),.cs (f x)] [RL (cL f) xs] ⟨rfl,trivial⟩ (.us [n,m] t)
abbrev stM(f:α->List Zf)(xs:List (List α))(i:Int)(y:List α)(j:Int)(v:α)(n m:Nat)(k:List (List α)->LT S R):LT S R:=
 .ev [.es (y.map f)] [RL (cL f) xs] ⟨rfl,trivial⟩ (.us [n+1,m] (.op (setM? xs i y j v) (fun z=>[.es (z.map (cL f))]) (fun z=>[(xs.map (cL f)).set i.toNat [.sl ((y.map f).set j.toNat (f v))]=z.map (cL f)]) (fun z=>[(xs.map (cL f)).length=(z.map (cL f)).length])
  (fun _ h=>⟨⟨Zbak f h,trivial⟩,Zbal f h,trivial⟩) k))
abbrev callC{P:Program}{fn n b:Nat}(H:Zqq P fn n b)(f:α->List Zf) [Cl f n] (l:Nat) (xs:List α) (t:LT S R):LT S R:=
 .op (app? b [] xs) (fun _=>[.callC l b]) (fun _=>[RL f xs,Zqq P fn n b,(xs.map f).length*b<=140737488355328]) (fun _=>[])
  (fun z h=>⟨⟨rfl,H,by have h1:=Zaq6 f h;rwa [<- Zbed f h] at h1,trivial⟩,trivial⟩) fun _=>t
abbrev mkE(f:α->List Zf)(l b:Nat)(m c:Int)(k:List (List α)->LT S R):LT S R:=
 .op (make? b ([]:List α) m c) (fun x=>[.lab l,.nat (x.map (cL f)).length,.es (x.map (cL f))]) (fun x=>[0<=m,m<=c,(b:Int)*c<=281474976710656,c<=9223372036854775807,m.toNat=(x.map (cL f)).length,List.replicate (x.map (cL f)).length (cL f [])=x.map (cL f)]) (fun x=>[∀ e,e∈x.map (cL f)->e=[Zf.sl []]])
  (fun _ e=>⟨⟨(Zkd e).1,(Zkd e).2.1,(Zkd e).2.2.1,(Zkd e).2.2.2,Zavo (cL f) e,Zaid (cL f) e,trivial⟩,fun y hy=>by rw [<- Zaid (cL f) e] at hy;exact (List.mem_replicate.1 hy).2,trivial⟩) k
abbrev stR(f:α->List Zf) [Cs f] (xs:List (List α)) (i:Int) (y:List α) (n:Nat) (k:List (List α)->LT S R):LT S R:=
 .ev [] [RL (cL f) xs] ⟨rfl,trivial⟩ (.us [n] (.op (set? xs i y) (fun z=>[.es (z.map (cL f))]) (fun z=>[RL f y,SC1 (y.map f),(xs.map (cL f)).set i.toNat [.sl (y.map f)]=z.map (cL f)]) (fun z=>[(xs.map (cL f)).length=(z.map (cL f)).length])
  (fun _ h=>⟨⟨rfl,sc1 f y,Za1o (cL f) h,trivial⟩,Zuz (cL f) h,trivial⟩) k))
abbrev ne(f:α->List Zf){xs:List α}(h:xs≠[])(t:LT S R):LT S R := .ev [] [xs.map f≠[]] ⟨Zbge f h,trivial⟩ t
end
end LT
end Go.PW
