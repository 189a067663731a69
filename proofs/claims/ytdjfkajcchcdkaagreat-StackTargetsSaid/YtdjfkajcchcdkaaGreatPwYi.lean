import Derived.Test.YtdjfkajcchcdkaaGreatPwY
import Derived.Test.YtdjfkajcchcdkaaGreatPwLr
set_option linter.all false
namespace Go.PW
open Go.RowKit
abbrev bx(l:List U):List PV:=l.map .t
abbrev wI(n:Int):PV :=.t (.int .i64 n)
abbrev wB(b:Bool):PV :=.t (.bool b)
abbrev wS(s:List UInt8):PV :=.t (.str s)
abbrev wL{α:Type}(f:α->List U)(xs:List α):PV :=.t (.sl (xs.map f))
abbrev wA(l:List U):PV :=.agg (bx l)
abbrev wO{α:Type}(f:α->List U)(l:Nat)(xs:List α):PV :=.osl l (xs.map f).length
abbrev wR{α:Type}(f:α->List U)(k:Nat)(xs:List α):Blk :=.row k (xs.map f)
abbrev wM{α:Type}(f:α->List U)(l:Nat)(xs:List α):PV :=.own l (.msl (xs.map f).length)
abbrev wT{α:Type}(f:α->List U)(xs:List α):Blk :=.mat 1 0 (xs.map f)
abbrev cM{α:Type}(f:α->List U)(m:List (Int×α)):List (Int×List U):=m.map λp=>(p.1,f p.2)
abbrev wG{α:Type}(ag:Bool)(f:α->List U)(m:List (Int×α)):Blk :=.map (.v ag) (cM f m)
abbrev wGr{α:Type}(k:Nat)(f:α->List U)(m:List (Int×List α)):Blk :=.map (.rows k none) (cM (cL f) m)
class Sd (P:Program) (T:outParam TS):Prop where
 hm:P.follows .mixedOrders=true
 hT:TOK P T
section
variable {P:Program} {T:TS} [i:Sd P T] {S R:Type}
def ntOf(P:Program)(f:Nat):Nat:=match P.funcs[f]? with|some fn=>fn.ntmps|none=>0
def VQ(P:Program)(T:TS)(f:Nat)(rs:List RV)(args:List PV):Bool:=
 match P.funcs[f]? with
 |some fn=>fn.body.isSome&&(!(fn.name == "runtime.NumGoroutine"))&&Nat.ble args.length fn.ntmps&&rvOK T rs
 |none=>false
def LF.fn(F:LF S R){args:List PV}{Z:List (Nat×Blk)}{t:LT S R}{r:R}(h:F.run t=some r)
 (h0:(chk P T F t (.code (fJ P F.f) []) [] [] ⟨[],[]⟩ ⟨ntOf P F.f,idx 0 args,Z⟩).l=(chk P T F t (.code (fJ P F.f) []) [] [] ⟨[],[]⟩ ⟨ntOf P F.f,idx 0 args,Z⟩).r:=by kernel_rfl)
 (hl:∀s,(chk P T F (F.body s) (F.cfg P s) [] [] ⟨[],[]⟩ (F.stf s)).l=(chk P T F (F.body s) (F.cfg P s) [] [] ⟨[],[]⟩ (F.stf s)).r:=by intro s;cases s<;>kernel_rfl)
 (hs:VQ P T F.f F.rs args=true:=by kernel_rfl) (hr:(P.funcs[F.f]?).map (·.results)=some (F.rs.map RV.to).toArray:=by kernel_rfl) :
 FnG P F.f Z args (F.sr r) (F.res r):=by
 unfold VQ at hs;split at hs
 .rename_i fn hf;simp only[aL,dv,en]at hs;obtain⟨⟨⟨h1,h2⟩,h3⟩,h4⟩:=hs;have hr':fn.results=(F.rs.map RV.to).toArray:=by rw[hf]at hr;exact c9 hr
  obtain⟨c,hc⟩:=tu.1 h1;have e1:fJ P F.f=c:=by unfold fJ;rw[hf];show(fn.body).getD .skip=c;rw[hc];rfl
  have e2:ntOf P F.f=fn.ntmps:=by unfold ntOf;rw[hf]
  refine FnG.of_cfg i.hT hf hc h2 fn.ntmps rfl h3 F.rs hr' h4 ?_;have J:∀s,(chk P T F (F.body s) (F.cfg P s) [] [] ⟨[],[]⟩ (F.stf s)).ok:=λs=>E.sound _ (hl s);unfold LF.run at h;obtain⟨y,hy,he⟩:=dC.1 h;have h0':=E.sound _ h0;rw[e1,e2]at h0';refine Vi i.hm i.hT F J t _ _ _ _ _ y h0' trivial ⟨λ_ hp=>(nomatch hp),λ_ hp=>(nomatch hp)⟩ hy (ZF (λs y hs hk=>?_) he);exact Vi i.hm i.hT F J _ _ _ _ _ _ y (J s) trivial ⟨λ_ hp=>(nomatch hp),λ_ hp=>(nomatch hp)⟩ hs hk
 cases hs
end
section
def tkOf(P:Program)(t:Nat):TK:=
 match P.underlying t with
 |some .bool =>.bool
 |some (.int k) =>.int k
 |some .string =>.str
 |some (.slice e) =>.slice e
 |some (.struct fs) =>.struct (fs.toList.map λf=>(f.offset,f.type))
 |some (.array n e) =>.arr n e
 |some (.map k e) =>.map k e
 |some (.pointer _) =>.ptr
 |_ =>.other
def Zj4(P:Program)(t:Nat):TKOK P t (tkOf P t):=by unfold tkOf;split<;>rename_i h<;>simp only[TKOK];all_goals first|exact h|exact⟨_,h,rfl⟩|(unfold Program.pointee;rw[h])
abbrev TRow:=Option (Bool×Nat×Nat×Option (List PV)×TK×Option (Nat×List LK))
def DA(P:Program)(t:Nat)(i:fD):TRow:=
 match P.underlying t,P.info? t with
 |some d,some j=>some (d.isRow,j.size,j.bytes,(match i.zero with|none=>none|some _=>fk P t),tkOf P t,
  (match i.flat with|none=>none|some (d,_)=>bif Nat.ble d 10000&&i.agg && !(P.eqGuardType P.depth t)then(eS P d t).map λks=>(d,ks)else none))
 |_,_=>none
def tabL(P:Program):TS->List TRow
 |[]=>[]
 |(t,i)::r=>DA P t i::tabL P r
def tabR:TS->List TRow
 |[]=>[]
 |(_,i)::r=>some (i.agg,i.size,i.bytes,i.zero,i.k,i.flat)::tabR r
def oy.of_eq{P:Program}{t:Nat}{i:fD}(h:DA P t i=some (i.agg,i.size,i.bytes,i.zero,i.k,i.flat)):oy P t i:=by
 unfold DA at h;split at h
 .rename_i d j hd hj;simp only[aq,bG]at h;obtain⟨h1,h2,h3,h4,h5,h6⟩:=h;refine { ty:=⟨⟨d,hd,h1⟩,by rw[hj];simp[h2]⟩,by_:=by rw[hj];simp[h2,h3],z:=λz hz=>?_,k:=h5▸Zj4 P t,fl:=λd ks hf=>?_ }
  .rw [hz]at h4;exact h4
  rw[hf]at h6;simp only at h6;cases hb:(Nat.ble d 10000&&i.agg && !(P.eqGuardType P.depth t))with
  |false=>rw[hb]at h6;cases h6
  |true=>
   rw[hb,av]at h6;simp only[aL,en,dv]at hb;simp only[cA,bG]at h6;obtain⟨ks',e1,_,e2⟩:=h6;exact⟨hb.1.1,by rw[e1,e2],hb.1.2,hb.2⟩
 cases h
def TOK.of_eq{P:Program}{T:TS}(h:tabL P T=tabR T):TOK P T:=by
 refine TOK.of_all ?_;induction T with
 |nil=>trivial
 |cons x r ih=>
  obtain⟨t,i⟩:=x;simp only[tabL,tabR,List.cons.injEq]at h;exact⟨oy.of_eq h.1,ih h.2⟩
end
class Cl {α:Type} (f:α->List U) (k:outParam Nat):Prop where
 l:∀x,(f x).length=k
instance (k:IntKind):Cl (cI k) 1:=⟨λ_=>rfl⟩
instance:Cl cB 1:=⟨λ_=>rfl⟩
instance:Cl cS 1:=⟨λ_=>rfl⟩
instance {α:Type} (f:α->List U):Cl (cL f) 1:=⟨λ_=>rfl⟩
class Cs {α:Type} (f:α->List U):Prop where
 s:∀x,∃t,f x=[t]/\t.scal=true
instance (k:IntKind):Cs (cI k):=⟨λ_=>⟨_,rfl,rfl⟩⟩
instance:Cs cB:=⟨λ_=>⟨_,rfl,rfl⟩⟩
instance:Cs cS:=⟨λ_=>⟨_,rfl,rfl⟩⟩
def sc1{α:Type}(f:α->List U) [c:Cs f] (xs:List α):SC1 (xs.map f):=λx hx=>by obtain⟨a,_,rfl⟩:=gJ.1 hx;exact c.s a
def VS{α:Type}(f:α->U){xs:List α}{i:Int}{v:α}(h:idx? xs i=some v):c6 false 1 (i.toNat*1) ((xs.map f).map .t)=some (jY false [f v]):=by have hm:=Z0x f h;simp only[c6,au,df,fX (f:=PV.t),hm,dW];rfl
abbrev LF.z{R:Type}(f:Nat)(rs:List RV)(own:Bool)(sr:R->List (Nat×Blk))(res:R->PV):LF Empty R:=⟨f,rs,own,(λs=>nomatch s),(λs=>nomatch s),sr,res,(λs=>nomatch s)⟩
abbrev LF.z0{R:Type}(f:Nat)(rs:List RV)(res:R->PV):LF Empty R :=.z f rs false (λ_=>[]) res
abbrev LF.m{S R:Type}(f:Nat)(rs:List RV)(own:Bool)(sr:R->List (Nat×Blk))(res:R->PV)(b:S->List Nat×PW.St×LT S R):LF S R:=⟨f,rs,own,λs=>(b s).1,λs=>(b s).2.1,sr,res,λs=>(b s).2.2⟩
abbrev LF.m0{S R:Type}(f:Nat)(rs:List RV)(res:R->PV)(b:S->List Nat×PW.St×LT S R):LF S R :=.m f rs false (λ_=>[]) res b
abbrev Opq(k:Nat):={ l:List U // l.length=k }
abbrev eC{k:Nat}(x:Opq k):List U:=x.1
instance {k:Nat}:Cl (eC (k:=k)) k:=⟨λx=>x.2⟩
def Mj{α:Type}{k:Nat}{a:List α}(h:a.length*k<=140737488355328)(hk:0<k):app? k [] a=some a:=by unfold app?;rw[aP (by have:a.length<=a.length*k:=vo _ hk;simp;omega)];rfl
def jg.of{P:Program}{f k b:Nat}{g:List (Opq k)->Option (List (Opq k))}(hg:∀a:List (Opq k),a.length*b<=140737488355328->g a=some a)
 (H:∀(a:List (Opq k)) {r:List (Opq k)},g a=some r->FnG P f [] [wL eC a] [(5000,wR eC k r)] (wO eC 5000 r)):jg P f k b:=λes hk hb=>by
 have hm:(es.pmap (λl h=>(⟨l,h⟩:Opq k)) hk).map eC=es:=by rw[List.map_pmap];simp
 have:=H _ (hg (es.pmap (λl h=>(⟨l,h⟩:Opq k)) hk) (by simpa using hb));simpa only[wL,wR,wO,hm]using this
namespace LT
section
variable {S R α:Type}
abbrev AM{α:Type}(f:α->List U)(k:Nat)(xs:List α):Prop:=∀el,el∈xs.map f->el.length=k
def am(f:α->List U){k:Nat} [c:Cl f k] (xs:List α):AM f k xs:=all_map f k c.l xs
abbrev RL{α:Type}(f:α->List U)(xs:List α):Prop:=(xs.map f).length=(xs.map f).length
abbrev LM{α:Type}(f:α->List U)(xs:List α):Prop:=(((xs.map f).length:Nat):Int)=(xs.length:Int)
abbrev rt(r:R):LT S R :=.ret r []
abbrev g0(s:S):LT S R :=.go s []
abbrev j0(s:S)(t:LT S R):LT S R :=.jn 0 s [] t
abbrev dr(xs:List Orc)(t:LT S R):LT S R :=.ev xs [] trivial t
abbrev lb(l:Nat)(t:LT S R):LT S R :=.ev [.lab l] [] trivial t
abbrev kb(b:Bool)(t:LT S R):LT S R :=.ev [.br b] [b=b] ⟨rfl,aa⟩ t
abbrev k2(n:Nat)(t:LT S R):LT S R :=.kg n (.kg n t)
abbrev k3(n:Nat)(t:LT S R):LT S R :=.kg n (.kg n (.kg n t))
abbrev k4(n:Nat)(t:LT S R):LT S R :=.kg n (.kg n (.kg n (.kg n t)))
abbrev k5(n:Nat)(t:LT S R):LT S R :=.kg n (.kg n (.kg n (.kg n (.kg n t))))
abbrev k8(n:Nat)(t:LT S R):LT S R :=.kg n (.kg n (.kg n (.kg n (.kg n (.kg n (.kg n (.kg n t)))))))
abbrev k16(n:Nat)(t:LT S R):LT S R :=.kg n (.kg n (.kg n (.kg n (.kg n (.kg n (.kg n (.kg n (.kg n (.kg n (.kg n (.kg n (.kg n (.kg n (.kg n (.kg n t)))))))))))))))
abbrev b2(b:Bool)(t:LT S R):LT S R :=.kb b (.kb b t)
abbrev b3(b:Bool)(t:LT S R):LT S R :=.kb b (.kb b (.kb b t))
abbrev b4(b:Bool)(t:LT S R):LT S R :=.kb b (.kb b (.kb b (.kb b t)))
abbrev b5(b:Bool)(t:LT S R):LT S R :=.kb b (.kb b (.kb b (.kb b (.kb b t))))
abbrev b8(b:Bool)(t:LT S R):LT S R :=.kb b (.kb b (.kb b (.kb b (.kb b (.kb b (.kb b (.kb b t)))))))
abbrev b16(b:Bool)(t:LT S R):LT S R :=.kb b (.kb b (.kb b (.kb b (.kb b (.kb b (.kb b (.kb b (.kb b (.kb b (.kb b (.kb b (.kb b (.kb b (.kb b (.kb b t)))))))))))))))
abbrev rl(f:α->List U)(xs:List α)(t:LT S R):LT S R :=.ev [] [RL f xs] ⟨rfl,aa⟩ t
abbrev len(f:α->List U)(xs:List α)(t:LT S R):LT S R :=.ev [.num xs.length] [LM f xs] ⟨IV f xs,aa⟩ t
abbrev lenO(f:α->List U)(xs:List α)(t:LT S R):LT S R :=.ev [.num xs.length] [RL f xs,LM f xs] ⟨rfl,IV f xs,aa⟩ t
abbrev lenS(s:List UInt8)(t:LT S R):LT S R :=.ev [.num s.length] [(s.length:Int)=s.length] ⟨rfl,aa⟩ t
abbrev dc(p:Prop) [Decidable p] (h:decide p=true) (t:LT S R):LT S R :=.ev [] [p] ⟨gE h,aa⟩ t
abbrev ok(p:Prop) [Decidable p] (t:LT S R):LT S R :=.op (ok? (decide p)) (λ_=>[]) (λ_=>[p]) (λ_=>[]) (λ_ h=>⟨⟨Zx h,aa⟩,aa⟩) λ_=>t
abbrev idx(f:α->List U){n:Nat} [Cl f n] (xs:List α) (i:Int) (k:α->LT S R):LT S R:=
 .op (idx? xs i) (λx=>[.cs (f x)]) (λx=>[AM f n xs,0<=i,(xs.map f)[i.toNat]?=some (f x)]) (λx=>[AM f n xs,0<=i,(xs.map f)[i.toNat]?=some (f x)])
  (λ_ h=>⟨⟨am f xs,iy h,Z0x f h,aa⟩,am f xs,iy h,Z0x f h,aa⟩) k
abbrev idxR(f:α->List U)(xs:List α)(i:Int)(k:α->LT S R):LT S R:=
 .op (idx? xs i) (λ_=>[.nat i.toNat]) (λ_=>[RL f xs,0<=i,i<((xs.map f).length:Nat),i.toNat=i.toNat]) (λx=>[0<=i,i<((xs.map f).length:Nat),(xs.map f)[i.toNat]?=some (f x)])
  (λ_ h=>⟨⟨rfl,iy h,Z2p f h,rfl,aa⟩,iy h,Z2p f h,Z0x f h,aa⟩) k
abbrev idxS(s:List UInt8)(i:Int)(k:UInt8->LT S R):LT S R:=.op (idx? s i) (λx=>[.byte x]) (λx=>[0<=i,s[i.toNat]?=some x]) (λ_=>[]) (λ_ h=>⟨⟨iy h,ZC h,aa⟩,aa⟩) k
abbrev plR(f:α->List U)(xs:List α)(i:Int)(n:Nat)(t:LT S R):LT S R :=.ev [.nat i.toNat] [RL f xs] ⟨rfl,aa⟩ (.us [n,n+1] (.ev [] [i.toNat=i.toNat] ⟨rfl,aa⟩ t))
abbrev ldR(f:α->List U)(xs:List α)(x:α)(n:Nat)(t:LT S R):LT S R :=.ev [.cs (f x)] [RL f xs] ⟨rfl,aa⟩ (.us [n] t)
abbrev setR(f:α->List U)(xs:List α)(i:Int)(x x':α)(m q:Nat)(ts:List U)(hs:splice (f x) q ts=f x')(k:List α->LT S R):LT S R:=
 .ev [.cs (f x)] [RL f xs] ⟨rfl,aa⟩ (.us [m] (.op (set? xs i x') (λz=>[.es (z.map f)]) (λz=>[(xs.map f).set i.toNat (splice (f x) q ts)=z.map f]) (λz=>[(xs.map f).length=(z.map f).length])
  (λ_ h=>⟨⟨zC f h hs,aa⟩,Z0y f h,aa⟩) k))
abbrev setD(f:α->List U)(xs:List α)(i:Int)(x x':α)(m q:Nat)(ts:List U)(hs:splice (f x) q ts=f x')(k:List α->LT S R):LT S R:=
 .ev [.cs (f x)] [RL f xs] ⟨rfl,aa⟩ (.us [m] (.op (set? xs i x') (λz=>[.es (z.map f)]) (λz=>[(xs.map f).set i.toNat (splice (f x) q ts)=z.map f]) (λz=>[(xs.map f).length=(z.map f).length,(z.map f)[i.toNat]?=some (f x'),(z.map f).length=(xs.map f).length])
  (λ_ h=>⟨⟨zC f h hs,aa⟩,Z0y f h,I3 f h,(Z0y f h).symm,aa⟩) k))
abbrev setE(f:α->List U)(z0 xs:List α)(i:Int)(x x':α)(m n q:Nat)(ts:List U)(hs:splice (f x) q ts=f x')(k:List α->LT S R):LT S R:=
 .op (set2? z0 xs i x') (λz=>[.cs (f x),.es (z.map f)]) (λ_=>[(xs.map f).length=(z0.map f).length]) (λz=>[(z0.map f).length=(z.map f).length,(z.map f)[i.toNat]?=some (f x'),(z.map f).length=(z0.map f).length,(xs.map f).set i.toNat (splice (f x) q ts)=z.map f])
  (λ_ h=>⟨⟨by simp[(lD h).1],aa⟩,by rw[<- Z0y f (lD h).2];simp[(lD h).1],I3 f (lD h).2,by rw[<- Z0y f (lD h).2];simp[(lD h).1],zC f (lD h).2 hs,aa⟩) λz =>.us [m,n] (k z)
abbrev iq(i:Int)(t:LT S R):LT S R :=.ev [] [i.toNat=i.toNat] ⟨rfl,aa⟩ t
abbrev clsR(f:α->List U)(xs:List α)(i:Int)(x':α)(k:List α->LT S R):LT S R:=.op (set? xs i x') (λ_=>[]) (λ_=>[]) (λz=>[(xs.map f).set i.toNat (f x')=z.map f,(xs.map f).length=(z.map f).length]) (λ_ h=>⟨aa,I4 f h,Z0y f h,aa⟩) k
abbrev sl(f:α->List U){n:Nat} [Cl f n] (xs:List α) (l h:Int) (k:List α->LT S R):LT S R:=
 .op (slice? xs l h) (λz=>[.es (z.map f)]) (λz=>[AM f n xs,0<=l,l<=h,h<=((xs.map f).length:Nat),((xs.map f).take h.toNat).drop l.toNat=z.map f]) (λ_=>[])
  (λ_ e=>⟨⟨am f xs,Zy e,IZ e,I0 f e,I1 f e,aa⟩,aa⟩) k
abbrev slS(s:List UInt8)(l h:Int)(k:List UInt8->LT S R):LT S R:=
 .op (slice? s l h) (λz=>[.cs [.str z]]) (λz=>[0<=l,l<=h,h<=(s.length:Int),(s.take h.toNat).drop l.toNat=z]) (λ_=>[])
  (λ_ e=>⟨⟨(Z9w e).1,(Z9w e).2.1,(Z9w e).2.2.1,(Z9w e).2.2.2,aa⟩,aa⟩) k
abbrev mk(f:α->List U)(l b:Nat)(z:α)(m c:Int)(k:List α->LT S R):LT S R:=
 .op (make? b z m c) (λx=>[.lab l,.nat (x.map f).length,.es (x.map f)]) (λx=>[0<=m,m<=c,(b:Int)*c<=281474976710656,c<=9223372036854775807,m.toNat=(x.map f).length,List.replicate (x.map f).length (f z)=x.map f]) (λ_=>[])
  (λ_ e=>⟨⟨(kr e).1,(kr e).2.1,(kr e).2.2.1,(kr e).2.2.2,I2 f e,zB f e,aa⟩,aa⟩) k
abbrev apN(f:α->List U){n:Nat} [Cl f n] (l b:Nat) (ys:List α) (k:List α->LT S R):LT S R:=
 .op (app? b [] ys) (λz=>[.lab l,.es (z.map f)]) (λz=>[ys.map f=z.map f,AM f n z,(z.map f).length<=9223372036854775807,(z.map f).length*b<=140737488355328]) (λ_=>[])
  (λz h=>⟨⟨IX f h,am f z,IY f h,zA f h,aa⟩,aa⟩) k
abbrev apR(f:α->List U){n:Nat} [Cl f n] (b:Nat) (xs ys:List α) (k:List α->LT S R):LT S R:=
 .op (app? b xs ys) (λz=>[.es (z.map f)]) (λz=>[RL f xs,xs.map f++ys.map f=z.map f,AM f n ys,(z.map f).length<=9223372036854775807,(z.map f).length*b<=140737488355328]) (λ_=>[])
  (λ_ h=>⟨⟨rfl,IW f h,am f ys,IY f h,zA f h,aa⟩,aa⟩) k
abbrev bys(s:List UInt8)(k:List Int->LT S R):LT S R:=.op (bytes? s) (λz=>[.es (z.map (cI .u8))]) (λz=>[eF s=z.map (cI .u8),s.length<=9223372036854775807]) (λ_=>[]) (λ_ h=>⟨⟨ZD h,ZE h,aa⟩,aa⟩) k
abbrev str(xs:List Int)(k:List UInt8->LT S R):LT S R:=.op (str? xs) (λz=>[.cs [.str z]]) (λz=>[eF z=xs.map (cI .u8),z≠[]]) (λ_=>[]) (λ_ h=>⟨⟨(I5 h).1,(I5 h).2,aa⟩,aa⟩) k
abbrev call{P:Program}{f:Nat}{args:List PV}{o:Option α}{p:α->PV}(H:∀{r:α},o=some r->Fn P f args (p r))(k:α->LT S R):LT S R:=.op o (λx=>[.call (p x)]) (λx=>[Fn P f args (p x)]) (λ_=>[]) (λ_ h=>⟨⟨H h,aa⟩,aa⟩) k
abbrev callO{P:Program}{f:Nat}{args:List PV}{o:Option α}{p:α->PV}{Z:List (Nat×Blk)}{σ1:α->List (Nat×Blk)}(H:∀{r:α},o=some r->FnG P f Z args (σ1 r) (p r))(ls:List Nat)(d:Nat)(fr:α->List (Nat×Blk))(k:α->LT S R):LT S R:=.op o (λx=>[.callO false ls d (fr x) (p x)]) (λx=>[FnG P f Z args (σ1 x) (p x)]) (λ_=>[]) (λ_ h=>⟨⟨H h,aa⟩,aa⟩) k
abbrev callU{P:Program}{f:Nat}{args:List PV}{o:Option α}{p:α->PV}{Z:List (Nat×Blk)}{σ1:α->List (Nat×Blk)}(H:∀{r:α},o=some r->FnG P f Z args (σ1 r) (p r))(ls:List Nat)(d:Nat)(k:α->LT S R):LT S R:=.op o (λx=>[.callU false ls d (σ1 x) (p x)]) (λx=>[FnG P f Z args (σ1 x) (p x)]) (λ_=>[]) (λ_ h=>⟨⟨H h,aa⟩,aa⟩) k
abbrev callF{P:Program}{f:Nat}{args:List PV}{o:Option α}{p:α->PV}{σ1:α->List (Nat×Blk)}(H:∀{r:α},o=some r->FnG P f [] args (σ1 r) (p r))(d:Nat)(k:α->LT S R):LT S R:=.op o (λx=>[.callO false [] d (σ1 x) (p x)]) (λx=>[FnG P f [] args (σ1 x) (p x)]) (λ_=>[]) (λ_ h=>⟨⟨H h,aa⟩,aa⟩) k
abbrev callS{P:Program}{f:Nat}{args:List PV}{o:Option α}{p:α->PV}{σ1:α->List (Nat×Blk)}(H:∀{r:α},o=some r->FnG P f [] args (σ1 r) (p r))(d:Nat)(hs:∀x,aG (scC true (σ1 x) (p x)))(k:α->LT S R):LT S R:=.op o (λx=>[.callO true [] d (σ1 x) (p x)]) (λx=>scC true (σ1 x) (p x)++[FnG P f [] args (σ1 x) (p x)]) (λ_=>[]) (λx h=>⟨bM.2 ⟨hs x,H h,aa⟩,aa⟩) k
abbrev callW{P:Program}{f:Nat}{args:List PV}{o:Option α}{p:α->PV}{Z:List (Nat×Blk)}{σ1:α->List (Nat×Blk)}(H:∀{r:α},o=some r->FnG P f Z args (σ1 r) (p r))(ls:List Nat)(d:Nat)(hs:∀x,aG (scC true (σ1 x) (p x)))(k:α->LT S R):LT S R:=.op o (λx=>[.callU true ls d (σ1 x) (p x)]) (λx=>scC true (σ1 x) (p x)++[FnG P f Z args (σ1 x) (p x)]) (λ_=>[]) (λx h=>⟨bM.2 ⟨hs x,H h,aa⟩,aa⟩) k
abbrev lkG(f:α->List U)(m:List (Int×α))(n:Int)(z:α)(k:α×Bool->LT S R):LT S R:=.op (some (mlk m n z)) (λx=>[.cs (f x.1),.br x.2]) (λx=>[mlk (cM f m) n (f z)=(f x.1,x.2)]) (λ_=>[]) (λ_ h=>⟨⟨by cases h;exact MC f m n z,aa⟩,aa⟩) k
abbrev lkH(f:α->List U)(m:List (Int×α))(n:Int)(z:α)(k:α->LT S R):LT S R:=.op (some (mlk m n z).1) (λx=>[.cs (f x)]) (λx=>[(mlk (cM f m) n (f z)).1=f x]) (λ_=>[]) (λ_ h=>⟨⟨by cases h;rw[MC],aa⟩,aa⟩) k
abbrev stG(f:α->List U)(m:List (Int×α))(n:Int)(x:α)(p q:PV)(hp:p=q)(k:List (Int×α)->LT S R):LT S R:=.op (some (bZ m n x)) (λz=>[.cs (f x),.mp (cM f z)]) (λz=>[p=q,bZ (cM f m) n (f x)=cM f z]) (λ_=>[]) (λ_ h=>⟨⟨hp,by cases h;exact(AR f n x m).symm,aa⟩,aa⟩) k
def Zj5{α:Type}(f:α->List U)(m:List (Int×List α))(n:Int):rlk (cM (cL f) m) n=((mlk m n []).1).map f:=by unfold rlk mlk cM;rw[AQ];cases dR m n<;>rfl
abbrev lkT(f:α->List U)(m:List (Int×List α))(n:Int)(L:Nat)(k:List α->LT S R):LT S R:=.op (some (mlk m n []).1) (λx=>[.lab L,.es (x.map f)]) (λx=>[rlk (cM (cL f) m) n=x.map f]) (λ_=>[]) (λ_ h=>⟨⟨by cases h;exact Zj5 f m n,aa⟩,aa⟩) k
abbrev gvT(f:α->List U)(m:List (Int×List α))(n:Int)(x:List α)(k:List (Int×List α)->LT S R):LT S R:=.op (some (bZ m n x)) (λz=>[.mp (cM (cL f) z)]) (λz=>[n=n,(x.map f).length=(x.map f).length,bZ (cM (cL f) m) n [.sl (x.map f)]=cM (cL f) z]) (λ_=>[]) (λ_ h=>⟨⟨rfl,rfl,by cases h;exact(AR (cL f) n x m).symm,aa⟩,aa⟩) k
abbrev lenG(f:α->List U)(m:List (Int×α))(t:LT S R):LT S R :=.ev [.num m.length] [((cM f m).length:Int)=m.length] ⟨by simp[cM],aa⟩ t
abbrev ag(f:α->List U)(x:α)(n:Nat)(t:LT S R):LT S R :=.ev [.cs (f x)] [] trivial (.us [n,n+1,n+2] t)
abbrev idA(f:α->U)(xs:List α)(i:Int)(cs:List PV)(q m:Nat)(k:α->LT S R):LT S R:=
 .op (idx? xs i) (λ_=>[.nat i.toNat]) (λ_=>[0<=i,i<(xs.length:Int),i.toNat=i.toNat]) (λv=>[c6 false 1 ((cs.take q).length+i.toNat*1) (cs.take q++((xs.map f).map .t++cs.drop m))=some (jY false [f v])])
  (λ_ h=>⟨⟨iy h,by simpa using Z2p f h,rfl,aa⟩,ZA _ _ (VS f h),aa⟩) k
abbrev idX(f:α->U)(xs:List α)(i:Int)(k:α->LT S R):LT S R:=
 .op (idx? xs i) (λv=>[.cs [f v]]) (λv=>[0<=i,i<(xs.length:Int),c6 false 1 (i.toNat*1) ((xs.map f).map .t)=some (jY false [f v])]) (λ_=>[])
  (λ_ h=>⟨⟨iy h,by simpa using Z2p f h,VS f h,aa⟩,aa⟩) k
abbrev ldC(f:α->U)(d:Nat)(v:α)(n:Nat)(t:LT S R):LT S R :=.ev [.cell d [f v]] [] trivial (.us [n] t)
abbrev stA(o:Option α){p:Prop}{l:List PV}{g:α->List PV}(H:∀{y:α},o=some y->p/\l=g y)(k:α->LT S R):LT S R:=.op o (λy=>[.sp (g y)]) (λy=>[p,l=g y]) (λ_=>[]) (λ_ h=>⟨⟨(H h).1,(H h).2,aa⟩,aa⟩) k
abbrev tlR(f:α->List U)(xs:List α)(i:Int)(z:α)(k:List α->LT S R):LT S R:=
 .op (clr? xs i z) (λ_=>[.nat i.toNat]) (λ_=>[RL f xs,0<=i,i<=((xs.map f).length:Nat),i.toNat=i.toNat]) (λz'=>[i.toNat<=(xs.map f).length,(xs.map f).take i.toNat++List.replicate ((xs.map f).length-i.toNat) (f z)=z'.map f,(xs.map f).length=(z'.map f).length])
  (λ_ h=>⟨⟨rfl,I6 h,I7 f h,rfl,aa⟩,by have:=I7 f h;have:=I6 h;omega,ZJ f h,ZK f h,aa⟩) k
abbrev clR(f:α->List U)(xs z:List α)(n:Nat)(t:LT S R):LT S R :=.ev [.es (z.map f)] [RL f xs] ⟨rfl,aa⟩ (.us [n,n+1] t)
abbrev trR(f:α->List U)(xs:List α)(i:Int)(k:List α->LT S R):LT S R:=
 .op (slice? xs 0 i) (λz=>[.nat (z.map f).length,.es (z.map f)]) (λz=>[RL f xs,0<=i,i<=((xs.map f).length:Nat),i.toNat=(z.map f).length,(xs.map f).take i.toNat=z.map f]) (λ_=>[])
  (λ_ h=>⟨⟨rfl,IZ h,I0 f h,ZL f h,ZM f h,aa⟩,aa⟩) k
abbrev m0(l:Nat)(t:LT S R):LT S R :=.ev [.num 0,.lab l] [] trivial t
abbrev idM(f:α->List U)(xs:List (List α))(i:Int)(k:List α->LT S R):LT S R:=
 .op (idx? xs i) (λ_=>[.nat i.toNat]) (λ_=>[RL (cL f) xs,0<=i,i<((xs.map (cL f)).length:Nat),i.toNat=i.toNat]) (λy=>[i.toNat<(xs.map (cL f)).length,(xs.map (cL f))[i.toNat]?=some [.sl (y.map f)]])
  (λ_ h=>⟨⟨rfl,iy h,Z2p (cL f) h,rfl,aa⟩,by have:=Z2p (cL f) h;have:=iy h;omega,Z0x (cL f) h,aa⟩) k
abbrev ldM(f:α->List U)(xs:List (List α))(n:Nat)(t:LT S R):LT S R :=.ev [] [RL (cL f) xs] ⟨rfl,aa⟩ (.us [n] t)
abbrev idN(f:α->List U)(xs:List (List α))(y:List α)(j:Int)(n:Nat)(k:α->LT S R):LT S R:=
 .ev [.es (y.map f)] [RL (cL f) xs] ⟨rfl,aa⟩ (.us [n+1] (.op (idx? y j) (λ_=>[.nat j.toNat]) (λ_=>[0<=j,j<((y.map f).length:Nat),j.toNat=j.toNat]) (λx=>[j.toNat<(y.map f).length,(y.map f)[j.toNat]?=some (f x)])
  (λ_ h=>⟨⟨iy h,Z2p f h,rfl,aa⟩,by have:=Z2p f h;have:=iy h;omega,Z0x f h,aa⟩) k))
abbrev ldN(f:α->List U)(xs:List (List α))(y:List α)(x:α)(n m:Nat)(t:LT S R):LT S R :=.ev [.es (y.map f),.cs (f x)] [RL (cL f) xs] ⟨rfl,aa⟩ (.us [n,m] t)
abbrev stM(f:α->List U)(xs:List (List α))(i:Int)(y:List α)(j:Int)(v:α)(n m:Nat)(k:List (List α)->LT S R):LT S R:=
 .ev [.es (y.map f)] [RL (cL f) xs] ⟨rfl,aa⟩ (.us [n+1,m] (.op (setM? xs i y j v) (λz=>[.es (z.map (cL f))]) (λz=>[(xs.map (cL f)).set i.toNat [.sl ((y.map f).set j.toNat (f v))]=z.map (cL f)]) (λz=>[(xs.map (cL f)).length=(z.map (cL f)).length])
  (λ_ h=>⟨⟨ZN f h,aa⟩,ZO f h,aa⟩) k))
abbrev callC{P:Program}{fn n b:Nat}(H:jg P fn n b)(f:α->List U) [Cl f n] (l:Nat) (xs:List α) (t:LT S R):LT S R:=
 .op (app? b [] xs) (λ_=>[.callC l b]) (λ_=>[RL f xs,jg P fn n b,(xs.map f).length*b<=140737488355328]) (λ_=>[])
  (λz h=>⟨⟨rfl,H,by have h1:=zA f h;rwa[<- IX f h]at h1,aa⟩,aa⟩) λ_=>t
abbrev mkE(f:α->List U)(l b:Nat)(m c:Int)(k:List (List α)->LT S R):LT S R:=
 .op (make? b ([]:List α) m c) (λx=>[.lab l,.nat (x.map (cL f)).length,.es (x.map (cL f))]) (λx=>[0<=m,m<=c,(b:Int)*c<=281474976710656,c<=9223372036854775807,m.toNat=(x.map (cL f)).length,List.replicate (x.map (cL f)).length (cL f [])=x.map (cL f)]) (λx=>[∀e,e∈x.map (cL f)->e=[U.sl []]])
  (λ_ e=>⟨⟨(kr e).1,(kr e).2.1,(kr e).2.2.1,(kr e).2.2.2,I2 (cL f) e,zB (cL f) e,aa⟩,λy hy=>by rw[<- zB (cL f) e]at hy;exact(List.mem_replicate.1 hy).2,aa⟩) k
abbrev stR(f:α->List U) [Cs f] (xs:List (List α)) (i:Int) (y:List α) (n:Nat) (k:List (List α)->LT S R):LT S R:=
 .ev [] [RL (cL f) xs] ⟨rfl,aa⟩ (.us [n] (.op (set? xs i y) (λz=>[.es (z.map (cL f))]) (λz=>[RL f y,SC1 (y.map f),(xs.map (cL f)).set i.toNat [.sl (y.map f)]=z.map (cL f)]) (λz=>[(xs.map (cL f)).length=(z.map (cL f)).length])
  (λ_ h=>⟨⟨rfl,sc1 f y,I4 (cL f) h,aa⟩,Z0y (cL f) h,aa⟩) k))
abbrev ne(f:α->List U){xs:List α}(h:xs≠[])(t:LT S R):LT S R :=.ev [] [xs.map f≠[]] ⟨Zz f h,aa⟩ t
end
end LT
end Go.PW
namespace Go.PW
def tX{S R:Type}{Inv:S->Prop}{μ:S->M6}{m:M6}{post:R->Prop}{F:LF S R}{t:LT S R}(h0:Tot t.den (Nx Inv μ m post))(hs:∀s,Inv s->Tot (F.body s).den (Nx Inv μ (μ s) post)):Tot (F.run t) post:=Tot.fin h0 hs
def Tot.rn{S R:Type}(Inv:S->Prop)(μ:S->M6){post:R->Prop}{F:LF S R}{t:LT S R}(h0:Tot t.den (Nx Inv μ (1000000,0,0,0,0,0) post))(hs:∀s,Inv s->Tot (F.body s).den (Nx Inv μ (μ s) post)):Tot (F.run t) post:=Tot.fin h0 hs
abbrev iv0:Empty->Prop:=λ_=>True
abbrev mu0:Empty->M6:=λ_=>(0,0,0,0,0,0)
def tZ{R:Type}{post:R->Prop}{F:LF Empty R}{t:LT Empty R}(h0:Tot t.den (Nx iv0 mu0 (1000000,0,0,0,0,0) post)):Tot (F.run t) post:=Tot.fin h0 λs=>nomatch s
def tJ{S R:Type}{Inv:S->Prop}{μ:S->M6}{m m':M6}{post:R->Prop}{o:Option (S⊕R)}(h:Tot o (Nx Inv μ m' post))(hm:le6 m' m:=by unfold le6 lt6;dsimp only;omega):Tot o (Nx Inv μ m post):=Tot.join h hm
def qw{p:Prop}(n:Int)(h:(-9223372036854775808<=n->n<9223372036854775808->IntKind.wrap .i64 n=n)->(-9223372036854775808<=IntKind.wrap .i64 n/\IntKind.wrap .i64 n<9223372036854775808)->p):p:=h (nG n) (Si n)
def lo{p:Prop}(h:p:=by first|omega|(dsimp only;omega)):=h
def cl{p:Prop}(h:p:=by first|omega|(simp only[bF,bT,cg];omega)|trivial|decide|assumption|exact shl_ne' O O|(simp;done)|(simp;omega)):=h
def Tot.ix{α β:Type}{xs:List α}{i:Int}{k:α->Option β}{Q:β->Prop}(f:∀x,(x∈xs/\xs[i.toNat]? = .some x)->Tot (k x) Q)(h0:0<=i:=by omega)(h1:i<xs.length:=by omega):Tot ((idx? xs i).bind k) Q:=tB (tI h0 h1) f
def Tot.ap{α β:Type}{k:Nat}{a b:List α}{g:List α->Option β}{Q:β->Prop}(f:∀z,z=a++b->Tot (g z) Q)(h:(a.length+b.length)*k<=140737488355328:=by first|omega|(simp only[bT,cg];omega))(hk:0<k:=by decide):Tot ((app? k a b).bind g) Q:=tB (tA h hk) f
def Tot.mk{α:Type}{b:Nat}{z:α}{m c:Int}(h:0<=m/\m<=c/\(b:Int)*c<=281474976710656/\c<=9223372036854775807:=by refine⟨?_,?_,?_,?_⟩<;>omega):Tot (make? b z m c) λx=>(x.length:Int)=m/\∀y,y∈x->y=z:=Tot.make h
def me1{α:Type}{P:α->Prop}{a:α}(h:P a):∀x,x∈[a]->P x:=mem_cons' h λ_ h=>di
def SzL.one{α:Type}{P:α->Prop}{a:α}{k:Nat}(h:P a)(hk:k<=140737488351232:=by decide):SzL k P [a]:=⟨by simp only[bT,cg];omega,me1 h⟩
def SzL.tr{α:Type}{l:List α}{k:Nat}(h:l.length*k<=140737488351232:=by first|omega|(simp only[bT,cg];omega)):SzL k (λ_=>True) l:=⟨h,λ_ _=>trivial⟩
def cs{p:Prop}(h:p:=by repeat' (first|exact cl|apply And.intro)):=h
def wr(n:Int):(-9223372036854775808<=n->n<9223372036854775808->IntKind.wrap .i64 n=n) /\ -9223372036854775808<=IntKind.wrap .i64 n/\IntKind.wrap .i64 n<9223372036854775808:=⟨nG n,Si n⟩
def db{α:Type}{z a:List α}{x:α}(h:z=a++[x]):z.length=a.length+1:=by rw[h,bF];rfl
end Go.PW
namespace Go.PW
open Go.RowKit
def ins? {α:Type} (b:Nat) (xs:List α) (i:Int):List α->Option (List α)
 |[y]=>if 0<=i/\i<=xs.length/\(xs.length+1)*b<=140737488355328 then some (xs.take i.toNat++y::xs.drop i.toNat)else none
 |_=>none
def Hk{α:Type}{b:Nat}{xs:List α}{i:Int}{y:α}(h0:0<=i)(h1:i<=xs.length)(h2:(xs.length+1)*b<=140737488355328):ins? b xs i [y]=some (xs.take i.toNat++y::xs.drop i.toNat):=aP ⟨h0,h1,h2⟩
def Z4b.okO{P:Program}{fn:FuncId}{e:TypeId}{z:Value}{b:Nat}(R:Z4b P fn e z b){α:Type}{f:α->List U}(hf:∀x,∃t,f x=[t])(xs:List α)(i:Int)(ys:List α){r:List α}(h:ins? b xs i ys=some r) :
 FnG P fn [(0,wR f 1 xs),(1,wR f 1 ys)] [wO f 0 xs,wI i,wO f 1 ys] [(5000,wR f 1 r)] (wO f 5000 r):=by
 unfold ins? at h;split at h
 .rename_i y;split at h
  .rename_i hc;cases h;obtain⟨t,ht⟩:=hf y;have hfn:=R.fn (xs.map f) t i.toNat (by rw[da];omega) (by rw[da];exact hc.2.2);have hi:((i.toNat:Nat):Int)=i:=oO hc.1;have hl:(xs.take i.toNat++y::xs.drop i.toNat).map f=insE (xs.map f) i.toNat t:=by simp only[insE,eL,cw,ny,qg,ht]
   have hn:((xs.take i.toNat++y::xs.drop i.toNat).map f).length=(xs.map f).length+1:=by rw[hl];simp only[insE,bF,bT,fH,jk,da];omega
   simp only[fS,insA,hi]at hfn;show FnG P fn [(0,.row 1 (xs.map f)),(1,.row 1 ([y].map f))] [.osl 0 (xs.map f).length,wI i,.osl 1 1] [(5000,.row 1 ((xs.take i.toNat++y::xs.drop i.toNat).map f))] (.osl 5000 ((xs.take i.toNat++y::xs.drop i.toNat).map f).length);rw[hn,hl];simp only[cw,fI,ht];exact hfn
  cases h
 cases h
end Go.PW
