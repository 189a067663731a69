import Derived.Test.YtchddhcajpagjaaGreatPwY
import Derived.Test.YtchddhcajpagjaaGreatPwLr
set_option linter.all false
namespace Go.PW
open Go.RowKit
variable {α R:Type} {Z:List (Nat×Blk)} {args:List PV} {f k n:Nat} {P:Program}
abbrev bx(l:List aa):List PV:=l.map .t
abbrev wI(n:Int):PV :=.t (.int .i64 n)
abbrev wB(b:Bool):PV :=.t (.bool b)
abbrev wS(s:List UInt8):PV :=.t (.str s)
abbrev wL(f:α->List aa)(xs:List α):PV :=.t (.sl (xs.map f))
abbrev wA(l:List aa):PV :=.agg (bx l)
abbrev wO(f:α->List aa)(l:Nat)(xs:List α):PV :=.osl l (xs.map f).length
abbrev wR(f:α->List aa)(k:Nat)(xs:List α):Blk :=.row k (xs.map f)
abbrev wM(f:α->List aa)(l:Nat)(xs:List α):PV :=.own l (.msl (xs.map f).length)
abbrev wT(f:α->List aa)(xs:List α):Blk :=.mat 1 0 (xs.map f)
abbrev cM(f:α->List aa)(m:List (Int×α)):List (Int×List aa):=m.map λp=>(p.1,f p.2)
abbrev wG(ag:Bool)(f:α->List aa)(m:List (Int×α)):Blk :=.map ag (cM f m)
class Sd (P:Program) (T:outParam TS):Prop where
 hm:P.follows .mixedOrders=true
 hT:TOK P T
section
variable {P:Program} {T:TS} [i:Sd P T] {S R:Type}
def ntOf(P:Program)(f:Nat):Nat:=match P.funcs[f]? with|some fn=>fn.ntmps|none=>0
def WR(P:Program)(T:TS)(f:Nat)(rs:List RV)(args:List PV):Bool:=
 match P.funcs[f]? with
 |some fn=>fn.body.isSome&&(!(fn.name == "runtime.NumGoroutine"))&&Nat.ble args.length fn.ntmps&&rvOK T rs
 |none=>false
def LF.fn(F:LF S R){t:LT S R}{r:R}(h:F.run t=some r)
 (h0:(chk P T F t (.code (tU P F.f) []) [] [] ⟨[],[]⟩ ⟨ntOf P F.f,idx 0 args,Z⟩).l=(chk P T F t (.code (tU P F.f) []) [] [] ⟨[],[]⟩ ⟨ntOf P F.f,idx 0 args,Z⟩).r:=by kernel_rfl)
 (hl:∀s,(chk P T F (F.body s) (F.cfg P s) [] [] ⟨[],[]⟩ (F.stf s)).l=(chk P T F (F.body s) (F.cfg P s) [] [] ⟨[],[]⟩ (F.stf s)).r:=by intro s;cases s<;>kernel_rfl)
 (hs:WR P T F.f F.rs args=true:=by kernel_rfl) (hr:(P.funcs[F.f]?).map (·.results)=some (F.rs.map RV.to).toArray:=by kernel_rfl) :
 FnG P F.f Z args (F.sr r) (F.res r):=by
 unfold WR at hs;split at hs
 .rename_i fn hf;simp only[aN,dy,eP]at hs;obtain⟨⟨⟨h1,h2⟩,h3⟩,h4⟩:=hs;have hr':fn.results=(F.rs.map RV.to).toArray:=by rw[hf]at hr;exact cF hr
  obtain⟨c,hc⟩:=Option.isSome_iff_exists.1 h1;have e1:tU P F.f=c:=by unfold tU;rw[hf];show(fn.body).getD .skip=c;rw[hc];rfl
  have e2:ntOf P F.f=fn.ntmps:=by unfold ntOf;rw[hf]
  refine FnG.of_cfg i.hT hf hc h2 fn.ntmps rfl h3 F.rs hr' h4 ?_;have J:∀s,(chk P T F (F.body s) (F.cfg P s) [] [] ⟨[],[]⟩ (F.stf s)).ok:=λs=>E.sound _ (hl s);unfold LF.run at h;obtain⟨y,hy,he⟩:=dY.1 h;have h0':=E.sound _ h0;rw[e1,e2]at h0';refine WS i.hm i.hT F J t _ _ _ _ _ y h0' trivial ⟨λ_ hp=>(nomatch hp),λ_ hp=>(nomatch hp)⟩ hy (Zcy (λs y hs hk=>?_) he);exact WS i.hm i.hT F J _ _ _ _ _ _ y (J s) trivial ⟨λ_ hp=>(nomatch hp),λ_ hp=>(nomatch hp)⟩ hs hk
 cases hs
end
section
def tkOf(P:Program)(t:Nat):TK:=
 match P.underlying t with
 |some .bool =>.bool
 |some (.int k) =>.int k
 |some .string =>.str
 |some (.slice e) =>.slice e
 |some (.struct fs) =>.struct (fs.toList.map λf=>(f.offset,f.type))
 |some (.array n e) =>.arr n e
 |some (.map k e) =>.map k e
 |some (.pointer _) =>.ptr
 |_ =>.other
def Zku(P:Program)(t:Nat):TKOK P t (tkOf P t):=by unfold tkOf;split<;>rename_i h<;>simp only[TKOK];all_goals first|exact h|exact⟨_,h,rfl⟩|(unfold Program.pointee;rw[h])
abbrev TRow:=Option (Bool×Nat×Nat×Option (List PV)×TK×Option (Nat×List LK))
def D8(P:Program)(t:Nat)(i:fQ):TRow:=
 match P.underlying t,P.info? t with
 |some d,some j=>some (d.isRow,j.size,j.bytes,(match i.zero with|none=>none|some _=>hX P t),tkOf P t,
  (match i.flat with|none=>none|some (d,_)=>bif Nat.ble d 10000&&i.agg && !(P.eqGuardType P.depth t)then(fq P d t).map λks=>(d,ks)else none))
 |_,_=>none
def tabL(P:Program):TS->List TRow
 |[]=>[]
 |(t,i)::r=>D8 P t i::tabL P r
def tabR:TS->List TRow
 |[]=>[]
 |(_,i)::r=>some (i.agg,i.size,i.bytes,i.zero,i.k,i.flat)::tabR r
def qZ.of_eq{t:Nat}{i:fQ}(h:D8 P t i=some (i.agg,i.size,i.bytes,i.zero,i.k,i.flat)):qZ P t i:=by
 unfold D8 at h;split at h
 .rename_i d j hd hj;simp only[aA,bI]at h;obtain⟨h1,h2,h3,h4,h5,h6⟩:=h;refine { ty:=⟨⟨d,hd,h1⟩,by rw[hj];simp[h2]⟩,by_:=by rw[hj];simp[h2,h3],z:=λz hz=>?_,k:=h5▸Zku P t,fl:=λd ks hf=>?_ }
  .rw [hz]at h4;exact h4
  rw[hf]at h6;simp only at h6;cases hb:(Nat.ble d 10000&&i.agg && !(P.eqGuardType P.depth t))with
  |false=>rw[hb]at h6;cases h6
  |true=>
   rw[hb,aB]at h6;simp only[aN,eP,dy]at hb;simp only[cG,bI]at h6;obtain⟨ks',e1,_,e2⟩:=h6;exact⟨hb.1.1,by rw[e1,e2],hb.1.2,hb.2⟩
 cases h
def TOK.of_eq{T:TS}(h:tabL P T=tabR T):TOK P T:=by
 refine TOK.of_all ?_;induction T with
 |nil=>trivial
 |cons x r ih=>
  obtain⟨t,i⟩:=x;simp only[tabL,tabR,vH]at h;exact⟨qZ.of_eq h.1,ih h.2⟩
end
class Cl {α:Type} (f:α->List aa) (k:outParam Nat):Prop where
 l:∀x,(f x).length=k
instance (k:IntKind):Cl (cI k) 1:=⟨λ_=>rfl⟩
instance:Cl cB 1:=⟨λ_=>rfl⟩
instance:Cl cS 1:=⟨λ_=>rfl⟩
instance {α:Type} (f:α->List aa):Cl (cL f) 1:=⟨λ_=>rfl⟩
class Cs {α:Type} (f:α->List aa):Prop where
 s:∀x,∃t,f x=[t]/\t.scal=true
instance (k:IntKind):Cs (cI k):=⟨λ_=>⟨_,rfl,rfl⟩⟩
instance:Cs cB:=⟨λ_=>⟨_,rfl,rfl⟩⟩
instance:Cs cS:=⟨λ_=>⟨_,rfl,rfl⟩⟩
def sc1(f:α->List aa) [c:Cs f] (xs:List α):SC1 (xs.map f):=λx hx=>by obtain⟨a,_,rfl⟩:=iH.1 hx;exact c.s a
def WU(f:α->aa){xs:List α}{i:Int}{v:α}(h:idx? xs i=some v):dk false 1 (i.toNat*1) ((xs.map f).map .t)=some (j9 false [f v]):=by have hm:=mq f h;simp only[dk,aD,db,jD (f:=PV.t),hm,Option.map_some];rfl
abbrev LF.z(f:Nat)(rs:List RV)(own:Bool)(sr:R->List (Nat×Blk))(res:R->PV):LF Empty R:=⟨f,rs,own,(λs=>nomatch s),(λs=>nomatch s),sr,res,(λs=>nomatch s)⟩
abbrev LF.z0(f:Nat)(rs:List RV)(res:R->PV):LF Empty R :=.z f rs false (λ_=>[]) res
abbrev LF.m{S:Type}(f:Nat)(rs:List RV)(own:Bool)(sr:R->List (Nat×Blk))(res:R->PV)(b:S->List Nat×PW.St×LT S R):LF S R:=⟨f,rs,own,λs=>(b s).1,λs=>(b s).2.1,sr,res,λs=>(b s).2.2⟩
abbrev LF.m0{S:Type}(f:Nat)(rs:List RV)(res:R->PV)(b:S->List Nat×PW.St×LT S R):LF S R :=.m f rs false (λ_=>[]) res b
abbrev Opq(k:Nat):={ l:List aa // l.length=k }
abbrev eQ(x:Opq k):List aa:=x.1
instance {k:Nat}:Cl (eQ (k:=k)) k:=⟨λx=>x.2⟩
def WV{a:List α}(h:a.length*k<=140737488355328)(hk:0<k):app? k [] a=some a:=by unfold app?;rw[aq (by have:a.length<=a.length*k:=xg _ hk;simp;omega)];rfl
def jJ.of{b:Nat}{g:List (Opq k)->Option (List (Opq k))}(hg:∀a:List (Opq k),a.length*b<=140737488355328->g a=some a)
 (H:∀(a:List (Opq k)) {r:List (Opq k)},g a=some r->FnG P f [] [wL eQ a] [(5000,wR eQ k r)] (wO eQ 5000 r)):jJ P f k b:=λes hk hb=>by
 have hm:(es.pmap (λl h=>(⟨l,h⟩:Opq k)) hk).map eQ=es:=by rw[List.map_pmap];simp
 have:=H _ (hg (es.pmap (λl h=>(⟨l,h⟩:Opq k)) hk) (by simpa using hb));simpa only[wL,wR,wO,hm]using this
namespace LT
section
variable {S R α:Type}
abbrev AM(f:α->List aa)(k:Nat)(xs:List α):Prop:=∀el,el∈xs.map f->el.length=k
def am(f:α->List aa) [c:Cl f k] (xs:List α):AM f k xs:=all_map f k c.l xs
abbrev RL(f:α->List aa)(xs:List α):Prop:=(xs.map f).length=(xs.map f).length
abbrev LM(f:α->List aa)(xs:List α):Prop:=(((xs.map f).length:Nat):Int)=(xs.length:Int)
abbrev rt(r:R):LT S R :=.ret r []
abbrev g0(s:S):LT S R :=.go s []
abbrev j0(s:S)(t:LT S R):LT S R :=.jn 0 s [] t
abbrev dr(xs:List Orc)(t:LT S R):LT S R :=.ev xs [] trivial t
abbrev lb(l:Nat)(t:LT S R):LT S R :=.ev [.lab l] [] trivial t
abbrev kb(b:Bool)(t:LT S R):LT S R :=.ev [.br b] [b=b] ⟨rfl,ab⟩ t
abbrev k2(n:Nat)(t:LT S R):LT S R :=.kg n (.kg n t)
abbrev k3(n:Nat)(t:LT S R):LT S R :=.kg n (.kg n (.kg n t))
abbrev k4(n:Nat)(t:LT S R):LT S R :=.kg n (.kg n (.kg n (.kg n t)))
abbrev k5(n:Nat)(t:LT S R):LT S R :=.kg n (.kg n (.kg n (.kg n (.kg n t))))
abbrev k8(n:Nat)(t:LT S R):LT S R :=.kg n (.kg n (.kg n (.kg n (.kg n (.kg n (.kg n (.kg n t)))))))
abbrev k16(n:Nat)(t:LT S R):LT S R :=.kg n (.kg n (.kg n (.kg n (.kg n (.kg n (.kg n (.kg n (.kg n (.kg n (.kg n (.kg n (.kg n (.kg n (.kg n (.kg n t)))))))))))))))
abbrev b2(b:Bool)(t:LT S R):LT S R :=.kb b (.kb b t)
abbrev b3(b:Bool)(t:LT S R):LT S R :=.kb b (.kb b (.kb b t))
abbrev b4(b:Bool)(t:LT S R):LT S R :=.kb b (.kb b (.kb b (.kb b t)))
abbrev b5(b:Bool)(t:LT S R):LT S R :=.kb b (.kb b (.kb b (.kb b (.kb b t))))
abbrev b8(b:Bool)(t:LT S R):LT S R :=.kb b (.kb b (.kb b (.kb b (.kb b (.kb b (.kb b (.kb b t)))))))
abbrev b16(b:Bool)(t:LT S R):LT S R :=.kb b (.kb b (.kb b (.kb b (.kb b (.kb b (.kb b (.kb b (.kb b (.kb b (.kb b (.kb b (.kb b (.kb b (.kb b (.kb b t)))))))))))))))
abbrev rl(f:α->List aa)(xs:List α)(t:LT S R):LT S R :=.ev [] [RL f xs] ⟨rfl,ab⟩ t
abbrev len(f:α->List aa)(xs:List α)(t:LT S R):LT S R :=.ev [.num xs.length] [LM f xs] ⟨Nr f xs,ab⟩ t
abbrev lenO(f:α->List aa)(xs:List α)(t:LT S R):LT S R :=.ev [.num xs.length] [RL f xs,LM f xs] ⟨rfl,Nr f xs,ab⟩ t
abbrev lenS(s:List UInt8)(t:LT S R):LT S R :=.ev [.num s.length] [(s.length:Int)=s.length] ⟨rfl,ab⟩ t
abbrev dc(p:Prop) [Decidable p] (h:decide p=true) (t:LT S R):LT S R :=.ev [] [p] ⟨j5 h,ab⟩ t
abbrev ok(p:Prop) [Decidable p] (t:LT S R):LT S R :=.op (ok? (decide p)) (λ_=>[]) (λ_=>[p]) (λ_=>[]) (λ_ h=>⟨⟨Zcq h,ab⟩,ab⟩) λ_=>t
abbrev idx(f:α->List aa) [Cl f n] (xs:List α) (i:Int) (k:α->LT S R):LT S R:=
 .op (idx? xs i) (λx=>[.cs (f x)]) (λx=>[AM f n xs,0<=i,(xs.map f)[i.toNat]?=some (f x)]) (λx=>[AM f n xs,0<=i,(xs.map f)[i.toNat]?=some (f x)])
  (λ_ h=>⟨⟨am f xs,je h,mq f h,ab⟩,am f xs,je h,mq f h,ab⟩) k
abbrev idxR(f:α->List aa)(xs:List α)(i:Int)(k:α->LT S R):LT S R:=
 .op (idx? xs i) (λ_=>[.nat i.toNat]) (λ_=>[RL f xs,0<=i,i<((xs.map f).length:Nat),i.toNat=i.toNat]) (λx=>[0<=i,i<((xs.map f).length:Nat),(xs.map f)[i.toNat]?=some (f x)])
  (λ_ h=>⟨⟨rfl,je h,kW f h,rfl,ab⟩,je h,kW f h,mq f h,ab⟩) k
abbrev idxS(s:List UInt8)(i:Int)(k:UInt8->LT S R):LT S R:=.op (idx? s i) (λx=>[.byte x]) (λx=>[0<=i,s[i.toNat]?=some x]) (λ_=>[]) (λ_ h=>⟨⟨je h,Zcv h,ab⟩,ab⟩) k
abbrev plR(f:α->List aa)(xs:List α)(i:Int)(n:Nat)(t:LT S R):LT S R :=.ev [.nat i.toNat] [RL f xs] ⟨rfl,ab⟩ (.us [n,n+1] (.ev [] [i.toNat=i.toNat] ⟨rfl,ab⟩ t))
abbrev ldR(f:α->List aa)(xs:List α)(x:α)(n:Nat)(t:LT S R):LT S R :=.ev [.cs (f x)] [RL f xs] ⟨rfl,ab⟩ (.us [n] t)
abbrev setR(f:α->List aa)(xs:List α)(i:Int)(x x':α)(m q:Nat)(ts:List aa)(hs:splice (f x) q ts=f x')(k:List α->LT S R):LT S R:=
 .ev [.cs (f x)] [RL f xs] ⟨rfl,ab⟩ (.us [m] (.op (set? xs i x') (λz=>[.es (z.map f)]) (λz=>[(xs.map f).set i.toNat (splice (f x) q ts)=z.map f]) (λz=>[(xs.map f).length=(z.map f).length])
  (λ_ h=>⟨⟨AO f h hs,ab⟩,mu f h,ab⟩) k))
abbrev setD(f:α->List aa)(xs:List α)(i:Int)(x x':α)(m q:Nat)(ts:List aa)(hs:splice (f x) q ts=f x')(k:List α->LT S R):LT S R:=
 .ev [.cs (f x)] [RL f xs] ⟨rfl,ab⟩ (.us [m] (.op (set? xs i x') (λz=>[.es (z.map f)]) (λz=>[(xs.map f).set i.toNat (splice (f x) q ts)=z.map f]) (λz=>[(xs.map f).length=(z.map f).length,(z.map f)[i.toNat]?=some (f x'),(z.map f).length=(xs.map f).length])
  (λ_ h=>⟨⟨AO f h hs,ab⟩,mu f h,Ny f h,(mu f h).symm,ab⟩) k))
abbrev setE(f:α->List aa)(z0 xs:List α)(i:Int)(x x':α)(m n q:Nat)(ts:List aa)(hs:splice (f x) q ts=f x')(k:List α->LT S R):LT S R:=
 .op (set2? z0 xs i x') (λz=>[.cs (f x),.es (z.map f)]) (λ_=>[(xs.map f).length=(z0.map f).length]) (λz=>[(z0.map f).length=(z.map f).length,(z.map f)[i.toNat]?=some (f x'),(z.map f).length=(z0.map f).length,(xs.map f).set i.toNat (splice (f x) q ts)=z.map f])
  (λ_ h=>⟨⟨by simp[(mr h).1],ab⟩,by rw[<- mu f (mr h).2];simp[(mr h).1],Ny f (mr h).2,by rw[<- mu f (mr h).2];simp[(mr h).1],AO f (mr h).2 hs,ab⟩) λz =>.us [m,n] (k z)
abbrev iq(i:Int)(t:LT S R):LT S R :=.ev [] [i.toNat=i.toNat] ⟨rfl,ab⟩ t
abbrev clsR(f:α->List aa)(xs:List α)(i:Int)(x':α)(k:List α->LT S R):LT S R:=.op (set? xs i x') (λ_=>[]) (λ_=>[]) (λz=>[(xs.map f).set i.toNat (f x')=z.map f,(xs.map f).length=(z.map f).length]) (λ_ h=>⟨ab,Nz f h,mu f h,ab⟩) k
abbrev sl(f:α->List aa) [Cl f n] (xs:List α) (l h:Int) (k:List α->LT S R):LT S R:=
 .op (slice? xs l h) (λz=>[.es (z.map f)]) (λz=>[AM f n xs,0<=l,l<=h,h<=((xs.map f).length:Nat),((xs.map f).take h.toNat).drop l.toNat=z.map f]) (λ_=>[])
  (λ_ e=>⟨⟨am f xs,Nu e,AK e,Nv f e,AL f e,ab⟩,ab⟩) k
abbrev slN(f:α->List aa) [Cl f n] (xs:List α) (l:Int) (k:List α->LT S R):LT S R:=
 .op (slice? xs l xs.length) (λz=>[.es (z.map f)]) (λz=>[AM f n xs,0<=l,l<=((xs.map f).length:Nat),(((xs.map f).length:Nat):Int)<=(((xs.map f).length:Nat):Int),((xs.map f).take (((xs.map f).length:Nat):Int).toNat).drop l.toNat=z.map f]) (λ_=>[])
  (λ_ e=>⟨⟨am f xs,Nu e,Zcr f e,rZ _,Zcs f e,ab⟩,ab⟩) k
abbrev slS(s:List UInt8)(l h:Int)(k:List UInt8->LT S R):LT S R:=
 .op (slice? s l h) (λz=>[.cs [.str z]]) (λz=>[0<=l,l<=h,h<=(s.length:Int),(s.take h.toNat).drop l.toNat=z]) (λ_=>[])
  (λ_ e=>⟨⟨(Z5a e).1,(Z5a e).2.1,(Z5a e).2.2.1,(Z5a e).2.2.2,ab⟩,ab⟩) k
abbrev mk(f:α->List aa)(l b:Nat)(z:α)(m c:Int)(k:List α->LT S R):LT S R:=
 .op (make? b z m c) (λx=>[.lab l,.nat (x.map f).length,.es (x.map f)]) (λx=>[0<=m,m<=c,(b:Int)*c<=281474976710656,c<=9223372036854775807,m.toNat=(x.map f).length,List.replicate (x.map f).length (f z)=x.map f]) (λ_=>[])
  (λ_ e=>⟨⟨(kX e).1,(kX e).2.1,(kX e).2.2.1,(kX e).2.2.2,Nw f e,AN f e,ab⟩,ab⟩) k
abbrev apN(f:α->List aa) [Cl f n] (l b:Nat) (ys:List α) (k:List α->LT S R):LT S R:=
 .op (app? b [] ys) (λz=>[.lab l,.es (z.map f)]) (λz=>[ys.map f=z.map f,AM f n z,(z.map f).length<=9223372036854775807,(z.map f).length*b<=140737488355328]) (λ_=>[])
  (λz h=>⟨⟨Ns f h,am f z,Nt f h,AJ f h,ab⟩,ab⟩) k
abbrev apR(f:α->List aa) [Cl f n] (b:Nat) (xs ys:List α) (k:List α->LT S R):LT S R:=
 .op (app? b xs ys) (λz=>[.es (z.map f)]) (λz=>[RL f xs,xs.map f++ys.map f=z.map f,AM f n ys,(z.map f).length<=9223372036854775807,(z.map f).length*b<=140737488355328]) (λ_=>[])
  (λ_ h=>⟨⟨rfl,AI f h,am f ys,Nt f h,AJ f h,ab⟩,ab⟩) k
abbrev bys(s:List UInt8)(k:List Int->LT S R):LT S R:=.op (bytes? s) (λz=>[.es (z.map (cI .u8))]) (λz=>[eU s=z.map (cI .u8),s.length<=9223372036854775807]) (λ_=>[]) (λ_ h=>⟨⟨Zcw h,Zcx h,ab⟩,ab⟩) k
abbrev str(xs:List Int)(k:List UInt8->LT S R):LT S R:=.op (str? xs) (λz=>[.cs [.str z]]) (λz=>[eU z=xs.map (cI .u8),z≠[]]) (λ_=>[]) (λ_ h=>⟨⟨(NA h).1,(NA h).2,ab⟩,ab⟩) k
abbrev call{o:Option α}{p:α->PV}(H:∀{r:α},o=some r->Fn P f args (p r))(k:α->LT S R):LT S R:=.op o (λx=>[.call (p x)]) (λx=>[Fn P f args (p x)]) (λ_=>[]) (λ_ h=>⟨⟨H h,ab⟩,ab⟩) k
abbrev callO{o:Option α}{p:α->PV}{σ1:α->List (Nat×Blk)}(H:∀{r:α},o=some r->FnG P f Z args (σ1 r) (p r))(ls:List Nat)(d:Nat)(fr:α->List (Nat×Blk))(k:α->LT S R):LT S R:=.op o (λx=>[.callO false ls d (fr x) (p x)]) (λx=>[FnG P f Z args (σ1 x) (p x)]) (λ_=>[]) (λ_ h=>⟨⟨H h,ab⟩,ab⟩) k
abbrev callU{o:Option α}{p:α->PV}{σ1:α->List (Nat×Blk)}(H:∀{r:α},o=some r->FnG P f Z args (σ1 r) (p r))(ls:List Nat)(d:Nat)(k:α->LT S R):LT S R:=.op o (λx=>[.callU false ls d (σ1 x) (p x)]) (λx=>[FnG P f Z args (σ1 x) (p x)]) (λ_=>[]) (λ_ h=>⟨⟨H h,ab⟩,ab⟩) k
abbrev callF{o:Option α}{p:α->PV}{σ1:α->List (Nat×Blk)}(H:∀{r:α},o=some r->FnG P f [] args (σ1 r) (p r))(d:Nat)(k:α->LT S R):LT S R:=.op o (λx=>[.callO false [] d (σ1 x) (p x)]) (λx=>[FnG P f [] args (σ1 x) (p x)]) (λ_=>[]) (λ_ h=>⟨⟨H h,ab⟩,ab⟩) k
abbrev callS{o:Option α}{p:α->PV}{σ1:α->List (Nat×Blk)}(H:∀{r:α},o=some r->FnG P f [] args (σ1 r) (p r))(d:Nat)(hs:∀x,aL (scC true (σ1 x) (p x)))(k:α->LT S R):LT S R:=.op o (λx=>[.callO true [] d (σ1 x) (p x)]) (λx=>scC true (σ1 x) (p x)++[FnG P f [] args (σ1 x) (p x)]) (λ_=>[]) (λx h=>⟨Z5.2 ⟨hs x,H h,ab⟩,ab⟩) k
abbrev callW{o:Option α}{p:α->PV}{σ1:α->List (Nat×Blk)}(H:∀{r:α},o=some r->FnG P f Z args (σ1 r) (p r))(ls:List Nat)(d:Nat)(hs:∀x,aL (scC true (σ1 x) (p x)))(k:α->LT S R):LT S R:=.op o (λx=>[.callU true ls d (σ1 x) (p x)]) (λx=>scC true (σ1 x) (p x)++[FnG P f Z args (σ1 x) (p x)]) (λ_=>[]) (λx h=>⟨Z5.2 ⟨hs x,H h,ab⟩,ab⟩) k
abbrev lkG(f:α->List aa)(m:List (Int×α))(n:Int)(z:α)(k:α×Bool->LT S R):LT S R:=.op (some (mlk m n z)) (λx=>[.cs (f x.1),.br x.2]) (λx=>[mlk (cM f m) n (f z)=(f x.1,x.2)]) (λ_=>[]) (λ_ h=>⟨⟨by cases h;exact Zkl f m n z,ab⟩,ab⟩) k
abbrev stG(f:α->List aa)(m:List (Int×α))(n:Int)(x:α)(p q:PV)(hp:p=q)(k:List (Int×α)->LT S R):LT S R:=.op (some (dA m n x)) (λz=>[.cs (f x),.mp (cM f z)]) (λz=>[p=q,dA (cM f m) n (f x)=cM f z]) (λ_=>[]) (λ_ h=>⟨⟨hp,by cases h;exact(WH f n x m).symm,ab⟩,ab⟩) k
abbrev lenG(f:α->List aa)(m:List (Int×α))(t:LT S R):LT S R :=.ev [.num m.length] [((cM f m).length:Int)=m.length] ⟨by simp[cM],ab⟩ t
abbrev ag(f:α->List aa)(x:α)(n:Nat)(t:LT S R):LT S R :=.ev [.cs (f x)] [] trivial (.us [n,n+1,n+2] t)
abbrev idA(f:α->aa)(xs:List α)(i:Int)(cs:List PV)(q m:Nat)(k:α->LT S R):LT S R:=
 .op (idx? xs i) (λ_=>[.nat i.toNat]) (λ_=>[0<=i,i<(xs.length:Int),i.toNat=i.toNat]) (λv=>[dk false 1 ((cs.take q).length+i.toNat*1) (cs.take q++((xs.map f).map .t++cs.drop m))=some (j9 false [f v])])
  (λ_ h=>⟨⟨je h,by simpa using kW f h,rfl,ab⟩,Zcu _ _ (WU f h),ab⟩) k
abbrev idX(f:α->aa)(xs:List α)(i:Int)(k:α->LT S R):LT S R:=
 .op (idx? xs i) (λv=>[.cs [f v]]) (λv=>[0<=i,i<(xs.length:Int),dk false 1 (i.toNat*1) ((xs.map f).map .t)=some (j9 false [f v])]) (λ_=>[])
  (λ_ h=>⟨⟨je h,by simpa using kW f h,WU f h,ab⟩,ab⟩) k
abbrev ldC(f:α->aa)(d:Nat)(v:α)(n:Nat)(t:LT S R):LT S R :=.ev [.cell d [f v]] [] trivial (.us [n] t)
abbrev stA(o:Option α){p:Prop}{l:List PV}{g:α->List PV}(H:∀{y:α},o=some y->p/\l=g y)(k:α->LT S R):LT S R:=.op o (λy=>[.sp (g y)]) (λy=>[p,l=g y]) (λ_=>[]) (λ_ h=>⟨⟨(H h).1,(H h).2,ab⟩,ab⟩) k
abbrev tlR(f:α->List aa)(xs:List α)(i:Int)(z:α)(k:List α->LT S R):LT S R:=
 .op (clr? xs i z) (λ_=>[.nat i.toNat]) (λ_=>[RL f xs,0<=i,i<=((xs.map f).length:Nat),i.toNat=i.toNat]) (λz'=>[i.toNat<=(xs.map f).length,(xs.map f).take i.toNat++List.replicate ((xs.map f).length-i.toNat) (f z)=z'.map f,(xs.map f).length=(z'.map f).length])
  (λ_ h=>⟨⟨rfl,NB h,NC f h,rfl,ab⟩,by have:=NC f h;have:=NB h;omega,ZcB f h,ZcC f h,ab⟩) k
abbrev clR(f:α->List aa)(xs z:List α)(n:Nat)(t:LT S R):LT S R :=.ev [.es (z.map f)] [RL f xs] ⟨rfl,ab⟩ (.us [n,n+1] t)
abbrev trR(f:α->List aa)(xs:List α)(i:Int)(k:List α->LT S R):LT S R:=
 .op (slice? xs 0 i) (λz=>[.nat (z.map f).length,.es (z.map f)]) (λz=>[RL f xs,0<=i,i<=((xs.map f).length:Nat),i.toNat=(z.map f).length,(xs.map f).take i.toNat=z.map f]) (λ_=>[])
  (λ_ h=>⟨⟨rfl,AK h,Nv f h,ZcD f h,ZcE f h,ab⟩,ab⟩) k
abbrev m0(l:Nat)(t:LT S R):LT S R :=.ev [.num 0,.lab l] [] trivial t
abbrev mkM(f:α->List aa) [Cs f] (l l2:Nat) (y:List α) (t:LT S R):LT S R:=.ev [.lab l] [([.osl l2 (y.map f).length]:List PV)=[.osl l2 (y.map f).length],RL f y,SC1 (y.map f)] ⟨rfl,rfl,sc1 f y,ab⟩ t
abbrev apM(f:α->List aa)(b:Nat)(xs:List (List α))(y:List α)(k:List (List α)->LT S R):LT S R:=
 .op (app? b xs [y]) (λz=>[.es (z.map (cL f))]) (λz=>[RL (cL f) xs,([y].map (cL f)).length=1,xs.map (cL f)++[y].map (cL f)=z.map (cL f),(xs.map (cL f)).length+1<=9223372036854775807,((xs.map (cL f)).length+1)*b<=140737488355328]) (λ_=>[])
  (λ_ h=>⟨⟨rfl,rfl,AI (cL f) h,(ND f h).1,(ND f h).2,ab⟩,ab⟩) k
abbrev idM(f:α->List aa)(xs:List (List α))(i:Int)(k:List α->LT S R):LT S R:=
 .op (idx? xs i) (λ_=>[.nat i.toNat]) (λ_=>[RL (cL f) xs,0<=i,i<((xs.map (cL f)).length:Nat),i.toNat=i.toNat]) (λy=>[i.toNat<(xs.map (cL f)).length,(xs.map (cL f))[i.toNat]?=some [.sl (y.map f)]])
  (λ_ h=>⟨⟨rfl,je h,kW (cL f) h,rfl,ab⟩,by have:=kW (cL f) h;have:=je h;omega,mq (cL f) h,ab⟩) k
abbrev ldM(f:α->List aa)(xs:List (List α))(n:Nat)(t:LT S R):LT S R :=.ev [] [RL (cL f) xs] ⟨rfl,ab⟩ (.us [n] t)
abbrev idN(f:α->List aa)(xs:List (List α))(y:List α)(j:Int)(n:Nat)(k:α->LT S R):LT S R:=
 .ev [.es (y.map f)] [RL (cL f) xs] ⟨rfl,ab⟩ (.us [n+1] (.op (idx? y j) (λ_=>[.nat j.toNat]) (λ_=>[0<=j,j<((y.map f).length:Nat),j.toNat=j.toNat]) (λx=>[j.toNat<(y.map f).length,(y.map f)[j.toNat]?=some (f x)])
  (λ_ h=>⟨⟨je h,kW f h,rfl,ab⟩,by have:=kW f h;have:=je h;omega,mq f h,ab⟩) k))
abbrev ldN(f:α->List aa)(xs:List (List α))(y:List α)(x:α)(n m:Nat)(t:LT S R):LT S R :=.ev [.es (y.map f),.cs (f x)] [RL (cL f) xs] ⟨rfl,ab⟩ (.us [n,m] t)
abbrev stM(f:α->List aa)(xs:List (List α))(i:Int)(y:List α)(j:Int)(v:α)(n m:Nat)(k:List (List α)->LT S R):LT S R:=
 .ev [.es (y.map f)] [RL (cL f) xs] ⟨rfl,ab⟩ (.us [n+1,m] (.op (setM? xs i y j v) (λz=>[.es (z.map (cL f))]) (λz=>[(xs.map (cL f)).set i.toNat [.sl ((y.map f).set j.toNat (f v))]=z.map (cL f)]) (λz=>[(xs.map (cL f)).length=(z.map (cL f)).length])
  (λ_ h=>⟨⟨ZcF f h,ab⟩,ZcG f h,ab⟩) k))
abbrev callC{fn b:Nat}(H:jJ P fn n b)(f:α->List aa) [Cl f n] (l:Nat) (xs:List α) (t:LT S R):LT S R:=
 .op (app? b [] xs) (λ_=>[.callC l b]) (λ_=>[RL f xs,jJ P fn n b,(xs.map f).length*b<=140737488355328]) (λ_=>[])
  (λz h=>⟨⟨rfl,H,by have h1:=AJ f h;rwa[<- Ns f h]at h1,ab⟩,ab⟩) λ_=>t
abbrev mkE(f:α->List aa)(l b:Nat)(m c:Int)(k:List (List α)->LT S R):LT S R:=
 .op (make? b ([]:List α) m c) (λx=>[.lab l,.nat (x.map (cL f)).length,.es (x.map (cL f))]) (λx=>[0<=m,m<=c,(b:Int)*c<=281474976710656,c<=9223372036854775807,m.toNat=(x.map (cL f)).length,List.replicate (x.map (cL f)).length (cL f [])=x.map (cL f)]) (λx=>[∀e,e∈x.map (cL f)->e=[aa.sl []]])
  (λ_ e=>⟨⟨(kX e).1,(kX e).2.1,(kX e).2.2.1,(kX e).2.2.2,Nw (cL f) e,AN (cL f) e,ab⟩,λy hy=>by rw[<- AN (cL f) e]at hy;exact(List.mem_replicate.1 hy).2,ab⟩) k
abbrev stR(f:α->List aa) [Cs f] (xs:List (List α)) (i:Int) (y:List α) (n:Nat) (k:List (List α)->LT S R):LT S R:=
 .ev [] [RL (cL f) xs] ⟨rfl,ab⟩ (.us [n] (.op (set? xs i y) (λz=>[.es (z.map (cL f))]) (λz=>[RL f y,SC1 (y.map f),(xs.map (cL f)).set i.toNat [.sl (y.map f)]=z.map (cL f)]) (λz=>[(xs.map (cL f)).length=(z.map (cL f)).length])
  (λ_ h=>⟨⟨rfl,sc1 f y,Nz (cL f) h,ab⟩,mu (cL f) h,ab⟩) k))
abbrev ne(f:α->List aa){xs:List α}(h:xs≠[])(t:LT S R):LT S R :=.ev [] [xs.map f≠[]] ⟨Zct f h,ab⟩ t
end
end LT
end Go.PW
namespace Go.PW
variable {S R α:Type} {p:Prop} {k:Nat}
def tX{Inv:S->Prop}{μ:S->M6}{m:M6}{post:R->Prop}{F:LF S R}{t:LT S R}(h0:Tot t.den (Nx Inv μ m post))(hs:∀s,Inv s->Tot (F.body s).den (Nx Inv μ (μ s) post)):Tot (F.run t) post:=Tot.fin h0 hs
def Tot.rn(Inv:S->Prop)(μ:S->M6){post:R->Prop}{F:LF S R}{t:LT S R}(h0:Tot t.den (Nx Inv μ (1000000,0,0,0,0,0) post))(hs:∀s,Inv s->Tot (F.body s).den (Nx Inv μ (μ s) post)):Tot (F.run t) post:=Tot.fin h0 hs
abbrev iv0:Empty->Prop:=λ_=>True
abbrev mu0:Empty->M6:=λ_=>(0,0,0,0,0,0)
def tZ{post:R->Prop}{F:LF Empty R}{t:LT Empty R}(h0:Tot t.den (Nx iv0 mu0 (1000000,0,0,0,0,0) post)):Tot (F.run t) post:=Tot.fin h0 λs=>nomatch s
def tJ{Inv:S->Prop}{μ:S->M6}{m m':M6}{post:R->Prop}{o:Option (S⊕R)}(h:Tot o (Nx Inv μ m' post))(hm:le6 m' m:=by unfold le6 lt6;dsimp only;omega):Tot o (Nx Inv μ m post):=Tot.join h hm
def qw(n:Int)(h:(-9223372036854775808<=n->n<9223372036854775808->IntKind.wrap .i64 n=n)->(-9223372036854775808<=IntKind.wrap .i64 n/\IntKind.wrap .i64 n<9223372036854775808)->p):p:=h (EL n) (EM n)
def lo(h:p:=by first|omega|(dsimp only;omega)):p:=h
def cl(h:p:=by first|omega|(simp only[bk,bw,bT];omega)|trivial|decide|assumption|exact shl_ne' O O|(simp;done)|(simp;omega)):p:=h
def Tot.ix{β:Type}{xs:List α}{i:Int}{k:α->Option β}{Q:β->Prop}(f:∀x,(x∈xs/\xs[i.toNat]? = .some x)->Tot (k x) Q)(h0:0<=i:=by omega)(h1:i<xs.length:=by omega):Tot ((idx? xs i).bind k) Q:=tB (tI h0 h1) f
def Tot.ap{β:Type}{a b:List α}{g:List α->Option β}{Q:β->Prop}(f:∀z,z=a++b->Tot (g z) Q)(h:(a.length+b.length)*k<=140737488355328:=by first|omega|(simp only[bw,bT];omega))(hk:0<k:=by decide):Tot ((app? k a b).bind g) Q:=tB (tA h hk) f
def Tot.mk{b:Nat}{z:α}{m c:Int}(h:0<=m/\m<=c/\(b:Int)*c<=281474976710656/\c<=9223372036854775807:=by refine⟨?_,?_,?_,?_⟩<;>omega):Tot (make? b z m c) λx=>(x.length:Int)=m/\∀y,y∈x->y=z:=Tot.make h
def me1{P:α->Prop}{a:α}(h:P a):∀x,x∈[a]->P x:=mem_cons' h λ_ h=>dq
def SzL.one{P:α->Prop}{a:α}(h:P a)(hk:k<=140737488351232:=by decide):SzL k P [a]:=⟨by simp only[bw,bT];omega,me1 h⟩
def SzL.tr{l:List α}(h:l.length*k<=140737488351232:=by first|omega|(simp only[bw,bT];omega)):SzL k (λ_=>True) l:=⟨h,λ_ _=>trivial⟩
def cs(h:p:=by repeat' (first|exact cl|apply And.intro)):p:=h
def wr(n:Int):(-9223372036854775808<=n->n<9223372036854775808->IntKind.wrap .i64 n=n) /\ -9223372036854775808<=IntKind.wrap .i64 n/\IntKind.wrap .i64 n<9223372036854775808:=⟨EL n,EM n⟩
def b7{z a:List α}{x:α}(h:z=a++[x]):z.length=a.length+1:=by rw[h,bk];rfl
end Go.PW
namespace Go.PW
variable {α:Type}
open Go.RowKit
def ins? (b:Nat) (xs:List α) (i:Int):List α->Option (List α)
 |[y]=>if 0<=i/\i<=xs.length/\(xs.length+1)*b<=140737488355328 then some (xs.take i.toNat++y::xs.drop i.toNat)else none
 |_=>none
def ZiL{b:Nat}{xs:List α}{i:Int}{y:α}(h0:0<=i)(h1:i<=xs.length)(h2:(xs.length+1)*b<=140737488355328):ins? b xs i [y]=some (xs.take i.toNat++y::xs.drop i.toNat):=aq ⟨h0,h1,h2⟩
def Z7i.okO{P:Program}{fn:FuncId}{e:TypeId}{z:Value}{b:Nat}(R:Z7i P fn e z b){f:α->List aa}(hf:∀x,∃t,f x=[t])(xs:List α)(i:Int)(ys:List α){r:List α}(h:ins? b xs i ys=some r) :
 FnG P fn [(0,wR f 1 xs),(1,wR f 1 ys)] [wO f 0 xs,wI i,wO f 1 ys] [(5000,wR f 1 r)] (wO f 5000 r):=by
 unfold ins? at h;split at h
 .rename_i y;split at h
  .rename_i hc;cases h;obtain⟨t,ht⟩:=hf y;have hfn:=R.fn (xs.map f) t i.toNat (by rw[cK];omega) (by rw[cK];exact hc.2.2);have hi:((i.toNat:Nat):Int)=i:=j7 hc.1;have hl:(xs.take i.toNat++y::xs.drop i.toNat).map f=Z7j (xs.map f) i.toNat t:=by simp only[Z7j,fi,cd,lE,po,ht]
   have hn:((xs.take i.toNat++y::xs.drop i.toNat).map f).length=(xs.map f).length+1:=by rw[hl];simp only[Z7j,bk,bw,eT,jv,cK];omega
   simp only[fM,insA,hi]at hfn;show FnG P fn [(0,.row 1 (xs.map f)),(1,.row 1 ([y].map f))] [.osl 0 (xs.map f).length,wI i,.osl 1 1] [(5000,.row 1 ((xs.take i.toNat++y::xs.drop i.toNat).map f))] (.osl 5000 ((xs.take i.toNat++y::xs.drop i.toNat).map f).length);rw[hn,hl];simp only[cd,fP,ht];exact hfn
  cases h
 cases h
end Go.PW
