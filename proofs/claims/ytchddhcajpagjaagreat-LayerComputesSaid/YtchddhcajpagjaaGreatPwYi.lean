import Derived.Test.YtchddhcajpagjaaGreatPwY
import Derived.Test.YtchddhcajpagjaaGreatPwLr
set_option linter.all false
namespace Go.PW
open Go.RowKit
variable {α R:Type} {Z:List (Nat×Blk)} {args:List PV} {f k n:Nat} {P:Program}
abbrev bx(l:List aa):List PV:=l.map .t
abbrev wI(n:Int):PV :=.t (.int .i64 n)
abbrev wB(b:Bool):PV :=.t (.bool b)
abbrev wS(s:List UInt8):PV :=.t (.str s)
abbrev wL(f:α->List aa)(xs:List α):PV :=.t (.sl (xs.map f))
abbrev wA(l:List aa):PV :=.agg (bx l)
abbrev wO(f:α->List aa)(l:Nat)(xs:List α):PV :=.osl l (xs.map f).length
abbrev wR(f:α->List aa)(k:Nat)(xs:List α):Blk :=.row k (xs.map f)
abbrev wM(f:α->List aa)(l:Nat)(xs:List α):PV :=.own l (.msl (xs.map f).length)
abbrev wT(f:α->List aa)(xs:List α):Blk :=.mat 1 0 (xs.map f)
abbrev cM(f:α->List aa)(m:List (Int×α)):List (Int×List aa):=m.map λp=>(p.1,f p.2)
abbrev wG(ag:Bool)(f:α->List aa)(m:List (Int×α)):Blk :=.map ag (cM f m)
class Sd (P:Program) (T:outParam TS):Prop where
 hm:P.follows .mixedOrders=true
 hT:TOK P T
section
variable {P:Program} {T:TS} [i:Sd P T] {S R:Type}
def ntOf(P:Program)(f:Nat):Nat:=match P.funcs[f]? with|some fn=>fn.ntmps|none=>0
def YC(P:Program)(T:TS)(f:Nat)(rs:List RV)(args:List PV):Bool:=
 match P.funcs[f]? with
 |some fn=>fn.body.isSome&&(!(fn.name == "runtime.NumGoroutine"))&&Nat.ble args.length fn.ntmps&&rvOK T rs
 |none=>false
def LF.fn(F:LF S R){t:LT S R}{r:R}(h:F.run t=some r)
 (h0:(chk P T F t (.code (uf P F.f) []) [] [] ⟨[],[]⟩ ⟨ntOf P F.f,idx 0 args,Z⟩).l=(chk P T F t (.code (uf P F.f) []) [] [] ⟨[],[]⟩ ⟨ntOf P F.f,idx 0 args,Z⟩).r:=by kernel_rfl)
 (hl:∀s,(chk P T F (F.body s) (F.cfg P s) [] [] ⟨[],[]⟩ (F.stf s)).l=(chk P T F (F.body s) (F.cfg P s) [] [] ⟨[],[]⟩ (F.stf s)).r:=by intro s;cases s<;>kernel_rfl)
 (hs:YC P T F.f F.rs args=true:=by kernel_rfl) (hr:(P.funcs[F.f]?).map (·.results)=some (F.rs.map RV.to).toArray:=by kernel_rfl) :
 FnG P F.f Z args (F.sr r) (F.res r):=by
 unfold YC at hs;split at hs
 .rename_i fn hf;simp only[aO,dA,eQ]at hs;obtain⟨⟨⟨h1,h2⟩,h3⟩,h4⟩:=hs;have hr':fn.results=(F.rs.map RV.to).toArray:=by rw[hf]at hr;exact cA hr
  obtain⟨c,hc⟩:=Vn.1 h1;have e1:uf P F.f=c:=by unfold uf;rw[hf];show(fn.body).getD .skip=c;rw[hc];rfl
  have e2:ntOf P F.f=fn.ntmps:=by unfold ntOf;rw[hf]
  refine FnG.of_cfg i.hT hf hc h2 fn.ntmps rfl h3 F.rs hr' h4 ?_;have J:∀s,(chk P T F (F.body s) (F.cfg P s) [] [] ⟨[],[]⟩ (F.stf s)).ok:=λs=>E.sound _ (hl s);unfold LF.run at h;obtain⟨y,hy,he⟩:=eo.1 h;have h0':=E.sound _ h0;rw[e1,e2]at h0';refine YD i.hm i.hT F J t _ _ _ _ _ y h0' trivial ⟨λ_ hp=>(nomatch hp),λ_ hp=>(nomatch hp)⟩ hy (ZlB (λs y hs hk=>?_) he);exact YD i.hm i.hT F J _ _ _ _ _ _ y (J s) trivial ⟨λ_ hp=>(nomatch hp),λ_ hp=>(nomatch hp)⟩ hs hk
 cases hs
end
section
def tkOf(P:Program)(t:Nat):TK:=
 match P.underlying t with
 |some .bool =>.bool
 |some (.int k) =>.int k
 |some .string =>.str
 |some (.slice e) =>.slice e
 |some (.struct fs) =>.struct (fs.toList.map λf=>(f.offset,f.type))
 |some (.array n e) =>.arr n e
 |some (.map k e) =>.map k e
 |some (.pointer _) =>.ptr
 |_ =>.other
def ZBY(P:Program)(t:Nat):TKOK P t (tkOf P t):=by unfold tkOf;split<;>rename_i h<;>simp only[TKOK];all_goals first|exact h|exact⟨_,h,rfl⟩|(unfold Program.pointee;rw[h])
abbrev TRow:=Option (Bool×Nat×Nat×Option (List PV)×TK×Option (Nat×List LK))
def EV(P:Program)(t:Nat)(i:fX):TRow:=
 match P.underlying t,P.info? t with
 |some d,some j=>some (d.isRow,j.size,j.bytes,(match i.zero with|none=>none|some _=>ia P t),tkOf P t,
  (match i.flat with|none=>none|some (d,_)=>bif Nat.ble d 10000&&i.agg && !(P.eqGuardType P.depth t)then(fw P d t).map λks=>(d,ks)else none))
 |_,_=>none
def tabL(P:Program):TS->List TRow
 |[]=>[]
 |(t,i)::r=>EV P t i::tabL P r
def tabR:TS->List TRow
 |[]=>[]
 |(_,i)::r=>some (i.agg,i.size,i.bytes,i.zero,i.k,i.flat)::tabR r
def rh.of_eq{t:Nat}{i:fX}(h:EV P t i=some (i.agg,i.size,i.bytes,i.zero,i.k,i.flat)):rh P t i:=by
 unfold EV at h;split at h
 .rename_i d j hd hj;simp only[aB,bJ]at h;obtain⟨h1,h2,h3,h4,h5,h6⟩:=h;refine { ty:=⟨⟨d,hd,h1⟩,by rw[hj];simp[h2]⟩,by_:=by rw[hj];simp[h2,h3],z:=λz hz=>?_,k:=h5▸ZBY P t,fl:=λd ks hf=>?_ }
  .rw [hz]at h4;exact h4
  rw[hf]at h6;simp only at h6;cases hb:(Nat.ble d 10000&&i.agg && !(P.eqGuardType P.depth t))with
  |false=>rw[hb]at h6;cases h6
  |true=>
   rw[hb,aD]at h6;simp only[aO,eQ,dA]at hb;simp only[cJ,bJ]at h6;obtain⟨ks',e1,_,e2⟩:=h6;exact⟨hb.1.1,by rw[e1,e2],hb.1.2,hb.2⟩
 cases h
def TOK.of_eq{T:TS}(h:tabL P T=tabR T):TOK P T:=by
 refine TOK.of_all ?_;induction T with
 |nil=>trivial
 |cons x r ih=>
  obtain⟨t,i⟩:=x;simp only[tabL,tabR,vY]at h;exact⟨rh.of_eq h.1,ih h.2⟩
end
class Cl {α:Type} (f:α->List aa) (k:outParam Nat):Prop where
 l:∀x,(f x).length=k
instance (k:IntKind):Cl (cI k) 1:=⟨λ_=>rfl⟩
instance:Cl cB 1:=⟨λ_=>rfl⟩
instance:Cl cS 1:=⟨λ_=>rfl⟩
instance {α:Type} (f:α->List aa):Cl (cL f) 1:=⟨λ_=>rfl⟩
class Cs {α:Type} (f:α->List aa):Prop where
 s:∀x,∃t,f x=[t]/\t.scal=true
instance (k:IntKind):Cs (cI k):=⟨λ_=>⟨_,rfl,rfl⟩⟩
instance:Cs cB:=⟨λ_=>⟨_,rfl,rfl⟩⟩
instance:Cs cS:=⟨λ_=>⟨_,rfl,rfl⟩⟩
def sc1(f:α->List aa) [c:Cs f] (xs:List α):SC1 (xs.map f):=λx hx=>by obtain⟨a,_,rfl⟩:=iL.1 hx;exact c.s a
def YE(f:α->aa){xs:List α}{i:Int}{v:α}(h:idx? xs i=some v):dn false 1 (i.toNat*1) ((xs.map f).map .t)=some (ke false [f v]):=by have hm:=mr f h;simp only[dn,aE,df,jF (f:=PV.t),hm,Option.map_some];rfl
abbrev LF.z(f:Nat)(rs:List RV)(own:Bool)(sr:R->List (Nat×Blk))(res:R->PV):LF Empty R:=⟨f,rs,own,(λs=>nomatch s),(λs=>nomatch s),sr,res,(λs=>nomatch s)⟩
abbrev LF.z0(f:Nat)(rs:List RV)(res:R->PV):LF Empty R :=.z f rs false (λ_=>[]) res
abbrev LF.m{S:Type}(f:Nat)(rs:List RV)(own:Bool)(sr:R->List (Nat×Blk))(res:R->PV)(b:S->List Nat×PW.St×LT S R):LF S R:=⟨f,rs,own,λs=>(b s).1,λs=>(b s).2.1,sr,res,λs=>(b s).2.2⟩
abbrev LF.m0{S:Type}(f:Nat)(rs:List RV)(res:R->PV)(b:S->List Nat×PW.St×LT S R):LF S R :=.m f rs false (λ_=>[]) res b
abbrev Opq(k:Nat):={ l:List aa // l.length=k }
abbrev eR(x:Opq k):List aa:=x.1
instance {k:Nat}:Cl (eR (k:=k)) k:=⟨λx=>x.2⟩
def YF{a:List α}(h:a.length*k<=140737488355328)(hk:0<k):app? k [] a=some a:=by unfold app?;rw[ar (by have:a.length<=a.length*k:=xy _ hk;simp;omega)];rfl
def jM.of{b:Nat}{g:List (Opq k)->Option (List (Opq k))}(hg:∀a:List (Opq k),a.length*b<=140737488355328->g a=some a)
 (H:∀(a:List (Opq k)) {r:List (Opq k)},g a=some r->FnG P f [] [wL eR a] [(5000,wR eR k r)] (wO eR 5000 r)):jM P f k b:=λes hk hb=>by
 have hm:(es.pmap (λl h=>(⟨l,h⟩:Opq k)) hk).map eR=es:=by rw[List.map_pmap];simp
 have:=H _ (hg (es.pmap (λl h=>(⟨l,h⟩:Opq k)) hk) (by simpa using hb));simpa only[wL,wR,wO,hm]using this
namespace LT
section
variable {S R α:Type}
abbrev AM(f:α->List aa)(k:Nat)(xs:List α):Prop:=∀el,el∈xs.map f->el.length=k
def am(f:α->List aa) [c:Cl f k] (xs:List α):AM f k xs:=all_map f k c.l xs
abbrev RL(f:α->List aa)(xs:List α):Prop:=(xs.map f).length=(xs.map f).length
abbrev LM(f:α->List aa)(xs:List α):Prop:=(((xs.map f).length:Nat):Int)=(xs.length:Int)
abbrev rt(r:R):LT S R :=.ret r []
abbrev g0(s:S):LT S R :=.go s []
abbrev j0(s:S)(t:LT S R):LT S R :=.jn 0 s [] t
abbrev dr(xs:List Orc)(t:LT S R):LT S R :=.ev xs [] trivial t
abbrev lb(l:Nat)(t:LT S R):LT S R :=.ev [.lab l] [] trivial t
abbrev kb(b:Bool)(t:LT S R):LT S R :=.ev [.br b] [b=b] ⟨rfl,ae⟩ t
abbrev k2(n:Nat)(t:LT S R):LT S R :=.kg n (.kg n t)
abbrev k3(n:Nat)(t:LT S R):LT S R :=.kg n (.kg n (.kg n t))
abbrev k4(n:Nat)(t:LT S R):LT S R :=.kg n (.kg n (.kg n (.kg n t)))
abbrev k5(n:Nat)(t:LT S R):LT S R :=.kg n (.kg n (.kg n (.kg n (.kg n t))))
abbrev k8(n:Nat)(t:LT S R):LT S R :=.kg n (.kg n (.kg n (.kg n (.kg n (.kg n (.kg n (.kg n t)))))))
abbrev k16(n:Nat)(t:LT S R):LT S R :=.kg n (.kg n (.kg n (.kg n (.kg n (.kg n (.kg n (.kg n (.kg n (.kg n (.kg n (.kg n (.kg n (.kg n (.kg n (.kg n t)))))))))))))))
abbrev b2(b:Bool)(t:LT S R):LT S R :=.kb b (.kb b t)
abbrev b3(b:Bool)(t:LT S R):LT S R :=.kb b (.kb b (.kb b t))
abbrev b4(b:Bool)(t:LT S R):LT S R :=.kb b (.kb b (.kb b (.kb b t)))
abbrev b5(b:Bool)(t:LT S R):LT S R :=.kb b (.kb b (.kb b (.kb b (.kb b t))))
abbrev b8(b:Bool)(t:LT S R):LT S R :=.kb b (.kb b (.kb b (.kb b (.kb b (.kb b (.kb b (.kb b t)))))))
abbrev b16(b:Bool)(t:LT S R):LT S R :=.kb b (.kb b (.kb b (.kb b (.kb b (.kb b (.kb b (.kb b (.kb b (.kb b (.kb b (.kb b (.kb b (.kb b (.kb b (.kb b t)))))))))))))))
abbrev rl(f:α->List aa)(xs:List α)(t:LT S R):LT S R :=.ev [] [RL f xs] ⟨rfl,ae⟩ t
abbrev len(f:α->List aa)(xs:List α)(t:LT S R):LT S R :=.ev [.num xs.length] [LM f xs] ⟨OH f xs,ae⟩ t
abbrev lenO(f:α->List aa)(xs:List α)(t:LT S R):LT S R :=.ev [.num xs.length] [RL f xs,LM f xs] ⟨rfl,OH f xs,ae⟩ t
abbrev lenS(s:List UInt8)(t:LT S R):LT S R :=.ev [.num s.length] [(s.length:Int)=s.length] ⟨rfl,ae⟩ t
abbrev dc(p:Prop) [Decidable p] (h:decide p=true) (t:LT S R):LT S R :=.ev [] [p] ⟨j7 h,ae⟩ t
abbrev ok(p:Prop) [Decidable p] (t:LT S R):LT S R :=.op (ok? (decide p)) (λ_=>[]) (λ_=>[p]) (λ_=>[]) (λ_ h=>⟨⟨ZkT h,ae⟩,ae⟩) λ_=>t
abbrev idx(f:α->List aa) [Cl f n] (xs:List α) (i:Int) (k:α->LT S R):LT S R:=
 .op (idx? xs i) (λx=>[.cs (f x)]) (λx=>[AM f n xs,0<=i,(xs.map f)[i.toNat]?=some (f x)]) (λx=>[AM f n xs,0<=i,(xs.map f)[i.toNat]?=some (f x)])
  (λ_ h=>⟨⟨am f xs,jh h,mr f h,ae⟩,am f xs,jh h,mr f h,ae⟩) k
abbrev idxR(f:α->List aa)(xs:List α)(i:Int)(k:α->LT S R):LT S R:=
 .op (idx? xs i) (λ_=>[.nat i.toNat]) (λ_=>[RL f xs,0<=i,i<((xs.map f).length:Nat),i.toNat=i.toNat]) (λx=>[0<=i,i<((xs.map f).length:Nat),(xs.map f)[i.toNat]?=some (f x)])
  (λ_ h=>⟨⟨rfl,jh h,kY f h,rfl,ae⟩,jh h,kY f h,mr f h,ae⟩) k
abbrev idxS(s:List UInt8)(i:Int)(k:UInt8->LT S R):LT S R:=.op (idx? s i) (λx=>[.byte x]) (λx=>[0<=i,s[i.toNat]?=some x]) (λ_=>[]) (λ_ h=>⟨⟨jh h,ZkY h,ae⟩,ae⟩) k
abbrev plR(f:α->List aa)(xs:List α)(i:Int)(n:Nat)(t:LT S R):LT S R :=.ev [.nat i.toNat] [RL f xs] ⟨rfl,ae⟩ (.us [n,n+1] (.ev [] [i.toNat=i.toNat] ⟨rfl,ae⟩ t))
abbrev ldR(f:α->List aa)(xs:List α)(x:α)(n:Nat)(t:LT S R):LT S R :=.ev [.cs (f x)] [RL f xs] ⟨rfl,ae⟩ (.us [n] t)
abbrev setR(f:α->List aa)(xs:List α)(i:Int)(x x':α)(m q:Nat)(ts:List aa)(hs:splice (f x) q ts=f x')(k:List α->LT S R):LT S R:=
 .ev [.cs (f x)] [RL f xs] ⟨rfl,ae⟩ (.us [m] (.op (set? xs i x') (λz=>[.es (z.map f)]) (λz=>[(xs.map f).set i.toNat (splice (f x) q ts)=z.map f]) (λz=>[(xs.map f).length=(z.map f).length])
  (λ_ h=>⟨⟨Bg f h hs,ae⟩,mv f h,ae⟩) k))
abbrev setD(f:α->List aa)(xs:List α)(i:Int)(x x':α)(m q:Nat)(ts:List aa)(hs:splice (f x) q ts=f x')(k:List α->LT S R):LT S R:=
 .ev [.cs (f x)] [RL f xs] ⟨rfl,ae⟩ (.us [m] (.op (set? xs i x') (λz=>[.es (z.map f)]) (λz=>[(xs.map f).set i.toNat (splice (f x) q ts)=z.map f]) (λz=>[(xs.map f).length=(z.map f).length,(z.map f)[i.toNat]?=some (f x'),(z.map f).length=(xs.map f).length])
  (λ_ h=>⟨⟨Bg f h hs,ae⟩,mv f h,OO f h,(mv f h).symm,ae⟩) k))
abbrev setE(f:α->List aa)(z0 xs:List α)(i:Int)(x x':α)(m n q:Nat)(ts:List aa)(hs:splice (f x) q ts=f x')(k:List α->LT S R):LT S R:=
 .op (set2? z0 xs i x') (λz=>[.cs (f x),.es (z.map f)]) (λ_=>[(xs.map f).length=(z0.map f).length]) (λz=>[(z0.map f).length=(z.map f).length,(z.map f)[i.toNat]?=some (f x'),(z.map f).length=(z0.map f).length,(xs.map f).set i.toNat (splice (f x) q ts)=z.map f])
  (λ_ h=>⟨⟨by simp[(mu h).1],ae⟩,by rw[<- mv f (mu h).2];simp[(mu h).1],OO f (mu h).2,by rw[<- mv f (mu h).2];simp[(mu h).1],Bg f (mu h).2 hs,ae⟩) λz =>.us [m,n] (k z)
abbrev iq(i:Int)(t:LT S R):LT S R :=.ev [] [i.toNat=i.toNat] ⟨rfl,ae⟩ t
abbrev clsR(f:α->List aa)(xs:List α)(i:Int)(x':α)(k:List α->LT S R):LT S R:=.op (set? xs i x') (λ_=>[]) (λ_=>[]) (λz=>[(xs.map f).set i.toNat (f x')=z.map f,(xs.map f).length=(z.map f).length]) (λ_ h=>⟨ae,OP f h,mv f h,ae⟩) k
abbrev sl(f:α->List aa) [Cl f n] (xs:List α) (l h:Int) (k:List α->LT S R):LT S R:=
 .op (slice? xs l h) (λz=>[.es (z.map f)]) (λz=>[AM f n xs,0<=l,l<=h,h<=((xs.map f).length:Nat),((xs.map f).take h.toNat).drop l.toNat=z.map f]) (λ_=>[])
  (λ_ e=>⟨⟨am f xs,OL e,Bd e,OM f e,Be f e,ae⟩,ae⟩) k
abbrev slN(f:α->List aa) [Cl f n] (xs:List α) (l:Int) (k:List α->LT S R):LT S R:=
 .op (slice? xs l xs.length) (λz=>[.es (z.map f)]) (λz=>[AM f n xs,0<=l,l<=((xs.map f).length:Nat),(((xs.map f).length:Nat):Int)<=(((xs.map f).length:Nat):Int),((xs.map f).take (((xs.map f).length:Nat):Int).toNat).drop l.toNat=z.map f]) (λ_=>[])
  (λ_ e=>⟨⟨am f xs,OL e,ZkU f e,sh _,ZkV f e,ae⟩,ae⟩) k
abbrev slS(s:List UInt8)(l h:Int)(k:List UInt8->LT S R):LT S R:=
 .op (slice? s l h) (λz=>[.cs [.str z]]) (λz=>[0<=l,l<=h,h<=(s.length:Int),(s.take h.toNat).drop l.toNat=z]) (λ_=>[])
  (λ_ e=>⟨⟨(Z5l e).1,(Z5l e).2.1,(Z5l e).2.2.1,(Z5l e).2.2.2,ae⟩,ae⟩) k
abbrev mk(f:α->List aa)(l b:Nat)(z:α)(m c:Int)(k:List α->LT S R):LT S R:=
 .op (make? b z m c) (λx=>[.lab l,.nat (x.map f).length,.es (x.map f)]) (λx=>[0<=m,m<=c,(b:Int)*c<=281474976710656,c<=9223372036854775807,m.toNat=(x.map f).length,List.replicate (x.map f).length (f z)=x.map f]) (λ_=>[])
  (λ_ e=>⟨⟨(kZ e).1,(kZ e).2.1,(kZ e).2.2.1,(kZ e).2.2.2,ON f e,Bf f e,ae⟩,ae⟩) k
abbrev apN(f:α->List aa) [Cl f n] (l b:Nat) (ys:List α) (k:List α->LT S R):LT S R:=
 .op (app? b [] ys) (λz=>[.lab l,.es (z.map f)]) (λz=>[ys.map f=z.map f,AM f n z,(z.map f).length<=9223372036854775807,(z.map f).length*b<=140737488355328]) (λ_=>[])
  (λz h=>⟨⟨OI f h,am f z,OJ f h,Bc f h,ae⟩,ae⟩) k
abbrev apR(f:α->List aa) [Cl f n] (b:Nat) (xs ys:List α) (k:List α->LT S R):LT S R:=
 .op (app? b xs ys) (λz=>[.es (z.map f)]) (λz=>[RL f xs,xs.map f++ys.map f=z.map f,AM f n ys,(z.map f).length<=9223372036854775807,(z.map f).length*b<=140737488355328]) (λ_=>[])
  (λ_ h=>⟨⟨rfl,Bb f h,am f ys,OJ f h,Bc f h,ae⟩,ae⟩) k
abbrev bys(s:List UInt8)(k:List Int->LT S R):LT S R:=.op (bytes? s) (λz=>[.es (z.map (cI .u8))]) (λz=>[eV s=z.map (cI .u8),s.length<=9223372036854775807]) (λ_=>[]) (λ_ h=>⟨⟨ZkZ h,ZlA h,ae⟩,ae⟩) k
abbrev str(xs:List Int)(k:List UInt8->LT S R):LT S R:=.op (str? xs) (λz=>[.cs [.str z]]) (λz=>[eV z=xs.map (cI .u8),z≠[]]) (λ_=>[]) (λ_ h=>⟨⟨(OQ h).1,(OQ h).2,ae⟩,ae⟩) k
abbrev call{o:Option α}{p:α->PV}(H:∀{r:α},o=some r->Fn P f args (p r))(k:α->LT S R):LT S R:=.op o (λx=>[.call (p x)]) (λx=>[Fn P f args (p x)]) (λ_=>[]) (λ_ h=>⟨⟨H h,ae⟩,ae⟩) k
abbrev callO{o:Option α}{p:α->PV}{σ1:α->List (Nat×Blk)}(H:∀{r:α},o=some r->FnG P f Z args (σ1 r) (p r))(ls:List Nat)(d:Nat)(fr:α->List (Nat×Blk))(k:α->LT S R):LT S R:=.op o (λx=>[.callO false ls d (fr x) (p x)]) (λx=>[FnG P f Z args (σ1 x) (p x)]) (λ_=>[]) (λ_ h=>⟨⟨H h,ae⟩,ae⟩) k
abbrev callU{o:Option α}{p:α->PV}{σ1:α->List (Nat×Blk)}(H:∀{r:α},o=some r->FnG P f Z args (σ1 r) (p r))(ls:List Nat)(d:Nat)(k:α->LT S R):LT S R:=.op o (λx=>[.callU false ls d (σ1 x) (p x)]) (λx=>[FnG P f Z args (σ1 x) (p x)]) (λ_=>[]) (λ_ h=>⟨⟨H h,ae⟩,ae⟩) k
abbrev callF{o:Option α}{p:α->PV}{σ1:α->List (Nat×Blk)}(H:∀{r:α},o=some r->FnG P f [] args (σ1 r) (p r))(d:Nat)(k:α->LT S R):LT S R:=.op o (λx=>[.callO false [] d (σ1 x) (p x)]) (λx=>[FnG P f [] args (σ1 x) (p x)]) (λ_=>[]) (λ_ h=>⟨⟨H h,ae⟩,ae⟩) k
abbrev callS{o:Option α}{p:α->PV}{σ1:α->List (Nat×Blk)}(H:∀{r:α},o=some r->FnG P f [] args (σ1 r) (p r))(d:Nat)(hs:∀x,aM (scC true (σ1 x) (p x)))(k:α->LT S R):LT S R:=.op o (λx=>[.callO true [] d (σ1 x) (p x)]) (λx=>scC true (σ1 x) (p x)++[FnG P f [] args (σ1 x) (p x)]) (λ_=>[]) (λx h=>⟨Z5.2 ⟨hs x,H h,ae⟩,ae⟩) k
abbrev callW{o:Option α}{p:α->PV}{σ1:α->List (Nat×Blk)}(H:∀{r:α},o=some r->FnG P f Z args (σ1 r) (p r))(ls:List Nat)(d:Nat)(hs:∀x,aM (scC true (σ1 x) (p x)))(k:α->LT S R):LT S R:=.op o (λx=>[.callU true ls d (σ1 x) (p x)]) (λx=>scC true (σ1 x) (p x)++[FnG P f Z args (σ1 x) (p x)]) (λ_=>[]) (λx h=>⟨Z5.2 ⟨hs x,H h,ae⟩,ae⟩) k
abbrev lkG(f:α->List aa)(m:List (Int×α))(n:Int)(z:α)(k:α×Bool->LT S R):LT S R:=.op (some (mlk m n z)) (λx=>[.cs (f x.1),.br x.2]) (λx=>[mlk (cM f m) n (f z)=(f x.1,x.2)]) (λ_=>[]) (λ_ h=>⟨⟨by cases h;exact ZBP f m n z,ae⟩,ae⟩) k
abbrev stG(f:α->List aa)(m:List (Int×α))(n:Int)(x:α)(p q:PV)(hp:p=q)(k:List (Int×α)->LT S R):LT S R:=.op (some (dC m n x)) (λz=>[.cs (f x),.mp (cM f z)]) (λz=>[p=q,dC (cM f m) n (f x)=cM f z]) (λ_=>[]) (λ_ h=>⟨⟨hp,by cases h;exact(Yt f n x m).symm,ae⟩,ae⟩) k
abbrev lenG(f:α->List aa)(m:List (Int×α))(t:LT S R):LT S R :=.ev [.num m.length] [((cM f m).length:Int)=m.length] ⟨by simp[cM],ae⟩ t
abbrev ag(f:α->List aa)(x:α)(n:Nat)(t:LT S R):LT S R :=.ev [.cs (f x)] [] trivial (.us [n,n+1,n+2] t)
abbrev idA(f:α->aa)(xs:List α)(i:Int)(cs:List PV)(q m:Nat)(k:α->LT S R):LT S R:=
 .op (idx? xs i) (λ_=>[.nat i.toNat]) (λ_=>[0<=i,i<(xs.length:Int),i.toNat=i.toNat]) (λv=>[dn false 1 ((cs.take q).length+i.toNat*1) (cs.take q++((xs.map f).map .t++cs.drop m))=some (ke false [f v])])
  (λ_ h=>⟨⟨jh h,by simpa using kY f h,rfl,ae⟩,ZkX _ _ (YE f h),ae⟩) k
abbrev idX(f:α->aa)(xs:List α)(i:Int)(k:α->LT S R):LT S R:=
 .op (idx? xs i) (λv=>[.cs [f v]]) (λv=>[0<=i,i<(xs.length:Int),dn false 1 (i.toNat*1) ((xs.map f).map .t)=some (ke false [f v])]) (λ_=>[])
  (λ_ h=>⟨⟨jh h,by simpa using kY f h,YE f h,ae⟩,ae⟩) k
abbrev ldC(f:α->aa)(d:Nat)(v:α)(n:Nat)(t:LT S R):LT S R :=.ev [.cell d [f v]] [] trivial (.us [n] t)
abbrev stA(o:Option α){p:Prop}{l:List PV}{g:α->List PV}(H:∀{y:α},o=some y->p/\l=g y)(k:α->LT S R):LT S R:=.op o (λy=>[.sp (g y)]) (λy=>[p,l=g y]) (λ_=>[]) (λ_ h=>⟨⟨(H h).1,(H h).2,ae⟩,ae⟩) k
abbrev tlR(f:α->List aa)(xs:List α)(i:Int)(z:α)(k:List α->LT S R):LT S R:=
 .op (clr? xs i z) (λ_=>[.nat i.toNat]) (λ_=>[RL f xs,0<=i,i<=((xs.map f).length:Nat),i.toNat=i.toNat]) (λz'=>[i.toNat<=(xs.map f).length,(xs.map f).take i.toNat++List.replicate ((xs.map f).length-i.toNat) (f z)=z'.map f,(xs.map f).length=(z'.map f).length])
  (λ_ h=>⟨⟨rfl,OR h,OS f h,rfl,ae⟩,by have:=OS f h;have:=OR h;omega,ZlE f h,ZlF f h,ae⟩) k
abbrev clR(f:α->List aa)(xs z:List α)(n:Nat)(t:LT S R):LT S R :=.ev [.es (z.map f)] [RL f xs] ⟨rfl,ae⟩ (.us [n,n+1] t)
abbrev trR(f:α->List aa)(xs:List α)(i:Int)(k:List α->LT S R):LT S R:=
 .op (slice? xs 0 i) (λz=>[.nat (z.map f).length,.es (z.map f)]) (λz=>[RL f xs,0<=i,i<=((xs.map f).length:Nat),i.toNat=(z.map f).length,(xs.map f).take i.toNat=z.map f]) (λ_=>[])
  (λ_ h=>⟨⟨rfl,Bd h,OM f h,ZlG f h,ZlH f h,ae⟩,ae⟩) k
abbrev m0(l:Nat)(t:LT S R):LT S R :=.ev [.num 0,.lab l] [] trivial t
abbrev mkM(f:α->List aa) [Cs f] (l l2:Nat) (y:List α) (t:LT S R):LT S R:=.ev [.lab l] [([.osl l2 (y.map f).length]:List PV)=[.osl l2 (y.map f).length],RL f y,SC1 (y.map f)] ⟨rfl,rfl,sc1 f y,ae⟩ t
abbrev apM(f:α->List aa)(b:Nat)(xs:List (List α))(y:List α)(k:List (List α)->LT S R):LT S R:=
 .op (app? b xs [y]) (λz=>[.es (z.map (cL f))]) (λz=>[RL (cL f) xs,([y].map (cL f)).length=1,xs.map (cL f)++[y].map (cL f)=z.map (cL f),(xs.map (cL f)).length+1<=9223372036854775807,((xs.map (cL f)).length+1)*b<=140737488355328]) (λ_=>[])
  (λ_ h=>⟨⟨rfl,rfl,Bb (cL f) h,(OT f h).1,(OT f h).2,ae⟩,ae⟩) k
abbrev idM(f:α->List aa)(xs:List (List α))(i:Int)(k:List α->LT S R):LT S R:=
 .op (idx? xs i) (λ_=>[.nat i.toNat]) (λ_=>[RL (cL f) xs,0<=i,i<((xs.map (cL f)).length:Nat),i.toNat=i.toNat]) (λy=>[i.toNat<(xs.map (cL f)).length,(xs.map (cL f))[i.toNat]?=some [.sl (y.map f)]])
  (λ_ h=>⟨⟨rfl,jh h,kY (cL f) h,rfl,ae⟩,by have:=kY (cL f) h;have:=jh h;omega,mr (cL f) h,ae⟩) k
abbrev ldM(f:α->List aa)(xs:List (List α))(n:Nat)(t:LT S R):LT S R :=.ev [] [RL (cL f) xs] ⟨rfl,ae⟩ (.us [n] t)
abbrev idN(f:α->List aa)(xs:List (List α))(y:List α)(j:Int)(n:Nat)(k:α->LT S R):LT S R:=
 .ev [.es (y.map f)] [RL (cL f) xs] ⟨rfl,ae⟩ (.us [n+1] (.op (idx? y j) (λ_=>[.nat j.toNat]) (λ_=>[0<=j,j<((y.map f).length:Nat),j.toNat=j.toNat]) (λx=>[j.toNat<(y.map f).length,(y.map f)[j.toNat]?=some (f x)])
  (λ_ h=>⟨⟨jh h,kY f h,rfl,ae⟩,by have:=kY f h;have:=jh h;omega,mr f h,ae⟩) k))
abbrev ldN(f:α->List aa)(xs:List (List α))(y:List α)(x:α)(n m:Nat)(t:LT S R):LT S R :=.ev [.es (y.map f),.cs (f x)] [RL (cL f) xs] ⟨rfl,ae⟩ (.us [n,m] t)
abbrev stM(f:α->List aa)(xs:List (List α))(i:Int)(y:List α)(j:Int)(v:α)(n m:Nat)(k:List (List α)->LT S R):LT S R:=
 .ev [.es (y.map f)] [RL (cL f) xs] ⟨rfl,ae⟩ (.us [n+1,m] (.op (setM? xs i y j v) (λz=>[.es (z.map (cL f))]) (λz=>[(xs.map (cL f)).set i.toNat [.sl ((y.map f).set j.toNat (f v))]=z.map (cL f)]) (λz=>[(xs.map (cL f)).length=(z.map (cL f)).length])
  (λ_ h=>⟨⟨ZlI f h,ae⟩,ZlJ f h,ae⟩) k))
abbrev callC{fn b:Nat}(H:jM P fn n b)(f:α->List aa) [Cl f n] (l:Nat) (xs:List α) (t:LT S R):LT S R:=
 .op (app? b [] xs) (λ_=>[.callC l b]) (λ_=>[RL f xs,jM P fn n b,(xs.map f).length*b<=140737488355328]) (λ_=>[])
  (λz h=>⟨⟨rfl,H,by have h1:=Bc f h;rwa[<- OI f h]at h1,ae⟩,ae⟩) λ_=>t
abbrev mkE(f:α->List aa)(l b:Nat)(m c:Int)(k:List (List α)->LT S R):LT S R:=
 .op (make? b ([]:List α) m c) (λx=>[.lab l,.nat (x.map (cL f)).length,.es (x.map (cL f))]) (λx=>[0<=m,m<=c,(b:Int)*c<=281474976710656,c<=9223372036854775807,m.toNat=(x.map (cL f)).length,List.replicate (x.map (cL f)).length (cL f [])=x.map (cL f)]) (λx=>[∀e,e∈x.map (cL f)->e=[aa.sl []]])
  (λ_ e=>⟨⟨(kZ e).1,(kZ e).2.1,(kZ e).2.2.1,(kZ e).2.2.2,ON (cL f) e,Bf (cL f) e,ae⟩,λy hy=>by rw[<- Bf (cL f) e]at hy;exact(Vl.1 hy).2,ae⟩) k
abbrev stR(f:α->List aa) [Cs f] (xs:List (List α)) (i:Int) (y:List α) (n:Nat) (k:List (List α)->LT S R):LT S R:=
 .ev [] [RL (cL f) xs] ⟨rfl,ae⟩ (.us [n] (.op (set? xs i y) (λz=>[.es (z.map (cL f))]) (λz=>[RL f y,SC1 (y.map f),(xs.map (cL f)).set i.toNat [.sl (y.map f)]=z.map (cL f)]) (λz=>[(xs.map (cL f)).length=(z.map (cL f)).length])
  (λ_ h=>⟨⟨rfl,sc1 f y,OP (cL f) h,ae⟩,mv (cL f) h,ae⟩) k))
abbrev ne(f:α->List aa){xs:List α}(h:xs≠[])(t:LT S R):LT S R :=.ev [] [xs.map f≠[]] ⟨ZkW f h,ae⟩ t
end
end LT
end Go.PW
namespace Go.PW
variable {S R α:Type} {p:Prop} {k:Nat}
def tX{Inv:S->Prop}{μ:S->M6}{m:M6}{post:R->Prop}{F:LF S R}{t:LT S R}(h0:Tot t.den (Nx Inv μ m post))(hs:∀s,Inv s->Tot (F.body s).den (Nx Inv μ (μ s) post)):Tot (F.run t) post:=Tot.fin h0 hs
def Tot.rn(Inv:S->Prop)(μ:S->M6){post:R->Prop}{F:LF S R}{t:LT S R}(h0:Tot t.den (Nx Inv μ (1000000,0,0,0,0,0) post))(hs:∀s,Inv s->Tot (F.body s).den (Nx Inv μ (μ s) post)):Tot (F.run t) post:=Tot.fin h0 hs
abbrev iv0:Empty->Prop:=λ_=>True
abbrev mu0:Empty->M6:=λ_=>(0,0,0,0,0,0)
def tZ{post:R->Prop}{F:LF Empty R}{t:LT Empty R}(h0:Tot t.den (Nx iv0 mu0 (1000000,0,0,0,0,0) post)):Tot (F.run t) post:=Tot.fin h0 λs=>nomatch s
def tJ{Inv:S->Prop}{μ:S->M6}{m m':M6}{post:R->Prop}{o:Option (S⊕R)}(h:Tot o (Nx Inv μ m' post))(hm:le6 m' m:=by unfold le6 lt6;dsimp only;omega):Tot o (Nx Inv μ m post):=Tot.join h hm
def qw(n:Int)(h:(-9223372036854775808<=n->n<9223372036854775808->IntKind.wrap .i64 n=n)->(-9223372036854775808<=IntKind.wrap .i64 n/\IntKind.wrap .i64 n<9223372036854775808)->p):p:=h (FA n) (FB n)
def lo(h:p:=by first|omega|(dsimp only;omega)):p:=h
def cl(h:p:=by first|omega|(simp only[bm,bw,bW];omega)|trivial|decide|assumption|exact shl_ne' O O|(simp;done)|(simp;omega)):p:=h
def Tot.ix{β:Type}{xs:List α}{i:Int}{k:α->Option β}{Q:β->Prop}(f:∀x,(x∈xs/\xs[i.toNat]? = .some x)->Tot (k x) Q)(h0:0<=i:=by omega)(h1:i<xs.length:=by omega):Tot ((idx? xs i).bind k) Q:=tB (tI h0 h1) f
def Tot.ap{β:Type}{a b:List α}{g:List α->Option β}{Q:β->Prop}(f:∀z,z=a++b->Tot (g z) Q)(h:(a.length+b.length)*k<=140737488355328:=by first|omega|(simp only[bw,bW];omega))(hk:0<k:=by decide):Tot ((app? k a b).bind g) Q:=tB (tA h hk) f
def Tot.mk{b:Nat}{z:α}{m c:Int}(h:0<=m/\m<=c/\(b:Int)*c<=281474976710656/\c<=9223372036854775807:=by refine⟨?_,?_,?_,?_⟩<;>omega):Tot (make? b z m c) λx=>(x.length:Int)=m/\∀y,y∈x->y=z:=Tot.make h
def me1{P:α->Prop}{a:α}(h:P a):∀x,x∈[a]->P x:=mem_cons' h λ_ h=>dw
def SzL.one{P:α->Prop}{a:α}(h:P a)(hk:k<=140737488351232:=by decide):SzL k P [a]:=⟨by simp only[bw,bW];omega,me1 h⟩
def SzL.tr{l:List α}(h:l.length*k<=140737488351232:=by first|omega|(simp only[bw,bW];omega)):SzL k (λ_=>True) l:=⟨h,λ_ _=>trivial⟩
def cs(h:p:=by repeat' (first|exact cl|apply And.intro)):p:=h
def wr(n:Int):(-9223372036854775808<=n->n<9223372036854775808->IntKind.wrap .i64 n=n) /\ -9223372036854775808<=IntKind.wrap .i64 n/\IntKind.wrap .i64 n<9223372036854775808:=⟨FA n,FB n⟩
def ca{z a:List α}{x:α}(h:z=a++[x]):z.length=a.length+1:=by rw[h,bm];rfl
end Go.PW
namespace Go.PW
variable {α:Type}
open Go.RowKit
def ins? (b:Nat) (xs:List α) (i:Int):List α->Option (List α)
 |[y]=>if 0<=i/\i<=xs.length/\(xs.length+1)*b<=140737488355328 then some (xs.take i.toNat++y::xs.drop i.toNat)else none
 |_=>none
def ZAf{b:Nat}{xs:List α}{i:Int}{y:α}(h0:0<=i)(h1:i<=xs.length)(h2:(xs.length+1)*b<=140737488355328):ins? b xs i [y]=some (xs.take i.toNat++y::xs.drop i.toNat):=ar ⟨h0,h1,h2⟩
def Z7s.okO{P:Program}{fn:FuncId}{e:TypeId}{z:Value}{b:Nat}(R:Z7s P fn e z b){f:α->List aa}(hf:∀x,∃t,f x=[t])(xs:List α)(i:Int)(ys:List α){r:List α}(h:ins? b xs i ys=some r) :
 FnG P fn [(0,wR f 1 xs),(1,wR f 1 ys)] [wO f 0 xs,wI i,wO f 1 ys] [(5000,wR f 1 r)] (wO f 5000 r):=by
 unfold ins? at h;split at h
 .rename_i y;split at h
  .rename_i hc;cases h;obtain⟨t,ht⟩:=hf y;have hfn:=R.fn (xs.map f) t i.toNat (by rw[cN];omega) (by rw[cN];exact hc.2.2);have hi:((i.toNat:Nat):Int)=i:=j9 hc.1;have hl:(xs.take i.toNat++y::xs.drop i.toNat).map f=Z7t (xs.map f) i.toNat t:=by simp only[Z7t,fk,ck,lF,pA,ht]
   have hn:((xs.take i.toNat++y::xs.drop i.toNat).map f).length=(xs.map f).length+1:=by rw[hl];simp only[Z7t,bm,bw,eU,jy,cN];omega
   simp only[fS,insA,hi]at hfn;show FnG P fn [(0,.row 1 (xs.map f)),(1,.row 1 ([y].map f))] [.osl 0 (xs.map f).length,wI i,.osl 1 1] [(5000,.row 1 ((xs.take i.toNat++y::xs.drop i.toNat).map f))] (.osl 5000 ((xs.take i.toNat++y::xs.drop i.toNat).map f).length);rw[hn,hl];simp only[ck,fW,ht];exact hfn
  cases h
 cases h
end Go.PW
