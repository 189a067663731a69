import Derived.Test.YtchddhcajpagjaaGreatPwU
set_option linter.all false
namespace Go.PW
def Tot{α:Type}(o:Option α)(Q:α->Prop):Prop:=∃ a,o=some a/\Q a
theorem Tot.mono{α:Type}{o:Option α}{P Q:α->Prop}(h:Tot o P)(f:∀ a,P a->Q a):Tot o Q:=by
 obtain⟨a,h1,h2⟩:=h
 exact⟨a,h1,f a h2⟩
theorem tB{α β:Type}{o:Option α}{k:α->Option β}{P:α->Prop}{Q:β->Prop}(h:Tot o P)(f:∀ a,P a->Tot (k a) Q):Tot (o.bind k) Q:=by
 obtain⟨a,rfl,h2⟩:=h
 exact f a h2
theorem tF{α:Type}{b:Bool}{x y:Option α}{Q:α->Prop}(h:b=true->Tot x Q)(g:b=false->Tot y Q):Tot (bif b then x else y) Q:=by
 cases b
 .exact g rfl
 .exact h rfl
theorem Tot.eq{α:Type}{o:Option α}{a:α}(h:Tot o (fun x=>x=a)):o=some a:=by
 obtain⟨x,h1,rfl⟩:=h
 exact h1
theorem tI{α:Type}{xs:List α}{i:Int}(h0:0<=i)(h1:i < xs.length):Tot (idx? xs i) fun x=>x∈xs/\xs[i.toNat]?=some x:=by
 have h:=List.getElem?_eq_getElem (show i.toNat < xs.length by omega)
 refine⟨xs[i.toNat],?_,List.getElem_mem _,h⟩
 unfold idx?
 rw [if_pos h0,h]
theorem tA{α:Type}{k:Nat}{a b:List α}(h:(a.length+b.length)*k<=140737488355328)(hk:0 < k):Tot (app? k a b) fun z=>z=a++b:=⟨_,Za6y h hk,rfl⟩
theorem Tot.some{α:Type}{o:Option α}{Q:α->Prop}(h:Tot o Q):∃ a,o=some a:=by
 obtain⟨a,h,_⟩:=h
 exact⟨a,h⟩
theorem Tot.stop{S R:Type}{step:S->Option (S ⊕ R)}{s:S}{r:R}{Q:R->Prop}(h:step s = .some (.inr r))(hq:Q r):Tot (Zc3 step s) Q:=⟨r,Zdu h,hq⟩
abbrev M6:=Nat×Nat×Nat×Nat×Nat×Nat
def lt6(x y:M6):Prop:=x.1 < y.1\/(x.1=y.1/\(x.2.1 < y.2.1\/(x.2.1=y.2.1/\(x.2.2.1 < y.2.2.1\/(x.2.2.1=y.2.2.1/\(x.2.2.2.1 < y.2.2.2.1\/(x.2.2.2.1=y.2.2.2.1/\(x.2.2.2.2.1 < y.2.2.2.2.1\/(x.2.2.2.2.1=y.2.2.2.2.1/\x.2.2.2.2.2 < y.2.2.2.2.2)))))))))
def le6(x y:M6):Prop:=lt6 x y\/(x.1=y.1/\x.2.1=y.2.1/\x.2.2.1=y.2.2.1/\x.2.2.2.1=y.2.2.2.1/\x.2.2.2.2.1=y.2.2.2.2.1/\x.2.2.2.2.2=y.2.2.2.2.2)
theorem Zbgi{x y z:M6}(h:lt6 x y)(g:le6 y z):lt6 x z:=by
 unfold le6 lt6 at g
 unfold lt6 at *
 omega
theorem Zbgj:WellFounded lt6:=by
 have h:WellFounded (Prod.Lex (fun a b:Nat=>a < b) (Prod.Lex (fun a b:Nat=>a < b) (Prod.Lex (fun a b:Nat=>a < b) (Prod.Lex (fun a b:Nat=>a < b) (Prod.Lex (fun a b:Nat=>a < b) (fun a b:Nat=>a < b)))))):=
  (Prod.lex ⟨_,Nat.lt_wfRel.wf⟩ (Prod.lex ⟨_,Nat.lt_wfRel.wf⟩ (Prod.lex ⟨_,Nat.lt_wfRel.wf⟩ (Prod.lex ⟨_,Nat.lt_wfRel.wf⟩ (Prod.lex ⟨_,Nat.lt_wfRel.wf⟩ ⟨_,Nat.lt_wfRel.wf⟩))))).wf
 refine Subrelation.wf ?_ h
 rintro ⟨a1,a2,a3,a4,a5,a6⟩ ⟨b1,b2,b3,b4,b5,b6⟩ h
 unfold lt6 at h
 simp only at h
 rcases h with h | ⟨rfl,h | ⟨rfl,h | ⟨rfl,h | ⟨rfl,h | ⟨rfl,h⟩⟩⟩⟩⟩
 .exact .left _ _ h
 .exact .right _ (.left _ _ h)
 .exact .right _ (.right _ (.left _ _ h))
 .exact .right _ (.right _ (.right _ (.left _ _ h)))
 .exact .right _ (.right _ (.right _ (.right _ (.left _ _ h))))
 .exact .right _ (.right _ (.right _ (.right _ (.right _ h))))
def Nx{S R:Type}(Inv:S->Prop)(μ:S->M6)(m:M6)(post:R->Prop):S ⊕ R->Prop
 | .inl s=>Inv s/\lt6 (μ s) m
 | .inr r=>post r
section
variable {S R:Type} {Inv:S->Prop} {μ:S->M6} {m m':M6} {post:R->Prop}
theorem tL{s:S}(h:Inv s)(hm:lt6 (μ s) m):Tot (.some (.inl s)) (Nx Inv μ m post):=⟨_,rfl,h,hm⟩
theorem tR{r:R}(h:post r):Tot (.some (.inr r)) (Nx Inv μ m post):=⟨_,rfl,h⟩
theorem Tot.join{o:Option (S ⊕ R)}(h:Tot o (Nx Inv μ m' post))(hm:le6 m' m):Tot o (Nx Inv μ m post):=h.mono fun y hy=>by
 cases y with
 | inl s=>exact⟨hy.1,Zbgi hy.2 hm⟩
 | inr r=>exact hy
theorem Tot.fin{step:S->Option (S ⊕ R)}{o:Option (S ⊕ R)}(h0:Tot o (Nx Inv μ m post))(hs:∀ s,Inv s->Tot (step s) (Nx Inv μ (μ s) post)):Tot (o.bind (Zhm step)) post:=by
 have key:∀ x:M6,∀ s,μ s=x->Inv s->Tot (Zc3 step s) post:=fun x=>Zbgj.induction (C:=fun x=>∀ s,μ s=x->Inv s->Tot (Zc3 step s) post) x (fun x ih s hx hi=>by
  subst hx
  obtain⟨y,h1,h2⟩:=hs s hi
  cases y with
  | inl s'=>rw [Zku h1];exact ih _ h2.2 s' rfl h2.1
  | inr r=>exact⟨r,Zdu h1,h2⟩)
 obtain⟨y,rfl,h2⟩:=h0
 cases y with
 | inl s=>exact key _ s rfl h2.1
 | inr r=>exact⟨r,rfl,h2⟩
end
theorem tD{α:Type}{p:Prop} [Decidable p] {x y:Option α} {Q:α->Prop} (h:p->Tot x Q) (g:¬ p->Tot y Q):Tot (bif decide p then x else y) Q:=by
 by_cases hp:p
 .rw [decide_eq_true hp];exact h hp
 .rw [decide_eq_false hp];exact g hp
theorem tE{α:Type}{a b:Int}{x y:Option α}{Q:α->Prop}(h:a=b->Tot x Q)(g:a≠b->Tot y Q):Tot (bif (a==b) then x else y) Q:=by
 rw [Zu1];exact tD h g
theorem tN{α:Type}{a b:Int}{x y:Option α}{Q:α->Prop}(h:a≠b->Tot x Q)(g:a=b->Tot y Q):Tot (bif (a != b) then x else y) Q:=by
 rw [Za1p];exact tD h (fun e=>g O)
theorem tO{α:Type}{b:Bool}{x y:Option α}{Q:α->Prop}(h:b=false->Tot x Q)(g:b=true->Tot y Q):Tot (bif !b then x else y) Q:=by
 cases b
 .exact h rfl
 .exact g rfl
theorem tK{p:Prop} [Decidable p] (h:p):Tot (ok? (decide p)) fun _=>p:=⟨(),by rw [decide_eq_true h];rfl,h⟩
theorem Tot.slice{α:Type}{xs:List α}{l h:Int}(h0:0<=l)(h1:l<=h)(h2:h<=xs.length):Tot (slice? xs l h) fun z=>(z.length:Int)=h - l/\(∀ x,x∈z->x∈xs)/\z=(xs.take h.toNat).drop l.toNat:=by
 refine⟨(xs.take h.toNat).drop l.toNat,?_,?_,fun x hx=>List.mem_of_mem_take (List.mem_of_mem_drop hx),rfl⟩
 .unfold slice?;rw [if_pos ⟨h0,h1,h2⟩]
 .rw [List.length_drop,List.length_take];omega
theorem Tot.make{α:Type}{b:Nat}{z:α}{m c:Int}(h:0<=m/\m<=c/\(b:Int)*c<=281474976710656/\c<=9223372036854775807):Tot (make? b z m c) fun x=>(x.length:Int)=m/\∀ y,y∈x->y=z:=by
 refine⟨List.replicate m.toNat z,?_,?_,fun y hy=>(List.mem_replicate.1 hy).2⟩
 .unfold make?;rw [if_pos h]
 .rw [List.length_replicate];omega
theorem Tot.copy{α:Type}{x y:List α}(h:y.length<=x.length):Tot (copy? x y) fun z=>z.length=x.length/\(∀ e,e∈z->e∈y\/e∈x)/\z=y++x.drop y.length:=by
 refine⟨y++x.drop y.length,?_,?_,fun e he=>?_,rfl⟩
 .unfold copy?;rw [if_pos h]
 .rw [List.length_append,List.length_drop];omega
 .rcases List.mem_append.1 he with h | h
  .exact .inl h
  .exact .inr (List.mem_of_mem_drop h)
theorem Tot.set{α:Type}{z:List α}{i:Int}{x:α}(h0:0<=i)(h1:i < z.length):Tot (set? z i x) fun y=>y.length=z.length/\(∀ e,e∈y->e=x\/e∈z)/\y=z.set i.toNat x:=by
 refine⟨z.set i.toNat x,?_,List.length_set ..,fun e he=>?_,rfl⟩
 .unfold set?;rw [if_pos ⟨h0,by omega⟩]
 .rcases List.mem_or_eq_of_mem_set he with h | h
  .exact .inr h
  .exact .inl h
theorem Tot.set2{α:Type}{z0 z:List α}{i:Int}{x:α}(h:z.length=z0.length)(h0:0<=i)(h1:i < z.length):Tot (set2? z0 z i x) fun y=>y.length=z.length/\(∀ e,e∈y->e=x\/e∈z)/\y=z.set i.toNat x:=by
 unfold set2?;rw [if_pos h];exact Tot.set h0 h1
theorem Tot.clr{α:Type}{xs:List α}{i:Int}{z:α}(h0:0<=i)(h1:i<=xs.length):Tot (clr? xs i z) fun y=>y.length=xs.length/\(∀ e,e∈y->e=z\/e∈xs)/\y=xs.take i.toNat++List.replicate (xs.length - i.toNat) z:=by
 refine⟨xs.take i.toNat++List.replicate (xs.length - i.toNat) z,?_,?_,fun e he=>?_,rfl⟩
 .unfold clr?;rw [if_pos ⟨h0,h1⟩]
 .rw [List.length_append,List.length_take,List.length_replicate];omega
 .rcases List.mem_append.1 he with h | h
  .exact .inr (List.mem_of_mem_take h)
  .exact .inl (List.eq_of_mem_replicate h)
theorem Tot.setM{α:Type}{xs:List (List α)}{i j:Int}{y:List α}{v:α}:Tot (setM? xs i y j v) fun z=>z=xs.set i.toNat (y.set j.toNat v):=⟨_,rfl,rfl⟩
theorem Tot.bytes{s:List UInt8}(h:s.length<=9223372036854775807):Tot (bytes? s) fun z=>z.length=s.length:=by
 unfold bytes?
 rw [if_pos h]
 exact⟨_,rfl,List.length_map ..⟩
theorem Tot.str{xs:List Int}(h:xs≠[])(h2:∀ n,n∈xs->0<=n/\n < 256):Tot (str? xs) fun s=>s.length=xs.length:=by
 unfold str?
 rw [if_pos ⟨h,h2⟩]
 exact⟨_,rfl,List.length_map ..⟩
theorem Tot.setA5{α:Type}{x:A5 α}{i:Int}{v:α}(h0:0<=i)(h1:i < 5):Tot (x.set? i v) fun y=>y.list=x.list.set i.toNat v:=Zbeh h0 h1
theorem Zbcn(n:Int):(-9223372036854775808<=n->n < 9223372036854775808->IntKind.wrap .i64 n=n):=fun h1 h2=>Zfj h1 h2
theorem Zbco(n:Int) : -9223372036854775808<=IntKind.wrap .i64 n/\IntKind.wrap .i64 n < 9223372036854775808:=by
 simp only [IntKind.wrap,IntKind.bits,IntKind.signed,Bool.true_and,ge_iff_le,decide_eq_true_eq]
 have h1:=Int.emod_nonneg n (show (2 ^ 64:Int)≠0 by decide)
 have h2:=Int.emod_lt_of_pos n (show (0:Int) < 2 ^ 64 by decide)
 split<;>omega
theorem Za1t(n:Int):0<=IntKind.wrap .u64 n/\IntKind.wrap .u64 n < 18446744073709551616:=by
 simp only [IntKind.wrap,IntKind.bits,IntKind.signed]
 have h1:=Int.emod_nonneg n (show (2 ^ 64:Int)≠0 by decide)
 have h2:=Int.emod_lt_of_pos n (show (0:Int) < 2 ^ 64 by decide)
 simp only [Bool.false_and,Bool.false_eq_true,if_false]
 omega
theorem Zbgk(n:Int):0<=IntKind.wrap .u8 n/\IntKind.wrap .u8 n < 256:=by
 simp only [IntKind.wrap,IntKind.bits,IntKind.signed]
 have h1:=Int.emod_nonneg n (show (2 ^ 8:Int)≠0 by decide)
 have h2:=Int.emod_lt_of_pos n (show (0:Int) < 2 ^ 8 by decide)
 simp only [Bool.false_and,Bool.false_eq_true,if_false]
 omega
def SzL{α:Type}(k:Nat)(P:α->Prop)(xs:List α):Prop:=xs.length*k<=140737488351232/\∀ x,x∈xs->P x
def SzS(s:List UInt8):Prop:=s.length<=281474976710656
def SzT(s:List UInt8):Prop:=s.length<=562949953421312
theorem SzS.t{s:List UInt8}(h:SzS s):SzT s:=Nat.le_trans h (by decide)
theorem SzS.nil:SzS []:=Nat.zero_le _
theorem SzT.nil:SzT []:=Nat.zero_le _
def SzN(s:List UInt8):Prop:=s.length<=100
theorem SzN.t{s:List UInt8}(h:SzN s):SzT s:=Nat.le_trans h (by decide)
theorem SzN.s{s:List UInt8}(h:SzN s):SzS s:=Nat.le_trans h (by decide)
theorem SzN.nil:SzN []:=Nat.zero_le _
theorem shl_ne'{i:Int}(h0:0<=i)(h1:i < 6):Z0a .i64 1 i≠0:=by
 have:i=0\/i=1\/i=2\/i=3\/i=4\/i=5:=by omega
 rcases this with h | h | h | h | h | h<;>subst h<;>decide
theorem Zakv{s:List UInt8}(h:s.length<=reachBytes):SzS s:=Nat.le_trans h (by decide)
theorem Zbgl{s:List UInt8}(h:s.length<=reachBytes):SzT s:=Nat.le_trans h (by decide)
theorem Zfk{α:Type}{k:Nat}{P Q:α->Prop}{xs:List α}(h:OkL k P xs)(f:∀ x,P x->Q x):SzL k Q xs:=⟨h.1,fun x hx=>f x (h.2 x hx)⟩
theorem mem_cons'{α:Type}{P:α->Prop}{a:α}{l:List α}(h:P a)(g:∀ x,x∈l->P x):∀ x,x∈a::l->P x:=fun x hx=>by
 rcases List.mem_cons.1 hx with h' | h'
 .rw [h'];exact h
 .exact g x h'
theorem SzL.nil{α:Type}{k:Nat}{P:α->Prop}:SzL k P ([]:List α):=⟨by simp,fun x h=>by cases h⟩
theorem SzL.app{α:Type}{k:Nat}{P:α->Prop}{a b z:List α}(h:z=a++b)(hl:z.length*k<=140737488351232)(ha:∀ x,x∈a->P x)(hb:∀ x,x∈b->P x):SzL k P z:=⟨hl,fun x hx=>by
 subst h
 rcases List.mem_append.1 hx with h | h
 .exact ha x h
 .exact hb x h⟩
def Z4t{α γ:Type}(p:Nat->α->Bool)(q:α->γ):Nat->List α->List γ
 | _,[]=>[]
 | i,x::xs=>bif p i x then q x::Z4t p q (i+1) xs else Z4t p q (i+1) xs
theorem Zavs{α γ:Type}(p:Nat->α->Bool)(q:α->γ):∀ (xs:List α) (i:Nat),(Z4t p q i xs).length<=xs.length
 | [],_=>Nat.le_refl _
 | x::xs,i=>by
  have:=Zavs p q xs (i+1)
  unfold Z4t
  cases p i x<;>simp<;>omega
theorem Za61{S R α γ:Type}{step:S->Option (S ⊕ R)}{st:Nat->List γ->S}(xs:List α)(p:Nat->α->Bool)(q:α->γ)
 (h:∀ i x acc,xs[i]?=some x->acc.length<=i->step (st i acc)=some (.inl (st (i+1) (bif p i x then acc++[q x] else acc)))) :
 Zc3 step (st 0 [])=Zc3 step (st xs.length (Z4t p q 0 xs)):=by
 have key:∀ d i acc,i+d=xs.length->acc.length<=i->Zc3 step (st i acc)=Zc3 step (st xs.length (acc++Z4t p q i (xs.drop i))):=by
  intro d
  induction d with
  | zero=>
   intro i acc hi ha
   obtain rfl:i=xs.length:=by omega
   rw [List.drop_length]
   simp [Z4t]
  | succ d ih=>
   intro i acc hi ha
   have hlt:i < xs.length:=by omega
   rw [Zku (h i xs[i] acc (List.getElem?_eq_getElem hlt) ha),List.drop_eq_getElem_cons hlt]
   cases hp:p i xs[i] with
   | false=>
    rw [cond_false,ih (i+1) acc O O]
    simp [Z4t,hp]
   | true=>
    rw [cond_true,ih (i+1) (acc++[q xs[i]]) O (by simp;omega)]
    simp [Z4t,hp]
 have:=key xs.length 0 [] O (by simp)
 simpa using this
end Go.PW
