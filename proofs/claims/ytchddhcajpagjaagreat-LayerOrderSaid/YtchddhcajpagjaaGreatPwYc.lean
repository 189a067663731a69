import Derived.Test.YtchddhcajpagjaaGreatPwXr
import Derived.Test.YtchddhcajpagjaaGreatPwYb
set_option linter.all false
namespace Go.PW
theorem tX{S R:Type}{Inv:S->Prop}{μ:S->M6}{m:M6}{post:R->Prop}{F:LF S R}{t:LT S R}(h0:Tot t.den (Nx Inv μ m post))(hs:∀ s,Inv s->Tot (F.body s).den (Nx Inv μ (μ s) post)):Tot (F.run t) post:=
 Tot.fin h0 hs
theorem Tot.rn{S R:Type}(Inv:S->Prop)(μ:S->M6){post:R->Prop}{F:LF S R}{t:LT S R}(h0:Tot t.den (Nx Inv μ (1000000,0,0,0,0,0) post))(hs:∀ s,Inv s->Tot (F.body s).den (Nx Inv μ (μ s) post)):Tot (F.run t) post:=
 Tot.fin h0 hs
abbrev iv0:Empty->Prop:=fun _=>True
abbrev mu0:Empty->M6:=fun _=>(0,0,0,0,0,0)
theorem tZ{R:Type}{post:R->Prop}{F:LF Empty R}{t:LT Empty R}(h0:Tot t.den (Nx iv0 mu0 (1000000,0,0,0,0,0) post)):Tot (F.run t) post:=
 Tot.fin h0 fun s=>nomatch s
theorem tJ{S R:Type}{Inv:S->Prop}{μ:S->M6}{m m':M6}{post:R->Prop}{o:Option (S ⊕ R)}(h:Tot o (Nx Inv μ m' post))(hm:le6 m' m:=by unfold le6 lt6;dsimp only;omega):Tot o (Nx Inv μ m post):=Tot.join h hm
theorem qw{p:Prop}(n:Int)(h:(-9223372036854775808<=n->n < 9223372036854775808->IntKind.wrap .i64 n=n)->(-9223372036854775808<=IntKind.wrap .i64 n/\IntKind.wrap .i64 n < 9223372036854775808)->p):p:=h (Zbcn n) (Zbco n)
theorem lo{p:Prop}(h:p:=by first | omega | (dsimp only;omega)):p:=h
theorem cl{p:Prop}(h:p:=by first | omega | (simp only [List.length_append,List.length_cons,List.length_nil];omega) | trivial | decide | assumption | exact shl_ne' O O | (simp;done) | (simp;omega)):p:=h
theorem Tot.ix{α β:Type}{xs:List α}{i:Int}{k:α->Option β}{Q:β->Prop}(f:∀ x,(x∈xs/\xs[i.toNat]? = .some x)->Tot (k x) Q)(h0:0<=i:=by omega)(h1:i < xs.length:=by omega):Tot ((idx? xs i).bind k) Q:=tB (tI h0 h1) f
theorem Tot.ap{α β:Type}{k:Nat}{a b:List α}{g:List α->Option β}{Q:β->Prop}(f:∀ z,z=a++b->Tot (g z) Q)(h:(a.length+b.length)*k<=140737488355328:=by first | omega | (simp only [List.length_cons,List.length_nil];omega))(hk:0 < k:=by decide):Tot ((app? k a b).bind g) Q:=tB (tA h hk) f
theorem Tot.mk{α:Type}{b:Nat}{z:α}{m c:Int}(h:0<=m/\m<=c/\(b:Int)*c<=281474976710656/\c<=9223372036854775807:=by refine⟨?_,?_,?_,?_⟩<;>omega):Tot (make? b z m c) fun x=>(x.length:Int)=m/\∀ y,y∈x->y=z:=Tot.make h
theorem me1{α:Type}{P:α->Prop}{a:α}(h:P a):∀ x,x∈[a]->P x:=mem_cons' h fun _ h=>by cases h
theorem SzL.one{α:Type}{P:α->Prop}{a:α}{k:Nat}(h:P a)(hk:k<=140737488351232:=by decide):SzL k P [a]:=⟨by simp only [List.length_cons,List.length_nil];omega,me1 h⟩
theorem SzL.tr{α:Type}{l:List α}{k:Nat}(h:l.length*k<=140737488351232:=by first | omega | (simp only [List.length_cons,List.length_nil];omega)):SzL k (fun _=>True) l:=⟨h,fun _ _=>trivial⟩
theorem cs{p:Prop}(h:p:=by repeat' (first | exact cl | apply And.intro)):p:=h
theorem wr(n:Int):(-9223372036854775808<=n->n < 9223372036854775808->IntKind.wrap .i64 n=n) /\ -9223372036854775808<=IntKind.wrap .i64 n/\IntKind.wrap .i64 n < 9223372036854775808:=⟨Zbcn n,Zbco n⟩
theorem Zb7{α:Type}{z a:List α}{x:α}(h:z=a++[x]):z.length=a.length+1:=by rw [h,List.length_append];rfl
end Go.PW
