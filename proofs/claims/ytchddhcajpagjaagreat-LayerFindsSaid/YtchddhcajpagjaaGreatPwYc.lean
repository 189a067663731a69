import Derived.Test.YtchddhcajpagjaaGreatPwXr
import Derived.Test.YtchddhcajpagjaaGreatPwYb
set_option linter.all false
namespace Go.PW
theorem tX{S R:Type}{Inv:S->Prop}{μ:S->M6}{m:M6}{post:R->Prop}{F:LF S R}{t:LT S R}(h0:Tot t.den (Nx Inv μ m post))(hs:∀ s,Inv s->Tot (F.body s).den (Nx Inv μ (μ s) post)):Tot (F.run t) post:=
 Tot.fin h0 hs
abbrev iv0:Empty->Prop:=fun _=>True
abbrev mu0:Empty->M6:=fun _=>(0,0,0,0,0,0)
theorem tZ{R:Type}{post:R->Prop}{F:LF Empty R}{t:LT Empty R}(h0:Tot t.den (Nx iv0 mu0 (1000000,0,0,0,0,0) post)):Tot (F.run t) post:=
 Tot.fin h0 fun s=>nomatch s
theorem tJ{S R:Type}{Inv:S->Prop}{μ:S->M6}{m m':M6}{post:R->Prop}{o:Option (S ⊕ R)}(h:Tot o (Nx Inv μ m' post))(hm:le6 m' m:=by unfold le6 lt6;dsimp only;omega):Tot o (Nx Inv μ m post):=Tot.join h hm
theorem qw{p:Prop}(n:Int)(h:(-9223372036854775808<=n->n < 9223372036854775808->IntKind.wrap .i64 n=n)->(-9223372036854775808<=IntKind.wrap .i64 n/\IntKind.wrap .i64 n < 9223372036854775808)->p):p:=h (Zbad n) (Zbae n)
theorem lo{p:Prop}(h:p:=by first | omega | (dsimp only;omega)):p:=h
theorem cl{p:Prop}(h:p:=by first | omega | (simp only [List.length_append,List.length_cons,List.length_nil];omega) | trivial | decide | assumption | exact shl_ne' (by omega) (by omega) | (simp;done) | (simp;omega)):p:=h
theorem Tot.mk{α:Type}{b:Nat}{z:α}{m c:Int}(h:0<=m/\m<=c/\(b:Int)*c<=281474976710656/\c<=9223372036854775807:=by refine⟨?_,?_,?_,?_⟩<;>omega):Tot (make? b z m c) fun x=>(x.length:Int)=m/\∀ y,y∈x->y=z:=Tot.make h
theorem me1{α:Type}{P:α->Prop}{a:α}(h:P a):∀ x,x∈[a]->P x:=mem_cons' h fun _ h=>by cases h
theorem SzL.one{α:Type}{P:α->Prop}{a:α}{k:Nat}(h:P a)(hk:k<=140737488351232:=by decide):SzL k P [a]:=⟨by simp only [List.length_cons,List.length_nil];omega,me1 h⟩
theorem SzL.tr{α:Type}{l:List α}{k:Nat}(h:l.length*k<=140737488351232:=by first | omega | (simp only [List.length_cons,List.length_nil];omega)):SzL k (fun _=>True) l:=⟨h,fun _ _=>trivial⟩
theorem cs{p:Prop}(h:p:=by repeat' (first | exact cl | apply And.intro)):p:=h
end Go.PW
