import Derived.Test.YtchddhcajpagjaaGreatPwXr
import Derived.Test.YtchddhcajpagjaaGreatPwYb
import Derived.Test.YtchddhcajpagjaaGreatPwLr
set_option linter.all false
namespace Go.PW
theorem tX{S R:Type}{Inv:S->Prop}{μ:S->M6}{m:M6}{post:R->Prop}{F:LF S R}{t:LT S R}(h0:Tot t.den (Nx Inv μ m post))(hs:∀ s,Inv s->Tot (F.body s).den (Nx Inv μ (μ s) post)):Tot (F.run t) post:=
 Tot.fin h0 hs
abbrev iv0:Empty->Prop:=fun _=>True
abbrev mu0:Empty->M6:=fun _=>(0,0,0,0,0,0)
theorem tZ{R:Type}{post:R->Prop}{F:LF Empty R}{t:LT Empty R}(h0:Tot t.den (Nx iv0 mu0 (1000000,0,0,0,0,0) post)):Tot (F.run t) post:=
 Tot.fin h0 fun s=>nomatch s
theorem tJ{S R:Type}{Inv:S->Prop}{μ:S->M6}{m m':M6}{post:R->Prop}{o:Option (S ⊕ R)}(h:Tot o (Nx Inv μ m' post))(hm:le6 m' m:=by unfold le6 lt6;dsimp only;omega):Tot o (Nx Inv μ m post):=Tot.join h hm
theorem qw{p:Prop}(n:Int)(h:(-9223372036854775808<=n->n < 9223372036854775808->IntKind.wrap .i64 n=n)->(-9223372036854775808<=IntKind.wrap .i64 n/\IntKind.wrap .i64 n < 9223372036854775808)->p):p:=h (Zbad n) (Zbae n)
theorem lo{p:Prop}(h:p:=by first | omega | (dsimp only;omega)):p:=h
theorem cl{p:Prop}(h:p:=by first | omega | (simp only [List.length_append,List.length_cons,List.length_nil];omega) | trivial | decide | assumption | exact shl_ne' (by omega) (by omega) | (simp;done) | (simp;omega)):p:=h
theorem Tot.mk{α:Type}{b:Nat}{z:α}{m c:Int}(h:0<=m/\m<=c/\(b:Int)*c<=281474976710656/\c<=9223372036854775807:=by refine⟨?_,?_,?_,?_⟩<;>omega):Tot (make? b z m c) fun x=>(x.length:Int)=m/\∀ y,y∈x->y=z:=Tot.make h
theorem me1{α:Type}{P:α->Prop}{a:α}(h:P a):∀ x,x∈[a]->P x:=mem_cons' h fun _ h=>by cases h
theorem SzL.one{α:Type}{P:α->Prop}{a:α}{k:Nat}(h:P a)(hk:k<=140737488351232:=by decide):SzL k P [a]:=⟨by simp only [List.length_cons,List.length_nil];omega,me1 h⟩
theorem SzL.tr{α:Type}{l:List α}{k:Nat}(h:l.length*k<=140737488351232:=by first | omega | (simp only [List.length_cons,List.length_nil];omega)):SzL k (fun _=>True) l:=⟨h,fun _ _=>trivial⟩
theorem cs{p:Prop}(h:p:=by repeat' (first | exact cl | apply And.intro)):p:=h
end Go.PW
namespace Go.PW
open Go.RowKit
def ins? {α:Type} (b:Nat) (xs:List α) (i:Int):List α->Option (List α)
 | [y]=>if 0<=i/\i<=xs.length/\(xs.length+1)*b<=140737488355328 then some (xs.take i.toNat++y::xs.drop i.toNat) else none
 | _=>none
theorem Za9l{α:Type}{b:Nat}{xs:List α}{i:Int}{y:α}(h0:0<=i)(h1:i<=xs.length)(h2:(xs.length+1)*b<=140737488355328):ins? b xs i [y]=some (xs.take i.toNat++y::xs.drop i.toNat):=if_pos ⟨h0,h1,h2⟩
theorem Z5x.okO{P:Program}{fn:FuncId}{e:TypeId}{z:Value}{b:Nat}(R:Z5x P fn e z b){α:Type}{f:α->List Zd}(hf:∀ x,∃ t,f x=[t])(xs:List α)(i:Int)(ys:List α){r:List α}(h:ins? b xs i ys=some r) :
 FnG P fn [(0,wR f 1 xs),(1,wR f 1 ys)] [wO f 0 xs,wI i,wO f 1 ys] [(5000,wR f 1 r)] (wO f 5000 r):=by
 unfold ins? at h
 split at h
 .rename_i y
  split at h
  .rename_i hc
   cases h
   obtain⟨t,ht⟩:=hf y
   have hfn:=R.fn (xs.map f) t i.toNat (by rw [List.length_map];omega) (by rw [List.length_map];exact hc.2.2)
   have hi:((i.toNat:Nat):Int)=i:=Int.toNat_of_nonneg hc.1
   have hl:(xs.take i.toNat++y::xs.drop i.toNat).map f=Z5y (xs.map f) i.toNat t:=by simp only [Z5y,List.map_append,List.map_cons,List.map_take,List.map_drop,ht]
   have hn:((xs.take i.toNat++y::xs.drop i.toNat).map f).length=(xs.map f).length+1:=by rw [hl];simp only [Z5y,List.length_append,List.length_cons,List.length_take,List.length_drop,List.length_map];omega
   simp only [Zq1,insA,hi] at hfn
   show FnG P fn [(0,.row 1 (xs.map f)),(1,.row 1 ([y].map f))] [.osl 0 (xs.map f).length,wI i,.osl 1 1] [(5000,.row 1 ((xs.take i.toNat++y::xs.drop i.toNat).map f))] (.osl 5000 ((xs.take i.toNat++y::xs.drop i.toNat).map f).length)
   rw [hn,hl]
   simp only [List.map_cons,List.map_nil,ht]
   exact hfn
  .cases h
 .cases h
end Go.PW
