import Derived.Test.YtchddhcajpagjaaGreatPwYc
import Derived.Test.YtchddhcajpagjaaGreatPwLr
set_option linter.all false
namespace Go.PW
open Go.RowKit
def ins? {α:Type} (b:Nat) (xs:List α) (i:Int):List α->Option (List α)
 | [y]=>if 0<=i/\i<=xs.length/\(xs.length+1)*b<=140737488355328 then some (xs.take i.toNat++y::xs.drop i.toNat) else none
 | _=>none
theorem Zbgq{α:Type}{b:Nat}{xs:List α}{i:Int}{y:α}(h0:0<=i)(h1:i<=xs.length)(h2:(xs.length+1)*b<=140737488355328):ins? b xs i [y]=some (xs.take i.toNat++y::xs.drop i.toNat):=if_pos ⟨h0,h1,h2⟩
theorem Z4o.okO{P:Program}{fn:FuncId}{e:TypeId}{z:Value}{b:Nat}(R:Z4o P fn e z b){α:Type}{f:α->List Zf}(hf:∀ x,∃ t,f x=[t])(xs:List α)(i:Int)(ys:List α){r:List α}(h:ins? b xs i ys=some r) :
 FnG P fn [(0,wR f 1 xs),(1,wR f 1 ys)] [wO f 0 xs,wI i,wO f 1 ys] [(5000,wR f 1 r)] (wO f 5000 r):=by
 unfold ins? at h
 split at h
 .rename_i y
  split at h
  .rename_i hc
   cases h
   obtain⟨t,ht⟩:=hf y
   have hfn:=R.fn (xs.map f) t i.toNat (by rw [List.length_map];omega) (by rw [List.length_map];exact hc.2.2)
   have hi:((i.toNat:Nat):Int)=i:=Int.toNat_of_nonneg hc.1
   have hl:(xs.take i.toNat++y::xs.drop i.toNat).map f=Z4p (xs.map f) i.toNat t:=by simp only [Z4p,List.map_append,List.map_cons,List.map_take,List.map_drop,ht]
   have hn:((xs.take i.toNat++y::xs.drop i.toNat).map f).length=(xs.map f).length+1:=by rw [hl];simp only [Z4p,List.length_append,List.length_cons,List.length_take,List.length_drop,List.length_map];omega
   simp only [Zqe,insA,hi] at hfn
   show FnG P fn [(0,.row 1 (xs.map f)),(1,.row 1 ([y].map f))] [.osl 0 (xs.map f).length,wI i,.osl 1 1] [(5000,.row 1 ((xs.take i.toNat++y::xs.drop i.toNat).map f))] (.osl 5000 ((xs.take i.toNat++y::xs.drop i.toNat).map f).length)
   rw [hn,hl]
   simp only [List.map_cons,List.map_nil,ht]
   exact hfn
  .cases h
 .cases h
end Go.PW
