import Derived.Test.YtiglnkgoicjjfaaQDa
import Derived.Test.YtiglnkgoicjjfaaQE
import Derived.Test.YtiglnkgoicjjfaaPwY
import Derived.Test.YtiglnkgoicjjfaaPwYi
set_option linter.all false
set_option maxRecDepth 100000
namespace Go.PW
theorem sfA{l m:List Za}(h:Zae l l=true)(k:Zae m m=true):Zae (l++m) (l++m)=true:=by rw [Zg0 _ _ _ _ rfl,h,k];rfl
theorem sfI(k:IntKind)(n:Int):Zae (cI k n) (cI k n)=true:=by simp [cI,Zae,Zew]
theorem sfB(b:Bool):Zae (cB b) (cB b)=true:=by simp [cB,Zae,Zew]
theorem sfS(b:List UInt8):Zae (cS b) (cS b)=true:=by simp [cS,Zae,Zew]
theorem sf3(x:A3 Int):Zae ((cA3 (cI .i64)) x) ((cA3 (cI .i64)) x)=true:=by simp [cA3,cI,Zae,Zew,A3.list]
theorem sf5(x:A5 Int):Zae ((cA5 (cI .i64)) x) ((cA5 (cI .i64)) x)=true:=by simp [cA5,cI,Zae,Zew,A5.list]
theorem sf6(x:A6 Int):Zae ((cA6 (cI .i64)) x) ((cA6 (cI .i64)) x)=true:=by simp [cA6,cI,Zae,Zew,A6.list]
theorem Zy5(x:Zhg):Zae (Zdw x) (Zdw x)=true:=by
 unfold Zdw;repeat' first | exact sfI _ _ | exact sfB _ | exact sfS _ | exact sf3 _ | exact sf5 _ | exact sf6 _ | refine sfA ?_ ?_
theorem Zw5(x:Zt9):Zae (Zlo x) (Zlo x)=true:=by
 unfold Zlo;repeat' first | exact sfI _ _ | exact sfB _ | exact sfS _ | exact sf3 _ | exact sf5 _ | exact sf6 _ | refine sfA ?_ ?_
theorem Zfl(x:Zcs):Zae (Zbs x) (Zbs x)=true:=by
 unfold Zbs;repeat' first | exact sfI _ _ | exact sfB _ | exact sfS _ | exact sf3 _ | exact sf5 _ | exact sf6 _ | exact Zy5 _ | refine sfA ?_ ?_
theorem Zw6(x:Zos):Zae (Zik x) (Zik x)=true:=by
 unfold Zik;repeat' first | exact sfI _ _ | exact sfB _ | exact sfS _ | exact sf3 _ | exact sf5 _ | exact sf6 _ | exact Zfl _ | exact Zw5 _ | refine sfA ?_ ?_
theorem Zua(x:Znh):Zae (Zh2 x) (Zh2 x)=true:=by
 unfold Zh2;repeat' first | exact sfI _ _ | exact sfB _ | exact sfS _ | exact sf3 _ | exact sf5 _ | exact sf6 _ | refine sfA ?_ ?_
theorem Zy6(x:Zqf):Zae (Zjf x) (Zjf x)=true:=by
 unfold Zjf;repeat' first | exact sfI _ _ | exact sfB _ | exact sfS _ | exact sf3 _ | exact sf5 _ | exact sf6 _ | exact Zua _ | refine sfA ?_ ?_
theorem Z03(x:Zt8):Zae (Zln x) (Zln x)=true:=by
 unfold Zln;repeat' first | exact sfI _ _ | exact sfB _ | exact sfS _ | exact sf3 _ | exact sf5 _ | exact sf6 _ | exact Zfl _ | refine sfA ?_ ?_
theorem Z0e(x:Zsq):Zae (Zkl x) (Zkl x)=true:=by
 unfold Zkl;repeat' first | exact sfI _ _ | exact sfB _ | exact sfS _ | exact sf3 _ | exact sf5 _ | exact sf6 _ | exact Zfl _ | refine sfA ?_ ?_
theorem Zvl(x:Zmo):Zae (Zhq x) (Zhq x)=true:=by
 unfold Zhq;repeat' first | exact sfI _ _ | exact sfB _ | exact sfS _ | exact sf3 _ | exact sf5 _ | exact sf6 _ | exact Zfl _ | refine sfA ?_ ?_
theorem Zvm(x:Zmp):Zae (Zhr x) (Zhr x)=true:=by
 unfold Zhr;repeat' first | exact sfI _ _ | exact sfB _ | exact sfS _ | exact sf3 _ | exact sf5 _ | exact sf6 _ | exact Zfl _ | refine sfA ?_ ?_
theorem sm{p:Prop}(h:p:=by intro h;subst h;first | rfl | (exfalso;omega) | grind [Zw5,Zfl,Zw6,Zua,Zy6,Z03,Z0e,Zvl,Zvm,sf6]):p:=h
theorem Zfm{α:Type}{P:α->Prop}{l:List α}{v:Int}(h:∀ (k:Nat) x,(k:Int) < v->l[k]?=some x->P x)(hv:(l.length:Int)<=v):∀ x,x∈l->P x:=fun x hx=>by
 obtain⟨k,hk⟩:=List.mem_iff_getElem?.1 hx
 have:=(List.getElem?_eq_some_iff.1 hk).1
 exact h k x (by omega) hk
end Go.PW
