import Derived.Test.YtiglnkgoicjjfaaGreatQDb
set_option linter.all false
set_option maxRecDepth 100000
namespace Go.PW
open Go.RowKit
noncomputable section
inductive Zgc where
 | L0 (v1:Int) (E0:Z6) (E1:Za) (E2:Zj) (E3:Zj) (v8:Int)
 | L1 (v1:Int) (E0:Z6) (E1:Za) (E2:Zj) (E3:Zj) (v9:Int)
 | L2 (v1:Int) (E0:Z6) (E1:Za) (E2:Zj) (E3:Zj) (v10:Int)
 | L3 (v1:Int) (E0:Z6) (E1:Za) (E2:Zj) (E3:Zj) (v11:Int)
 | L4 (v1:Int) (E0:Z6) (E1:Za) (E2:Zj) (E3:Zj) (v12:Int)
 | L5 (v1:Int) (E0:Z6) (E1:Za) (E2:Zj) (E3:Zj) (v12:Int) (v13:Int)
def Ztp(v1:Int)(E0:Z6)(E1:Za)(E2:Zj)(E3:Zj)(v8:Int):LT Zgc Bool:=
.len Zc E3.Objects<|.br (decide (v8 < (E3.Objects.length:Int))) (.idx Zc E3.Objects v8 fun x3=>.g0 (.L0 v1 E0 E1 E2 E3 (IntKind.wrap .i64 (v8+1))))<|.g0 (.L1 v1 E0 E1 E2 E3 0)
def Ztq(v1:Int)(E0:Z6)(E1:Za)(E2:Zj)(E3:Zj)(v9:Int):LT Zgc Bool:=
.len (cI .i64) E3.Hand<|.br (decide (v9 < (E3.Hand.length:Int))) (.idx (cI .i64) E3.Hand v9 fun x3=>.g0 (.L1 v1 E0 E1 E2 E3 (IntKind.wrap .i64 (v9+1))))<|.g0 (.L2 v1 E0 E1 E2 E3 0)
def Ztr(v1:Int)(E0:Z6)(E1:Za)(E2:Zj)(E3:Zj)(v10:Int):LT Zgc Bool:=
.len (cI .i64) E3.Battlefield<|.br (decide (v10 < (E3.Battlefield.length:Int))) (.idx (cI .i64) E3.Battlefield v10 fun x3=>.g0 (.L2 v1 E0 E1 E2 E3 (IntKind.wrap .i64 (v10+1))))<|.g0 (.L3 v1 E0 E1 E2 E3 0)
def Zts(v1:Int)(E0:Z6)(E1:Za)(E2:Zj)(E3:Zj)(v11:Int):LT Zgc Bool:=
.len Zl E3.Pending.Options<|.br (decide (v11 < (E3.Pending.Options.length:Int))) (.idx Zl E3.Pending.Options v11 fun x3=>.g0 (.L3 v1 E0 E1 E2 E3 (IntKind.wrap .i64 (v11+1))))<|.g0 (.L4 v1 E0 E1 E2 E3 0)
def Ztt(v1:Int)(E0:Z6)(E1:Za)(E2:Zj)(E3:Zj)(v12:Int):LT Zgc Bool:=
.len Z8 E3.Players<|.br (decide (v12 < (E3.Players.length:Int))) (.g0 (.L5 v1 E0 E1 E2 E3 v12 0))<|.call (Zabk E0.State E1) fun x3=>.cs x3 (.k3 1<|.call (Z41 E0 v1) fun x6=>.k2 1<|.call (Zaq9 x6 E2) fun x8=>.kg 1<|.cs x8 (.kg 2<|.call (Z8e) fun x11=>.kg 2<|.rt x11)<|.k2 2<|.rt false)<|.k5 1<|.kg 1<|.b2 false<|.rt false
def Ztu(v1:Int)(E0:Z6)(E1:Za)(E2:Zj)(E3:Zj)(v12:Int)(v13:Int):LT Zgc Bool:=
.idx Z8 E3.Players v12 fun x1=>.len (cI .i64) x1.Graveyard<|.br (decide (v13 < (x1.Graveyard.length:Int))) (.ag Z8 x1 0<|.idx (cI .i64) x1.Graveyard v13 fun x5=>.g0 (.L5 v1 E0 E1 E2 E3 v12 (IntKind.wrap .i64 (v13+1))))<|.g0 (.L4 v1 E0 E1 E2 E3 (IntKind.wrap .i64 (v12+1)))
def Z5z(a0:Z6)(a1:Int):LT Zgc Bool:=
.lb 1002<|.call (Zatr a0) fun x1=>.br (!x1) (.call (Z8e) fun x4=>.rt x4)<|.call (Zabg a0.State) fun x6=>.lb 1005<|.call (Zawa a0 a1) fun x8=>.lb 1006<|.callF (Zagn a0 a1) 270000 fun x10=>.lb 1007<|.dr [.ahead 8,.regh 276900,.stop]<|.go (.L0 a1 a0 x6 x8 x10 0) [.relab 1002 3000,.relab 1005 3001,.relab 1006 3002,.relab 1007 3003,.relab 276900 47000000]
def Z50:LF Zgc Bool := .m0 3 [.t 4] wB fun | .L0 v1 E0 E1 E2 E3 v8=>([1,1,1,1,1,0,1,4],⟨115,[(1,wI v1),(2,.bptr 3000 0),(5,.bptr 3001 0),(6,.bptr 3002 0),(7,.bptr 3003 0),(8,wI v8)],[(3000,.box (bx (Zb3 E0))),(3001,.box (bx (Zr E1))),(3002,.box (bx (Zeg E2))),(3003,.box (tm3 E3 47000000)),(47000000,.reg true)]⟩,Ztp v1 E0 E1 E2 E3 v8) | .L1 v1 E0 E1 E2 E3 v9=>([1,1,1,1,1,1,0,1,4],⟨115,[(1,wI v1),(2,.bptr 3000 0),(5,.bptr 3001 0),(6,.bptr 3002 0),(7,.bptr 3003 0),(9,wI v9)],[(3000,.box (bx (Zb3 E0))),(3001,.box (bx (Zr E1))),(3002,.box (bx (Zeg E2))),(3003,.box (tm3 E3 47000000)),(47000000,.reg true)]⟩,Ztq v1 E0 E1 E2 E3 v9) | .L2 v1 E0 E1 E2 E3 v10=>([1,1,1,1,1,1,1,0,1,4],⟨115,[(1,wI v1),(2,.bptr 3000 0),(5,.bptr 3001 0),(6,.bptr 3002 0),(7,.bptr 3003 0),(10,wI v10)],[(3000,.box (bx (Zb3 E0))),(3001,.box (bx (Zr E1))),(3002,.box (bx (Zeg E2))),(3003,.box (tm3 E3 47000000)),(47000000,.reg true)]⟩,Ztr v1 E0 E1 E2 E3 v10) | .L3 v1 E0 E1 E2 E3 v11=>([1,1,1,1,1,1,1,1,0,1,4],⟨115,[(1,wI v1),(2,.bptr 3000 0),(5,.bptr 3001 0),(6,.bptr 3002 0),(7,.bptr 3003 0),(11,wI v11)],[(3000,.box (bx (Zb3 E0))),(3001,.box (bx (Zr E1))),(3002,.box (bx (Zeg E2))),(3003,.box (tm3 E3 47000000)),(47000000,.reg true)]⟩,Zts v1 E0 E1 E2 E3 v11) | .L4 v1 E0 E1 E2 E3 v12=>([1,1,1,1,1,1,1,1,1,0,1,4],⟨115,[(1,wI v1),(2,.bptr 3000 0),(5,.bptr 3001 0),(6,.bptr 3002 0),(7,.bptr 3003 0),(12,wI v12)],[(3000,.box (bx (Zb3 E0))),(3001,.box (bx (Zr E1))),(3002,.box (bx (Zeg E2))),(3003,.box (tm3 E3 47000000)),(47000000,.reg true)]⟩,Ztt v1 E0 E1 E2 E3 v12) | .L5 v1 E0 E1 E2 E3 v12 v13=>([1,1,1,1,1,1,1,1,1,0,1,4,5,1,0,4,1,4],⟨115,[(1,wI v1),(2,.bptr 3000 0),(5,.bptr 3001 0),(6,.bptr 3002 0),(7,.bptr 3003 0),(12,wI v12),(13,wI v13)],[(3000,.box (bx (Zb3 E0))),(3001,.box (bx (Zr E1))),(3002,.box (bx (Zeg E2))),(3003,.box (tm3 E3 47000000)),(47000000,.reg true)]⟩,Ztu v1 E0 E1 E2 E3 v12 v13)
def Z2d:=fun a0 a1=>Z50.run (Z5z a0 a1)
theorem Zaif(a0)(a1){r}(h:Z2d a0 a1=some r):Fn PR 3 [wA (Zb3 a0),wI a1] (wB r):=Z50.fn h
end
end Go.PW
