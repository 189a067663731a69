import Derived.Test.YtiglnkgoicjjfaaQT
import Derived.Test.YtiglnkgoicjjfaaQE
set_option linter.all false
set_option maxRecDepth 100000
namespace Go.PW
open Go.RowKit
theorem Zo1:∀ (d:Nat) (ts:List Za),WT Go.Proofs.Try.prog d 94 ts->∃ x,ts=Zl x/\Zkz x:=by
 intro d ts h
 cases d with
 | zero=>cases h
 | succ d=>
  simp only [WT,Go.Proofs.Try.underlying94] at h
  replace h:Seq (WT Go.Proofs.Try.prog d) [3,3,3] ts:=h
  simp only [Seq] at h
  obtain⟨_,_,rfl,h0,_,_,rfl,h1,_,_,rfl,h2,rfl⟩:=h
  obtain⟨x0,rfl,o0⟩:=(Zez Go.Proofs.Try.underlying3) d _ h0
  obtain⟨x1,rfl,o1⟩:=(Zez Go.Proofs.Try.underlying3) d _ h1
  obtain⟨x2,rfl,o2⟩:=(Zez Go.Proofs.Try.underlying3) d _ h2
  exact⟨⟨x0,x1,x2⟩,by simp only [Zl,List.append_nil],o0,o1,o2⟩
theorem Zo2:∀ (d:Nat) (ts:List Za),WT Go.Proofs.Try.prog d 70 ts->∃ x,ts=Zp x/\Zk0 x:=by
 intro d ts h
 cases d with
 | zero=>cases h
 | succ d=>
  simp only [WT,Go.Proofs.Try.underlying70] at h
  replace h:Seq (WT Go.Proofs.Try.prog d) [3,3,3,3,3,3,68] ts:=h
  simp only [Seq] at h
  obtain⟨_,_,rfl,h0,_,_,rfl,h1,_,_,rfl,h2,_,_,rfl,h3,_,_,rfl,h4,_,_,rfl,h5,_,_,rfl,h6,rfl⟩:=h
  obtain⟨x0,rfl,o0⟩:=(Zez Go.Proofs.Try.underlying3) d _ h0
  obtain⟨x1,rfl,o1⟩:=(Zez Go.Proofs.Try.underlying3) d _ h1
  obtain⟨x2,rfl,o2⟩:=(Zez Go.Proofs.Try.underlying3) d _ h2
  obtain⟨x3,rfl,o3⟩:=(Zez Go.Proofs.Try.underlying3) d _ h3
  obtain⟨x4,rfl,o4⟩:=(Zez Go.Proofs.Try.underlying3) d _ h4
  obtain⟨x5,rfl,o5⟩:=(Zez Go.Proofs.Try.underlying3) d _ h5
  obtain⟨x6,rfl,o6⟩:=(Zps Go.Proofs.Try.underlying68 (by kernel_rfl:Go.Proofs.Try.prog.bytesOf 94=24) Zo1) d _ h6
  exact⟨⟨x0,x1,x2,x3,x4,x5,x6⟩,by simp only [Zp,List.append_nil],o0,o1,o2,o3,o4,o5,o6⟩
end Go.PW
