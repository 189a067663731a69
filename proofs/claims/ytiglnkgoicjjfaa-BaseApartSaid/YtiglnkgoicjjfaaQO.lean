import Derived.Test.YtiglnkgoicjjfaaQT
import Derived.Test.YtiglnkgoicjjfaaQE
set_option linter.all false
set_option maxRecDepth 100000
namespace Go.PW
open Go.RowKit
theorem Znt:∀ (d:Nat) (ts:List Za),WT Go.Proofs.Try.prog d 29 ts->∃ x,ts=Za1 x/\Zly x:=by
 intro d ts h
 cases d with
 | zero=>cases h
 | succ d=>
  simp only [WT,Go.Proofs.Try.underlying29] at h
  replace h:Seq (WT Go.Proofs.Try.prog d) [3,3,27] ts:=h
  simp only [Seq] at h
  obtain⟨_,_,rfl,h0,_,_,rfl,h1,_,_,rfl,h2,rfl⟩:=h
  obtain⟨x0,rfl,o0⟩:=(Zad Go.Proofs.Try.underlying3) d _ h0
  obtain⟨x1,rfl,o1⟩:=(Zad Go.Proofs.Try.underlying3) d _ h1
  obtain⟨x2,rfl,o2⟩:=(Z5o Go.Proofs.Try.underlying27 (Zad Go.Proofs.Try.underlying3)) d _ h2
  exact⟨⟨x0,x1,x2⟩,by simp only [Za1,List.append_nil],o0,o1,o2⟩
theorem Zuf:∀ (d:Nat) (ts:List Za),WT Go.Proofs.Try.prog d 32 ts->∃ x,ts=Zh8 x/\Zlz x:=by
 intro d ts h
 cases d with
 | zero=>cases h
 | succ d=>
  simp only [WT,Go.Proofs.Try.underlying32] at h
  replace h:Seq (WT Go.Proofs.Try.prog d) [3,3,30] ts:=h
  simp only [Seq] at h
  obtain⟨_,_,rfl,h0,_,_,rfl,h1,_,_,rfl,h2,rfl⟩:=h
  obtain⟨x0,rfl,o0⟩:=(Zad Go.Proofs.Try.underlying3) d _ h0
  obtain⟨x1,rfl,o1⟩:=(Zad Go.Proofs.Try.underlying3) d _ h1
  obtain⟨x2,rfl,o2⟩:=(Zis Go.Proofs.Try.underlying30 (by kernel_rfl:Go.Proofs.Try.prog.bytesOf 9=16) (Zog Go.Proofs.Try.underlying9)) d _ h2
  exact⟨⟨x0,x1,x2⟩,by simp only [Zh8,List.append_nil],o0,o1,o2⟩
theorem Zi6:∀ (d:Nat) (ts:List Za),WT Go.Proofs.Try.prog d 39 ts->∃ x,ts=Zdo x/\Zif x:=by
 intro d ts h
 cases d with
 | zero=>cases h
 | succ d=>
  simp only [WT,Go.Proofs.Try.underlying39] at h
  replace h:Seq (WT Go.Proofs.Try.prog d) [3,3] ts:=h
  simp only [Seq] at h
  obtain⟨_,_,rfl,h0,_,_,rfl,h1,rfl⟩:=h
  obtain⟨x0,rfl,o0⟩:=(Zad Go.Proofs.Try.underlying3) d _ h0
  obtain⟨x1,rfl,o1⟩:=(Zad Go.Proofs.Try.underlying3) d _ h1
  exact⟨⟨x0,x1⟩,by simp only [Zdo,List.append_nil],o0,o1⟩
theorem Zcs:∀ (d:Nat) (ts:List Za),WT Go.Proofs.Try.prog d 41 ts->∃ x,ts=Zap x/\Zch x:=by
 intro d ts h
 cases d with
 | zero=>cases h
 | succ d=>
  simp only [WT,Go.Proofs.Try.underlying41] at h
  replace h:Seq (WT Go.Proofs.Try.prog d) [3,3,3,3,3,3,3,9,3,3,39,39,39] ts:=h
  simp only [Seq] at h
  obtain⟨_,_,rfl,h0,_,_,rfl,h1,_,_,rfl,h2,_,_,rfl,h3,_,_,rfl,h4,_,_,rfl,h5,_,_,rfl,h6,_,_,rfl,h7,_,_,rfl,h8,_,_,rfl,h9,_,_,rfl,h10,_,_,rfl,h11,_,_,rfl,h12,rfl⟩:=h
  obtain⟨x0,rfl,o0⟩:=(Zad Go.Proofs.Try.underlying3) d _ h0
  obtain⟨x1,rfl,o1⟩:=(Zad Go.Proofs.Try.underlying3) d _ h1
  obtain⟨x2,rfl,o2⟩:=(Zad Go.Proofs.Try.underlying3) d _ h2
  obtain⟨x3,rfl,o3⟩:=(Zad Go.Proofs.Try.underlying3) d _ h3
  obtain⟨x4,rfl,o4⟩:=(Zad Go.Proofs.Try.underlying3) d _ h4
  obtain⟨x5,rfl,o5⟩:=(Zad Go.Proofs.Try.underlying3) d _ h5
  obtain⟨x6,rfl,o6⟩:=(Zad Go.Proofs.Try.underlying3) d _ h6
  obtain⟨x7,rfl,o7⟩:=(Zog Go.Proofs.Try.underlying9) d _ h7
  obtain⟨x8,rfl,o8⟩:=(Zad Go.Proofs.Try.underlying3) d _ h8
  obtain⟨x9,rfl,o9⟩:=(Zad Go.Proofs.Try.underlying3) d _ h9
  obtain⟨x10,rfl,o10⟩:=Zi6 d _ h10
  obtain⟨x11,rfl,o11⟩:=Zi6 d _ h11
  obtain⟨x12,rfl,o12⟩:=Zi6 d _ h12
  exact⟨⟨x0,x1,x2,x3,x4,x5,x6,x7,x8,x9,x10,x11,x12⟩,by simp only [Zap,List.append_nil],o0,o1,o2,o3,o4,o5,o6,o7,o8,o9,o10,o11,o12⟩
theorem Zow:∀ (d:Nat) (ts:List Za),WT Go.Proofs.Try.prog d 54 ts->∃ x,ts=Zj x/\Zki x:=by
 intro d ts h
 cases d with
 | zero=>cases h
 | succ d=>
  simp only [WT,Go.Proofs.Try.underlying54] at h
  replace h:Seq (WT Go.Proofs.Try.prog d) [3,3,3,9,41] ts:=h
  simp only [Seq] at h
  obtain⟨_,_,rfl,h0,_,_,rfl,h1,_,_,rfl,h2,_,_,rfl,h3,_,_,rfl,h4,rfl⟩:=h
  obtain⟨x0,rfl,o0⟩:=(Zad Go.Proofs.Try.underlying3) d _ h0
  obtain⟨x1,rfl,o1⟩:=(Zad Go.Proofs.Try.underlying3) d _ h1
  obtain⟨x2,rfl,o2⟩:=(Zad Go.Proofs.Try.underlying3) d _ h2
  obtain⟨x3,rfl,o3⟩:=(Zog Go.Proofs.Try.underlying9) d _ h3
  obtain⟨x4,rfl,o4⟩:=Zcs d _ h4
  exact⟨⟨x0,x1,x2,x3,x4⟩,by simp only [Zj,List.append_nil],o0,o1,o2,o3,o4⟩
theorem Ztj:∀ (d:Nat) (ts:List Za),WT Go.Proofs.Try.prog d 44 ts->∃ x,ts=Zcv x/\Zoq x:=by
 intro d ts h
 cases d with
 | zero=>cases h
 | succ d=>
  simp only [WT,Go.Proofs.Try.underlying44] at h
  replace h:Seq (WT Go.Proofs.Try.prog d) [29,4,4,3] ts:=h
  simp only [Seq] at h
  obtain⟨_,_,rfl,h0,_,_,rfl,h1,_,_,rfl,h2,_,_,rfl,h3,rfl⟩:=h
  obtain⟨x0,rfl,o0⟩:=Znt d _ h0
  obtain⟨x1,rfl,o1⟩:=(Zem Go.Proofs.Try.underlying4) d _ h1
  obtain⟨x2,rfl,o2⟩:=(Zem Go.Proofs.Try.underlying4) d _ h2
  obtain⟨x3,rfl,o3⟩:=(Zad Go.Proofs.Try.underlying3) d _ h3
  exact⟨⟨x0,x1,x2,x3⟩,by simp only [Zcv,List.append_nil],o0,o1,o2,o3⟩
theorem Zqs:∀ (d:Nat) (ts:List Za),WT Go.Proofs.Try.prog d 46 ts->∃ x,ts=Zb1 x/\Ziz x:=by
 intro d ts h
 cases d with
 | zero=>cases h
 | succ d=>
  simp only [WT,Go.Proofs.Try.underlying46] at h
  replace h:Seq (WT Go.Proofs.Try.prog d) [3,3,41] ts:=h
  simp only [Seq] at h
  obtain⟨_,_,rfl,h0,_,_,rfl,h1,_,_,rfl,h2,rfl⟩:=h
  obtain⟨x0,rfl,o0⟩:=(Zad Go.Proofs.Try.underlying3) d _ h0
  obtain⟨x1,rfl,o1⟩:=(Zad Go.Proofs.Try.underlying3) d _ h1
  obtain⟨x2,rfl,o2⟩:=Zcs d _ h2
  exact⟨⟨x0,x1,x2⟩,by simp only [Zb1,List.append_nil],o0,o1,o2⟩
theorem Zug:∀ (d:Nat) (ts:List Za),WT Go.Proofs.Try.prog d 56 ts->∃ x,ts=Zm x/\Zl0 x:=by
 intro d ts h
 cases d with
 | zero=>cases h
 | succ d=>
  simp only [WT,Go.Proofs.Try.underlying56] at h
  replace h:Seq (WT Go.Proofs.Try.prog d) [4,4,41] ts:=h
  simp only [Seq] at h
  obtain⟨_,_,rfl,h0,_,_,rfl,h1,_,_,rfl,h2,rfl⟩:=h
  obtain⟨x0,rfl,o0⟩:=(Zem Go.Proofs.Try.underlying4) d _ h0
  obtain⟨x1,rfl,o1⟩:=(Zem Go.Proofs.Try.underlying4) d _ h1
  obtain⟨x2,rfl,o2⟩:=Zcs d _ h2
  exact⟨⟨x0,x1,x2⟩,by simp only [Zm,List.append_nil],o0,o1,o2⟩
theorem Zww:∀ (d:Nat) (ts:List Za),WT Go.Proofs.Try.prog d 58 ts->∃ x,ts=Zdt x/\Zm5 x:=by
 intro d ts h
 cases d with
 | zero=>cases h
 | succ d=>
  simp only [WT,Go.Proofs.Try.underlying58] at h
  replace h:Seq (WT Go.Proofs.Try.prog d) [3,3,41] ts:=h
  simp only [Seq] at h
  obtain⟨_,_,rfl,h0,_,_,rfl,h1,_,_,rfl,h2,rfl⟩:=h
  obtain⟨x0,rfl,o0⟩:=(Zad Go.Proofs.Try.underlying3) d _ h0
  obtain⟨x1,rfl,o1⟩:=(Zad Go.Proofs.Try.underlying3) d _ h1
  obtain⟨x2,rfl,o2⟩:=Zcs d _ h2
  exact⟨⟨x0,x1,x2⟩,by simp only [Zdt,List.append_nil],o0,o1,o2⟩
theorem Zsi:∀ (d:Nat) (ts:List Za),WT Go.Proofs.Try.prog d 60 ts->∃ x,ts=Zcc x/\Zj5 x:=by
 intro d ts h
 cases d with
 | zero=>cases h
 | succ d=>
  simp only [WT,Go.Proofs.Try.underlying60] at h
  replace h:Seq (WT Go.Proofs.Try.prog d) [3,3,3,41] ts:=h
  simp only [Seq] at h
  obtain⟨_,_,rfl,h0,_,_,rfl,h1,_,_,rfl,h2,_,_,rfl,h3,rfl⟩:=h
  obtain⟨x0,rfl,o0⟩:=(Zad Go.Proofs.Try.underlying3) d _ h0
  obtain⟨x1,rfl,o1⟩:=(Zad Go.Proofs.Try.underlying3) d _ h1
  obtain⟨x2,rfl,o2⟩:=(Zad Go.Proofs.Try.underlying3) d _ h2
  obtain⟨x3,rfl,o3⟩:=Zcs d _ h3
  exact⟨⟨x0,x1,x2,x3⟩,by simp only [Zcc,List.append_nil],o0,o1,o2,o3⟩
theorem Zsj:∀ (d:Nat) (ts:List Za),WT Go.Proofs.Try.prog d 64 ts->∃ x,ts=Zf x/\Zj6 x:=by
 intro d ts h
 cases d with
 | zero=>cases h
 | succ d=>
  simp only [WT,Go.Proofs.Try.underlying64] at h
  replace h:Seq (WT Go.Proofs.Try.prog d) [3,58,60,3,3,9,41,62,42] ts:=h
  simp only [Seq] at h
  obtain⟨_,_,rfl,h0,_,_,rfl,h1,_,_,rfl,h2,_,_,rfl,h3,_,_,rfl,h4,_,_,rfl,h5,_,_,rfl,h6,_,_,rfl,h7,_,_,rfl,h8,rfl⟩:=h
  obtain⟨x0,rfl,o0⟩:=(Zad Go.Proofs.Try.underlying3) d _ h0
  obtain⟨x1,rfl,o1⟩:=Zww d _ h1
  obtain⟨x2,rfl,o2⟩:=Zsi d _ h2
  obtain⟨x3,rfl,o3⟩:=(Zad Go.Proofs.Try.underlying3) d _ h3
  obtain⟨x4,rfl,o4⟩:=(Zad Go.Proofs.Try.underlying3) d _ h4
  obtain⟨x5,rfl,o5⟩:=(Zog Go.Proofs.Try.underlying9) d _ h5
  obtain⟨x6,rfl,o6⟩:=Zcs d _ h6
  obtain⟨x7,rfl,o7⟩:=(Z5p Go.Proofs.Try.underlying62 (Zad Go.Proofs.Try.underlying3)) d _ h7
  obtain⟨x8,rfl,o8⟩:=(Zis Go.Proofs.Try.underlying42 (by kernel_rfl:Go.Proofs.Try.prog.bytesOf 54=176) Zow) d _ h8
  exact⟨⟨x0,x1,x2,x3,x4,x5,x6,x7,x8⟩,by simp only [Zf,List.append_nil],o0,o1,o2,o3,o4,o5,o6,o7,o8⟩
theorem Zqt:∀ (d:Nat) (ts:List Za),WT Go.Proofs.Try.prog d 50 ts->∃ x,ts=Zb2 x/\Zi0 x:=by
 intro d ts h
 cases d with
 | zero=>cases h
 | succ d=>
  simp only [WT,Go.Proofs.Try.underlying50] at h
  replace h:Seq (WT Go.Proofs.Try.prog d) [3,3,41,3,3,3,3] ts:=h
  simp only [Seq] at h
  obtain⟨_,_,rfl,h0,_,_,rfl,h1,_,_,rfl,h2,_,_,rfl,h3,_,_,rfl,h4,_,_,rfl,h5,_,_,rfl,h6,rfl⟩:=h
  obtain⟨x0,rfl,o0⟩:=(Zad Go.Proofs.Try.underlying3) d _ h0
  obtain⟨x1,rfl,o1⟩:=(Zad Go.Proofs.Try.underlying3) d _ h1
  obtain⟨x2,rfl,o2⟩:=Zcs d _ h2
  obtain⟨x3,rfl,o3⟩:=(Zad Go.Proofs.Try.underlying3) d _ h3
  obtain⟨x4,rfl,o4⟩:=(Zad Go.Proofs.Try.underlying3) d _ h4
  obtain⟨x5,rfl,o5⟩:=(Zad Go.Proofs.Try.underlying3) d _ h5
  obtain⟨x6,rfl,o6⟩:=(Zad Go.Proofs.Try.underlying3) d _ h6
  exact⟨⟨x0,x1,x2,x3,x4,x5,x6⟩,by simp only [Zb2,List.append_nil],o0,o1,o2,o3,o4,o5,o6⟩
theorem Zqu:∀ (d:Nat) (ts:List Za),WT Go.Proofs.Try.prog d 52 ts->∃ x,ts=Zc x/\Zi1 x:=by
 intro d ts h
 cases d with
 | zero=>cases h
 | succ d=>
  simp only [WT,Go.Proofs.Try.underlying52] at h
  replace h:Seq (WT Go.Proofs.Try.prog d) [3,41,42,44,4,46,4,47,48,50] ts:=h
  simp only [Seq] at h
  obtain⟨_,_,rfl,h0,_,_,rfl,h1,_,_,rfl,h2,_,_,rfl,h3,_,_,rfl,h4,_,_,rfl,h5,_,_,rfl,h6,_,_,rfl,h7,_,_,rfl,h8,_,_,rfl,h9,rfl⟩:=h
  obtain⟨x0,rfl,o0⟩:=(Zad Go.Proofs.Try.underlying3) d _ h0
  obtain⟨x1,rfl,o1⟩:=Zcs d _ h1
  obtain⟨x2,rfl,o2⟩:=(Zis Go.Proofs.Try.underlying42 (by kernel_rfl:Go.Proofs.Try.prog.bytesOf 54=176) Zow) d _ h2
  obtain⟨x3,rfl,o3⟩:=Ztj d _ h3
  obtain⟨x4,rfl,o4⟩:=(Zem Go.Proofs.Try.underlying4) d _ h4
  obtain⟨x5,rfl,o5⟩:=Zqs d _ h5
  obtain⟨x6,rfl,o6⟩:=(Zem Go.Proofs.Try.underlying4) d _ h6
  obtain⟨x7,rfl,o7⟩:=(Zis Go.Proofs.Try.underlying47 (by kernel_rfl:Go.Proofs.Try.prog.bytesOf 56=144) Zug) d _ h7
  obtain⟨x8,rfl,o8⟩:=(Zis Go.Proofs.Try.underlying48 (by kernel_rfl:Go.Proofs.Try.prog.bytesOf 64=560) Zsj) d _ h8
  obtain⟨x9,rfl,o9⟩:=Zqt d _ h9
  exact⟨⟨x0,x1,x2,x3,x4,x5,x6,x7,x8,x9⟩,by simp only [Zc,List.append_nil],o0,o1,o2,o3,o4,o5,o6,o7,o8,o9⟩
theorem Zuh:∀ (d:Nat) (ts:List Za),WT Go.Proofs.Try.prog d 80 ts->∃ x,ts=Zae x/\Zpz x:=by
 intro d ts h
 cases d with
 | zero=>cases h
 | succ d=>
  simp only [WT,Go.Proofs.Try.underlying80] at h
  replace h:Seq (WT Go.Proofs.Try.prog d) [9,4,29,3,32,3,3,3,33] ts:=h
  simp only [Seq] at h
  obtain⟨_,_,rfl,h0,_,_,rfl,h1,_,_,rfl,h2,_,_,rfl,h3,_,_,rfl,h4,_,_,rfl,h5,_,_,rfl,h6,_,_,rfl,h7,_,_,rfl,h8,rfl⟩:=h
  obtain⟨x0,rfl,o0⟩:=(Zog Go.Proofs.Try.underlying9) d _ h0
  obtain⟨x1,rfl,o1⟩:=(Zem Go.Proofs.Try.underlying4) d _ h1
  obtain⟨x2,rfl,o2⟩:=Znt d _ h2
  obtain⟨x3,rfl,o3⟩:=(Zad Go.Proofs.Try.underlying3) d _ h3
  obtain⟨x4,rfl,o4⟩:=Zuf d _ h4
  obtain⟨x5,rfl,o5⟩:=(Zad Go.Proofs.Try.underlying3) d _ h5
  obtain⟨x6,rfl,o6⟩:=(Zad Go.Proofs.Try.underlying3) d _ h6
  obtain⟨x7,rfl,o7⟩:=(Zad Go.Proofs.Try.underlying3) d _ h7
  obtain⟨x8,rfl,o8⟩:=(Zis Go.Proofs.Try.underlying33 (by kernel_rfl:Go.Proofs.Try.prog.bytesOf 52=640) Zqu) d _ h8
  exact⟨⟨x0,x1,x2,x3,x4,x5,x6,x7,x8⟩,by simp only [Zae,List.append_nil],o0,o1,o2,o3,o4,o5,o6,o7,o8⟩
theorem Zsk:∀ (d:Nat) (ts:List Za),WT Go.Proofs.Try.prog d 25 ts->∃ x,ts=Zau x/\Zud x:=by
 intro d ts h
 cases d with
 | zero=>cases h
 | succ d=>
  simp only [WT,Go.Proofs.Try.underlying25] at h
  replace h:Seq (WT Go.Proofs.Try.prog d) [3,3,3,3,3,4,4,4,4,3,23,3,3,3,4,3,3] ts:=h
  simp only [Seq] at h
  obtain⟨_,_,rfl,h0,_,_,rfl,h1,_,_,rfl,h2,_,_,rfl,h3,_,_,rfl,h4,_,_,rfl,h5,_,_,rfl,h6,_,_,rfl,h7,_,_,rfl,h8,_,_,rfl,h9,_,_,rfl,h10,_,_,rfl,h11,_,_,rfl,h12,_,_,rfl,h13,_,_,rfl,h14,_,_,rfl,h15,_,_,rfl,h16,rfl⟩:=h
  obtain⟨x0,rfl,o0⟩:=(Zad Go.Proofs.Try.underlying3) d _ h0
  obtain⟨x1,rfl,o1⟩:=(Zad Go.Proofs.Try.underlying3) d _ h1
  obtain⟨x2,rfl,o2⟩:=(Zad Go.Proofs.Try.underlying3) d _ h2
  obtain⟨x3,rfl,o3⟩:=(Zad Go.Proofs.Try.underlying3) d _ h3
  obtain⟨x4,rfl,o4⟩:=(Zad Go.Proofs.Try.underlying3) d _ h4
  obtain⟨x5,rfl,o5⟩:=(Zem Go.Proofs.Try.underlying4) d _ h5
  obtain⟨x6,rfl,o6⟩:=(Zem Go.Proofs.Try.underlying4) d _ h6
  obtain⟨x7,rfl,o7⟩:=(Zem Go.Proofs.Try.underlying4) d _ h7
  obtain⟨x8,rfl,o8⟩:=(Zem Go.Proofs.Try.underlying4) d _ h8
  obtain⟨x9,rfl,o9⟩:=(Zad Go.Proofs.Try.underlying3) d _ h9
  obtain⟨x10,rfl,o10⟩:=(Z5n Go.Proofs.Try.underlying23 (Zad Go.Proofs.Try.underlying3)) d _ h10
  obtain⟨x11,rfl,o11⟩:=(Zad Go.Proofs.Try.underlying3) d _ h11
  obtain⟨x12,rfl,o12⟩:=(Zad Go.Proofs.Try.underlying3) d _ h12
  obtain⟨x13,rfl,o13⟩:=(Zad Go.Proofs.Try.underlying3) d _ h13
  obtain⟨x14,rfl,o14⟩:=(Zem Go.Proofs.Try.underlying4) d _ h14
  obtain⟨x15,rfl,o15⟩:=(Zad Go.Proofs.Try.underlying3) d _ h15
  obtain⟨x16,rfl,o16⟩:=(Zad Go.Proofs.Try.underlying3) d _ h16
  exact⟨⟨x0,x1,x2,x3,x4,x5,x6,x7,x8,x9,x10,x11,x12,x13,x14,x15,x16⟩,by simp only [Zau,List.append_nil],o0,o1,o2,o3,o4,o5,o6,o7,o8,o9,o10,o11,o12,o13,o14,o15,o16⟩
end Go.PW
