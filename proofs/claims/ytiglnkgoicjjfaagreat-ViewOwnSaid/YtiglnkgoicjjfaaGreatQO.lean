import Derived.Test.YtiglnkgoicjjfaaGreatQT
import Derived.Test.YtiglnkgoicjjfaaGreatQE
set_option linter.all false
set_option maxRecDepth 100000
namespace Go.PW
open Go.RowKit
theorem Z6b:∀ (d:Nat) (ts:List Zb),WT Go.Proofs.Tryz.prog d 72 ts->∃ x,ts=Zb2 x/\Z2e x:=by
 intro d ts h
 cases d with
 | zero=>cases h
 | succ d=>
  simp only [WT,Go.Proofs.Tryz.underlying72] at h
  replace h:Seq (WT Go.Proofs.Tryz.prog d) [3,3,70] ts:=h
  simp only [Seq] at h
  obtain⟨_,_,rfl,h0,_,_,rfl,h1,_,_,rfl,h2,rfl⟩:=h
  obtain⟨x0,rfl,o0⟩:=(Z0 Go.Proofs.Tryz.underlying3) d _ h0
  obtain⟨x1,rfl,o1⟩:=(Z0 Go.Proofs.Tryz.underlying3) d _ h1
  obtain⟨x2,rfl,o2⟩:=(Za04 Go.Proofs.Tryz.underlying70 (Z0 Go.Proofs.Tryz.underlying3)) d _ h2
  exact⟨⟨x0,x1,x2⟩,by simp only [Zb2,List.append_nil],o0,o1,o2⟩
theorem Zak3:∀ (d:Nat) (ts:List Zb),WT Go.Proofs.Tryz.prog d 105 ts->∃ x,ts=Zoj x/\Z2f x:=by
 intro d ts h
 cases d with
 | zero=>cases h
 | succ d=>
  simp only [WT,Go.Proofs.Tryz.underlying105] at h
  replace h:Seq (WT Go.Proofs.Tryz.prog d) [3,3,103] ts:=h
  simp only [Seq] at h
  obtain⟨_,_,rfl,h0,_,_,rfl,h1,_,_,rfl,h2,rfl⟩:=h
  obtain⟨x0,rfl,o0⟩:=(Z0 Go.Proofs.Tryz.underlying3) d _ h0
  obtain⟨x1,rfl,o1⟩:=(Z0 Go.Proofs.Tryz.underlying3) d _ h1
  obtain⟨x2,rfl,o2⟩:=(Zen Go.Proofs.Tryz.underlying103 (by kernel_rfl:Go.Proofs.Tryz.prog.bytesOf 9=16) (Z6y Go.Proofs.Tryz.underlying9)) d _ h2
  exact⟨⟨x0,x1,x2⟩,by simp only [Zoj,List.append_nil],o0,o1,o2⟩
theorem Zt1:∀ (d:Nat) (ts:List Zb),WT Go.Proofs.Tryz.prog d 66 ts->∃ x,ts=Zgy x/\Zsf x:=by
 intro d ts h
 cases d with
 | zero=>cases h
 | succ d=>
  simp only [WT,Go.Proofs.Tryz.underlying66] at h
  replace h:Seq (WT Go.Proofs.Tryz.prog d) [3,3] ts:=h
  simp only [Seq] at h
  obtain⟨_,_,rfl,h0,_,_,rfl,h1,rfl⟩:=h
  obtain⟨x0,rfl,o0⟩:=(Z0 Go.Proofs.Tryz.underlying3) d _ h0
  obtain⟨x1,rfl,o1⟩:=(Z0 Go.Proofs.Tryz.underlying3) d _ h1
  exact⟨⟨x0,x1⟩,by simp only [Zgy,List.append_nil],o0,o1⟩
theorem Zgt:∀ (d:Nat) (ts:List Zb),WT Go.Proofs.Tryz.prog d 68 ts->∃ x,ts=Zy x/\Zgd x:=by
 intro d ts h
 cases d with
 | zero=>cases h
 | succ d=>
  simp only [WT,Go.Proofs.Tryz.underlying68] at h
  replace h:Seq (WT Go.Proofs.Tryz.prog d) [3,3,3,3,3,3,3,9,3,3,66,66,66] ts:=h
  simp only [Seq] at h
  obtain⟨_,_,rfl,h0,_,_,rfl,h1,_,_,rfl,h2,_,_,rfl,h3,_,_,rfl,h4,_,_,rfl,h5,_,_,rfl,h6,_,_,rfl,h7,_,_,rfl,h8,_,_,rfl,h9,_,_,rfl,h10,_,_,rfl,h11,_,_,rfl,h12,rfl⟩:=h
  obtain⟨x0,rfl,o0⟩:=(Z0 Go.Proofs.Tryz.underlying3) d _ h0
  obtain⟨x1,rfl,o1⟩:=(Z0 Go.Proofs.Tryz.underlying3) d _ h1
  obtain⟨x2,rfl,o2⟩:=(Z0 Go.Proofs.Tryz.underlying3) d _ h2
  obtain⟨x3,rfl,o3⟩:=(Z0 Go.Proofs.Tryz.underlying3) d _ h3
  obtain⟨x4,rfl,o4⟩:=(Z0 Go.Proofs.Tryz.underlying3) d _ h4
  obtain⟨x5,rfl,o5⟩:=(Z0 Go.Proofs.Tryz.underlying3) d _ h5
  obtain⟨x6,rfl,o6⟩:=(Z0 Go.Proofs.Tryz.underlying3) d _ h6
  obtain⟨x7,rfl,o7⟩:=(Z6y Go.Proofs.Tryz.underlying9) d _ h7
  obtain⟨x8,rfl,o8⟩:=(Z0 Go.Proofs.Tryz.underlying3) d _ h8
  obtain⟨x9,rfl,o9⟩:=(Z0 Go.Proofs.Tryz.underlying3) d _ h9
  obtain⟨x10,rfl,o10⟩:=Zt1 d _ h10
  obtain⟨x11,rfl,o11⟩:=Zt1 d _ h11
  obtain⟨x12,rfl,o12⟩:=Zt1 d _ h12
  exact⟨⟨x0,x1,x2,x3,x4,x5,x6,x7,x8,x9,x10,x11,x12⟩,by simp only [Zy,List.append_nil],o0,o1,o2,o3,o4,o5,o6,o7,o8,o9,o10,o11,o12⟩
theorem Zzp:∀ (d:Nat) (ts:List Zb),WT Go.Proofs.Tryz.prog d 138 ts->∃ x,ts=Zk x/\Zsg x:=by
 intro d ts h
 cases d with
 | zero=>cases h
 | succ d=>
  simp only [WT,Go.Proofs.Tryz.underlying138] at h
  replace h:Seq (WT Go.Proofs.Tryz.prog d) [3,3,3,9,68] ts:=h
  simp only [Seq] at h
  obtain⟨_,_,rfl,h0,_,_,rfl,h1,_,_,rfl,h2,_,_,rfl,h3,_,_,rfl,h4,rfl⟩:=h
  obtain⟨x0,rfl,o0⟩:=(Z0 Go.Proofs.Tryz.underlying3) d _ h0
  obtain⟨x1,rfl,o1⟩:=(Z0 Go.Proofs.Tryz.underlying3) d _ h1
  obtain⟨x2,rfl,o2⟩:=(Z0 Go.Proofs.Tryz.underlying3) d _ h2
  obtain⟨x3,rfl,o3⟩:=(Z6y Go.Proofs.Tryz.underlying9) d _ h3
  obtain⟨x4,rfl,o4⟩:=Zgt d _ h4
  exact⟨⟨x0,x1,x2,x3,x4⟩,by simp only [Zk,List.append_nil],o0,o1,o2,o3,o4⟩
theorem Zaiy:∀ (d:Nat) (ts:List Zb),WT Go.Proofs.Tryz.prog d 74 ts->∃ x,ts=Zei x/\Z8l x:=by
 intro d ts h
 cases d with
 | zero=>cases h
 | succ d=>
  simp only [WT,Go.Proofs.Tryz.underlying74] at h
  replace h:Seq (WT Go.Proofs.Tryz.prog d) [72,4,4,3] ts:=h
  simp only [Seq] at h
  obtain⟨_,_,rfl,h0,_,_,rfl,h1,_,_,rfl,h2,_,_,rfl,h3,rfl⟩:=h
  obtain⟨x0,rfl,o0⟩:=Z6b d _ h0
  obtain⟨x1,rfl,o1⟩:=(Zgv Go.Proofs.Tryz.underlying4) d _ h1
  obtain⟨x2,rfl,o2⟩:=(Zgv Go.Proofs.Tryz.underlying4) d _ h2
  obtain⟨x3,rfl,o3⟩:=(Z0 Go.Proofs.Tryz.underlying3) d _ h3
  exact⟨⟨x0,x1,x2,x3⟩,by simp only [Zei,List.append_nil],o0,o1,o2,o3⟩
theorem Zadp:∀ (d:Nat) (ts:List Zb),WT Go.Proofs.Tryz.prog d 76 ts->∃ x,ts=Zcz x/\Ztv x:=by
 intro d ts h
 cases d with
 | zero=>cases h
 | succ d=>
  simp only [WT,Go.Proofs.Tryz.underlying76] at h
  replace h:Seq (WT Go.Proofs.Tryz.prog d) [3,3,68] ts:=h
  simp only [Seq] at h
  obtain⟨_,_,rfl,h0,_,_,rfl,h1,_,_,rfl,h2,rfl⟩:=h
  obtain⟨x0,rfl,o0⟩:=(Z0 Go.Proofs.Tryz.underlying3) d _ h0
  obtain⟨x1,rfl,o1⟩:=(Z0 Go.Proofs.Tryz.underlying3) d _ h1
  obtain⟨x2,rfl,o2⟩:=Zgt d _ h2
  exact⟨⟨x0,x1,x2⟩,by simp only [Zcz,List.append_nil],o0,o1,o2⟩
theorem Zak4:∀ (d:Nat) (ts:List Zb),WT Go.Proofs.Tryz.prog d 155 ts->∃ x,ts=Z7 x/\Z2g x:=by
 intro d ts h
 cases d with
 | zero=>cases h
 | succ d=>
  simp only [WT,Go.Proofs.Tryz.underlying155] at h
  replace h:Seq (WT Go.Proofs.Tryz.prog d) [4,4,68] ts:=h
  simp only [Seq] at h
  obtain⟨_,_,rfl,h0,_,_,rfl,h1,_,_,rfl,h2,rfl⟩:=h
  obtain⟨x0,rfl,o0⟩:=(Zgv Go.Proofs.Tryz.underlying4) d _ h0
  obtain⟨x1,rfl,o1⟩:=(Zgv Go.Proofs.Tryz.underlying4) d _ h1
  obtain⟨x2,rfl,o2⟩:=Zgt d _ h2
  exact⟨⟨x0,x1,x2⟩,by simp only [Z7,List.append_nil],o0,o1,o2⟩
theorem Zaqa:∀ (d:Nat) (ts:List Zb),WT Go.Proofs.Tryz.prog d 122 ts->∃ x,ts=Zeh x/\Z46 x:=by
 intro d ts h
 cases d with
 | zero=>cases h
 | succ d=>
  simp only [WT,Go.Proofs.Tryz.underlying122] at h
  replace h:Seq (WT Go.Proofs.Tryz.prog d) [3,3,68] ts:=h
  simp only [Seq] at h
  obtain⟨_,_,rfl,h0,_,_,rfl,h1,_,_,rfl,h2,rfl⟩:=h
  obtain⟨x0,rfl,o0⟩:=(Z0 Go.Proofs.Tryz.underlying3) d _ h0
  obtain⟨x1,rfl,o1⟩:=(Z0 Go.Proofs.Tryz.underlying3) d _ h1
  obtain⟨x2,rfl,o2⟩:=Zgt d _ h2
  exact⟨⟨x0,x1,x2⟩,by simp only [Zeh,List.append_nil],o0,o1,o2⟩
theorem Zaha:∀ (d:Nat) (ts:List Zb),WT Go.Proofs.Tryz.prog d 124 ts->∃ x,ts=Zbn x/\Zwd x:=by
 intro d ts h
 cases d with
 | zero=>cases h
 | succ d=>
  simp only [WT,Go.Proofs.Tryz.underlying124] at h
  replace h:Seq (WT Go.Proofs.Tryz.prog d) [3,3,3,68] ts:=h
  simp only [Seq] at h
  obtain⟨_,_,rfl,h0,_,_,rfl,h1,_,_,rfl,h2,_,_,rfl,h3,rfl⟩:=h
  obtain⟨x0,rfl,o0⟩:=(Z0 Go.Proofs.Tryz.underlying3) d _ h0
  obtain⟨x1,rfl,o1⟩:=(Z0 Go.Proofs.Tryz.underlying3) d _ h1
  obtain⟨x2,rfl,o2⟩:=(Z0 Go.Proofs.Tryz.underlying3) d _ h2
  obtain⟨x3,rfl,o3⟩:=Zgt d _ h3
  exact⟨⟨x0,x1,x2,x3⟩,by simp only [Zbn,List.append_nil],o0,o1,o2,o3⟩
theorem Zahb:∀ (d:Nat) (ts:List Zb),WT Go.Proofs.Tryz.prog d 126 ts->∃ x,ts=Zo x/\Zwe x:=by
 intro d ts h
 cases d with
 | zero=>cases h
 | succ d=>
  simp only [WT,Go.Proofs.Tryz.underlying126] at h
  replace h:Seq (WT Go.Proofs.Tryz.prog d) [3,122,124,3,3,9,68,52,69] ts:=h
  simp only [Seq] at h
  obtain⟨_,_,rfl,h0,_,_,rfl,h1,_,_,rfl,h2,_,_,rfl,h3,_,_,rfl,h4,_,_,rfl,h5,_,_,rfl,h6,_,_,rfl,h7,_,_,rfl,h8,rfl⟩:=h
  obtain⟨x0,rfl,o0⟩:=(Z0 Go.Proofs.Tryz.underlying3) d _ h0
  obtain⟨x1,rfl,o1⟩:=Zaqa d _ h1
  obtain⟨x2,rfl,o2⟩:=Zaha d _ h2
  obtain⟨x3,rfl,o3⟩:=(Z0 Go.Proofs.Tryz.underlying3) d _ h3
  obtain⟨x4,rfl,o4⟩:=(Z0 Go.Proofs.Tryz.underlying3) d _ h4
  obtain⟨x5,rfl,o5⟩:=(Z6y Go.Proofs.Tryz.underlying9) d _ h5
  obtain⟨x6,rfl,o6⟩:=Zgt d _ h6
  obtain⟨x7,rfl,o7⟩:=(Zayn Go.Proofs.Tryz.underlying52 (Z0 Go.Proofs.Tryz.underlying3)) d _ h7
  obtain⟨x8,rfl,o8⟩:=(Zen Go.Proofs.Tryz.underlying69 (by kernel_rfl:Go.Proofs.Tryz.prog.bytesOf 138=176) Zzp) d _ h8
  exact⟨⟨x0,x1,x2,x3,x4,x5,x6,x7,x8⟩,by simp only [Zo,List.append_nil],o0,o1,o2,o3,o4,o5,o6,o7,o8⟩
theorem Zadq:∀ (d:Nat) (ts:List Zb),WT Go.Proofs.Tryz.prog d 80 ts->∃ x,ts=Zb8 x/\Ztw x:=by
 intro d ts h
 cases d with
 | zero=>cases h
 | succ d=>
  simp only [WT,Go.Proofs.Tryz.underlying80] at h
  replace h:Seq (WT Go.Proofs.Tryz.prog d) [3,3,68,3,3,3,3] ts:=h
  simp only [Seq] at h
  obtain⟨_,_,rfl,h0,_,_,rfl,h1,_,_,rfl,h2,_,_,rfl,h3,_,_,rfl,h4,_,_,rfl,h5,_,_,rfl,h6,rfl⟩:=h
  obtain⟨x0,rfl,o0⟩:=(Z0 Go.Proofs.Tryz.underlying3) d _ h0
  obtain⟨x1,rfl,o1⟩:=(Z0 Go.Proofs.Tryz.underlying3) d _ h1
  obtain⟨x2,rfl,o2⟩:=Zgt d _ h2
  obtain⟨x3,rfl,o3⟩:=(Z0 Go.Proofs.Tryz.underlying3) d _ h3
  obtain⟨x4,rfl,o4⟩:=(Z0 Go.Proofs.Tryz.underlying3) d _ h4
  obtain⟨x5,rfl,o5⟩:=(Z0 Go.Proofs.Tryz.underlying3) d _ h5
  obtain⟨x6,rfl,o6⟩:=(Z0 Go.Proofs.Tryz.underlying3) d _ h6
  exact⟨⟨x0,x1,x2,x3,x4,x5,x6⟩,by simp only [Zb8,List.append_nil],o0,o1,o2,o3,o4,o5,o6⟩
theorem Zqv:∀ (d:Nat) (ts:List Zb),WT Go.Proofs.Tryz.prog d 82 ts->∃ x,ts=Zay x/\Zk3 x:=by
 intro d ts h
 cases d with
 | zero=>cases h
 | succ d=>
  simp only [WT,Go.Proofs.Tryz.underlying82] at h
  replace h:Seq (WT Go.Proofs.Tryz.prog d) [3,68,69,74,4,76,4,77,78,80] ts:=h
  simp only [Seq] at h
  obtain⟨_,_,rfl,h0,_,_,rfl,h1,_,_,rfl,h2,_,_,rfl,h3,_,_,rfl,h4,_,_,rfl,h5,_,_,rfl,h6,_,_,rfl,h7,_,_,rfl,h8,_,_,rfl,h9,rfl⟩:=h
  obtain⟨x0,rfl,o0⟩:=(Z0 Go.Proofs.Tryz.underlying3) d _ h0
  obtain⟨x1,rfl,o1⟩:=Zgt d _ h1
  obtain⟨x2,rfl,o2⟩:=(Zen Go.Proofs.Tryz.underlying69 (by kernel_rfl:Go.Proofs.Tryz.prog.bytesOf 138=176) Zzp) d _ h2
  obtain⟨x3,rfl,o3⟩:=Zaiy d _ h3
  obtain⟨x4,rfl,o4⟩:=(Zgv Go.Proofs.Tryz.underlying4) d _ h4
  obtain⟨x5,rfl,o5⟩:=Zadp d _ h5
  obtain⟨x6,rfl,o6⟩:=(Zgv Go.Proofs.Tryz.underlying4) d _ h6
  obtain⟨x7,rfl,o7⟩:=(Zen Go.Proofs.Tryz.underlying77 (by kernel_rfl:Go.Proofs.Tryz.prog.bytesOf 155=144) Zak4) d _ h7
  obtain⟨x8,rfl,o8⟩:=(Zen Go.Proofs.Tryz.underlying78 (by kernel_rfl:Go.Proofs.Tryz.prog.bytesOf 126=560) Zahb) d _ h8
  obtain⟨x9,rfl,o9⟩:=Zadq d _ h9
  exact⟨⟨x0,x1,x2,x3,x4,x5,x6,x7,x8,x9⟩,by simp only [Zay,List.append_nil],o0,o1,o2,o3,o4,o5,o6,o7,o8,o9⟩
theorem Zak5:∀ (d:Nat) (ts:List Zb),WT Go.Proofs.Tryz.prog d 108 ts->∃ x,ts=Zax x/\Z2h x:=by
 intro d ts h
 cases d with
 | zero=>cases h
 | succ d=>
  simp only [WT,Go.Proofs.Tryz.underlying108] at h
  replace h:Seq (WT Go.Proofs.Tryz.prog d) [9,4,72,3,105,3,3,3,106] ts:=h
  simp only [Seq] at h
  obtain⟨_,_,rfl,h0,_,_,rfl,h1,_,_,rfl,h2,_,_,rfl,h3,_,_,rfl,h4,_,_,rfl,h5,_,_,rfl,h6,_,_,rfl,h7,_,_,rfl,h8,rfl⟩:=h
  obtain⟨x0,rfl,o0⟩:=(Z6y Go.Proofs.Tryz.underlying9) d _ h0
  obtain⟨x1,rfl,o1⟩:=(Zgv Go.Proofs.Tryz.underlying4) d _ h1
  obtain⟨x2,rfl,o2⟩:=Z6b d _ h2
  obtain⟨x3,rfl,o3⟩:=(Z0 Go.Proofs.Tryz.underlying3) d _ h3
  obtain⟨x4,rfl,o4⟩:=Zak3 d _ h4
  obtain⟨x5,rfl,o5⟩:=(Z0 Go.Proofs.Tryz.underlying3) d _ h5
  obtain⟨x6,rfl,o6⟩:=(Z0 Go.Proofs.Tryz.underlying3) d _ h6
  obtain⟨x7,rfl,o7⟩:=(Z0 Go.Proofs.Tryz.underlying3) d _ h7
  obtain⟨x8,rfl,o8⟩:=(Zen Go.Proofs.Tryz.underlying106 (by kernel_rfl:Go.Proofs.Tryz.prog.bytesOf 82=640) Zqv) d _ h8
  exact⟨⟨x0,x1,x2,x3,x4,x5,x6,x7,x8⟩,by simp only [Zax,List.append_nil],o0,o1,o2,o3,o4,o5,o6,o7,o8⟩
theorem Zahc:∀ (d:Nat) (ts:List Zb),WT Go.Proofs.Tryz.prog d 63 ts->∃ x,ts=Ze x/\Zwf x:=by
 intro d ts h
 cases d with
 | zero=>cases h
 | succ d=>
  simp only [WT,Go.Proofs.Tryz.underlying63] at h
  replace h:Seq (WT Go.Proofs.Tryz.prog d) [3,3,3,52,4,4,25,25,25] ts:=h
  simp only [Seq] at h
  obtain⟨_,_,rfl,h0,_,_,rfl,h1,_,_,rfl,h2,_,_,rfl,h3,_,_,rfl,h4,_,_,rfl,h5,_,_,rfl,h6,_,_,rfl,h7,_,_,rfl,h8,rfl⟩:=h
  obtain⟨x0,rfl,o0⟩:=(Z0 Go.Proofs.Tryz.underlying3) d _ h0
  obtain⟨x1,rfl,o1⟩:=(Z0 Go.Proofs.Tryz.underlying3) d _ h1
  obtain⟨x2,rfl,o2⟩:=(Z0 Go.Proofs.Tryz.underlying3) d _ h2
  obtain⟨x3,rfl,o3⟩:=(Zayn Go.Proofs.Tryz.underlying52 (Z0 Go.Proofs.Tryz.underlying3)) d _ h3
  obtain⟨x4,rfl,o4⟩:=(Zgv Go.Proofs.Tryz.underlying4) d _ h4
  obtain⟨x5,rfl,o5⟩:=(Zgv Go.Proofs.Tryz.underlying4) d _ h5
  obtain⟨x6,rfl,o6⟩:=(Zen Go.Proofs.Tryz.underlying25 (by kernel_rfl:Go.Proofs.Tryz.prog.bytesOf 3=8) (Z0 Go.Proofs.Tryz.underlying3)) d _ h6
  obtain⟨x7,rfl,o7⟩:=(Zen Go.Proofs.Tryz.underlying25 (by kernel_rfl:Go.Proofs.Tryz.prog.bytesOf 3=8) (Z0 Go.Proofs.Tryz.underlying3)) d _ h7
  obtain⟨x8,rfl,o8⟩:=(Zen Go.Proofs.Tryz.underlying25 (by kernel_rfl:Go.Proofs.Tryz.prog.bytesOf 3=8) (Z0 Go.Proofs.Tryz.underlying3)) d _ h8
  exact⟨⟨x0,x1,x2,x3,x4,x5,x6,x7,x8⟩,by simp only [Ze,List.append_nil],o0,o1,o2,o3,o4,o5,o6,o7,o8⟩
theorem Zahd:∀ (d:Nat) (ts:List Zb),WT Go.Proofs.Tryz.prog d 48 ts->∃ x,ts=Zc x/\Z55 x:=by
 intro d ts h
 cases d with
 | zero=>cases h
 | succ d=>
  simp only [WT,Go.Proofs.Tryz.underlying48] at h
  replace h:Seq (WT Go.Proofs.Tryz.prog d) [3,3,3,3,3,4,4,4,4,3,46,3,3,3,4,3,3] ts:=h
  simp only [Seq] at h
  obtain⟨_,_,rfl,h0,_,_,rfl,h1,_,_,rfl,h2,_,_,rfl,h3,_,_,rfl,h4,_,_,rfl,h5,_,_,rfl,h6,_,_,rfl,h7,_,_,rfl,h8,_,_,rfl,h9,_,_,rfl,h10,_,_,rfl,h11,_,_,rfl,h12,_,_,rfl,h13,_,_,rfl,h14,_,_,rfl,h15,_,_,rfl,h16,rfl⟩:=h
  obtain⟨x0,rfl,o0⟩:=(Z0 Go.Proofs.Tryz.underlying3) d _ h0
  obtain⟨x1,rfl,o1⟩:=(Z0 Go.Proofs.Tryz.underlying3) d _ h1
  obtain⟨x2,rfl,o2⟩:=(Z0 Go.Proofs.Tryz.underlying3) d _ h2
  obtain⟨x3,rfl,o3⟩:=(Z0 Go.Proofs.Tryz.underlying3) d _ h3
  obtain⟨x4,rfl,o4⟩:=(Z0 Go.Proofs.Tryz.underlying3) d _ h4
  obtain⟨x5,rfl,o5⟩:=(Zgv Go.Proofs.Tryz.underlying4) d _ h5
  obtain⟨x6,rfl,o6⟩:=(Zgv Go.Proofs.Tryz.underlying4) d _ h6
  obtain⟨x7,rfl,o7⟩:=(Zgv Go.Proofs.Tryz.underlying4) d _ h7
  obtain⟨x8,rfl,o8⟩:=(Zgv Go.Proofs.Tryz.underlying4) d _ h8
  obtain⟨x9,rfl,o9⟩:=(Z0 Go.Proofs.Tryz.underlying3) d _ h9
  obtain⟨x10,rfl,o10⟩:=(Zaym Go.Proofs.Tryz.underlying46 (Z0 Go.Proofs.Tryz.underlying3)) d _ h10
  obtain⟨x11,rfl,o11⟩:=(Z0 Go.Proofs.Tryz.underlying3) d _ h11
  obtain⟨x12,rfl,o12⟩:=(Z0 Go.Proofs.Tryz.underlying3) d _ h12
  obtain⟨x13,rfl,o13⟩:=(Z0 Go.Proofs.Tryz.underlying3) d _ h13
  obtain⟨x14,rfl,o14⟩:=(Zgv Go.Proofs.Tryz.underlying4) d _ h14
  obtain⟨x15,rfl,o15⟩:=(Z0 Go.Proofs.Tryz.underlying3) d _ h15
  obtain⟨x16,rfl,o16⟩:=(Z0 Go.Proofs.Tryz.underlying3) d _ h16
  exact⟨⟨x0,x1,x2,x3,x4,x5,x6,x7,x8,x9,x10,x11,x12,x13,x14,x15,x16⟩,by simp only [Zc,List.append_nil],o0,o1,o2,o3,o4,o5,o6,o7,o8,o9,o10,o11,o12,o13,o14,o15,o16⟩
theorem Zahe:∀ (d:Nat) (ts:List Zb),WT Go.Proofs.Tryz.prog d 133 ts->∃ x,ts=Zaa x/\Z56 x:=by
 intro d ts h
 cases d with
 | zero=>cases h
 | succ d=>
  simp only [WT,Go.Proofs.Tryz.underlying133] at h
  replace h:Seq (WT Go.Proofs.Tryz.prog d) [3,3] ts:=h
  simp only [Seq] at h
  obtain⟨_,_,rfl,h0,_,_,rfl,h1,rfl⟩:=h
  obtain⟨x0,rfl,o0⟩:=(Z0 Go.Proofs.Tryz.underlying3) d _ h0
  obtain⟨x1,rfl,o1⟩:=(Z0 Go.Proofs.Tryz.underlying3) d _ h1
  exact⟨⟨x0,x1⟩,by simp only [Zaa,List.append_nil],o0,o1⟩
theorem Z3u:∀ (d:Nat) (ts:List Zb),WT Go.Proofs.Tryz.prog d 85 ts->∃ x,ts=Zdm x/\Zzc x:=by
 intro d ts h
 cases d with
 | zero=>cases h
 | succ d=>
  simp only [WT,Go.Proofs.Tryz.underlying85] at h
  replace h:Seq (WT Go.Proofs.Tryz.prog d) [3,3,3,3,3,3,3,3,3,3,4,4,46] ts:=h
  simp only [Seq] at h
  obtain⟨_,_,rfl,h0,_,_,rfl,h1,_,_,rfl,h2,_,_,rfl,h3,_,_,rfl,h4,_,_,rfl,h5,_,_,rfl,h6,_,_,rfl,h7,_,_,rfl,h8,_,_,rfl,h9,_,_,rfl,h10,_,_,rfl,h11,_,_,rfl,h12,rfl⟩:=h
  obtain⟨x0,rfl,o0⟩:=(Z0 Go.Proofs.Tryz.underlying3) d _ h0
  obtain⟨x1,rfl,o1⟩:=(Z0 Go.Proofs.Tryz.underlying3) d _ h1
  obtain⟨x2,rfl,o2⟩:=(Z0 Go.Proofs.Tryz.underlying3) d _ h2
  obtain⟨x3,rfl,o3⟩:=(Z0 Go.Proofs.Tryz.underlying3) d _ h3
  obtain⟨x4,rfl,o4⟩:=(Z0 Go.Proofs.Tryz.underlying3) d _ h4
  obtain⟨x5,rfl,o5⟩:=(Z0 Go.Proofs.Tryz.underlying3) d _ h5
  obtain⟨x6,rfl,o6⟩:=(Z0 Go.Proofs.Tryz.underlying3) d _ h6
  obtain⟨x7,rfl,o7⟩:=(Z0 Go.Proofs.Tryz.underlying3) d _ h7
  obtain⟨x8,rfl,o8⟩:=(Z0 Go.Proofs.Tryz.underlying3) d _ h8
  obtain⟨x9,rfl,o9⟩:=(Z0 Go.Proofs.Tryz.underlying3) d _ h9
  obtain⟨x10,rfl,o10⟩:=(Zgv Go.Proofs.Tryz.underlying4) d _ h10
  obtain⟨x11,rfl,o11⟩:=(Zgv Go.Proofs.Tryz.underlying4) d _ h11
  obtain⟨x12,rfl,o12⟩:=(Zaym Go.Proofs.Tryz.underlying46 (Z0 Go.Proofs.Tryz.underlying3)) d _ h12
  exact⟨⟨x0,x1,x2,x3,x4,x5,x6,x7,x8,x9,x10,x11,x12⟩,by simp only [Zdm,List.append_nil],o0,o1,o2,o3,o4,o5,o6,o7,o8,o9,o10,o11,o12⟩
theorem Zak6:∀ (d:Nat) (ts:List Zb),WT Go.Proofs.Tryz.prog d 87 ts->∃ x,ts=Zf x/\Z2i x:=by
 intro d ts h
 cases d with
 | zero=>cases h
 | succ d=>
  simp only [WT,Go.Proofs.Tryz.underlying87] at h
  replace h:Seq (WT Go.Proofs.Tryz.prog d) [3,3,3,3,3,4,82,83,85] ts:=h
  simp only [Seq] at h
  obtain⟨_,_,rfl,h0,_,_,rfl,h1,_,_,rfl,h2,_,_,rfl,h3,_,_,rfl,h4,_,_,rfl,h5,_,_,rfl,h6,_,_,rfl,h7,_,_,rfl,h8,rfl⟩:=h
  obtain⟨x0,rfl,o0⟩:=(Z0 Go.Proofs.Tryz.underlying3) d _ h0
  obtain⟨x1,rfl,o1⟩:=(Z0 Go.Proofs.Tryz.underlying3) d _ h1
  obtain⟨x2,rfl,o2⟩:=(Z0 Go.Proofs.Tryz.underlying3) d _ h2
  obtain⟨x3,rfl,o3⟩:=(Z0 Go.Proofs.Tryz.underlying3) d _ h3
  obtain⟨x4,rfl,o4⟩:=(Z0 Go.Proofs.Tryz.underlying3) d _ h4
  obtain⟨x5,rfl,o5⟩:=(Zgv Go.Proofs.Tryz.underlying4) d _ h5
  obtain⟨x6,rfl,o6⟩:=Zqv d _ h6
  obtain⟨x7,rfl,o7⟩:=(Zen Go.Proofs.Tryz.underlying83 (by kernel_rfl:Go.Proofs.Tryz.prog.bytesOf 133=16) Zahe) d _ h7
  obtain⟨x8,rfl,o8⟩:=Z3u d _ h8
  exact⟨⟨x0,x1,x2,x3,x4,x5,x6,x7,x8⟩,by simp only [Zf,List.append_nil],o0,o1,o2,o3,o4,o5,o6,o7,o8⟩
theorem Zadr:∀ (d:Nat) (ts:List Zb),WT Go.Proofs.Tryz.prog d 90 ts->∃ x,ts=Zd x/\Ztx x:=by
 intro d ts h
 cases d with
 | zero=>cases h
 | succ d=>
  simp only [WT,Go.Proofs.Tryz.underlying90] at h
  replace h:Seq (WT Go.Proofs.Tryz.prog d) [3,3,82,85] ts:=h
  simp only [Seq] at h
  obtain⟨_,_,rfl,h0,_,_,rfl,h1,_,_,rfl,h2,_,_,rfl,h3,rfl⟩:=h
  obtain⟨x0,rfl,o0⟩:=(Z0 Go.Proofs.Tryz.underlying3) d _ h0
  obtain⟨x1,rfl,o1⟩:=(Z0 Go.Proofs.Tryz.underlying3) d _ h1
  obtain⟨x2,rfl,o2⟩:=Zqv d _ h2
  obtain⟨x3,rfl,o3⟩:=Z3u d _ h3
  exact⟨⟨x0,x1,x2,x3⟩,by simp only [Zd,List.append_nil],o0,o1,o2,o3⟩
theorem Zak7:∀ (d:Nat) (ts:List Zb),WT Go.Proofs.Tryz.prog d 92 ts->∃ x,ts=Zh x/\Z2j x:=by
 intro d ts h
 cases d with
 | zero=>cases h
 | succ d=>
  simp only [WT,Go.Proofs.Tryz.underlying92] at h
  replace h:Seq (WT Go.Proofs.Tryz.prog d) [3,3,3,3,25,69] ts:=h
  simp only [Seq] at h
  obtain⟨_,_,rfl,h0,_,_,rfl,h1,_,_,rfl,h2,_,_,rfl,h3,_,_,rfl,h4,_,_,rfl,h5,rfl⟩:=h
  obtain⟨x0,rfl,o0⟩:=(Z0 Go.Proofs.Tryz.underlying3) d _ h0
  obtain⟨x1,rfl,o1⟩:=(Z0 Go.Proofs.Tryz.underlying3) d _ h1
  obtain⟨x2,rfl,o2⟩:=(Z0 Go.Proofs.Tryz.underlying3) d _ h2
  obtain⟨x3,rfl,o3⟩:=(Z0 Go.Proofs.Tryz.underlying3) d _ h3
  obtain⟨x4,rfl,o4⟩:=(Zen Go.Proofs.Tryz.underlying25 (by kernel_rfl:Go.Proofs.Tryz.prog.bytesOf 3=8) (Z0 Go.Proofs.Tryz.underlying3)) d _ h4
  obtain⟨x5,rfl,o5⟩:=(Zen Go.Proofs.Tryz.underlying69 (by kernel_rfl:Go.Proofs.Tryz.prog.bytesOf 138=176) Zzp) d _ h5
  exact⟨⟨x0,x1,x2,x3,x4,x5⟩,by simp only [Zh,List.append_nil],o0,o1,o2,o3,o4,o5⟩
theorem Z3v:∀ (d:Nat) (ts:List Zb),WT Go.Proofs.Tryz.prog d 31 ts->∃ x,ts=Zr x/\Zsh x:=by
 intro d ts h
 cases d with
 | zero=>cases h
 | succ d=>
  simp only [WT,Go.Proofs.Tryz.underlying31] at h
  replace h:Seq (WT Go.Proofs.Tryz.prog d) [23,24,25,25,26,27,28,3,3,3,4,3,3,3,3,29,25,3,3] ts:=h
  simp only [Seq] at h
  obtain⟨_,_,rfl,h0,_,_,rfl,h1,_,_,rfl,h2,_,_,rfl,h3,_,_,rfl,h4,_,_,rfl,h5,_,_,rfl,h6,_,_,rfl,h7,_,_,rfl,h8,_,_,rfl,h9,_,_,rfl,h10,_,_,rfl,h11,_,_,rfl,h12,_,_,rfl,h13,_,_,rfl,h14,_,_,rfl,h15,_,_,rfl,h16,_,_,rfl,h17,_,_,rfl,h18,rfl⟩:=h
  obtain⟨x0,rfl,o0⟩:=(Zen Go.Proofs.Tryz.underlying23 (by kernel_rfl:Go.Proofs.Tryz.prog.bytesOf 63=152) Zahc) d _ h0
  obtain⟨x1,rfl,o1⟩:=(Zen Go.Proofs.Tryz.underlying24 (by kernel_rfl:Go.Proofs.Tryz.prog.bytesOf 48=128) Zahd) d _ h1
  obtain⟨x2,rfl,o2⟩:=(Zen Go.Proofs.Tryz.underlying25 (by kernel_rfl:Go.Proofs.Tryz.prog.bytesOf 3=8) (Z0 Go.Proofs.Tryz.underlying3)) d _ h2
  obtain⟨x3,rfl,o3⟩:=(Zen Go.Proofs.Tryz.underlying25 (by kernel_rfl:Go.Proofs.Tryz.prog.bytesOf 3=8) (Z0 Go.Proofs.Tryz.underlying3)) d _ h3
  obtain⟨x4,rfl,o4⟩:=(Zen Go.Proofs.Tryz.underlying26 (by kernel_rfl:Go.Proofs.Tryz.prog.bytesOf 87=824) Zak6) d _ h4
  obtain⟨x5,rfl,o5⟩:=(Zen Go.Proofs.Tryz.underlying27 (by kernel_rfl:Go.Proofs.Tryz.prog.bytesOf 90=768) Zadr) d _ h5
  obtain⟨x6,rfl,o6⟩:=(Zen Go.Proofs.Tryz.underlying28 (by kernel_rfl:Go.Proofs.Tryz.prog.bytesOf 92=80) Zak7) d _ h6
  obtain⟨x7,rfl,o7⟩:=(Z0 Go.Proofs.Tryz.underlying3) d _ h7
  obtain⟨x8,rfl,o8⟩:=(Z0 Go.Proofs.Tryz.underlying3) d _ h8
  obtain⟨x9,rfl,o9⟩:=(Z0 Go.Proofs.Tryz.underlying3) d _ h9
  obtain⟨x10,rfl,o10⟩:=(Zgv Go.Proofs.Tryz.underlying4) d _ h10
  obtain⟨x11,rfl,o11⟩:=(Z0 Go.Proofs.Tryz.underlying3) d _ h11
  obtain⟨x12,rfl,o12⟩:=(Z0 Go.Proofs.Tryz.underlying3) d _ h12
  obtain⟨x13,rfl,o13⟩:=(Z0 Go.Proofs.Tryz.underlying3) d _ h13
  obtain⟨x14,rfl,o14⟩:=(Z0 Go.Proofs.Tryz.underlying3) d _ h14
  obtain⟨x15,rfl,o15⟩:=(Z0 Go.Proofs.Tryz.underlying29) d _ h15
  obtain⟨x16,rfl,o16⟩:=(Zen Go.Proofs.Tryz.underlying25 (by kernel_rfl:Go.Proofs.Tryz.prog.bytesOf 3=8) (Z0 Go.Proofs.Tryz.underlying3)) d _ h16
  obtain⟨x17,rfl,o17⟩:=(Z0 Go.Proofs.Tryz.underlying3) d _ h17
  obtain⟨x18,rfl,o18⟩:=(Z0 Go.Proofs.Tryz.underlying3) d _ h18
  exact⟨⟨x0,x1,x2,x3,x4,x5,x6,x7,x8,x9,x10,x11,x12,x13,x14,x15,x16,x17,x18⟩,by simp only [Zr,List.append_nil],o0,o1,o2,o3,o4,o5,o6,o7,o8,o9,o10,o11,o12,o13,o14,o15,o16,o17,o18⟩
theorem Zahf:∀ (d:Nat) (ts:List Zb),WT Go.Proofs.Tryz.prog d 50 ts->∃ x,ts=Zl x/\Z57 x:=by
 intro d ts h
 cases d with
 | zero=>cases h
 | succ d=>
  simp only [WT,Go.Proofs.Tryz.underlying50] at h
  replace h:Seq (WT Go.Proofs.Tryz.prog d) [3,3,3] ts:=h
  simp only [Seq] at h
  obtain⟨_,_,rfl,h0,_,_,rfl,h1,_,_,rfl,h2,rfl⟩:=h
  obtain⟨x0,rfl,o0⟩:=(Z0 Go.Proofs.Tryz.underlying3) d _ h0
  obtain⟨x1,rfl,o1⟩:=(Z0 Go.Proofs.Tryz.underlying3) d _ h1
  obtain⟨x2,rfl,o2⟩:=(Z0 Go.Proofs.Tryz.underlying3) d _ h2
  exact⟨⟨x0,x1,x2⟩,by simp only [Zl,List.append_nil],o0,o1,o2⟩
theorem Zahg:∀ (d:Nat) (ts:List Zb),WT Go.Proofs.Tryz.prog d 35 ts->∃ x,ts=Zf6 x/\Zwg x:=by
 intro d ts h
 cases d with
 | zero=>cases h
 | succ d=>
  simp only [WT,Go.Proofs.Tryz.underlying35] at h
  replace h:Seq (WT Go.Proofs.Tryz.prog d) [3,3,3,3,3,3,33] ts:=h
  simp only [Seq] at h
  obtain⟨_,_,rfl,h0,_,_,rfl,h1,_,_,rfl,h2,_,_,rfl,h3,_,_,rfl,h4,_,_,rfl,h5,_,_,rfl,h6,rfl⟩:=h
  obtain⟨x0,rfl,o0⟩:=(Z0 Go.Proofs.Tryz.underlying3) d _ h0
  obtain⟨x1,rfl,o1⟩:=(Z0 Go.Proofs.Tryz.underlying3) d _ h1
  obtain⟨x2,rfl,o2⟩:=(Z0 Go.Proofs.Tryz.underlying3) d _ h2
  obtain⟨x3,rfl,o3⟩:=(Z0 Go.Proofs.Tryz.underlying3) d _ h3
  obtain⟨x4,rfl,o4⟩:=(Z0 Go.Proofs.Tryz.underlying3) d _ h4
  obtain⟨x5,rfl,o5⟩:=(Z0 Go.Proofs.Tryz.underlying3) d _ h5
  obtain⟨x6,rfl,o6⟩:=(Zen Go.Proofs.Tryz.underlying33 (by kernel_rfl:Go.Proofs.Tryz.prog.bytesOf 50=24) Zahf) d _ h6
  exact⟨⟨x0,x1,x2,x3,x4,x5,x6⟩,by simp only [Zf6,List.append_nil],o0,o1,o2,o3,o4,o5,o6⟩
theorem Zak8:∀ (d:Nat) (ts:List Zb),WT Go.Proofs.Tryz.prog d 38 ts->∃ x,ts=Zb3 x/\Zabm x:=by
 intro d ts h
 cases d with
 | zero=>cases h
 | succ d=>
  simp only [WT,Go.Proofs.Tryz.underlying38] at h
  replace h:Seq (WT Go.Proofs.Tryz.prog d) [22,31,32,35,3,36] ts:=h
  simp only [Seq] at h
  obtain⟨_,_,rfl,h0,_,_,rfl,h1,_,_,rfl,h2,_,_,rfl,h3,_,_,rfl,h4,_,_,rfl,h5,rfl⟩:=h
  obtain⟨x0,rfl,o0⟩:=(Zen Go.Proofs.Tryz.underlying22 (by kernel_rfl:Go.Proofs.Tryz.prog.bytesOf 108=176) Zak5) d _ h0
  obtain⟨x1,rfl,o1⟩:=Z3v d _ h1
  obtain⟨x2,rfl,o2⟩:=(Zen Go.Proofs.Tryz.underlying32 (by kernel_rfl:Go.Proofs.Tryz.prog.bytesOf 25=24) (Zen Go.Proofs.Tryz.underlying25 (by kernel_rfl:Go.Proofs.Tryz.prog.bytesOf 3=8) (Z0 Go.Proofs.Tryz.underlying3))) d _ h2
  obtain⟨x3,rfl,o3⟩:=Zahg d _ h3
  obtain⟨x4,rfl,o4⟩:=(Z0 Go.Proofs.Tryz.underlying3) d _ h4
  obtain⟨x5,rfl,o5⟩:=(Zen Go.Proofs.Tryz.underlying36 (by kernel_rfl:Go.Proofs.Tryz.prog.bytesOf 31=280) Z3v) d _ h5
  exact⟨⟨x0,x1,x2,x3,x4,x5⟩,by simp only [Zb3,List.append_nil],o0,o1,o2,o3,o4,o5⟩
end Go.PW
