import Derived.Test.YtnoofnejcoadfaaGreatDoorQE
import Derived.Test.YtnoofnejcoadfaaGreatDoorPwYc
import Derived.Test.YtnoofnejcoadfaaGreatDoorQDc
import Derived.Test.YtnoofnejcoadfaaGreatDoorQS
set_option linter.all false
set_option maxRecDepth 100000
namespace Go.PW
theorem tk3 {p : Prop} (h : p := by first | exact Zask (by assumption) (by assumption) (by omega) | exact Zauk (v := v0) (i := v5) (j := v6) (by assumption) (by grind) (by assumption) (by grind) (by omega) (by omega) | exact Zaul (j := v6) (by assumption) (by assumption) (by grind) (by omega)) : p := h
theorem tk4 {p : Prop} (h : p := by first | rfl | (rw [← ‹v19 = Zeg a0.Players›] at *; first | exact Zauj (by assumption) (by assumption) (by assumption) (by assumption) (by grind) (by omega) | exact Zasi (by assumption) (by assumption) (by assumption) (by grind) (by omega))) : p := h
theorem tk5 {p : Prop} (h : p := by first | rfl | exact Zasz (by assumption) (by assumption) (by assumption) (by assumption) (by first | assumption | grind) (by omega) | exact Zaq6 (by assumption) (by assumption) (by assumption) (by first | assumption | grind) (by omega)) : p := h
theorem tk12 {p : Prop} (h : p := by first | exact Zau0 (by assumption) (by assumption) | exact Zau1 (by assumption) (by assumption) (by assumption) | exact Zav6 (by assumption) (by assumption) (by assumption)) : p := h
theorem tk13 {p : Prop} (h : p := by first | (intro k c hk; omega) | (intro k c hk hc; rcases Zan3 (v := v4) (by assumption) (by omega) hk hc (by assumption) with h | h; (exact i0 k c h hc); (rw [h]; assumption))) : p := h
theorem tk14 {p : Prop} (h : p := by first | exact Zavz (by assumption) (by assumption) | exact Zavx (v := v0) (i := v5) (j := v6) (by assumption) (by assumption) (by assumption) (by omega) (by omega)) : p := h
theorem Z8p {p : Prop} (h : p := by first | (refine ⟨fun _ => by omega, fun _ => rfl⟩) | (have w := ‹_ ∈ A3.list _›; simp only [A3.list, List.mem_cons, List.not_mem_nil, or_false] at w; grind) | grind) : p := h
theorem tk16 {p : Prop} (h : p := by first | exact Zauv (by assumption) (by assumption) (by assumption) (by first | assumption | grind) | exact Zasy (by assumption) (by omega)) : p := h
theorem tk20 {p : Prop} (h : p := by first | (intro hr; exact absurd hr (by decide)) | (intro _ c hc; obtain ⟨k, hk⟩ := List.mem_iff_getElem?.1 hc; exact i0 k c (by grind) hk)) : p := h
theorem tk21 {p : Prop} (h : p := by first | (intro k hk; omega) | exact Zaq8 (by assumption) (by assumption) (by assumption) (by assumption) (by assumption) (by omega)) : p := h
theorem tk22 {p : Prop} (h : p := by first | exact Zav2 | exact Zaq4 (by assumption) (by assumption) (by assumption) (by first | assumption | grind) (by omega)) : p := h
theorem Zqc {p : Prop} (h : p := by first | (intro hr; exact absurd hr (by decide)) | (intro _; exact ⟨by assumption, by assumption, by assumption, by grind⟩)) : p := h
theorem tk24 {p : Prop} (h : p := by first | exact Zavy (by assumption) (by assumption) (by assumption) (by grind) | exact Zaum (by assumption) (by omega)) : p := h
theorem tk25 {p : Prop} (h : p := by first | (intro k x hk; omega) | exact Zah9 (by assumption) (by assumption) (by assumption) (by assumption) (by omega)) : p := h
theorem tk26 {p : Prop} (h : p := by intro x hx; have g := fun d => Zau4 (n := v1) (d := d) hx (by omega); have g1 := g true; have g2 := g false; grind) : p := h
theorem tk27 {p : Prop} (h : p := by first | exact Zav7 (by assumption) (by assumption) | exact Zau2 (by assumption) (by assumption) (by assumption)) : p := h
theorem tk28 {p : Prop} (h : p := by first | (intro k x hk; omega) | exact Zah9 (by assumption) (by assumption) (by assumption) (by grind) (by omega)) : p := h
theorem tk30 {p : Prop} (h : p := by have g := fun d => Zas1 (l := v0) (n := v1) (v := v7) d (by omega); have g1 := g true; have g2 := g false; grind) : p := h
theorem tk33 {p : Prop} (h : p := by first | rfl | (rw [Zlo (v := v4) (by assumption) (by assumption) (by omega), List.foldl_append]; grind)) : p := h
theorem Z2 {p : Prop} (h : p := by unfold SzN; first | omega | (simp only [List.length_append, List.length_cons, List.length_nil]; omega)) : p := h
theorem Zlf {p : Prop} (h : p := by unfold SzT; first | omega | (simp only [List.length_append, List.length_cons, List.length_nil]; omega)) : p := h
theorem tk36 {p : Prop} (h : p := by intro m hm; simp only [List.mem_cons, List.not_mem_nil, or_false] at hm; subst hm; exact Zavv _) : p := h
theorem Z3b {p : Prop} (h : p := by first | assumption | (exfalso; omega) | grind [tl_1, tl_5, tl_6, tl_2, Zaq9, Zara]) : p := h
theorem Zch {p : Prop} (h : p := by first | (simp only [List.length_append, List.length_cons, List.length_nil]; omega) | omega) : p := h
theorem tk39 {p : Prop} (h : p := by unfold Zb4 lt6; dsimp only; omega) : p := h
theorem tk41 {p : Prop} (h : p := by first | (rw [Z8m (by omega)]; rfl) | (rw [Zadr (by assumption) (by omega)]; simp)) : p := h
theorem tk42 {p : Prop} (h : p := by unfold Zcb lt6; dsimp only; omega) : p := h
theorem tk43 {p : Prop} (h : p := by first | exact Zauy (by omega) | exact Zav5 (by assumption) (by omega) (by omega)) : p := h
theorem tk44 {p : Prop} (h : p := by unfold Zci lt6; dsimp only; omega) : p := h
theorem tk45 {p : Prop} (h : p := by unfold Zcj lt6; dsimp only; omega) : p := h
theorem tk46 {p : Prop} (h : p := by unfold Zcz lt6; dsimp only; omega) : p := h
theorem tk47 {p : Prop} (h : p := by unfold Zc0 lt6; dsimp only; omega) : p := h
theorem tk48 {p : Prop} (h : p := by first | omega | (simp only [List.length_cons, List.length_nil]; omega)) : p := h
theorem Zf8 {p : Prop} (h : p := by first | (intro hr; exact absurd hr (by decide)) | (intro _; omega)) : p := h
theorem Zd9 {p : Prop} (h : p := by obtain ⟨k1, k2, k3, k4⟩ := a0; unfold amV; grind [Zawt, usV]) : p := h
theorem tk52 {p : Prop} (h : p := by first | omega | exact shl_ne' (by omega) (by omega) | decide) : p := h
theorem tk53 {p : Prop} (h : p := by have e : (A5.list E0.Color).length = 5 := rfl; omega) : p := h
theorem tk54 {p : Prop} (h : p := by first | (intro h; omega) | (intro h; cases h; done) | grind) : p := h
theorem tk56 {p : Prop} (h : p := by have e : (A6.list E0).length = 6 := rfl; omega) : p := h
theorem Znb {p : Prop} (h : p := by simp only [List.length_cons, List.length_nil]; omega) : p := h
theorem tk60 {p : Prop} (h : p := by unfold Zvc lt6; dsimp only; omega) : p := h
theorem tk61 {p : Prop} (h : p := by unfold Zvf lt6; dsimp only; omega) : p := h
theorem tk62 {p : Prop} (h : p := by unfold Zip lt6; dsimp only; omega) : p := h
theorem tk66 {p : Prop} (h : p := by unfold Zx9 lt6; dsimp only; omega) : p := h
theorem tk67 {p : Prop} (h : p := by unfold Zyc lt6; dsimp only; omega) : p := h
theorem tk75 {p : Prop} (h : p := by unfold Z0m lt6; dsimp only; omega) : p := h
theorem tk76 {p : Prop} (h : p := by unfold Z0n lt6; dsimp only; omega) : p := h
theorem tk80 {p : Prop} (h : p := by unfold Z0p lt6; dsimp only; omega) : p := h
theorem tk83 {p : Prop} (h : p := by unfold Zk5 lt6; dsimp only; omega) : p := h
theorem tk84 {p : Prop} (h : p := by unfold Z3e lt6; dsimp only; omega) : p := h
theorem tk85 {p : Prop} (h : p := by unfold Z3l lt6; dsimp only; omega) : p := h
theorem tk86 {p : Prop} (h : p := by unfold Z3m lt6; dsimp only; omega) : p := h
theorem Z3c {p : Prop} (h : p := by unfold Z3p lt6; dsimp only; omega) : p := h
theorem tk90 {p : Prop} (h : p := by unfold Z6z lt6; dsimp only; omega) : p := h
theorem tk91 {p : Prop} (h : p := by unfold Z60 lt6; dsimp only; omega) : p := h
theorem tk92 {p : Prop} (h : p := by unfold Z61 lt6; dsimp only; omega) : p := h
theorem Zlg {p : Prop} (h : p := by unfold Zfp lt6; dsimp only; omega) : p := h
theorem Z8q {p : Prop} (h : p := by unfold Z62 lt6; dsimp only; omega) : p := h
theorem tk95 {p : Prop} (h : p := by unfold Z63 lt6; dsimp only; omega) : p := h
theorem tk99 {p : Prop} (h : p := by unfold Zu9 lt6; dsimp only; omega) : p := h
theorem Zaos {p : Prop} (h : p := by unfold Zafe lt6; dsimp only; omega) : p := h
theorem Zaot {p : Prop} (h : p := by unfold Zve lt6; dsimp only; omega) : p := h
theorem Zatv {p : Prop} (h : p := by grind [List.mem_iff_getElem?]) : p := h
theorem Zoo {p : Prop} (h : p := by unfold raV cnV; grind) : p := h
theorem Z4a {p : Prop} (h : p := by first | omega | grind) : p := h
theorem Zag6 {p : Prop} (h : p := by rw [h2]; kernel_rfl) : p := h
theorem Zep {p : Prop} (h : p := by intro hr; cases hr) : p := h
theorem Zrd {p : Prop} (h : p := by unfold tlV; grind) : p := h
theorem Zzk {p : Prop} (h : p := by unfold obV; grind) : p := h
abbrev Zkr (x : Z7) : Prop := (SzL 16 SzT) x.Subs
theorem Zadx {x : Z7} (h : Zwm x) : Zkr x := (Zdj h.2.2 (fun _ h => Zavw h))
abbrev Zaq (x : Zc) : Prop := SzS x.Sub
theorem Zcy {x : Zc} (h : Zc2 x) : Zaq x := (Z9x h.2.2.2.2.2.2.2.1)
abbrev Zat (x : Zh) : Prop := SzS x.Sub ∧ Zaq x.Filter
theorem Zqd {x : Zh} (h : Zm9 x) : Zat x := ⟨(Z9x h.2.2.2.1), (Zcy h.2.2.2.2)⟩
abbrev Zjp (x : Zb9) : Prop := Zaq x.Filter
theorem Z4h {x : Zb9} (h : Zn7 x) : Zjp x := (Zcy h.2.2)
abbrev Zfo (x : Zcw) : Prop := Zaq x.Filter
theorem Zady {x : Zcw} (h : Zwn x) : Zfo x := (Zcy h.2.2)
abbrev Zeq (x : Z4) : Prop := Zaq x.Filter
theorem Zafz {x : Z4} (h : Zzg x) : Zeq x := (Zcy h.2.2)
abbrev Zd8 (x : Zt) : Prop := Zaq x.Filter
theorem Z8r {x : Zt} (h : Zp9 x) : Zd8 x := (Zcy h.2.2.2)
abbrev Zac (x : Zs) : Prop := Zeq x.Ref ∧ Zd8 x.Amount ∧ SzS x.Card ∧ Zaq x.Filter ∧ (SzL 176 Zat) x.Mods
theorem Z8s {x : Zs} (h : Zqa x) : Zac x := ⟨(Zafz h.2.1), (Z8r h.2.2.1), (Z9x h.2.2.2.2.2.1), (Zcy h.2.2.2.2.2.2.1), (Zdj h.2.2.2.2.2.2.2.2 (fun _ h => (Zqd h)))⟩
abbrev Zc8 (x : Zaj) : Prop := Zaq x.Filter
theorem Z4i {x : Zaj} (h : Zn8 x) : Zc8 x := (Zcy h.2.2.1)
abbrev Zax (x : Zk) : Prop := Zaq x.Filter ∧ (SzL 176 Zat) x.Mods ∧ Zjp x.Trigger ∧ (SzL 144 Zfo) x.Specs ∧ (SzL 560 Zac) x.Effects ∧ Zc8 x.Replace
theorem Zj2 {x : Zk} (h : Zhd x) : Zax x := ⟨(Zcy h.2.1), (Zdj h.2.2.1 (fun _ h => (Zqd h))), (Z4h h.2.2.2.2.2.1), (Zdj h.2.2.2.2.2.2.2.1 (fun _ h => (Zady h))), (Zdj h.2.2.2.2.2.2.2.2.1 (fun _ h => (Z8s h))), (Z4i h.2.2.2.2.2.2.2.2.2)⟩
abbrev Zal (x : Zq) : Prop := SzS x.Name ∧ Zkr x.Line ∧ (SzL 640 Zax) x.Abilities
theorem Zadz {x : Zq} (h : Z6u x) : Zal x := ⟨(Z9x h.1), (Zadx h.2.2.2.2.1), (Zdj h.2.2.2.2.2.2.2.2 (fun _ h => (Zj2 h)))⟩
abbrev Zbx (x : Zas) : Prop := (SzL 8 (fun _ => True)) x.Library ∧ (SzL 8 (fun _ => True)) x.Hand ∧ (SzL 8 (fun _ => True)) x.Graveyard
theorem Z8t {x : Zas} (h : Zqb x) : Zbx x := ⟨(Zdj h.2.2.2.2.2.2.1 (fun _ _ => trivial)), (Zdj h.2.2.2.2.2.2.2.1 (fun _ _ => trivial)), (Zdj h.2.2.2.2.2.2.2.2 (fun _ _ => trivial))⟩
abbrev Zgx (x : Zgv) : Prop := Zax x.Ability ∧ (SzL 16 (fun _ => True)) x.Targets
theorem Zad0 {x : Zgv} (h : Zwo x) : Zgx x := ⟨(Zj2 h.2.2.2.2.2.2.1), (Zdj h.2.2.2.2.2.2.2.1 (fun _ _ => trivial))⟩
abbrev Zoa (x : Zic) : Prop := Zax x.Ability
theorem Z4j {x : Zic} (h : Zn9 x) : Zoa x := (Zj2 h.2.2.1)
abbrev Zws (x : Znu) : Prop := (SzL 8 (fun _ => True)) x.Objects ∧ (SzL 176 Zat) x.Mods
theorem Zad1 {x : Znu} (h : Zwp x) : Zws x := ⟨(Zdj h.2.2.2.2.1 (fun _ _ => trivial)), (Zdj h.2.2.2.2.2 (fun _ h => (Zqd h)))⟩
abbrev Zp (x : Zb) : Prop := (SzL 152 Zbx) x.Players ∧ (SzL 128 (fun _ => True)) x.Objects ∧ (SzL 8 (fun _ => True)) x.Battlefield ∧ (SzL 8 (fun _ => True)) x.Exile ∧ (SzL 824 Zgx) x.Stack ∧ (SzL 768 Zoa) x.Waiting ∧ (SzL 80 Zws) x.Conts ∧ (SzL 8 (fun _ => True)) x.Extra
theorem Zab7 {x : Zb} (h : Z26 x) : Zp x := ⟨(Zdj h.1 (fun _ h => (Z8t h))), (Zdj h.2.1 (fun _ _ => trivial)), (Zdj h.2.2.1 (fun _ _ => trivial)), (Zdj h.2.2.2.1 (fun _ _ => trivial)), (Zdj h.2.2.2.2.1 (fun _ h => (Zad0 h))), (Zdj h.2.2.2.2.2.1 (fun _ h => (Z4j h))), (Zdj h.2.2.2.2.2.2.1 (fun _ h => (Zad1 h))), (Zdj h.2.2.2.2.2.2.2.2.2.2.2.2.2.2.2.2.1 (fun _ _ => trivial))⟩
abbrev Zeh (x : Zo) : Prop := (SzL 16 (fun _ => True)) x.Targets
abbrev Zby (x : Zd) : Prop := SzS x.Name ∧ Zkr x.Line ∧ (SzL 640 Zax) x.Abilities
theorem Z6x (a0 : Int) : Tot (Zw5 a0) (fun r => True) := by
 unfold Zw5
 refine tZ ?_
 dsimp only [Z1b, LT.den]
 refine tD (fun h1 => ?_) (fun h1 => ?_)
 ·exact tR trivial
 ·exact tR trivial
def Zzl : Zhp → Prop
 | .L0 v0 v3 => (SzT v0) ∧ (0 ≤ v3)
 | .L1 v0 v3 => (SzT v0) ∧ (0 ≤ v3) ∧ (v3 < (v0.length : Int)) ∧ (0 ≤ v3) ∧ (v3 < v0.length)
def Zu9 : Zhp → M6
 | .L0 v0 v3 => (1, ((v0.length : Int) - v3).toNat, 1000000, 0, 0, 0)
 | .L1 v0 v3 => (1, ((v0.length : Int) - v3).toNat, 0, 0, 0, 0)
theorem Zh7 (v0 : (List UInt8)) (v3 : Int) (h : Zzl (.L1 v0 v3)) : Tot (Zgr v0 v3).den (Nx Zzl Zu9 (1, ((v0.length : Int) - v3).toNat, 0, 0, 0, 0) (fun r => True)) := by
 obtain ⟨ov0, cv3, bd2, i0, i1⟩ := h
 have lb_v0 : v0.length ≤ 562949953421312 := ov0
 dsimp only [Zgr, LT.den]
 refine tD (fun h1 => ?_) (fun h1 => ?_)
 ·refine tB (tI (by omega) (by omega)) (fun x2 h3 => ?_)
  refine tE (fun h4 => ?_) (fun h4 => ?_)
  ·refine qw (v3 - 1) fun q5 q6 => ?_
   refine tB (tI (by omega) (by omega)) (fun x7 h8 => ?_)
   refine tE (fun h9 => ?_) (fun h9 => ?_)
   ·exact tR trivial
   ·refine qw (v3 + 1) fun q10 q11 => ?_
    exact tL ⟨ov0, cl⟩ tk99
  ·refine qw (v3 + 1) fun q12 q13 => ?_
   exact tL ⟨ov0, cl⟩ tk99
 ·refine qw (v3 + 1) fun q14 q15 => ?_
  exact tL ⟨ov0, cl⟩ tk99
theorem Zzm (a0 : (List UInt8)) (oa0 : SzT a0) : Tot (Z1c a0) (fun r => True) := by
 unfold Z1c
 refine tX (Inv := Zzl) (μ := Zu9) (m := (1000000, 0, 0, 0, 0, 0)) ?_ ?_
 ·have lb_a0 : a0.length ≤ 562949953421312 := oa0
  dsimp only [Z7e, LT.den]
  have q1 : a0.length ≤ 562949953421312 := oa0
  refine tD (fun h2 => ?_) (fun h2 => ?_)
  ·exact tR trivial
  ·refine tD (fun h3 => ?_) (fun h3 => ?_)
   ·exact tR trivial
   ·refine tB (tI (by omega) (by omega)) (fun x4 h5 => ?_)
    refine tB (Z6x (UInt8.toNat x4 : Int)) (fun x6 h7 => ?_)
    refine tO (fun h8 => ?_) (fun h8 => ?_)
    ·exact tR trivial
    ·refine qw ((a0.length : Int) - 1) fun q9 q10 => ?_
     refine tB (tI (by omega) (by omega)) (fun x11 h12 => ?_)
     refine tE (fun h13 => ?_) (fun h13 => ?_)
     ·exact tR trivial
     ·exact tL ⟨oa0, cl⟩ tk99
 ·intro s hs
  cases s with
  | L0 v0 v3 =>
   obtain ⟨ov0, cv3⟩ := hs
   have lb_v0 : v0.length ≤ 562949953421312 := ov0
   show Tot (Zix v0 v3).den _
   dsimp only [Zix, LT.den, Zu9]
   have q1 : v0.length ≤ 562949953421312 := ov0
   refine tD (fun h2 => ?_) (fun h2 => ?_)
   ·refine tB (tI (by omega) (by omega)) (fun x3 h4 => ?_)
    refine tB (Z6x (UInt8.toNat x3 : Int)) (fun x5 h6 => ?_)
    refine tO (fun h7 => ?_) (fun h7 => ?_)
    ·refine tB (tI (by omega) (by omega)) (fun x8 h9 => ?_)
     refine tD (fun h10 => ?_) (fun h10 => ?_)
     ·refine tB (tI (by omega) (by omega)) (fun x11 h12 => ?_)
      refine tN (fun h13 => ?_) (fun h13 => ?_)
      ·exact tR trivial
      ·exact tJ (Zh7 v0 v3 ⟨ov0, cl, cl, cl, cl⟩)
     ·refine tB (tI (by omega) (by omega)) (fun x14 h15 => ?_)
      refine tD (fun h16 => ?_) (fun h16 => ?_)
      ·refine tB (tI (by omega) (by omega)) (fun x17 h18 => ?_)
       refine tN (fun h19 => ?_) (fun h19 => ?_)
       ·exact tR trivial
       ·exact tJ (Zh7 v0 v3 ⟨ov0, cl, cl, cl, cl⟩)
      ·exact tJ (Zh7 v0 v3 ⟨ov0, cl, cl, cl, cl⟩)
    ·exact tJ (Zh7 v0 v3 ⟨ov0, cl, cl, cl, cl⟩)
   ·exact tR trivial
  | L1 v0 v3 => exact Zh7 v0 v3 hs
def Ztl (n m : Int) : Bool := decide (n ≥ 0) && decide (n ≤ m)
def Zab8 (c : Zl) : Bool := Ztl c.Generic 99 && (Ztl c.X 2 && c.Color.list.all fun n => Ztl n 9)
theorem Zaou (c : Zl) : Zw6 c = some (Zab8 c) := by
 unfold Zw6 LF.run; dsimp only [Z7f, LT.den]
 have hl : Zbu Zgw.step (.L0 c 0) = some (c.Color.list.all fun n => Ztl n 9) := by
  have := Zru (st := fun i => Zhq.L0 c (i : Int)) (step := Zgw.step) (bad := false) c.Color.list (fun n => Ztl n 9) (fun i x hx => by
   have hi := (List.getElem?_eq_some_iff.1 hx).1
   have hi : i < 5 := hi
   show (Ziy _ _).den = _
   dsimp only [Ziy, LT.den]
   rw [decide_eq_true (by omega), Zgq hx, Zew (by omega) (by omega)]
   simp only [cond_true, Option.bind_some]
   unfold Ztl
   by_cases h1 : x < 0
   ·rw [decide_eq_true h1, decide_eq_false (show ¬ x ≥ 0 by omega)]; rfl
   ·rw [decide_eq_false h1, decide_eq_true (show x ≥ 0 by omega)]
    by_cases h2 : x > 9
    ·rw [decide_eq_true h2, decide_eq_false (show ¬ x ≤ 9 by omega)]; rfl
    ·rw [decide_eq_false h2, decide_eq_true (show x ≤ 9 by omega)]; rfl)
  rw [show (Zhq.L0 c 0) = .L0 c ((0 : Nat) : Int) from rfl, this]
  have he : Zbu Zgw.step (.L0 c ((c.Color.list.length : Nat) : Int)) = some true := by
   refine Zcg ?_
   show (Ziy c 5).den = _
   rfl
  rw [he]
  cases c.Color.list.all fun n => Ztl n 9 <;> rfl
 refine (Za5 fun _ => Za5 fun _ => Za5 fun _ => Za5 fun _ => (show Option.bind (some (Sum.inl (Zhq.L0 c 0))) (Zev Zgw.step) = some (c.Color.list.all fun n => Ztl n 9) from hl)).trans ?_
 congr 1
 unfold Zab8 Ztl
 rw [Bool.eq_iff_iff]
 simp only [Bool.and_eq_true, Bool.not_eq_true', decide_eq_false_iff_not, decide_eq_true_eq, ge_iff_le, gt_iff_lt, Int.not_lt]
 constructor
 ·rintro ⟨h1, h2, h3, h4, h5⟩; exact ⟨⟨h1, h2⟩, ⟨h3, h4⟩, h5⟩
 ·rintro ⟨⟨h1, h2⟩, ⟨h3, h4⟩, h5⟩; exact ⟨h1, h2, h3, h4, h5⟩
theorem Zzn (a0 : Zl) : Tot (Zw6 a0) (fun r => (r = true → a0.X ≤ 2) ∧ (r = true → ∀ n, n ∈ A5.list a0.Color → n ≤ 9)) := by
 refine ⟨_, Zaou a0, fun h => ?_, fun h n hn => ?_⟩
 ·simp only [Zab8, Ztl, Bool.and_eq_true, decide_eq_true_eq] at h
  exact h.2.1.2
 ·simp only [Zab8, Ztl, Bool.and_eq_true, decide_eq_true_eq, List.all_eq_true] at h
  exact (h.2.2 n hn).2
theorem Z3d : Tot (Zg5) (fun r => ((SzL 16 SzN) r) ∧ (r.length = 2)) := by
 unfold Zg5
 refine tZ ?_
 dsimp only [Zrx, LT.den]
 have q1 : (SzL 16 SzN) ([([98, 97, 115, 105, 99] : List UInt8), ([117, 110, 105, 113, 117, 101] : List UInt8)] : (List (List UInt8))) := ⟨by simp only [List.length_cons, List.length_nil]; omega, (mem_cons' Z2 (mem_cons' Z2 (fun _ h => by cases h)))⟩
 have lq1 : ([([98, 97, 115, 105, 99] : List UInt8), ([117, 110, 105, 113, 117, 101] : List UInt8)] : (List (List UInt8))).length = 2 := rfl
 exact tR ⟨q1, cl⟩
def Zaf0 : Zj8 → Prop
 | .L0 v0 v1 v5 => ((SzL 16 SzT) v0) ∧ (SzT v1) ∧ (0 ≤ v5)
def Ztm : Zj8 → M6
 | .L0 v0 v1 v5 => (1, ((v0.length : Int) - v5).toNat, 1000000, 0, 0, 0)
theorem Z0k (a0 : (List (List UInt8))) (a1 : (List UInt8)) (oa0 : (SzL 16 SzT) a0) (oa1 : SzT a1) : Tot (Zo0 a0 a1) (fun r => True) := by
 unfold Zo0
 refine tX (Inv := Zaf0) (μ := Ztm) (m := (1000000, 0, 0, 0, 0, 0)) ?_ ?_
 ·have lb_a0 := oa0.1
  have lb_a1 : a1.length ≤ 562949953421312 := oa1
  dsimp only [Zvo, LT.den]
  exact tL ⟨oa0, oa1, cl⟩ (by unfold Ztm lt6; dsimp only; omega)
 ·intro s hs
  cases s with
  | L0 v0 v1 v5 =>
   obtain ⟨ov0, ov1, cv5⟩ := hs
   have lb_v0 := ov0.1
   have lb_v1 : v1.length ≤ 562949953421312 := ov1
   show Tot (Zfz v0 v1 v5).den _
   dsimp only [Zfz, LT.den]
   have q1 := ov0.1
   refine tD (fun h2 => ?_) (fun h2 => ?_)
   ·refine tB (tI (by omega) (by omega)) (fun x3 h4 => ?_)
    have oh4 : SzT x3 := ov0.2 x3 h4.1
    refine tF (fun h5 => ?_) (fun h5 => ?_)
    ·exact tR trivial
    ·refine qw (v5 + 1) fun q6 q7 => ?_
     exact tL ⟨ov0, ov1, cl⟩ (by unfold Ztm lt6; dsimp only; omega)
   ·exact tR trivial
theorem Zq2 : Tot (Zhy) (fun r => ((SzL 16 SzN) r) ∧ (r.length = 6)) := by
 unfold Zhy
 refine tZ ?_
 dsimp only [Zug, LT.den]
 have q1 : (SzL 16 SzN) ([([99, 114, 101, 97, 116, 117, 114, 101] : List UInt8), ([105, 110, 115, 116, 97, 110, 116] : List UInt8), ([114, 105, 116, 117, 97, 108] : List UInt8), ([114, 101, 108, 105, 99] : List UInt8), ([99, 104, 97, 114, 109] : List UInt8), ([108, 97, 110, 100] : List UInt8)] : (List (List UInt8))) := ⟨by simp only [List.length_cons, List.length_nil]; omega, (mem_cons' Z2 (mem_cons' Z2 (mem_cons' Z2 (mem_cons' Z2 (mem_cons' Z2 (mem_cons' Z2 (fun _ h => by cases h)))))))⟩
 have lq1 : ([([99, 114, 101, 97, 116, 117, 114, 101] : List UInt8), ([105, 110, 115, 116, 97, 110, 116] : List UInt8), ([114, 105, 116, 117, 97, 108] : List UInt8), ([114, 101, 108, 105, 99] : List UInt8), ([99, 104, 97, 114, 109] : List UInt8), ([108, 97, 110, 100] : List UInt8)] : (List (List UInt8))).length = 6 := rfl
 exact tR ⟨q1, cl⟩
theorem Zqe (a0 : (List UInt8)) (oa0 : SzT a0) : Tot (Zo1 a0) (fun r => True) := by
 unfold Zo1
 refine tZ ?_
 have lb_a0 : a0.length ≤ 562949953421312 := oa0
 dsimp only [Zvq, LT.den]
 refine tB (Zzm a0 oa0) (fun x1 h2 => ?_)
 refine tF (fun h3 => ?_) (fun h3 => ?_)
 ·refine tB (Z3d) (fun x4 h5 => ?_)
  have eh5_1 := h5.2
  refine tB (Z0k x4 a0 (SzL.nt h5.1) oa0) (fun x6 h7 => ?_)
  refine tD (fun h8 => ?_) (fun h8 => ?_)
  ·refine tB (Zq2) (fun x9 h10 => ?_)
   have eh10_1 := h10.2
   refine tB (Z0k x9 a0 (SzL.nt h10.1) oa0) (fun x11 h12 => ?_)
   exact tR trivial
  ·exact tR trivial
 ·exact tR trivial
def Zamb : Zo2 → Prop
 | .L0 v0 v1 v5 => (0 ≤ v5) ∧ (v1 ≤ 100)
def Zzo : Zo2 → M6
 | .L0 v0 v1 v5 => (1, (v1 - v5).toNat, 1000000, 0, 0, 0)
theorem Zwt (a0 : Int) (a1 : Int) (h0 : a1 ≤ 100) : Tot (Zac6 a0 a1) (fun r => True) := by
 unfold Zac6
 refine tX (Inv := Zamb) (μ := Zzo) (m := (1000000, 0, 0, 0, 0, 0)) ?_ ?_
 ·dsimp only [Zaes, LT.den]
  exact tL ⟨cl, cl⟩ (by unfold Zzo lt6; dsimp only; omega)
 ·intro s hs
  cases s with
  | L0 v0 v1 v5 =>
   obtain ⟨cv5, i0⟩ := hs
   show Tot (Zyw v0 v1 v5).den _
   dsimp only [Zyw, LT.den]
   refine tD (fun h1 => ?_) (fun h1 => ?_)
   ·refine qw (v5 + 1) fun q2 q3 => ?_
    exact tL ⟨cl, cl⟩ (by unfold Zzo lt6; dsimp only; omega)
   ·exact tR trivial
def Zaov : Zr2 → Prop
 | .L0 E0 v3 => (Zkr E0) ∧ (0 ≤ v3)
def Zafe : Zr2 → M6
 | .L0 E0 v3 => (1, ((E0.Subs.length : Int) - v3).toNat, 1000000, 0, 0, 0)
theorem Zaow (a0 : Z7) (oa0 : Zkr a0) : Tot (Zaig a0) (fun r => True) := by
 unfold Zaig
 refine tX (Inv := Zaov) (μ := Zafe) (m := (1000000, 0, 0, 0, 0, 0)) ?_ ?_
 ·dsimp only [Zaie, LT.den]
  refine tD (fun h1 => ?_) (fun h1 => ?_)
  ·exact tR trivial
  ·refine tD (fun h2 => ?_) (fun h2 => ?_)
   ·exact tR trivial
   ·refine tD (fun h3 => ?_) (fun h3 => ?_)
    ·exact tR trivial
    ·refine tD (fun h4 => ?_) (fun h4 => ?_)
     ·exact tR trivial
     ·have q5 := oa0.1
      refine tD (fun h6 => ?_) (fun h6 => ?_)
      ·exact tR trivial
      ·exact tL ⟨oa0, cl⟩ Zaos
 ·intro s hs
  cases s with
  | L0 E0 v3 =>
   obtain ⟨ob30000000, cv3⟩ := hs
   show Tot (Z1f E0 v3).den _
   dsimp only [Z1f, LT.den]
   have q1 := ob30000000.1
   refine tD (fun h2 => ?_) (fun h2 => ?_)
   ·refine tB (tI (by omega) (by omega)) (fun x3 h4 => ?_)
    have oh4 : SzT x3 := ob30000000.2 x3 h4.1
    refine tB (Zqe x3 oh4) (fun x5 h6 => ?_)
    refine tO (fun h7 => ?_) (fun h7 => ?_)
    ·exact tR trivial
    ·refine tD (fun h8 => ?_) (fun h8 => ?_)
     ·refine qw (v3 - 1) fun q9 q10 => ?_
      refine tB (tI (by omega) (by omega)) (fun x11 h12 => ?_)
      have oh12 : SzT x11 := ob30000000.2 x11 h12.1
      refine tO (fun h13 => ?_) (fun h13 => ?_)
      ·exact tR trivial
      ·refine qw (v3 + 1) fun q14 q15 => ?_
       exact tL ⟨ob30000000, cl⟩ Zaos
     ·refine qw (v3 + 1) fun q16 q17 => ?_
      exact tL ⟨ob30000000, cl⟩ Zaos
   ·refine tE (fun h18 => ?_) (fun h18 => ?_)
    ·exact tR trivial
    ·refine tE (fun h19 => ?_) (fun h19 => ?_)
     ·exact tR trivial
     ·refine tB (Zwt E0.Types 1 cl) (fun x20 h21 => ?_)
      refine tO (fun h22 => ?_) (fun h22 => ?_)
      ·refine tB (Zwt E0.Types 2 cl) (fun x23 h24 => ?_)
       exact tR trivial
      ·exact tR trivial
theorem Zab9 (a0 : Int) : Tot (Zaij a0) (fun r => True) := by
 unfold Zaij
 refine tZ ?_
 dsimp only [Zaih, LT.den]
 refine tD (fun h1 => ?_) (fun h1 => ?_)
 ·exact tR trivial
 ·exact tR trivial
theorem Z8u (a0 : Zq) (oa0 : Zal a0) : Tot (Zr3 a0) (fun r => True) := by
 unfold Zr3
 refine tZ ?_
 dsimp only [Zw7, LT.den]
 exact tR trivial
def Zaf1 : Zj9 → Prop
 | .L0 v0 v1 v7 => (0 ≤ v7) ∧ True
def Z3e : Zj9 → M6
 | .L0 v0 v1 v7 => (1, (6 - v7).toNat, 1000000, 0, 0, 0)
theorem Z0l (a0 : Int) (a1 : Int) (a2 : Int) : Tot (Zo3 a0 a1 a2) (fun r => True) := by
 unfold Zo3
 refine tX (Inv := Zaf1) (μ := Z3e) (m := (1000000, 0, 0, 0, 0, 0)) ?_ ?_
 ·dsimp only [Zvr, LT.den]
  refine tD (fun h1 => ?_) (fun h1 => ?_)
  ·exact tR trivial
  ·refine tD (fun h2 => ?_) (fun h2 => ?_)
   ·exact tR trivial
   ·refine tD (fun h3 => ?_) (fun h3 => ?_)
    ·exact tR trivial
    ·refine tD (fun h4 => ?_) (fun h4 => ?_)
     ·exact tR trivial
     ·exact tL ⟨cl, trivial⟩ tk84
 ·intro s hs
  cases s with
  | L0 v0 v1 v7 =>
   obtain ⟨cv7, _⟩ := hs
   show Tot (Zf0 v0 v1 v7).den _
   dsimp only [Zf0, LT.den]
   refine tD (fun h1 => ?_) (fun h1 => ?_)
   ·refine tE (fun h2 => ?_) (fun h2 => ?_)
    ·refine tE (fun h3 => ?_) (fun h3 => ?_)
     ·exact tR trivial
     ·refine qw (v7 + 1) fun q4 q5 => ?_
      exact tL ⟨cl, trivial⟩ tk84
    ·refine qw (v7 + 1) fun q6 q7 => ?_
     exact tL ⟨cl, trivial⟩ tk84
   ·exact tR trivial
theorem Zqf (a0 : Za) : Tot (Zo4 a0) (fun r => (r = true → 0 ≤ a0.Kind ∧ a0.Kind ≤ 3)) := by
 unfold Zo4
 refine tZ ?_
 dsimp only [Zvs, LT.den]
 refine tD (fun h1 => ?_) (fun h1 => ?_)
 ·exact tR Zep
 ·refine tD (fun h2 => ?_) (fun h2 => ?_)
  ·exact tR Zep
  ·refine tD (fun h3 => ?_) (fun h3 => ?_)
   ·exact tR Zep
   ·refine tD (fun h4 => ?_) (fun h4 => ?_)
    ·exact tR Zep
    ·refine tN (fun h5 => ?_) (fun h5 => ?_)
     ·exact tR (by intro hr; first | omega | (cases hr; done))
     ·exact tR (by intro hr; first | omega | (cases hr; done))
abbrev Z6y (a0 : Zc) (r : Bool) : Prop := (r = true → 0 ≤ a0.Zone ∧ a0.Zone ≤ 5 ∧ 0 ≤ a0.Who ∧ a0.Who ≤ 2 ∧ 0 ≤ a0.Self ∧ a0.Self ≤ 2 ∧ 0 ≤ a0.Tap ∧ a0.Tap ≤ 2 ∧ 0 ≤ a0.Power.Kind ∧ a0.Power.Kind ≤ 3 ∧ 0 ≤ a0.Tough.Kind ∧ a0.Tough.Kind ≤ 3 ∧ 0 ≤ a0.Value.Kind ∧ a0.Value.Kind ≤ 3)
def Zzp (a0 : Zc) : Zr5 → Prop
 | .L0 E0 => (E0 = a0) ∧ (Zaq E0) ∧ (0 ≤ E0.Zone ∧ E0.Zone ≤ 5 ∧ 0 ≤ E0.Who ∧ E0.Who ≤ 2 ∧ 0 ≤ E0.Self ∧ E0.Self ≤ 2 ∧ 0 ≤ E0.Tap ∧ E0.Tap ≤ 2)
def Zaff : Zr5 → M6
 | .L0 E0 => (0, 0, 0, 0, 0, 0)
theorem Zqg (a0 : Zc) (E0 : Zc) (h : (Zzp a0) (.L0 E0)) : Tot (Ziz E0).den (Nx (Zzp a0) Zaff (0, 0, 0, 0, 0, 0) (Z6y a0)) := by
 obtain ⟨al0, ob30000000, i0⟩ := h
 subst al0
 dsimp only [Ziz, LT.den]
 refine tB (Zqf E0.Power) (fun x1 h2 => ?_)
 have eh2_0 := h2
 refine tF (fun h3 => ?_) (fun h3 => ?_)
 ·have h3_0 := eh2_0 h3
  refine tB (Zqf E0.Tough) (fun x4 h5 => ?_)
  have eh5_0 := h5
  refine tF (fun h6 => ?_) (fun h6 => ?_)
  ·have h6_0 := eh5_0 h6
   refine tB (Zqf E0.Value) (fun x7 h8 => ?_)
   have eh8_0 := h8
   exact tR (by intro hr; have := eh8_0 hr; first | omega | (cases hr; done))
  ·exact tR Zep
 ·exact tR Zep
theorem Zamc (a0 : Zc) (oa0 : Zaq a0) : Tot (Zw9 a0) (Z6y a0) := by
 unfold Zw9
 refine tX (Inv := (Zzp a0)) (μ := Zaff) (m := (1000000, 0, 0, 0, 0, 0)) ?_ ?_
 ·dsimp only [Z7g, LT.den]
  refine tD (fun h1 => ?_) (fun h1 => ?_)
  ·exact tR Zep
  ·refine tD (fun h2 => ?_) (fun h2 => ?_)
   ·exact tR Zep
   ·refine tD (fun h3 => ?_) (fun h3 => ?_)
    ·exact tR Zep
    ·refine tD (fun h4 => ?_) (fun h4 => ?_)
     ·exact tR Zep
     ·refine tD (fun h5 => ?_) (fun h5 => ?_)
      ·exact tR Zep
      ·refine tD (fun h6 => ?_) (fun h6 => ?_)
       ·exact tR Zep
       ·refine tD (fun h7 => ?_) (fun h7 => ?_)
        ·exact tR Zep
        ·refine tD (fun h8 => ?_) (fun h8 => ?_)
         ·exact tR Zep
         ·refine tB (Z0l a0.Types a0.NotTypes 63) (fun x9 h10 => ?_)
          refine tO (fun h11 => ?_) (fun h11 => ?_)
          ·exact tR Zep
          ·refine tB (Z0l a0.Colors a0.NotColors 31) (fun x12 h13 => ?_)
           refine tO (fun h14 => ?_) (fun h14 => ?_)
           ·exact tR Zep
           ·refine tO (fun h15 => ?_) (fun h15 => ?_)
            ·refine tB (Zqe a0.Sub (SzS.t oa0)) (fun x16 h17 => ?_)
             refine tO (fun h18 => ?_) (fun h18 => ?_)
             ·exact tR Zep
             ·refine tD (fun h19 => ?_) (fun h19 => ?_)
              ·exact tR Zep
              ·refine tD (fun h20 => ?_) (fun h20 => ?_)
               ·exact tR Zep
               ·exact tJ (Zqg a0 a0 ⟨rfl, oa0, cl⟩)
            ·refine tD (fun h21 => ?_) (fun h21 => ?_)
             ·exact tR Zep
             ·refine tD (fun h22 => ?_) (fun h22 => ?_)
              ·exact tR Zep
              ·exact tJ (Zqg a0 a0 ⟨rfl, oa0, cl⟩)
 ·intro s hs
  cases s with
  | L0 E0 => exact Zqg a0 E0 hs
theorem Zd0 (a0 : Zc) (oa0 : Zaq a0) : Tot (Zw9 a0) (fun r => (r = true → 0 ≤ a0.Zone ∧ a0.Zone ≤ 5 ∧ 0 ≤ a0.Who ∧ a0.Who ≤ 2 ∧ 0 ≤ a0.Self ∧ a0.Self ≤ 2 ∧ 0 ≤ a0.Tap ∧ a0.Tap ≤ 2 ∧ 0 ≤ a0.Power.Kind ∧ a0.Power.Kind ≤ 3 ∧ 0 ≤ a0.Tough.Kind ∧ a0.Tough.Kind ≤ 3 ∧ 0 ≤ a0.Value.Kind ∧ a0.Value.Kind ≤ 3) ∧ (r = Z27 a0)) := (Tot.we (Zamc a0 oa0)).mono fun r h => ⟨h.1, Option.some.inj (h.2.symm.trans (Zaq2 a0))⟩
def Zja : Zjk → Prop
 | .L0 E0 E1 v7 v8 => (Zat E0) ∧ (Zat E1)
 | .L1 E0 E1 v7 v16 => (Zat E0) ∧ (Zat E1)
def Zwu : Zjk → M6
 | .L0 E0 E1 v7 v8 => (0, 0, 0, 0, 0, 0)
 | .L1 E0 E1 v7 v16 => (0, 0, 0, 0, 0, 0)
theorem Znc (E0 : Zh) (E1 : Zh) (v7 : Int) (v16 : Bool) (h : Zja (.L1 E0 E1 v7 v16)) : Tot (Zkb E0 E1 v7 v16).den (Nx Zja Zwu (0, 0, 0, 0, 0, 0) (fun r => (Zat r))) := by
 obtain ⟨ob30000000, ob30000001⟩ := h
 dsimp only [Zkb, LT.den]
 refine tF (fun h1 => ?_) (fun h1 => ?_)
 ·exact tR ⟨(SzS.nil), ob30000000.2⟩
 ·refine tE (fun h2 => ?_) (fun h2 => ?_)
  ·exact tR ⟨ob30000000.1, (SzS.nil)⟩
  ·refine tE (fun h3 => ?_) (fun h3 => ?_)
   ·exact tR ⟨ob30000000.1, ob30000000.2⟩
   ·refine tE (fun h4 => ?_) (fun h4 => ?_)
    ·exact tR ⟨ob30000000.1, ob30000000.2⟩
    ·exact tR ob30000000
theorem Zd1 (E0 : Zh) (E1 : Zh) (v7 : Int) (v8 : Bool) (h : Zja (.L0 E0 E1 v7 v8)) : Tot (Zem E0 E1 v7 v8).den (Nx Zja Zwu (0, 0, 0, 0, 0, 0) (fun r => (Zat r))) := by
 obtain ⟨ob30000000, ob30000001⟩ := h
 dsimp only [Zem, LT.den]
 refine tF (fun h1 => ?_) (fun h1 => ?_)
 ·exact tR ⟨ob30000000.1, ob30000000.2⟩
 ·refine tE (fun h2 => ?_) (fun h2 => ?_)
  ·exact tJ (Znc E0 E1 v7 (v7 == 4) ⟨ob30000000, ob30000001⟩)
  ·exact tJ (Znc E0 E1 v7 (v7 == 5) ⟨ob30000000, ob30000001⟩)
theorem Zaki (a0 : Zh) (oa0 : Zat a0) : Tot (Z7i a0) (fun r => (Zat r)) := by
 unfold Z7i
 refine tX (Inv := Zja) (μ := Zwu) (m := (1000000, 0, 0, 0, 0, 0)) ?_ ?_
 ·dsimp only [Z92, LT.den]
  refine tE (fun h1 => ?_) (fun h1 => ?_)
  ·exact tJ (Zd1 (⟨0, a0.N, a0.M, a0.Sub, a0.Filter⟩ : Zh) (⟨0, 0, 0, ([] : List UInt8), (⟨0, 0, 0, 0, 0, 0, 0, ([] : List UInt8), 0, 0, (⟨0, 0⟩ : Za), (⟨0, 0⟩ : Za), (⟨0, 0⟩ : Za)⟩ : Zc)⟩ : Zh) a0.Kind (a0.Kind == 2) ⟨⟨oa0.1, oa0.2⟩, ⟨(SzS.nil), (SzS.nil)⟩⟩)
  ·refine tE (fun h2 => ?_) (fun h2 => ?_)
   ·exact tJ (Zd1 (⟨0, a0.N, a0.M, a0.Sub, a0.Filter⟩ : Zh) (⟨0, 0, 0, ([] : List UInt8), (⟨0, 0, 0, 0, 0, 0, 0, ([] : List UInt8), 0, 0, (⟨0, 0⟩ : Za), (⟨0, 0⟩ : Za), (⟨0, 0⟩ : Za)⟩ : Zc)⟩ : Zh) a0.Kind (a0.Kind == 3) ⟨⟨oa0.1, oa0.2⟩, ⟨(SzS.nil), (SzS.nil)⟩⟩)
   ·refine tE (fun h3 => ?_) (fun h3 => ?_)
    ·exact tJ (Zd1 (⟨0, a0.N, a0.M, a0.Sub, a0.Filter⟩ : Zh) (⟨0, 0, 0, ([] : List UInt8), (⟨0, 0, 0, 0, 0, 0, 0, ([] : List UInt8), 0, 0, (⟨0, 0⟩ : Za), (⟨0, 0⟩ : Za), (⟨0, 0⟩ : Za)⟩ : Zc)⟩ : Zh) a0.Kind (a0.Kind == 6) ⟨⟨oa0.1, oa0.2⟩, ⟨(SzS.nil), (SzS.nil)⟩⟩)
    ·refine tE (fun h4 => ?_) (fun h4 => ?_)
     ·exact tJ (Zd1 (⟨0, a0.N, a0.M, a0.Sub, a0.Filter⟩ : Zh) (⟨0, 0, 0, ([] : List UInt8), (⟨0, 0, 0, 0, 0, 0, 0, ([] : List UInt8), 0, 0, (⟨0, 0⟩ : Za), (⟨0, 0⟩ : Za), (⟨0, 0⟩ : Za)⟩ : Zc)⟩ : Zh) a0.Kind (a0.Kind == 7) ⟨⟨oa0.1, oa0.2⟩, ⟨(SzS.nil), (SzS.nil)⟩⟩)
     ·refine tE (fun h5 => ?_) (fun h5 => ?_)
      ·exact tJ (Zd1 (⟨0, a0.N, a0.M, a0.Sub, a0.Filter⟩ : Zh) (⟨0, 0, 0, ([] : List UInt8), (⟨0, 0, 0, 0, 0, 0, 0, ([] : List UInt8), 0, 0, (⟨0, 0⟩ : Za), (⟨0, 0⟩ : Za), (⟨0, 0⟩ : Za)⟩ : Zc)⟩ : Zh) a0.Kind (a0.Kind == 8) ⟨⟨oa0.1, oa0.2⟩, ⟨(SzS.nil), (SzS.nil)⟩⟩)
      ·exact tJ (Zd1 (⟨0, a0.N, a0.M, a0.Sub, a0.Filter⟩ : Zh) (⟨0, 0, 0, ([] : List UInt8), (⟨0, 0, 0, 0, 0, 0, 0, ([] : List UInt8), 0, 0, (⟨0, 0⟩ : Za), (⟨0, 0⟩ : Za), (⟨0, 0⟩ : Za)⟩ : Zc)⟩ : Zh) a0.Kind (a0.Kind == 9) ⟨⟨oa0.1, oa0.2⟩, ⟨(SzS.nil), (SzS.nil)⟩⟩)
 ·intro s hs
  cases s with
  | L0 E0 E1 v7 v8 => exact Zd1 E0 E1 v7 v8 hs
  | L1 E0 E1 v7 v16 => exact Znc E0 E1 v7 v16 hs
theorem Zaf2 (a0 : Int) : Tot (Z1h a0) (fun r => True) := by
 unfold Z1h
 refine tZ ?_
 dsimp only [Z49, LT.den]
 refine tD (fun h1 => ?_) (fun h1 => ?_)
 ·refine tD (fun h2 => ?_) (fun h2 => ?_)
  ·exact tR trivial
  ·exact tR trivial
 ·exact tR trivial
def Zre : Zk8 → Prop
 | .L0 E0 v18 v19 => (Zat E0) ∧ True
 | .L1 E0 v18 v25 => (Zat E0) ∧ True
 | .L2 E0 v18 v51 => (Zat E0) ∧ True
def Zva : Zk8 → M6
 | .L0 E0 v18 v19 => (0, 0, 0, 0, 0, 0)
 | .L1 E0 v18 v25 => (0, 0, 0, 0, 0, 0)
 | .L2 E0 v18 v51 => (0, 0, 0, 0, 0, 0)
theorem Zqh (E0 : Zh) (v18 : Int) (v51 : Bool) (h : (Zat E0) ∧ True) : Tot (Zo5 E0 v18 v51).den (Nx Zre Zva (0, 0, 0, 0, 0, 0) (fun r => True)) := by
 obtain ⟨ob30000000, _⟩ := h
 dsimp only [Zo5, LT.den]
 refine tF (fun h1 => ?_) (fun h1 => ?_)
 ·refine tD (fun h2 => ?_) (fun h2 => ?_)
  ·exact tR trivial
  ·exact tR trivial
 ·refine tE (fun h3 => ?_) (fun h3 => ?_)
  ·refine tB (Zd0 E0.Filter ob30000000.2) (fun x4 h5 => ?_)
   have eh5_0 := h5.1
   have eh5_1 := h5.2
   exact tR trivial
  ·refine tE (fun h6 => ?_) (fun h6 => ?_)
   ·refine tD (fun h7 => ?_) (fun h7 => ?_)
    ·refine tD (fun h8 => ?_) (fun h8 => ?_)
     ·refine tD (fun h9 => ?_) (fun h9 => ?_)
      ·exact tR trivial
      ·exact tR trivial
     ·exact tR trivial
    ·exact tR trivial
   ·refine tE (fun h10 => ?_) (fun h10 => ?_)
    ·refine tD (fun h11 => ?_) (fun h11 => ?_)
     ·refine tD (fun h12 => ?_) (fun h12 => ?_)
      ·refine tD (fun h13 => ?_) (fun h13 => ?_)
       ·exact tR trivial
       ·exact tR trivial
      ·exact tR trivial
     ·exact tR trivial
    ·exact tR trivial
theorem Zqi (E0 : Zh) (v18 : Int) (v25 : Bool) (h : (Zat E0) ∧ True) : Tot (Zo6 E0 v18 v25).den (Nx Zre Zva (0, 0, 0, 0, 0, 0) (fun r => True)) := by
 obtain ⟨ob30000000, _⟩ := h
 dsimp only [Zo6, LT.den]
 refine tF (fun h1 => ?_) (fun h1 => ?_)
 ·refine tB (Zqe E0.Sub (SzS.t ob30000000.1)) (fun x2 h3 => ?_)
  exact tR trivial
 ·refine tE (fun h4 => ?_) (fun h4 => ?_)
  ·refine tD (fun h5 => ?_) (fun h5 => ?_)
   ·exact tR trivial
   ·exact tR trivial
  ·refine tE (fun h6 => ?_) (fun h6 => ?_)
   ·refine tD (fun h7 => ?_) (fun h7 => ?_)
    ·exact tR trivial
    ·exact tR trivial
   ·refine tE (fun h8 => ?_) (fun h8 => ?_)
    ·exact tJ (Zqh E0 v18 (v18 == 8) ⟨ob30000000, trivial⟩)
    ·exact tJ (Zqh E0 v18 (v18 == 9) ⟨ob30000000, trivial⟩)
theorem Zqj (E0 : Zh) (v18 : Int) (v19 : Bool) (h : (Zat E0) ∧ True) : Tot (Zo7 E0 v18 v19).den (Nx Zre Zva (0, 0, 0, 0, 0, 0) (fun r => True)) := by
 obtain ⟨ob30000000, _⟩ := h
 dsimp only [Zo7, LT.den]
 refine tF (fun h1 => ?_) (fun h1 => ?_)
 ·refine tB (Zaf2 E0.N) (fun x2 h3 => ?_)
  exact tR trivial
 ·refine tE (fun h4 => ?_) (fun h4 => ?_)
  ·exact tJ (Zqi E0 v18 (v18 == 4) ⟨ob30000000, trivial⟩)
  ·exact tJ (Zqi E0 v18 (v18 == 5) ⟨ob30000000, trivial⟩)
theorem Zaca (a0 : Zh) (oa0 : Zat a0) : Tot (Zain a0) (fun r => True) := by
 unfold Zain
 refine tX (Inv := Zre) (μ := Zva) (m := (1000000, 0, 0, 0, 0, 0)) ?_ ?_
 ·dsimp only [Zail, LT.den]
  refine tD (fun h1 => ?_) (fun h1 => ?_)
  ·exact tR trivial
  ·refine tD (fun h2 => ?_) (fun h2 => ?_)
   ·exact tR trivial
   ·refine tB (Zaki a0 oa0) (fun x3 h4 => ?_)
    refine tO (fun h5 => ?_) (fun h5 => ?_)
    ·exact tR trivial
    ·refine tE (fun h6 => ?_) (fun h6 => ?_)
     ·exact tJ (Zqj a0 a0.Kind (a0.Kind == 2) ⟨oa0, trivial⟩)
     ·exact tJ (Zqj a0 a0.Kind (a0.Kind == 3) ⟨oa0, trivial⟩)
 ·intro s hs
  cases s with
  | L0 E0 v18 v19 => exact Zqj E0 v18 v19 hs
  | L1 E0 v18 v25 => exact Zqi E0 v18 v25 hs
  | L2 E0 v18 v51 => exact Zqh E0 v18 v51 hs
def Zad2 : Zi0 → Prop
 | .L0 v0 v1 v2 v7 v8 => ((SzL 16 SzN) v0) ∧ (SzN v2) ∧ (0 ≤ v8) ∧ (v7.length ≤ 200 * v8.toNat) ∧ (v0.length ≤ 100) ∧ (v8 ≤ v0.length)
def Z0m : Zi0 → M6
 | .L0 v0 v1 v2 v7 v8 => (1, ((v0.length : Int) - v8).toNat, 1000000, 0, 0, 0)
theorem Zad3 (a0 : (List (List UInt8))) (a1 : Int) (a2 : (List UInt8)) (oa0 : (SzL 16 SzN) a0) (oa2 : SzN a2) (h0 : a0.length ≤ 100) : Tot (Zyy a0 a1 a2) (fun r => (SzT r) ∧ (r.length ≤ 20000)) := by
 unfold Zyy
 refine tX (Inv := Zad2) (μ := Z0m) (m := (1000000, 0, 0, 0, 0, 0)) ?_ ?_
 ·have lb_a0 := oa0.1
  have lb_a2 : a2.length ≤ 100 := oa2
  dsimp only [Z1i, LT.den]
  exact tL ⟨oa0, oa2, cl, cl, cl, cl⟩ tk75
 ·intro s hs
  cases s with
  | L0 v0 v1 v2 v7 v8 =>
   obtain ⟨ov0, ov2, cv8, i0, i1, i2⟩ := hs
   have lb_v0 := ov0.1
   have lb_v2 : v2.length ≤ 100 := ov2
   show Tot (Zpy v0 v1 v2 v7 v8).den _
   dsimp only [Zpy, LT.den]
   have q1 := (SzL.nt ov0).1
   refine tD (fun h2 => ?_) (fun h2 => ?_)
   ·refine tB (Zwt v1 v8 cl) (fun x3 h4 => ?_)
    refine tF (fun h5 => ?_) (fun h5 => ?_)
    ·refine tO (fun h6 => ?_) (fun h6 => ?_)
     ·have q7 : v2.length ≤ 100 := ov2
      refine tB (tK Zch) (fun x8 h9 => ?_)
      refine tB (tI (by omega) (by omega)) (fun x10 h11 => ?_)
      have oh11 : SzN x10 := ov0.2 x10 h11.1
      have q12 : x10.length ≤ 100 := oh11
      refine tB (tK Zch) (fun x13 h14 => ?_)
      refine qw (v8 + 1) fun q15 q16 => ?_
      exact tL ⟨ov0, ov2, cl, cl, cl, cl⟩ tk75
     ·refine tB (tI (by omega) (by omega)) (fun x17 h18 => ?_)
      have oh18 : SzN x17 := ov0.2 x17 h18.1
      have q19 : x17.length ≤ 100 := oh18
      refine tB (tK Zch) (fun x20 h21 => ?_)
      refine qw (v8 + 1) fun q22 q23 => ?_
      exact tL ⟨ov0, ov2, cl, cl, cl, cl⟩ tk75
    ·refine qw (v8 + 1) fun q24 q25 => ?_
     exact tL ⟨ov0, ov2, cl, cl, cl, cl⟩ tk75
   ·exact tR ⟨Zlf, cl⟩
theorem Zj3 (a0 : Int) : Tot (Zpz a0) (fun r => (SzT r) ∧ (r.length ≤ 20000)) := by
 unfold Zpz
 refine tZ ?_
 dsimp only [Zui, LT.den]
 refine tD (fun h1 => ?_) (fun h1 => ?_)
 ·exact tR ⟨(SzT.nil), cl⟩
 ·refine tD (fun h2 => ?_) (fun h2 => ?_)
  ·exact tR ⟨(SzT.nil), cl⟩
  ·refine tB (Zq2) (fun x3 h4 => ?_)
   have eh4_1 := h4.2
   refine tB (Zad3 x3 a0 ([43] : List UInt8) h4.1 Z2 cl) (fun x5 h6 => ?_)
   have eh6_1 := h6.2
   exact tR ⟨h6.1, cl⟩
theorem Zaox (a0 : Int) : Tot (Zaiq a0) (fun r => True) := by
 unfold Zaiq
 refine tZ ?_
 dsimp only [Zaio, LT.den]
 refine tD (fun h1 => ?_) (fun h1 => ?_)
 ·exact tR trivial
 ·exact tR trivial
theorem Znd (a0 : Int) : Tot (Z7j a0) (fun r => (SzN r)) := by
 unfold Z7j
 refine tZ ?_
 dsimp only [Z94, LT.den]
 refine tE (fun h1 => ?_) (fun h1 => ?_)
 ·exact tR Z2
 ·refine tE (fun h2 => ?_) (fun h2 => ?_)
  ·exact tR Z2
  ·refine tE (fun h3 => ?_) (fun h3 => ?_)
   ·exact tR Z2
   ·refine tE (fun h4 => ?_) (fun h4 => ?_)
    ·exact tR Z2
    ·refine tE (fun h5 => ?_) (fun h5 => ?_)
     ·exact tR Z2
     ·exact tR (SzN.nil)
def Zakj : Zme → Prop
 | .L0 v0 v3 v4 => (0 ≤ v4) ∧ (v3.length ≤ 200 * v4.toNat) ∧ (v4 ≤ 5)
def Z6z : Zme → M6
 | .L0 v0 v3 v4 => (1, (5 - v4).toNat, 1000000, 0, 0, 0)
theorem Z3f (a0 : Int) : Tot (Z7k a0) (fun r => (SzT r)) := by
 unfold Z7k
 refine tX (Inv := Zakj) (μ := Z6z) (m := (1000000, 0, 0, 0, 0, 0)) ?_ ?_
 ·dsimp only [Z96, LT.den]
  refine tB (Zaox a0) (fun x1 h2 => ?_)
  refine tO (fun h3 => ?_) (fun h3 => ?_)
  ·exact tR (SzT.nil)
  ·refine tE (fun h4 => ?_) (fun h4 => ?_)
   ·exact tR Zlf
   ·exact tL ⟨cl, cl, cl⟩ tk90
 ·intro s hs
  cases s with
  | L0 v0 v3 v4 =>
   obtain ⟨cv4, i0, i1⟩ := hs
   show Tot (Zvt v0 v3 v4).den _
   dsimp only [Zvt, LT.den]
   refine tD (fun h1 => ?_) (fun h1 => ?_)
   ·refine tB (tK tk52) (fun x2 h3 => ?_)
    refine tB (tK tk52) (fun x4 h5 => ?_)
    refine tE (fun h6 => ?_) (fun h6 => ?_)
    ·refine tO (fun h7 => ?_) (fun h7 => ?_)
     ·refine tB (tK Zch) (fun x8 h9 => ?_)
      refine tB (Znd v4) (fun x10 h11 => ?_)
      have q12 : x10.length ≤ 100 := h11
      refine tB (tK Zch) (fun x13 h14 => ?_)
      refine qw (v4 + 1) fun q15 q16 => ?_
      exact tL ⟨cl, cl, cl⟩ tk90
     ·refine tB (Znd v4) (fun x17 h18 => ?_)
      have q19 : x17.length ≤ 100 := h18
      refine tB (tK Zch) (fun x20 h21 => ?_)
      refine qw (v4 + 1) fun q22 q23 => ?_
      exact tL ⟨cl, cl, cl⟩ tk90
    ·refine qw (v4 + 1) fun q24 q25 => ?_
     exact tL ⟨cl, cl, cl⟩ tk90
   ·exact tR Zlf
theorem Zaf3 : Tot (Zuk) (fun r => ((SzL 16 SzN) r) ∧ (r.length = 17)) := by
 unfold Zuk
 refine tZ ?_
 dsimp only [Z5c, LT.den]
 have q1 : (SzL 16 SzN) ([([102, 108, 121, 105, 110, 103] : List UInt8), ([114, 101, 97, 99, 104] : List UInt8), ([104, 97, 115, 116, 101] : List UInt8), ([118, 105, 103, 105, 108, 97, 110, 116] : List UInt8), ([116, 114, 97, 109, 112, 108, 101] : List UInt8), ([102, 105, 114, 115, 116, 45, 115, 116, 114, 105, 107, 101] : List UInt8), ([100, 111, 117, 98, 108, 101, 45, 115, 116, 114, 105, 107, 101] : List UInt8), ([100, 101, 97, 100, 108, 121] : List UInt8), ([108, 105, 102, 101, 108, 105, 110, 107] : List UInt8), ([109, 101, 110, 97, 99, 101] : List UInt8), ([100, 101, 102, 101, 110, 100, 101, 114] : List UInt8), ([119, 97, 114, 100, 101, 100] : List UInt8), ([115, 116, 117, 114, 100, 121] : List UInt8), ([101, 108, 117, 115, 105, 118, 101] : List UInt8), ([110, 111, 45, 97, 116, 116, 97, 99, 107] : List UInt8), ([110, 111, 45, 98, 108, 111, 99, 107] : List UInt8), ([109, 117, 115, 116, 45, 97, 116, 116, 97, 99, 107] : List UInt8)] : (List (List UInt8))) := ⟨by simp only [List.length_cons, List.length_nil]; omega, (mem_cons' Z2 (mem_cons' Z2 (mem_cons' Z2 (mem_cons' Z2 (mem_cons' Z2 (mem_cons' Z2 (mem_cons' Z2 (mem_cons' Z2 (mem_cons' Z2 (mem_cons' Z2 (mem_cons' Z2 (mem_cons' Z2 (mem_cons' Z2 (mem_cons' Z2 (mem_cons' Z2 (mem_cons' Z2 (mem_cons' Z2 (fun _ h => by cases h))))))))))))))))))⟩
 have lq1 : ([([102, 108, 121, 105, 110, 103] : List UInt8), ([114, 101, 97, 99, 104] : List UInt8), ([104, 97, 115, 116, 101] : List UInt8), ([118, 105, 103, 105, 108, 97, 110, 116] : List UInt8), ([116, 114, 97, 109, 112, 108, 101] : List UInt8), ([102, 105, 114, 115, 116, 45, 115, 116, 114, 105, 107, 101] : List UInt8), ([100, 111, 117, 98, 108, 101, 45, 115, 116, 114, 105, 107, 101] : List UInt8), ([100, 101, 97, 100, 108, 121] : List UInt8), ([108, 105, 102, 101, 108, 105, 110, 107] : List UInt8), ([109, 101, 110, 97, 99, 101] : List UInt8), ([100, 101, 102, 101, 110, 100, 101, 114] : List UInt8), ([119, 97, 114, 100, 101, 100] : List UInt8), ([115, 116, 117, 114, 100, 121] : List UInt8), ([101, 108, 117, 115, 105, 118, 101] : List UInt8), ([110, 111, 45, 97, 116, 116, 97, 99, 107] : List UInt8), ([110, 111, 45, 98, 108, 111, 99, 107] : List UInt8), ([109, 117, 115, 116, 45, 97, 116, 116, 97, 99, 107] : List UInt8)] : (List (List UInt8))).length = 17 := rfl
 exact tR ⟨q1, cl⟩
theorem Ztn (a0 : Int) : Tot (Z7l a0) (fun r => (SzN r)) := by
 unfold Z7l
 refine tZ ?_
 dsimp only [Z98, LT.den]
 refine tD (fun h1 => ?_) (fun h1 => ?_)
 ·exact tR (SzN.nil)
 ·refine tD (fun h2 => ?_) (fun h2 => ?_)
  ·exact tR (SzN.nil)
  ·refine tB (Zaf3) (fun x3 h4 => ?_)
   have eh4_1 := h4.2
   refine tB (tI (by omega) (by omega)) (fun x5 h6 => ?_)
   have oh6 : SzN x5 := h4.1.2 x5 h6.1
   exact tR oh6
def Zakk : Zmf → Prop
 | .L0 v0 v3 v4 => (0 ≤ v4) ∧ (v3.length ≤ 200 * v4.toNat) ∧ (v4 ≤ 17)
def Z60 : Zmf → M6
 | .L0 v0 v3 v4 => (1, (17 - v4).toNat, 1000000, 0, 0, 0)
theorem Z3g (a0 : Int) : Tot (Z7m a0) (fun r => (SzT r)) := by
 unfold Z7m
 refine tX (Inv := Zakk) (μ := Z60) (m := (1000000, 0, 0, 0, 0, 0)) ?_ ?_
 ·dsimp only [Zaaa, LT.den]
  refine tB (Zab9 a0) (fun x1 h2 => ?_)
  refine tO (fun h3 => ?_) (fun h3 => ?_)
  ·exact tR (SzT.nil)
  ·exact tL ⟨cl, cl, cl⟩ tk91
 ·intro s hs
  cases s with
  | L0 v0 v3 v4 =>
   obtain ⟨cv4, i0, i1⟩ := hs
   show Tot (Zvv v0 v3 v4).den _
   dsimp only [Zvv, LT.den]
   refine tD (fun h1 => ?_) (fun h1 => ?_)
   ·refine tE (fun h2 => ?_) (fun h2 => ?_)
    ·refine tO (fun h3 => ?_) (fun h3 => ?_)
     ·refine tB (tK Zch) (fun x4 h5 => ?_)
      refine tB (Ztn v4) (fun x6 h7 => ?_)
      have q8 : x6.length ≤ 100 := h7
      refine tB (tK Zch) (fun x9 h10 => ?_)
      refine qw (v4 + 1) fun q11 q12 => ?_
      exact tL ⟨cl, cl, cl⟩ tk91
     ·refine tB (Ztn v4) (fun x13 h14 => ?_)
      have q15 : x13.length ≤ 100 := h14
      refine tB (tK Zch) (fun x16 h17 => ?_)
      refine qw (v4 + 1) fun q18 q19 => ?_
      exact tL ⟨cl, cl, cl⟩ tk91
    ·refine qw (v4 + 1) fun q20 q21 => ?_
     exact tL ⟨cl, cl, cl⟩ tk91
   ·refine tF (fun h22 => ?_) (fun h22 => ?_)
    ·exact tR Zlf
    ·exact tR Zlf
theorem Z4k : Tot (Zku) (fun r => ((SzL 16 SzN) r) ∧ (r.length = 6)) := by
 unfold Zku
 refine tZ ?_
 dsimp only [Zul, LT.den]
 have q1 : (SzL 16 SzN) ([([] : List UInt8), ([105, 110, 45, 104, 97, 110, 100] : List UInt8), ([105, 110, 45, 108, 105, 98, 114, 97, 114, 121] : List UInt8), ([105, 110, 45, 103, 114, 97, 118, 101, 121, 97, 114, 100] : List UInt8), ([105, 110, 45, 101, 120, 105, 108, 101] : List UInt8), ([111, 110, 45, 115, 116, 97, 99, 107] : List UInt8)] : (List (List UInt8))) := ⟨by simp only [List.length_cons, List.length_nil]; omega, (mem_cons' (SzN.nil) (mem_cons' Z2 (mem_cons' Z2 (mem_cons' Z2 (mem_cons' Z2 (mem_cons' Z2 (fun _ h => by cases h)))))))⟩
 have lq1 : ([([] : List UInt8), ([105, 110, 45, 104, 97, 110, 100] : List UInt8), ([105, 110, 45, 108, 105, 98, 114, 97, 114, 121] : List UInt8), ([105, 110, 45, 103, 114, 97, 118, 101, 121, 97, 114, 100] : List UInt8), ([105, 110, 45, 101, 120, 105, 108, 101] : List UInt8), ([111, 110, 45, 115, 116, 97, 99, 107] : List UInt8)] : (List (List UInt8))).length = 6 := rfl
 exact tR ⟨q1, cl⟩
theorem Z8v : Tot (Zmg) (fun r => ((SzL 16 SzN) r) ∧ (r.length = 3)) := by
 unfold Zmg
 refine tZ ?_
 dsimp only [Zxa, LT.den]
 have q1 : (SzL 16 SzN) ([([] : List UInt8), ([121, 111, 117, 114, 115] : List UInt8), ([116, 104, 101, 105, 114, 115] : List UInt8)] : (List (List UInt8))) := ⟨by simp only [List.length_cons, List.length_nil]; omega, (mem_cons' (SzN.nil) (mem_cons' Z2 (mem_cons' Z2 (fun _ h => by cases h))))⟩
 have lq1 : ([([] : List UInt8), ([121, 111, 117, 114, 115] : List UInt8), ([116, 104, 101, 105, 114, 115] : List UInt8)] : (List (List UInt8))).length = 3 := rfl
 exact tR ⟨q1, cl⟩
theorem Z4l : Tot (Zkv) (fun r => ((SzL 16 SzN) r) ∧ (r.length = 3)) := by
 unfold Zkv
 refine tZ ?_
 dsimp only [Zun, LT.den]
 have q1 : (SzL 16 SzN) ([([] : List UInt8), ([115, 101, 108, 102] : List UInt8), ([111, 116, 104, 101, 114] : List UInt8)] : (List (List UInt8))) := ⟨by simp only [List.length_cons, List.length_nil]; omega, (mem_cons' (SzN.nil) (mem_cons' Z2 (mem_cons' Z2 (fun _ h => by cases h))))⟩
 have lq1 : ([([] : List UInt8), ([115, 101, 108, 102] : List UInt8), ([111, 116, 104, 101, 114] : List UInt8)] : (List (List UInt8))).length = 3 := rfl
 exact tR ⟨q1, cl⟩
theorem Z8w : Tot (Zmh) (fun r => ((SzL 16 SzN) r) ∧ (r.length = 3)) := by
 unfold Zmh
 refine tZ ?_
 dsimp only [Zxc, LT.den]
 have q1 : (SzL 16 SzN) ([([] : List UInt8), ([116, 97, 112, 112, 101, 100] : List UInt8), ([117, 110, 116, 97, 112, 112, 101, 100] : List UInt8)] : (List (List UInt8))) := ⟨by simp only [List.length_cons, List.length_nil]; omega, (mem_cons' (SzN.nil) (mem_cons' Z2 (mem_cons' Z2 (fun _ h => by cases h))))⟩
 have lq1 : ([([] : List UInt8), ([116, 97, 112, 112, 101, 100] : List UInt8), ([117, 110, 116, 97, 112, 112, 101, 100] : List UInt8)] : (List (List UInt8))).length = 3 := rfl
 exact tR ⟨q1, cl⟩
def Zamd : Zo8 → Prop
 | .L0 v0 v1 v5 => (0 ≤ v5) ∧ (v1 ≤ 100)
def Zzq : Zo8 → M6
 | .L0 v0 v1 v5 => (1, (v1 - v5).toNat, 1000000, 0, 0, 0)
theorem Zks (a0 : Int) (a1 : Int) (h0 : a1 ≤ 100) : Tot (Zac7 a0 a1) (fun r => True) := by
 unfold Zac7
 refine tX (Inv := Zamd) (μ := Zzq) (m := (1000000, 0, 0, 0, 0, 0)) ?_ ?_
 ·dsimp only [Zaew, LT.den]
  exact tL ⟨cl, cl⟩ (by unfold Zzq lt6; dsimp only; omega)
 ·intro s hs
  cases s with
  | L0 v0 v1 v5 =>
   obtain ⟨cv5, i0⟩ := hs
   show Tot (Zyz v0 v1 v5).den _
   dsimp only [Zyz, LT.den]
   refine tD (fun h1 => ?_) (fun h1 => ?_)
   ·refine qw (v5 + 1) fun q2 q3 => ?_
    exact tL ⟨cl, cl⟩ (by unfold Zzq lt6; dsimp only; omega)
   ·exact tR trivial
def Z8x : Zg6 → Prop
 | .L0 v0 v3 v4 => (0 ≤ v4) ∧ (v0 ≤ 100)
def Zne : Zg6 → M6
 | .L0 v0 v3 v4 => (1, (v0 - v4).toNat, 1000000, 0, 0, 0)
theorem Zto (a0 : Int) (h0 : a0 ≤ 100) : Tot (Zr6 a0) (fun r => (SzT r) ∧ (r.length ≤ 20000)) := by
 unfold Zr6
 refine tX (Inv := Z8x) (μ := Zne) (m := (1000000, 0, 0, 0, 0, 0)) ?_ ?_
 ·dsimp only [Zxe, LT.den]
  exact tL ⟨cl, cl⟩ (by unfold Zne lt6; dsimp only; omega)
 ·intro s hs
  cases s with
  | L0 v0 v3 v4 =>
   obtain ⟨cv4, i0⟩ := hs
   show Tot (Zmj v0 v3 v4).den _
   dsimp only [Zmj, LT.den]
   refine tD (fun h1 => ?_) (fun h1 => ?_)
   ·refine qw (v3 * 2) fun q2 q3 => ?_
    refine qw (v4 + 1) fun q4 q5 => ?_
    exact tL ⟨cl, cl⟩ (by unfold Zne lt6; dsimp only; omega)
   ·refine tB (Zj3 v3) (fun x6 h7 => ?_)
    have eh7_1 := h7.2
    exact tR ⟨h7.1, cl⟩
theorem Zaf4 : Tot (Zuq) (fun r => ((SzL 16 SzN) r) ∧ (r.length = 4)) := by
 unfold Zuq
 refine tZ ?_
 dsimp only [Z5f, LT.den]
 have q1 : (SzL 16 SzN) ([([] : List UInt8), ([62, 61] : List UInt8), ([60, 61] : List UInt8), ([61] : List UInt8)] : (List (List UInt8))) := ⟨by simp only [List.length_cons, List.length_nil]; omega, (mem_cons' (SzN.nil) (mem_cons' Z2 (mem_cons' Z2 (mem_cons' Z2 (fun _ h => by cases h)))))⟩
 have lq1 : ([([] : List UInt8), ([62, 61] : List UInt8), ([60, 61] : List UInt8), ([61] : List UInt8)] : (List (List UInt8))).length = 4 := rfl
 exact tR ⟨q1, cl⟩
theorem Zatw {n : Int} (h0 : 0 ≤ n) (h1 : n < 18446744073709551616) : Zjw .u64 n 10 = n / 10 := by
 unfold Zjw
 rw [Int.tdiv_eq_ediv_of_nonneg h0]
 have h2 : 0 ≤ n / 10 := by omega
 have h3 : n / 10 < 18446744073709551616 := by omega
 simp only [IntKind.wrap, IntKind.bits, IntKind.signed, Bool.false_and, Bool.false_eq_true, if_false]
 exact Int.emod_eq_of_lt h2 h3
theorem Zvb : ∀ (k : Nat) (n : Int) (s : List UInt8), k ≤ 20 → 0 ≤ n → n < 10 ^ k → n < 18446744073709551616 → s.length + k ≤ 40 → Tot (Zbu Zmk.step (.L0 n s)) fun r => SzN r ∧ r.length ≤ 40
 | 0, n, s, _, h0, h1, _, hs => by
  have : n = 0 := by omega
  subst this
  refine Tot.stop (r := s) ?_ ⟨show s.length ≤ 100 by omega, by omega⟩
  show (Ze5 _ _).den = _
  dsimp only [Ze5, LT.den]
  rfl
 | k + 1, n, s, hk, h0, h1, h2, hs => by
  by_cases hn : n > 0
  ·obtain ⟨d, hd, hl⟩ := Tot.str (xs := [IntKind.wrap .u8 (IntKind.wrap .u64 (48 + (Int.tmod n 10)))]) (by simp) tk36
   simp only [List.length_cons, List.length_nil] at hl
   have e : Zmk.step (.L0 n s) = some (.inl (.L0 (n / 10) (d ++ s))) := by
    show (Ze5 _ _).den = _
    dsimp only [Ze5, LT.den]
    rw [decide_eq_true hn, cond_true, hd, Option.bind_some, decide_eq_true (show d.length + s.length ≤ 9223372036854775807 by omega), Zatw h0 h2]
    rfl
   obtain ⟨r, hr, hp⟩ := Zvb k (n / 10) (d ++ s) (by omega) (by omega) (by
    rw [Int.pow_succ] at h1
    have : n / 10 < 10 ^ k := Int.ediv_lt_of_lt_mul (by decide) h1
    exact this) (by omega) (by rw [List.length_append]; omega)
   exact ⟨r, by rw [Zec e]; exact hr, hp⟩
  ·refine Tot.stop (r := s) ?_ ⟨show s.length ≤ 100 by omega, by omega⟩
   show (Ze5 _ _).den = _
   dsimp only [Ze5, LT.den]
   rw [decide_eq_false hn]; rfl
theorem Zx7 (a0 : Int) (h0 : 0 ≤ a0) (h1 : a0 < 18446744073709551616) : Tot (Zy0 a0) (fun r => (SzN r) ∧ (r.length ≤ 40)) := by
 unfold Zy0 LF.run; dsimp only [Z1k, LT.den]
 obtain ⟨d, hd, hl⟩ := Tot.str (xs := [IntKind.wrap .u8 (IntKind.wrap .u64 (48 + (Int.tmod a0 10)))]) (by simp) tk36
 simp only [List.length_cons, List.length_nil] at hl
 rw [hd, Option.bind_some, Option.bind_some, Zgu, Zatw h0 h1]
 exact Zvb 20 (a0 / 10) d (by omega) (by omega) (by omega) (by omega) (by omega)
theorem Zhe (a0 : Int) : Tot (Z7r a0) (fun r => (SzN r)) := by
 unfold Z7r
 refine tZ ?_
 dsimp only [Zaae, LT.den]
 refine tD (fun h1 => ?_) (fun h1 => ?_)
 ·have q2 : 0 ≤ IntKind.wrap .u64 a0 ∧ IntKind.wrap .u64 a0 < 18446744073709551616 := Zac5 _
  have q3 : 0 ≤ IntKind.wrap .u64 (0 - (IntKind.wrap .u64 a0)) ∧ IntKind.wrap .u64 (0 - (IntKind.wrap .u64 a0)) < 18446744073709551616 := Zac5 _
  refine tB (Zx7 (IntKind.wrap .u64 (0 - (IntKind.wrap .u64 a0))) cl cl) (fun x4 h5 => ?_)
  have eh5_1 := h5.2
  have q6 : x4.length ≤ 100 := h5.1
  refine tB (tK Zch) (fun x7 h8 => ?_)
  exact tR Z2
 ·have q9 : 0 ≤ IntKind.wrap .u64 a0 ∧ IntKind.wrap .u64 a0 < 18446744073709551616 := Zac5 _
  refine tB (Zx7 (IntKind.wrap .u64 a0) cl cl) (fun x10 h11 => ?_)
  have eh11_1 := h11.2
  exact tR h11.1
theorem Zj4 (a0 : (List UInt8)) (a1 : Za) (oa0 : SzN a0) (h0 : 0 ≤ a1.Kind) (h1 : a1.Kind ≤ 3) : Tot (Zp0 a0 a1) (fun r => (SzT r)) := by
 unfold Zp0
 refine tZ ?_
 have lb_a0 : a0.length ≤ 100 := oa0
 dsimp only [Zur, LT.den]
 refine tE (fun h1 => ?_) (fun h1 => ?_)
 ·exact tR (SzT.nil)
 ·refine tB (Zaf4) (fun x2 h3 => ?_)
  have eh3_1 := h3.2
  refine tB (tI (by omega) (by omega)) (fun x4 h5 => ?_)
  have oh5 : SzN x4 := h3.1.2 x4 h5.1
  have q6 : a0.length ≤ 100 := oa0
  have q7 : x4.length ≤ 100 := oh5
  refine tB (tK Zch) (fun x8 h9 => ?_)
  refine tB (Zhe a1.N) (fun x10 h11 => ?_)
  have q12 : x10.length ≤ 100 := h11
  refine tB (tK Zch) (fun x13 h14 => ?_)
  exact tR Zlf
def Zakl : Zml → Prop
 | .L0 v0 v1 v5 v6 => ((SzL 16 SzT) v0) ∧ (SzN v1) ∧ (0 ≤ v6) ∧ (v5.length ≤ 1125899906842624 * v6.toNat) ∧ (v0.length ≤ 100) ∧ (v6 ≤ v0.length)
def Z61 : Zml → M6
 | .L0 v0 v1 v5 v6 => (1, ((v0.length : Int) - v6).toNat, 1000000, 0, 0, 0)
theorem Zakm (a0 : (List (List UInt8))) (a1 : (List UInt8)) (oa0 : (SzL 16 SzT) a0) (oa1 : SzN a1) (h0 : a0.length ≤ 100) : Tot (Z7s a0 a1) (fun r => (r.length ≤ 144115188075855872)) := by
 unfold Z7s
 refine tX (Inv := Zakl) (μ := Z61) (m := (1000000, 0, 0, 0, 0, 0)) ?_ ?_
 ·have lb_a0 := oa0.1
  have lb_a1 : a1.length ≤ 100 := oa1
  dsimp only [Zaag, LT.den]
  exact tL ⟨oa0, oa1, cl, cl, cl, cl⟩ tk92
 ·intro s hs
  cases s with
  | L0 v0 v1 v5 v6 =>
   obtain ⟨ov0, ov1, cv6, i0, i1, i2⟩ := hs
   have lb_v0 := ov0.1
   have lb_v1 : v1.length ≤ 100 := ov1
   show Tot (Zvw v0 v1 v5 v6).den _
   dsimp only [Zvw, LT.den]
   have q1 := ov0.1
   refine tD (fun h2 => ?_) (fun h2 => ?_)
   ·refine tD (fun h3 => ?_) (fun h3 => ?_)
    ·have q4 : v1.length ≤ 100 := ov1
     refine tB (tK Zch) (fun x5 h6 => ?_)
     refine tB (tI (by omega) (by omega)) (fun x7 h8 => ?_)
     have oh8 : SzT x7 := ov0.2 x7 h8.1
     have q9 : x7.length ≤ 562949953421312 := oh8
     refine tB (tK Zch) (fun x10 h11 => ?_)
     refine qw (v6 + 1) fun q12 q13 => ?_
     exact tL ⟨ov0, ov1, cl, cl, cl, cl⟩ tk92
    ·refine tB (tI (by omega) (by omega)) (fun x14 h15 => ?_)
     have oh15 : SzT x14 := ov0.2 x14 h15.1
     have q16 : x14.length ≤ 562949953421312 := oh15
     refine tB (tK Zch) (fun x17 h18 => ?_)
     refine qw (v6 + 1) fun q19 q20 => ?_
     exact tL ⟨ov0, ov1, cl, cl, cl, cl⟩ tk92
   ·exact tR cl
theorem Zdq (b0 : (List (List UInt8))) (a1 : (List UInt8)) (ob0 : (SzL 16 SzT) b0) (oa1 : SzT a1) (h0 : b0.length ≤ 1000) : Tot (Zr8 b0 a1) (fun r => ((SzL 16 SzT) r) ∧ (r.length ≤ b0.length + 1)) := by
 unfold Zr8
 refine tZ ?_
 have lb_b0 := ob0.1
 have lb_a1 : a1.length ≤ 562949953421312 := oa1
 dsimp only [Zxg, LT.den]
 refine tF (fun h1 => ?_) (fun h1 => ?_)
 ·exact tR ⟨ob0, cl⟩
 ·have q2 : (SzL 16 SzT) ([a1] : (List (List UInt8))) := ⟨by simp only [List.length_cons, List.length_nil]; omega, (mem_cons' oa1 (fun _ h => by cases h))⟩
  have q5 := ob0.1
  refine tB (tA Znb (by decide)) (fun x3 h4 => ?_)
  have lh4 : x3.length = b0.length + 1 := by rw [h4, List.length_append]; rfl
  exact tR ⟨(SzL.app (k := 16) h4 lo ob0.2 q2.2), cl⟩
def Ztp : Zen → Prop
 | .L0 E0 v6 v7 v8 => (Zaq E0) ∧ ((SzL 16 SzN) v6) ∧ ((SzL 16 SzT) v7) ∧ (0 ≤ v8) ∧ (v7.length ≤ 3 + v8.toNat) ∧ (v8 ≤ 6) ∧ (v6.length = 3) ∧ (0 ≤ E0.Tap ∧ E0.Tap ≤ 2 ∧ 0 ≤ E0.Power.Kind ∧ E0.Power.Kind ≤ 3 ∧ 0 ≤ E0.Tough.Kind ∧ E0.Tough.Kind ≤ 3 ∧ 0 ≤ E0.Value.Kind ∧ E0.Value.Kind ≤ 3)
 | .L1 E0 v6 v7 v9 => (Zaq E0) ∧ ((SzL 16 SzN) v6) ∧ ((SzL 16 SzT) v7) ∧ (0 ≤ v9) ∧ (v7.length ≤ 9 + v9.toNat) ∧ (v9 ≤ 6) ∧ (v6.length = 3) ∧ (0 ≤ E0.Tap ∧ E0.Tap ≤ 2 ∧ 0 ≤ E0.Power.Kind ∧ E0.Power.Kind ≤ 3 ∧ 0 ≤ E0.Tough.Kind ∧ E0.Tough.Kind ≤ 3 ∧ 0 ≤ E0.Value.Kind ∧ E0.Value.Kind ≤ 3)
 | .L2 E0 v6 v7 v10 => (Zaq E0) ∧ ((SzL 16 SzN) v6) ∧ ((SzL 16 SzT) v7) ∧ (0 ≤ v10) ∧ (v7.length ≤ 15 + v10.toNat) ∧ (v10 ≤ 5) ∧ (v6.length = 3) ∧ (0 ≤ E0.Tap ∧ E0.Tap ≤ 2 ∧ 0 ≤ E0.Power.Kind ∧ E0.Power.Kind ≤ 3 ∧ 0 ≤ E0.Tough.Kind ∧ E0.Tough.Kind ≤ 3 ∧ 0 ≤ E0.Value.Kind ∧ E0.Value.Kind ≤ 3)
 | .L3 E0 v6 v7 v11 => (Zaq E0) ∧ ((SzL 16 SzN) v6) ∧ ((SzL 16 SzT) v7) ∧ (0 ≤ v11) ∧ (v7.length ≤ 20 + v11.toNat) ∧ (v11 ≤ 5) ∧ (v6.length = 3) ∧ (0 ≤ E0.Tap ∧ E0.Tap ≤ 2 ∧ 0 ≤ E0.Power.Kind ∧ E0.Power.Kind ≤ 3 ∧ 0 ≤ E0.Tough.Kind ∧ E0.Tough.Kind ≤ 3 ∧ 0 ≤ E0.Value.Kind ∧ E0.Value.Kind ≤ 3)
 | .L4 E0 v6 v7 => (Zaq E0) ∧ ((SzL 16 SzN) v6) ∧ ((SzL 16 SzT) v7) ∧ (v7.length ≤ 26) ∧ (v6.length = 3) ∧ (0 ≤ E0.Tap ∧ E0.Tap ≤ 2 ∧ 0 ≤ E0.Power.Kind ∧ E0.Power.Kind ≤ 3 ∧ 0 ≤ E0.Tough.Kind ∧ E0.Tough.Kind ≤ 3 ∧ 0 ≤ E0.Value.Kind ∧ E0.Value.Kind ≤ 3)
 | .L5 E0 v6 v7 v12 => (Zaq E0) ∧ ((SzL 16 SzN) v6) ∧ ((SzL 16 SzT) v7) ∧ (0 ≤ v12) ∧ (v7.length ≤ 26 + v12.toNat) ∧ (v12 ≤ 17) ∧ (v6.length = 3) ∧ (0 ≤ E0.Tap ∧ E0.Tap ≤ 2 ∧ 0 ≤ E0.Power.Kind ∧ E0.Power.Kind ≤ 3 ∧ 0 ≤ E0.Tough.Kind ∧ E0.Tough.Kind ≤ 3 ∧ 0 ≤ E0.Value.Kind ∧ E0.Value.Kind ≤ 3)
def Zfp : Zen → M6
 | .L0 E0 v6 v7 v8 => (9, (6 - v8).toNat, 1000000, 0, 0, 0)
 | .L1 E0 v6 v7 v9 => (7, (6 - v9).toNat, 1000000, 0, 0, 0)
 | .L2 E0 v6 v7 v10 => (5, (5 - v10).toNat, 1000000, 0, 0, 0)
 | .L3 E0 v6 v7 v11 => (3, (5 - v11).toNat, 1000000, 0, 0, 0)
 | .L4 E0 v6 v7 => (2, 0, 0, 0, 0, 0)
 | .L5 E0 v6 v7 v12 => (1, (17 - v12).toNat, 1000000, 0, 0, 0)
theorem Znf (E0 : Zc) (v6 : (List (List UInt8))) (v7 : (List (List UInt8))) (h : Ztp (.L4 E0 v6 v7)) : Tot (Zkc E0 v6 v7).den (Nx Ztp Zfp (2, 0, 0, 0, 0, 0) (fun r => (r.length ≤ 144115188075855872))) := by
 obtain ⟨ob30000000, ov6, ov7, i0, i1, i2⟩ := h
 have lb_v6 := ov6.1
 have lb_v7 := ov7.1
 dsimp only [Zkc, LT.den]
 exact tL ⟨ob30000000, ov6, ov7, cl, cl, cl, cl, cl⟩ Zlg
theorem Zakn (a0 : Zc) (oa0 : Zaq a0) : Tot (Z7t a0) (fun r => (r.length ≤ 144115188075855872)) := by
 unfold Z7t
 refine tX (Inv := Ztp) (μ := Zfp) (m := (1000000, 0, 0, 0, 0, 0)) ?_ ?_
 ·dsimp only [Zaai, LT.den]
  refine tB (Zd0 a0 oa0) (fun x1 h2 => ?_)
  have eh2_0 := h2.1
  have eh2_1 := h2.2
  refine tO (fun h3 => ?_) (fun h3 => ?_)
  ·exact tR cl
  ·have h3_0 := eh2_0 h3
   refine tB (Z4k) (fun x4 h5 => ?_)
   have eh5_1 := h5.2
   refine tB (Z8v) (fun x6 h7 => ?_)
   have eh7_1 := h7.2
   refine tB (Z4l) (fun x8 h9 => ?_)
   have eh9_1 := h9.2
   refine tB (Z8w) (fun x10 h11 => ?_)
   have eh11_1 := h11.2
   refine tB (tI (by omega) (by omega)) (fun x12 h13 => ?_)
   have oh13 : SzN x12 := h5.1.2 x12 h13.1
   refine tB (Zdq ([] : (List (List UInt8))) x12 SzL.nil (SzN.t oh13) cl) (fun x14 h15 => ?_)
   have eh15_1 := h15.2
   try simp only [List.length_nil, List.length_cons, Nat.zero_add] at eh15_1
   refine tB (tI (by omega) (by omega)) (fun x16 h17 => ?_)
   have oh17 : SzN x16 := h7.1.2 x16 h17.1
   refine tB (Zdq x14 x16 h15.1 (SzN.t oh17) cl) (fun x18 h19 => ?_)
   have eh19_1 := h19.2
   refine tB (tI (by omega) (by omega)) (fun x20 h21 => ?_)
   have oh21 : SzN x20 := h9.1.2 x20 h21.1
   refine tB (Zdq x18 x20 h19.1 (SzN.t oh21) cl) (fun x22 h23 => ?_)
   have eh23_1 := h23.2
   exact tL ⟨oa0, h11.1, h23.1, cl, cl, cl, cl, cl⟩ Zlg
 ·intro s hs
  cases s with
  | L0 E0 v6 v7 v8 =>
   obtain ⟨ob30000000, ov6, ov7, cv8, i0, i1, i2, i3⟩ := hs
   have lb_v6 := ov6.1
   have lb_v7 := ov7.1
   show Tot (Zvx E0 v6 v7 v8).den _
   dsimp only [Zvx, LT.den, Zfp]
   refine tD (fun h1 => ?_) (fun h1 => ?_)
   ·refine tB (Zks E0.Types v8 cl) (fun x2 h3 => ?_)
    refine tF (fun h4 => ?_) (fun h4 => ?_)
    ·refine tB (Zto v8 cl) (fun x5 h6 => ?_)
     have eh6_1 := h6.2
     have q7 : (SzL 16 SzT) ([x5] : (List (List UInt8))) := ⟨by simp only [List.length_cons, List.length_nil]; omega, (mem_cons' h6.1 (fun _ h => by cases h))⟩
     have q10 := ov7.1
     refine tB (tA Znb (by decide)) (fun x8 h9 => ?_)
     have lh9 : x8.length = v7.length + 1 := by rw [h9, List.length_append]; rfl
     refine qw (v8 + 1) fun q11 q12 => ?_
     exact tL ⟨ob30000000, ov6, (SzL.app (k := 16) h9 lo ov7.2 q7.2), cl, cl, cl, cl, cl⟩ Zlg
    ·refine qw (v8 + 1) fun q13 q14 => ?_
     exact tL ⟨ob30000000, ov6, ov7, cl, cl, cl, cl, cl⟩ Zlg
   ·exact tL ⟨ob30000000, ov6, ov7, cl, cl, cl, cl, cl⟩ Zlg
  | L1 E0 v6 v7 v9 =>
   obtain ⟨ob30000000, ov6, ov7, cv9, i0, i1, i2, i3⟩ := hs
   have lb_v6 := ov6.1
   have lb_v7 := ov7.1
   show Tot (Zvy E0 v6 v7 v9).den _
   dsimp only [Zvy, LT.den, Zfp]
   refine tD (fun h1 => ?_) (fun h1 => ?_)
   ·refine tB (Zks E0.NotTypes v9 cl) (fun x2 h3 => ?_)
    refine tF (fun h4 => ?_) (fun h4 => ?_)
    ·refine tB (Zto v9 cl) (fun x5 h6 => ?_)
     have eh6_1 := h6.2
     have q7 : x5.length ≤ 562949953421312 := h6.1
     refine tB (tK Zch) (fun x8 h9 => ?_)
     have q10 : (SzL 16 SzT) ([(([110, 111, 110, 45] : List UInt8) ++ x5)] : (List (List UInt8))) := ⟨by simp only [List.length_cons, List.length_nil]; omega, (mem_cons' Zlf (fun _ h => by cases h))⟩
     have q13 := ov7.1
     refine tB (tA Znb (by decide)) (fun x11 h12 => ?_)
     have lh12 : x11.length = v7.length + 1 := by rw [h12, List.length_append]; rfl
     refine qw (v9 + 1) fun q14 q15 => ?_
     exact tL ⟨ob30000000, ov6, (SzL.app (k := 16) h12 lo ov7.2 q10.2), cl, cl, cl, cl, cl⟩ Zlg
    ·refine qw (v9 + 1) fun q16 q17 => ?_
     exact tL ⟨ob30000000, ov6, ov7, cl, cl, cl, cl, cl⟩ Zlg
   ·exact tL ⟨ob30000000, ov6, ov7, cl, cl, cl, cl, cl⟩ Zlg
  | L2 E0 v6 v7 v10 =>
   obtain ⟨ob30000000, ov6, ov7, cv10, i0, i1, i2, i3⟩ := hs
   have lb_v6 := ov6.1
   have lb_v7 := ov7.1
   show Tot (Zvz E0 v6 v7 v10).den _
   dsimp only [Zvz, LT.den, Zfp]
   refine tD (fun h1 => ?_) (fun h1 => ?_)
   ·refine tB (Zks E0.Colors v10 cl) (fun x2 h3 => ?_)
    refine tF (fun h4 => ?_) (fun h4 => ?_)
    ·refine tB (Znd v10) (fun x5 h6 => ?_)
     have q7 : (SzL 16 SzN) ([x5] : (List (List UInt8))) := ⟨by simp only [List.length_cons, List.length_nil]; omega, (mem_cons' h6 (fun _ h => by cases h))⟩
     have q10 := ov7.1
     refine tB (tA Znb (by decide)) (fun x8 h9 => ?_)
     have lh9 : x8.length = v7.length + 1 := by rw [h9, List.length_append]; rfl
     refine qw (v10 + 1) fun q11 q12 => ?_
     exact tL ⟨ob30000000, ov6, (SzL.app (k := 16) h9 lo ov7.2 (SzL.nt q7).2), cl, cl, cl, cl, cl⟩ Zlg
    ·refine qw (v10 + 1) fun q13 q14 => ?_
     exact tL ⟨ob30000000, ov6, ov7, cl, cl, cl, cl, cl⟩ Zlg
   ·exact tL ⟨ob30000000, ov6, ov7, cl, cl, cl, cl, cl⟩ Zlg
  | L3 E0 v6 v7 v11 =>
   obtain ⟨ob30000000, ov6, ov7, cv11, i0, i1, i2, i3⟩ := hs
   have lb_v6 := ov6.1
   have lb_v7 := ov7.1
   show Tot (Zv0 E0 v6 v7 v11).den _
   dsimp only [Zv0, LT.den, Zfp]
   refine tD (fun h1 => ?_) (fun h1 => ?_)
   ·refine tB (Zks E0.NotColors v11 cl) (fun x2 h3 => ?_)
    refine tF (fun h4 => ?_) (fun h4 => ?_)
    ·refine tB (Znd v11) (fun x5 h6 => ?_)
     have q7 : x5.length ≤ 100 := h6
     refine tB (tK Zch) (fun x8 h9 => ?_)
     have q10 : (SzL 16 SzT) ([(([110, 111, 110, 45] : List UInt8) ++ x5)] : (List (List UInt8))) := ⟨by simp only [List.length_cons, List.length_nil]; omega, (mem_cons' Zlf (fun _ h => by cases h))⟩
     have q13 := ov7.1
     refine tB (tA Znb (by decide)) (fun x11 h12 => ?_)
     have lh12 : x11.length = v7.length + 1 := by rw [h12, List.length_append]; rfl
     refine qw (v11 + 1) fun q14 q15 => ?_
     exact tL ⟨ob30000000, ov6, (SzL.app (k := 16) h12 lo ov7.2 q10.2), cl, cl, cl, cl, cl⟩ Zlg
    ·refine qw (v11 + 1) fun q16 q17 => ?_
     exact tL ⟨ob30000000, ov6, ov7, cl, cl, cl, cl, cl⟩ Zlg
   ·refine tO (fun h18 => ?_) (fun h18 => ?_)
    ·have q19 : E0.Sub.length ≤ 281474976710656 := ob30000000
     refine tB (tK Zch) (fun x20 h21 => ?_)
     have q22 : (SzL 16 SzT) ([(([115, 117, 98, 58] : List UInt8) ++ E0.Sub)] : (List (List UInt8))) := ⟨by simp only [List.length_cons, List.length_nil]; omega, (mem_cons' Zlf (fun _ h => by cases h))⟩
     have q25 := ov7.1
     refine tB (tA Znb (by decide)) (fun x23 h24 => ?_)
     have lh24 : x23.length = v7.length + 1 := by rw [h24, List.length_append]; rfl
     exact tJ (Znf E0 v6 x23 ⟨ob30000000, ov6, (SzL.app (k := 16) h24 lo ov7.2 q22.2), cl, cl, cl⟩)
    ·exact tJ (Znf E0 v6 v7 ⟨ob30000000, ov6, ov7, cl, cl, cl⟩)
  | L4 E0 v6 v7 => exact Znf E0 v6 v7 hs
  | L5 E0 v6 v7 v12 =>
   obtain ⟨ob30000000, ov6, ov7, cv12, i0, i1, i2, i3⟩ := hs
   have lb_v6 := ov6.1
   have lb_v7 := ov7.1
   show Tot (Zv1 E0 v6 v7 v12).den _
   dsimp only [Zv1, LT.den, Zfp]
   refine tD (fun h1 => ?_) (fun h1 => ?_)
   ·refine tB (Zks E0.Keys v12 cl) (fun x2 h3 => ?_)
    refine tF (fun h4 => ?_) (fun h4 => ?_)
    ·refine tB (Ztn v12) (fun x5 h6 => ?_)
     have q7 : x5.length ≤ 100 := h6
     refine tB (tK Zch) (fun x8 h9 => ?_)
     have q10 : (SzL 16 SzT) ([(([119, 105, 116, 104, 58] : List UInt8) ++ x5)] : (List (List UInt8))) := ⟨by simp only [List.length_cons, List.length_nil]; omega, (mem_cons' Zlf (fun _ h => by cases h))⟩
     have q13 := ov7.1
     refine tB (tA Znb (by decide)) (fun x11 h12 => ?_)
     have lh12 : x11.length = v7.length + 1 := by rw [h12, List.length_append]; rfl
     refine qw (v12 + 1) fun q14 q15 => ?_
     exact tL ⟨ob30000000, ov6, (SzL.app (k := 16) h12 lo ov7.2 q10.2), cl, cl, cl, cl, cl⟩ Zlg
    ·refine qw (v12 + 1) fun q16 q17 => ?_
     exact tL ⟨ob30000000, ov6, ov7, cl, cl, cl, cl, cl⟩ Zlg
   ·refine tB (tI (by omega) (by omega)) (fun x18 h19 => ?_)
    have oh19 : SzN x18 := ov6.2 x18 h19.1
    refine tB (Zdq v7 x18 ov7 (SzN.t oh19) cl) (fun x20 h21 => ?_)
    have eh21_1 := h21.2
    refine tB (Zj4 ([112, 111, 119, 101, 114] : List UInt8) E0.Power Z2 cl cl) (fun x22 h23 => ?_)
    refine tB (Zdq x20 x22 h21.1 h23 cl) (fun x24 h25 => ?_)
    have eh25_1 := h25.2
    refine tB (Zj4 ([116, 111, 117, 103, 104] : List UInt8) E0.Tough Z2 cl cl) (fun x26 h27 => ?_)
    refine tB (Zdq x24 x26 h25.1 h27 cl) (fun x28 h29 => ?_)
    have eh29_1 := h29.2
    refine tB (Zj4 ([118, 97, 108, 117, 101] : List UInt8) E0.Value Z2 cl cl) (fun x30 h31 => ?_)
    refine tB (Zdq x28 x30 h29.1 h31 cl) (fun x32 h33 => ?_)
    have eh33_1 := h33.2
    have q34 := h33.1.1
    refine tE (fun h35 => ?_) (fun h35 => ?_)
    ·exact tR cl
    ·refine tB (Zakm x32 ([32] : List UInt8) h33.1 Z2 cl) (fun x36 h37 => ?_)
     have eh37_0 := h37
     exact tR cl
theorem Z3h (a0 : Zh) (oa0 : Zat a0) : Tot (Z7u a0) (fun r => (r.length ≤ 288230376151711744)) := by
 unfold Z7u
 refine tZ ?_
 dsimp only [Zaak, LT.den]
 refine tB (Zaca a0 oa0) (fun x1 h2 => ?_)
 refine tO (fun h3 => ?_) (fun h3 => ?_)
 ·exact tR cl
 ·refine tE (fun h4 => ?_) (fun h4 => ?_)
  ·exact tR cl
  ·refine tE (fun h5 => ?_) (fun h5 => ?_)
   ·refine tB (Zj3 a0.N) (fun x6 h7 => ?_)
    have eh7_1 := h7.2
    have q8 : x6.length ≤ 562949953421312 := h7.1
    refine tB (tK Zch) (fun x9 h10 => ?_)
    exact tR cl
   ·refine tE (fun h11 => ?_) (fun h11 => ?_)
    ·refine tB (Zj3 a0.N) (fun x12 h13 => ?_)
     have eh13_1 := h13.2
     have q14 : x12.length ≤ 562949953421312 := h13.1
     refine tB (tK Zch) (fun x15 h16 => ?_)
     exact tR cl
    ·refine tE (fun h17 => ?_) (fun h17 => ?_)
     ·have q18 : a0.Sub.length ≤ 281474976710656 := oa0.1
      refine tB (tK Zch) (fun x19 h20 => ?_)
      exact tR cl
     ·refine tE (fun h21 => ?_) (fun h21 => ?_)
      ·have q22 : a0.Sub.length ≤ 281474976710656 := oa0.1
       refine tB (tK Zch) (fun x23 h24 => ?_)
       exact tR cl
      ·refine tE (fun h25 => ?_) (fun h25 => ?_)
       ·refine tB (Z3f a0.N) (fun x26 h27 => ?_)
        have q28 : x26.length ≤ 562949953421312 := h27
        refine tB (tK Zch) (fun x29 h30 => ?_)
        exact tR cl
       ·refine tE (fun h31 => ?_) (fun h31 => ?_)
        ·refine tB (Z3f a0.N) (fun x32 h33 => ?_)
         have q34 : x32.length ≤ 562949953421312 := h33
         refine tB (tK Zch) (fun x35 h36 => ?_)
         exact tR cl
        ·refine tE (fun h37 => ?_) (fun h37 => ?_)
         ·refine tB (Z3g a0.N) (fun x38 h39 => ?_)
          have q40 : x38.length ≤ 562949953421312 := h39
          refine tB (tK Zch) (fun x41 h42 => ?_)
          exact tR cl
         ·refine tE (fun h43 => ?_) (fun h43 => ?_)
          ·refine tB (Z3g a0.N) (fun x44 h45 => ?_)
           have q46 : x44.length ≤ 562949953421312 := h45
           refine tB (tK Zch) (fun x47 h48 => ?_)
           exact tR cl
          ·refine tE (fun h49 => ?_) (fun h49 => ?_)
           ·exact tR cl
           ·refine tE (fun h50 => ?_) (fun h50 => ?_)
            ·refine tB (Zakn a0.Filter oa0.2) (fun x51 h52 => ?_)
             have eh52_0 := h52
             refine tB (tK Zch) (fun x53 h54 => ?_)
             refine tB (tK Zch) (fun x55 h56 => ?_)
             exact tR cl
            ·refine tE (fun h57 => ?_) (fun h57 => ?_)
             ·refine tB (Zhe a0.N) (fun x58 h59 => ?_)
              have q60 : x58.length ≤ 100 := h59
              refine tB (tK Zch) (fun x61 h62 => ?_)
              refine tB (tK Zch) (fun x63 h64 => ?_)
              refine tB (Zhe a0.M) (fun x65 h66 => ?_)
              have q67 : x65.length ≤ 100 := h66
              refine tB (tK Zch) (fun x68 h69 => ?_)
              exact tR cl
             ·refine tE (fun h70 => ?_) (fun h70 => ?_)
              ·refine tB (Zhe a0.N) (fun x71 h72 => ?_)
               have q73 : x71.length ≤ 100 := h72
               refine tB (tK Zch) (fun x74 h75 => ?_)
               refine tB (tK Zch) (fun x76 h77 => ?_)
               refine tB (Zhe a0.M) (fun x78 h79 => ?_)
               have q80 : x78.length ≤ 100 := h79
               refine tB (tK Zch) (fun x81 h82 => ?_)
               exact tR cl
              ·exact tR cl
def Z8y : Zg7 → Prop
 | .L0 v0 v3 v4 => ((SzL 176 Zat) v0) ∧ (0 ≤ v4) ∧ (v3.length ≤ 576460752303423488 * v4.toNat) ∧ (v0.length ≤ 6) ∧ (v4 ≤ v0.length)
def Zvc : Zg7 → M6
 | .L0 v0 v3 v4 => (1, ((v0.length : Int) - v4).toNat, 1000000, 0, 0, 0)
theorem Zlh (a0 : (List Zh)) (oa0 : (SzL 176 Zat) a0) : Tot (Zr9 a0) (fun r => (r.length ≤ 4611686018427387904)) := by
 unfold Zr9
 refine tX (Inv := Z8y) (μ := Zvc) (m := (1000000, 0, 0, 0, 0, 0)) ?_ ?_
 ·have lb_a0 := oa0.1
  dsimp only [Zxi, LT.den]
  have q1 := oa0.1
  refine tE (fun h2 => ?_) (fun h2 => ?_)
  ·exact tR cl
  ·refine tD (fun h3 => ?_) (fun h3 => ?_)
   ·exact tR cl
   ·exact tL ⟨oa0, cl, cl, cl, cl⟩ tk60
 ·intro s hs
  cases s with
  | L0 v0 v3 v4 =>
   obtain ⟨ov0, cv4, i0, i1, i2⟩ := hs
   have lb_v0 := ov0.1
   show Tot (Zmm v0 v3 v4).den _
   dsimp only [Zmm, LT.den]
   have q1 := ov0.1
   refine tD (fun h2 => ?_) (fun h2 => ?_)
   ·refine tB (tI (by omega) (by omega)) (fun x3 h4 => ?_)
    have oh4 : Zat x3 := ov0.2 x3 h4.1
    refine tB (Zaca x3 oh4) (fun x5 h6 => ?_)
    refine tO (fun h7 => ?_) (fun h7 => ?_)
    ·exact tR cl
    ·refine tD (fun h8 => ?_) (fun h8 => ?_)
     ·refine tB (tK Zch) (fun x9 h10 => ?_)
      refine tB (Z3h x3 oh4) (fun x11 h12 => ?_)
      have eh12_0 := h12
      refine tB (tK Zch) (fun x13 h14 => ?_)
      refine qw (v4 + 1) fun q15 q16 => ?_
      exact tL ⟨ov0, cl, cl, cl, cl⟩ tk60
     ·refine tB (Z3h x3 oh4) (fun x17 h18 => ?_)
      have eh18_0 := h18
      refine tB (tK Zch) (fun x19 h20 => ?_)
      refine qw (v4 + 1) fun q21 q22 => ?_
      exact tL ⟨ov0, cl, cl, cl, cl⟩ tk60
   ·exact tR cl
theorem Zaf5 (a0 : Zfl) : Tot (Z1l a0) (fun r => True) := by
 unfold Z1l
 refine tZ ?_
 dsimp only [Z5i, LT.den]
 refine tB (Zzn a0.Mana) (fun x1 h2 => ?_)
 have eh2_0 := h2.1
 have eh2_1 := h2.2
 refine tF (fun h3 => ?_) (fun h3 => ?_)
 ·have h3_0 := eh2_0 h3
  have h3_1 := eh2_1 h3
  refine tE (fun h4 => ?_) (fun h4 => ?_)
  ·refine tD (fun h5 => ?_) (fun h5 => ?_)
   ·exact tR trivial
   ·exact tR trivial
  ·exact tR trivial
 ·exact tR trivial
theorem Z3i (a0 : Int) : Tot (Z7v a0) (fun r => (SzN r)) := by
 unfold Z7v
 refine tZ ?_
 dsimp only [Zaam, LT.den]
 refine tE (fun h1 => ?_) (fun h1 => ?_)
 ·exact tR Z2
 ·refine tE (fun h2 => ?_) (fun h2 => ?_)
  ·exact tR Z2
  ·refine tE (fun h3 => ?_) (fun h3 => ?_)
   ·exact tR Z2
   ·refine tE (fun h4 => ?_) (fun h4 => ?_)
    ·exact tR Z2
    ·refine tE (fun h5 => ?_) (fun h5 => ?_)
     ·exact tR Z2
     ·refine tE (fun h6 => ?_) (fun h6 => ?_)
      ·exact tR Z2
      ·refine tE (fun h7 => ?_) (fun h7 => ?_)
       ·exact tR Z2
       ·refine tE (fun h8 => ?_) (fun h8 => ?_)
        ·exact tR Z2
        ·refine tE (fun h9 => ?_) (fun h9 => ?_)
         ·exact tR Z2
         ·refine tE (fun h10 => ?_) (fun h10 => ?_)
          ·exact tR Z2
          ·refine tE (fun h11 => ?_) (fun h11 => ?_)
           ·exact tR Z2
           ·refine tE (fun h12 => ?_) (fun h12 => ?_)
            ·exact tR Z2
            ·refine tE (fun h13 => ?_) (fun h13 => ?_)
             ·exact tR Z2
             ·refine tE (fun h14 => ?_) (fun h14 => ?_)
              ·exact tR Z2
              ·exact tR (SzN.nil)
theorem Zx8 (a0 : Int) : Tot (Zy1 a0) (fun r => True) := by
 unfold Zy1
 refine tZ ?_
 dsimp only [Z1m, LT.den]
 refine tE (fun h1 => ?_) (fun h1 => ?_)
 ·exact tR trivial
 ·refine tE (fun h2 => ?_) (fun h2 => ?_)
  ·exact tR trivial
  ·refine tE (fun h3 => ?_) (fun h3 => ?_)
   ·exact tR trivial
   ·refine tE (fun h4 => ?_) (fun h4 => ?_)
    ·exact tR trivial
    ·refine tE (fun h5 => ?_) (fun h5 => ?_)
     ·exact tR trivial
     ·exact tR trivial
theorem Z4m (a0 : Int) : Tot (Zp1 a0) (fun r => True) := by
 unfold Zp1
 refine tZ ?_
 dsimp only [Zut, LT.den]
 refine tB (Z3i a0) (fun x1 h2 => ?_)
 refine tO (fun h3 => ?_) (fun h3 => ?_)
 ·refine tB (Zx8 a0) (fun x4 h5 => ?_)
  refine tO (fun h6 => ?_) (fun h6 => ?_)
  ·exact tR trivial
  ·exact tR trivial
 ·exact tR trivial
def Zzr : Zsa → Prop
 | .L0 E0 => (Zjp E0) ∧ True
def Zafg : Zsa → M6
 | .L0 E0 => (0, 0, 0, 0, 0, 0)
theorem Zqk (E0 : Zb9) (h : Zzr (.L0 E0)) : Tot (Zo9 E0).den (Nx Zzr Zafg (0, 0, 0, 0, 0, 0) (fun r => True)) := by
 obtain ⟨ob30000000, _⟩ := h
 dsimp only [Zo9, LT.den]
 refine tB (Z4m E0.When) (fun x1 h2 => ?_)
 refine tO (fun h3 => ?_) (fun h3 => ?_)
 ·exact tR trivial
 ·refine tE (fun h4 => ?_) (fun h4 => ?_)
  ·refine tB (Zd0 E0.Filter ob30000000) (fun x5 h6 => ?_)
   have eh6_0 := h6.1
   have eh6_1 := h6.2
   refine tF (fun h7 => ?_) (fun h7 => ?_)
   ·have h7_0 := eh6_0 h7
    exact tR trivial
   ·exact tR trivial
  ·refine tB (Zd0 E0.Filter ob30000000) (fun x8 h9 => ?_)
   have eh9_0 := h9.1
   have eh9_1 := h9.2
   refine tF (fun h10 => ?_) (fun h10 => ?_)
   ·have h10_0 := eh9_0 h10
    exact tR trivial
   ·exact tR trivial
theorem Zaoy (a0 : Zb9) (oa0 : Zjp a0) : Tot (Zaiw a0) (fun r => True) := by
 unfold Zaiw
 refine tX (Inv := Zzr) (μ := Zafg) (m := (1000000, 0, 0, 0, 0, 0)) ?_ ?_
 ·dsimp only [Zaiu, LT.den]
  refine tB (Z3i a0.When) (fun x1 h2 => ?_)
  refine tF (fun h3 => ?_) (fun h3 => ?_)
  ·exact tR trivial
  ·refine tD (fun h4 => ?_) (fun h4 => ?_)
   ·exact tR trivial
   ·refine tD (fun h5 => ?_) (fun h5 => ?_)
    ·exact tR trivial
    ·refine tB (Zx8 a0.When) (fun x6 h7 => ?_)
     refine tO (fun h8 => ?_) (fun h8 => ?_)
     ·refine tN (fun h9 => ?_) (fun h9 => ?_)
      ·exact tR trivial
      ·exact tJ (Zqk a0 ⟨oa0, trivial⟩)
     ·exact tJ (Zqk a0 ⟨oa0, trivial⟩)
 ·intro s hs
  cases s with
  | L0 E0 => exact Zqk E0 hs
theorem Zql (a0 : Zc) (oa0 : Zaq a0) : Tot (Z1o a0) (fun r => True) := by
 unfold Z1o
 refine tZ ?_
 dsimp only [Z5l, LT.den]
 refine tB (Zd0 a0 oa0) (fun x1 h2 => ?_)
 have eh2_0 := h2.1
 have eh2_1 := h2.2
 refine tF (fun h3 => ?_) (fun h3 => ?_)
 ·have h3_0 := eh2_0 h3
  exact tR trivial
 ·exact tR trivial
theorem Zaf6 (a0 : Zaj) (oa0 : Zc8 a0) : Tot (Z1p a0) (fun r => True) := by
 unfold Z1p
 refine tZ ?_
 dsimp only [Z5n, LT.den]
 refine tN (fun h1 => ?_) (fun h1 => ?_)
 ·exact tR trivial
 ·refine tB (Zql a0.Filter oa0) (fun x2 h3 => ?_)
  refine tO (fun h4 => ?_) (fun h4 => ?_)
  ·exact tR trivial
  ·refine tE (fun h5 => ?_) (fun h5 => ?_)
   ·refine tE (fun h6 => ?_) (fun h6 => ?_)
    ·refine tE (fun h7 => ?_) (fun h7 => ?_)
     ·refine tE (fun h8 => ?_) (fun h8 => ?_)
      ·exact tR trivial
      ·refine tE (fun h9 => ?_) (fun h9 => ?_)
       ·exact tR trivial
       ·exact tR trivial
     ·exact tR trivial
    ·exact tR trivial
   ·refine tE (fun h10 => ?_) (fun h10 => ?_)
    ·refine tE (fun h11 => ?_) (fun h11 => ?_)
     ·refine tE (fun h12 => ?_) (fun h12 => ?_)
      ·exact tR trivial
      ·exact tR trivial
     ·exact tR trivial
    ·refine tE (fun h13 => ?_) (fun h13 => ?_)
     ·refine tE (fun h14 => ?_) (fun h14 => ?_)
      ·refine tD (fun h15 => ?_) (fun h15 => ?_)
       ·refine tD (fun h16 => ?_) (fun h16 => ?_)
        ·refine tD (fun h17 => ?_) (fun h17 => ?_)
         ·exact tR trivial
         ·exact tR trivial
        ·exact tR trivial
       ·exact tR trivial
      ·exact tR trivial
     ·exact tR trivial
theorem Zaf7 (a0 : Zaj) (oa0 : Zc8 a0) : Tot (Z1q a0) (fun r => True) := by
 unfold Z1q
 refine tZ ?_
 dsimp only [Z5p, LT.den]
 refine tN (fun h1 => ?_) (fun h1 => ?_)
 ·exact tR trivial
 ·refine tN (fun h2 => ?_) (fun h2 => ?_)
  ·exact tR trivial
  ·refine tE (fun h3 => ?_) (fun h3 => ?_)
   ·refine tD (fun h4 => ?_) (fun h4 => ?_)
    ·exact tR trivial
    ·exact tR trivial
   ·refine tE (fun h5 => ?_) (fun h5 => ?_)
    ·refine tD (fun h6 => ?_) (fun h6 => ?_)
     ·exact tR trivial
     ·exact tR trivial
    ·exact tR trivial
def Zjq : Zlb → Prop
 | .L0 E0 v3 v4 => (Zc8 E0) ∧ True
 | .L1 E0 v3 => (Zc8 E0) ∧ True
 | .L2 E0 v3 v4 v109 => (Zc8 E0) ∧ True
def Zvd : Zlb → M6
 | .L0 E0 v3 v4 => (0, 0, 0, 0, 0, 0)
 | .L1 E0 v3 => (0, 0, 0, 0, 0, 0)
 | .L2 E0 v3 v4 v109 => (0, 0, 0, 0, 0, 0)
theorem Zkx (E0 : Zaj) (v3 : Bool) (v4 : Bool) (v109 : Bool) (h : (Zc8 E0) ∧ True) : Tot (Zlp E0 v3 v4 v109).den (Nx Zjq Zvd (0, 0, 0, 0, 0, 0) (fun r => True)) := by
 obtain ⟨ob30000000, _⟩ := h
 dsimp only [Zlp, LT.den]
 refine tF (fun h1 => ?_) (fun h1 => ?_)
 ·refine tF (fun h2 => ?_) (fun h2 => ?_)
  ·refine tD (fun h3 => ?_) (fun h3 => ?_)
   ·refine tD (fun h4 => ?_) (fun h4 => ?_)
    ·exact tR trivial
    ·exact tR trivial
   ·exact tR trivial
  ·exact tR trivial
 ·exact tR trivial
theorem Zh8 (E0 : Zaj) (v3 : Bool) (h : Zjq (.L1 E0 v3)) : Tot (Zi1 E0 v3).den (Nx Zjq Zvd (0, 0, 0, 0, 0, 0) (fun r => True)) := by
 obtain ⟨ob30000000, _⟩ := h
 dsimp only [Zi1, LT.den]
 refine tE (fun h1 => ?_) (fun h1 => ?_)
 ·refine tB (Zql E0.Filter ob30000000) (fun x2 h3 => ?_)
  refine tF (fun h4 => ?_) (fun h4 => ?_)
  ·exact tR trivial
  ·refine tE (fun h5 => ?_) (fun h5 => ?_)
   ·exact tR trivial
   ·refine tE (fun h6 => ?_) (fun h6 => ?_)
    ·exact tR trivial
    ·exact tR trivial
 ·refine tE (fun h7 => ?_) (fun h7 => ?_)
  ·exact tR trivial
  ·refine tE (fun h8 => ?_) (fun h8 => ?_)
   ·exact tR trivial
   ·exact tR trivial
theorem Zky (E0 : Zaj) (v3 : Bool) (v4 : Bool) (h : Zjq (.L0 E0 v3 v4)) : Tot (Zlq E0 v3 v4).den (Nx Zjq Zvd (0, 0, 0, 0, 0, 0) (fun r => True)) := by
 obtain ⟨ob30000000, _⟩ := h
 dsimp only [Zlq, LT.den]
 refine tE (fun h1 => ?_) (fun h1 => ?_)
 ·refine tN (fun h2 => ?_) (fun h2 => ?_)
  ·refine tN (fun h3 => ?_) (fun h3 => ?_)
   ·refine tN (fun h4 => ?_) (fun h4 => ?_)
    ·refine tN (fun h5 => ?_) (fun h5 => ?_)
     ·exact tR trivial
     ·exact tJ (Zh8 E0 v3 ⟨ob30000000, trivial⟩)
    ·exact tJ (Zh8 E0 v3 ⟨ob30000000, trivial⟩)
   ·exact tJ (Zh8 E0 v3 ⟨ob30000000, trivial⟩)
  ·exact tJ (Zh8 E0 v3 ⟨ob30000000, trivial⟩)
 ·refine tE (fun h6 => ?_) (fun h6 => ?_)
  ·refine tF (fun h7 => ?_) (fun h7 => ?_)
   ·refine tE (fun h8 => ?_) (fun h8 => ?_)
    ·refine tB (Zql E0.Filter ob30000000) (fun x9 h10 => ?_)
     exact tR trivial
    ·exact tR trivial
   ·exact tR trivial
  ·refine tE (fun h11 => ?_) (fun h11 => ?_)
   ·refine tE (fun h12 => ?_) (fun h12 => ?_)
    ·refine tD (fun h13 => ?_) (fun h13 => ?_)
     ·refine tD (fun h14 => ?_) (fun h14 => ?_)
      ·exact tR trivial
      ·exact tR trivial
     ·exact tR trivial
    ·refine tE (fun h15 => ?_) (fun h15 => ?_)
     ·refine tD (fun h16 => ?_) (fun h16 => ?_)
      ·refine tD (fun h17 => ?_) (fun h17 => ?_)
       ·exact tR trivial
       ·exact tR trivial
      ·exact tR trivial
     ·exact tR trivial
   ·refine tE (fun h18 => ?_) (fun h18 => ?_)
    ·exact tJ (Zkx E0 v3 v4 (E0.On == 4) ⟨ob30000000, trivial⟩)
    ·refine tE (fun h19 => ?_) (fun h19 => ?_)
     ·exact tJ (Zkx E0 v3 v4 (E0.On == 5) ⟨ob30000000, trivial⟩)
     ·exact tJ (Zkx E0 v3 v4 (E0.On == 10) ⟨ob30000000, trivial⟩)
theorem Zaoz (a0 : Zaj) (oa0 : Zc8 a0) : Tot (Zai1 a0) (fun r => True) := by
 unfold Zai1
 refine tX (Inv := Zjq) (μ := Zvd) (m := (1000000, 0, 0, 0, 0, 0)) ?_ ?_
 ·dsimp only [Zaiz, LT.den]
  refine tE (fun h1 => ?_) (fun h1 => ?_)
  ·refine tB (Zaf6 a0 oa0) (fun x2 h3 => ?_)
   exact tR trivial
  ·refine tB (Zaf7 a0 oa0) (fun x4 h5 => ?_)
   refine tO (fun h6 => ?_) (fun h6 => ?_)
   ·exact tR trivial
   ·refine tE (fun h7 => ?_) (fun h7 => ?_)
    ·exact tJ (Zky a0 (Zab (Zg a0.Filter) (Zg (⟨0, 0, 0, 0, 0, 0, 0, ([] : List UInt8), 0, 0, (⟨0, 0⟩ : Za), (⟨0, 0⟩ : Za), (⟨0, 0⟩ : Za)⟩ : Zc))) true ⟨oa0, trivial⟩)
    ·refine tE (fun h8 => ?_) (fun h8 => ?_)
     ·exact tJ (Zky a0 (Zab (Zg a0.Filter) (Zg (⟨0, 0, 0, 0, 0, 0, 0, ([] : List UInt8), 0, 0, (⟨0, 0⟩ : Za), (⟨0, 0⟩ : Za), (⟨0, 0⟩ : Za)⟩ : Zc))) true ⟨oa0, trivial⟩)
     ·exact tJ (Zky a0 (Zab (Zg a0.Filter) (Zg (⟨0, 0, 0, 0, 0, 0, 0, ([] : List UInt8), 0, 0, (⟨0, 0⟩ : Za), (⟨0, 0⟩ : Za), (⟨0, 0⟩ : Za)⟩ : Zc))) (a0.Do == 8) ⟨oa0, trivial⟩)
 ·intro s hs
  cases s with
  | L0 E0 v3 v4 => exact Zky E0 v3 v4 hs
  | L1 E0 v3 => exact Zh8 E0 v3 hs
  | L2 E0 v3 v4 v109 => exact Zkx E0 v3 v4 v109 hs
theorem Zako (a0 : Zcw) (oa0 : Zfo a0) : Tot (Z7x a0) (fun r => True) := by
 unfold Z7x
 refine tZ ?_
 dsimp only [Zaao, LT.den]
 refine tO (fun h1 => ?_) (fun h1 => ?_)
 ·refine tF (fun h2 => ?_) (fun h2 => ?_)
  ·exact tR trivial
  ·exact tR trivial
 ·refine tB (Zd0 a0.Filter oa0) (fun x3 h4 => ?_)
  have eh4_0 := h4.1
  have eh4_1 := h4.2
  refine tF (fun h5 => ?_) (fun h5 => ?_)
  ·have h5_0 := eh4_0 h5
   refine tE (fun h6 => ?_) (fun h6 => ?_)
   ·exact tR trivial
   ·refine tE (fun h7 => ?_) (fun h7 => ?_)
    ·exact tR trivial
    ·exact tR trivial
  ·exact tR trivial
def Zaf8 : Zkd → Prop
 | .L0 v0 v3 => ((SzL 144 Zfo) v0) ∧ (0 ≤ v3)
def Ztq : Zkd → M6
 | .L0 v0 v3 => (1, ((v0.length : Int) - v3).toNat, 1000000, 0, 0, 0)
theorem Zaf9 (a0 : (List Zcw)) (oa0 : (SzL 144 Zfo) a0) : Tot (Z1r a0) (fun r => True) := by
 unfold Z1r
 refine tX (Inv := Zaf8) (μ := Ztq) (m := (1000000, 0, 0, 0, 0, 0)) ?_ ?_
 ·have lb_a0 := oa0.1
  dsimp only [Z5r, LT.den]
  exact tL ⟨oa0, cl⟩ (by unfold Ztq lt6; dsimp only; omega)
 ·intro s hs
  cases s with
  | L0 v0 v3 =>
   obtain ⟨ov0, cv3⟩ := hs
   have lb_v0 := ov0.1
   show Tot (Zsc v0 v3).den _
   dsimp only [Zsc, LT.den]
   have q1 := ov0.1
   refine tD (fun h2 => ?_) (fun h2 => ?_)
   ·refine tB (tI (by omega) (by omega)) (fun x3 h4 => ?_)
    have oh4 : Zfo x3 := ov0.2 x3 h4.1
    refine tB (Zako x3 oh4) (fun x5 h6 => ?_)
    refine tO (fun h7 => ?_) (fun h7 => ?_)
    ·exact tR trivial
    ·refine qw (v3 + 1) fun q8 q9 => ?_
     exact tL ⟨ov0, cl⟩ (by unfold Ztq lt6; dsimp only; omega)
   ·exact tR trivial
theorem Zakp (a0 : Int) : Tot (Z7y a0) (fun r => (SzN r)) := by
 unfold Z7y
 refine tZ ?_
 dsimp only [Zaaq, LT.den]
 refine tD (fun h1 => ?_) (fun h1 => ?_)
 ·exact tR (SzN.nil)
 ·refine tD (fun h2 => ?_) (fun h2 => ?_)
  ·exact tR (SzN.nil)
  ·have q3 : (SzL 16 SzN) ([([100, 97, 109, 97, 103, 101] : List UInt8), ([100, 101, 115, 116, 114, 111, 121] : List UInt8), ([109, 111, 118, 101] : List UInt8), ([100, 114, 97, 119] : List UInt8), ([100, 105, 115, 99, 97, 114, 100] : List UInt8), ([103, 97, 105, 110] : List UInt8), ([108, 111, 115, 101] : List UInt8), ([116, 97, 112] : List UInt8), ([117, 110, 116, 97, 112] : List UInt8), ([112, 117, 116] : List UInt8), ([116, 97, 107, 101] : List UInt8), ([99, 114, 101, 97, 116, 101] : List UInt8), ([109, 111, 100] : List UInt8), ([109, 97, 110, 97] : List UInt8), ([99, 111, 117, 110, 116, 101, 114] : List UInt8), ([99, 111, 112, 121] : List UInt8), ([98, 101, 99, 111, 109, 101] : List UInt8), ([115, 97, 99, 114, 105, 102, 105, 99, 101] : List UInt8), ([109, 105, 108, 108] : List UInt8), ([115, 99, 114, 121] : List UInt8), ([115, 101, 97, 114, 99, 104] : List UInt8), ([115, 104, 105, 101, 108, 100] : List UInt8), ([116, 117, 114, 110] : List UInt8), ([119, 105, 110] : List UInt8), ([100, 101, 102, 101, 97, 116] : List UInt8), ([118, 101, 110, 111, 109] : List UInt8)] : (List (List UInt8))) := ⟨by simp only [List.length_cons, List.length_nil]; omega, (mem_cons' Z2 (mem_cons' Z2 (mem_cons' Z2 (mem_cons' Z2 (mem_cons' Z2 (mem_cons' Z2 (mem_cons' Z2 (mem_cons' Z2 (mem_cons' Z2 (mem_cons' Z2 (mem_cons' Z2 (mem_cons' Z2 (mem_cons' Z2 (mem_cons' Z2 (mem_cons' Z2 (mem_cons' Z2 (mem_cons' Z2 (mem_cons' Z2 (mem_cons' Z2 (mem_cons' Z2 (mem_cons' Z2 (mem_cons' Z2 (mem_cons' Z2 (mem_cons' Z2 (mem_cons' Z2 (mem_cons' Z2 (fun _ h => by cases h)))))))))))))))))))))))))))⟩
   have lq3 : ([([100, 97, 109, 97, 103, 101] : List UInt8), ([100, 101, 115, 116, 114, 111, 121] : List UInt8), ([109, 111, 118, 101] : List UInt8), ([100, 114, 97, 119] : List UInt8), ([100, 105, 115, 99, 97, 114, 100] : List UInt8), ([103, 97, 105, 110] : List UInt8), ([108, 111, 115, 101] : List UInt8), ([116, 97, 112] : List UInt8), ([117, 110, 116, 97, 112] : List UInt8), ([112, 117, 116] : List UInt8), ([116, 97, 107, 101] : List UInt8), ([99, 114, 101, 97, 116, 101] : List UInt8), ([109, 111, 100] : List UInt8), ([109, 97, 110, 97] : List UInt8), ([99, 111, 117, 110, 116, 101, 114] : List UInt8), ([99, 111, 112, 121] : List UInt8), ([98, 101, 99, 111, 109, 101] : List UInt8), ([115, 97, 99, 114, 105, 102, 105, 99, 101] : List UInt8), ([109, 105, 108, 108] : List UInt8), ([115, 99, 114, 121] : List UInt8), ([115, 101, 97, 114, 99, 104] : List UInt8), ([115, 104, 105, 101, 108, 100] : List UInt8), ([116, 117, 114, 110] : List UInt8), ([119, 105, 110] : List UInt8), ([100, 101, 102, 101, 97, 116] : List UInt8), ([118, 101, 110, 111, 109] : List UInt8)] : (List (List UInt8))).length = 26 := rfl
   refine qw (a0 - 1) fun q4 q5 => ?_
   refine tB (tI (by omega) (by omega)) (fun x6 h7 => ?_)
   have oh7 : SzN x6 := q3.2 x6 h7.1
   exact tR oh7
def Ztr : Zjl → Prop
 | .L0 v3 v4 => True
 | .L1 v3 v14 => True
def Zwv : Zjl → M6
 | .L0 v3 v4 => (0, 0, 0, 0, 0, 0)
 | .L1 v3 v14 => (0, 0, 0, 0, 0, 0)
theorem Zng (v3 : Int) (v14 : Bool) (h : True) : Tot (Zke v3 v14).den (Nx Ztr Zwv (0, 0, 0, 0, 0, 0) (fun r => (SzN r))) := by
 dsimp only [Zke, LT.den]
 refine tF (fun h1 => ?_) (fun h1 => ?_)
 ·exact tR Z2
 ·refine tE (fun h2 => ?_) (fun h2 => ?_)
  ·exact tR Z2
  ·refine tE (fun h3 => ?_) (fun h3 => ?_)
   ·exact tR Z2
   ·refine tE (fun h4 => ?_) (fun h4 => ?_)
    ·exact tR Z2
    ·refine tE (fun h5 => ?_) (fun h5 => ?_)
     ·exact tR Z2
     ·refine tE (fun h6 => ?_) (fun h6 => ?_)
      ·exact tR Z2
      ·refine tE (fun h7 => ?_) (fun h7 => ?_)
       ·exact tR Z2
       ·refine tE (fun h8 => ?_) (fun h8 => ?_)
        ·exact tR (SzN.nil)
        ·refine tE (fun h9 => ?_) (fun h9 => ?_)
         ·exact tR (SzN.nil)
         ·exact tR Z2
theorem Zde (v3 : Int) (v4 : Bool) (h : True) : Tot (Zdw v3 v4).den (Nx Ztr Zwv (0, 0, 0, 0, 0, 0) (fun r => (SzN r))) := by
 dsimp only [Zdw, LT.den]
 refine tF (fun h1 => ?_) (fun h1 => ?_)
 ·exact tR Z2
 ·refine tE (fun h2 => ?_) (fun h2 => ?_)
  ·exact tR Z2
  ·refine tE (fun h3 => ?_) (fun h3 => ?_)
   ·exact tJ (Zng v3 (v3 == 10) trivial)
   ·exact tJ (Zng v3 (v3 == 11) trivial)
theorem Zakq (a0 : Int) : Tot (Z7z a0) (fun r => (SzN r)) := by
 unfold Z7z
 refine tX (Inv := Ztr) (μ := Zwv) (m := (1000000, 0, 0, 0, 0, 0)) ?_ ?_
 ·dsimp only [Zaas, LT.den]
  refine tE (fun h1 => ?_) (fun h1 => ?_)
  ·exact tJ (Zde a0 (a0 == 2) trivial)
  ·refine tE (fun h2 => ?_) (fun h2 => ?_)
   ·exact tJ (Zde a0 (a0 == 8) trivial)
   ·refine tE (fun h3 => ?_) (fun h3 => ?_)
    ·exact tJ (Zde a0 (a0 == 9) trivial)
    ·refine tE (fun h4 => ?_) (fun h4 => ?_)
     ·exact tJ (Zde a0 (a0 == 15) trivial)
     ·refine tE (fun h5 => ?_) (fun h5 => ?_)
      ·exact tJ (Zde a0 (a0 == 16) trivial)
      ·refine tE (fun h6 => ?_) (fun h6 => ?_)
       ·exact tJ (Zde a0 (a0 == 17) trivial)
       ·exact tJ (Zde a0 (a0 == 25) trivial)
 ·intro s hs
  cases s with
  | L0 v3 v4 => exact Zde v3 v4 hs
  | L1 v3 v14 => exact Zng v3 v14 hs
def Zakr : Zmo → Prop
 | .L0 v1 v5 v6 => (SzT v5) ∧ (0 ≤ v6)
def Zww : Zmo → M6
 | .L0 v1 v5 v6 => (1, ((v5.length : Int) - v6).toNat, 1000000, 0, 0, 0)
theorem Zey (a0 : Int) (a1 : Int) : Tot (Z70 a0 a1) (fun r => True) := by
 unfold Z70
 refine tX (Inv := Zakr) (μ := Zww) (m := (1000000, 0, 0, 0, 0, 0)) ?_ ?_
 ·dsimp only [Zaau, LT.den]
  refine tB (Zakq a0) (fun x1 h2 => ?_)
  exact tL ⟨(SzN.t h2), cl⟩ (by unfold Zww lt6; dsimp only; omega)
 ·intro s hs
  cases s with
  | L0 v1 v5 v6 =>
   obtain ⟨ov5, cv6⟩ := hs
   have lb_v5 : v5.length ≤ 562949953421312 := ov5
   show Tot (Zv2 v1 v5 v6).den _
   dsimp only [Zv2, LT.den]
   have q1 : v5.length ≤ 562949953421312 := ov5
   refine tD (fun h2 => ?_) (fun h2 => ?_)
   ·refine tB (tI (by omega) (by omega)) (fun x3 h4 => ?_)
    refine tE (fun h5 => ?_) (fun h5 => ?_)
    ·exact tR trivial
    ·refine qw (v6 + 1) fun q6 q7 => ?_
     exact tL ⟨ov5, cl⟩ (by unfold Zww lt6; dsimp only; omega)
   ·exact tR trivial
theorem Z8z (a0 : Int) : Tot (Zsd a0) (fun r => True) := by
 unfold Zsd
 refine tZ ?_
 dsimp only [Zxk, LT.den]
 refine tE (fun h1 => ?_) (fun h1 => ?_)
 ·exact tR trivial
 ·exact tR trivial
def Znh : Znv → Prop
 | .L0 v1 E0 => (Zeq E0) ∧ True
 | .L1 E0 => (Zeq E0) ∧ True
def Z3j : Znv → M6
 | .L0 v1 E0 => (0, 0, 0, 0, 0, 0)
 | .L1 E0 => (0, 0, 0, 0, 0, 0)
theorem Zqm (E0 : Z4) (h : Znh (.L1 E0)) : Tot (Zpa E0).den (Nx Znh Z3j (0, 0, 0, 0, 0, 0) (fun r => True)) := by
 obtain ⟨ob30000000, _⟩ := h
 dsimp only [Zpa, LT.den]
 refine tE (fun h1 => ?_) (fun h1 => ?_)
 ·refine tB (Zd0 E0.Filter ob30000000) (fun x2 h3 => ?_)
  have eh3_0 := h3.1
  have eh3_1 := h3.2
  exact tR trivial
 ·exact tR trivial
theorem Zqn (v1 : Int) (E0 : Z4) (h : Znh (.L0 v1 E0)) : Tot (Zpb v1 E0).den (Nx Znh Z3j (0, 0, 0, 0, 0, 0) (fun r => True)) := by
 obtain ⟨ob30000000, _⟩ := h
 dsimp only [Zpb, LT.den]
 refine tD (fun h1 => ?_) (fun h1 => ?_)
 ·exact tR trivial
 ·refine tD (fun h2 => ?_) (fun h2 => ?_)
  ·exact tR trivial
  ·refine tB (Z8z E0.Kind) (fun x3 h4 => ?_)
   refine tF (fun h5 => ?_) (fun h5 => ?_)
   ·refine tD (fun h6 => ?_) (fun h6 => ?_)
    ·exact tR trivial
    ·refine tD (fun h7 => ?_) (fun h7 => ?_)
     ·exact tR trivial
     ·exact tJ (Zqm E0 ⟨ob30000000, trivial⟩)
   ·refine tN (fun h8 => ?_) (fun h8 => ?_)
    ·exact tR trivial
    ·exact tJ (Zqm E0 ⟨ob30000000, trivial⟩)
theorem Zao0 (a0 : Z4) (a1 : Int) (oa0 : Zeq a0) : Tot (Zai5 a0 a1) (fun r => True) := by
 unfold Zai5
 refine tX (Inv := Znh) (μ := Z3j) (m := (1000000, 0, 0, 0, 0, 0)) ?_ ?_
 ·dsimp only [Zai3, LT.den]
  refine tD (fun h1 => ?_) (fun h1 => ?_)
  ·exact tJ (Zqn 4 a0 ⟨oa0, trivial⟩)
  ·exact tJ (Zqn a1 a0 ⟨oa0, trivial⟩)
 ·intro s hs
  cases s with
  | L0 v1 E0 => exact Zqn v1 E0 hs
  | L1 E0 => exact Zqm E0 hs
theorem Z3k (a0 : Int) : Tot (Z71 a0) (fun r => (SzT r) ∧ (r = [] ↔ ¬ (0 ≤ a0 ∧ a0 ≤ 2))) := by
 unfold Z71
 refine tZ ?_
 dsimp only [Zaax, LT.den]
 refine tE (fun h1 => ?_) (fun h1 => ?_)
 ·exact tR ⟨Zlf, Z8p⟩
 ·refine tE (fun h2 => ?_) (fun h2 => ?_)
  ·exact tR ⟨Zlf, Z8p⟩
  ·refine tE (fun h3 => ?_) (fun h3 => ?_)
   ·exact tR ⟨Zlf, Z8p⟩
   ·exact tR ⟨(SzT.nil), Z8p⟩
theorem Zao1 (a0 : Zt) (oa0 : Zd8 a0) : Tot (Zai8 a0) (fun r => (r = amV a0)) := by
 unfold Zai8
 refine tZ ?_
 dsimp only [Zai6, LT.den]
 refine tE (fun h1 => ?_) (fun h1 => ?_)
 ·refine tD (fun h2 => ?_) (fun h2 => ?_)
  ·exact tR Zd9
  ·refine tD (fun h3 => ?_) (fun h3 => ?_)
   ·exact tR Zd9
   ·refine tD (fun h4 => ?_) (fun h4 => ?_)
    ·refine tD (fun h5 => ?_) (fun h5 => ?_)
     ·exact tR Zd9
     ·exact tR Zd9
    ·exact tR Zd9
 ·refine tE (fun h6 => ?_) (fun h6 => ?_)
  ·refine tD (fun h7 => ?_) (fun h7 => ?_)
   ·exact tR Zd9
   ·refine tD (fun h8 => ?_) (fun h8 => ?_)
    ·exact tR Zd9
    ·refine tB (Zd0 a0.Filter oa0) (fun x9 h10 => ?_)
     have eh10_0 := h10.1
     have eh10_1 := h10.2
     refine tO (fun h11 => ?_) (fun h11 => ?_)
     ·exact tR Zd9
     ·have h11_0 := eh10_0 h11
      refine tD (fun h12 => ?_) (fun h12 => ?_)
      ·refine tD (fun h13 => ?_) (fun h13 => ?_)
       ·exact tR Zd9
       ·exact tR Zd9
      ·exact tR Zd9
  ·refine tE (fun h14 => ?_) (fun h14 => ?_)
   ·refine tB (Z3k a0.Counter) (fun x15 h16 => ?_)
    have eh16_1 := h16.2
    refine tF (fun h17 => ?_) (fun h17 => ?_)
    ·exact tR Zd9
    ·refine tD (fun h18 => ?_) (fun h18 => ?_)
     ·refine tD (fun h19 => ?_) (fun h19 => ?_)
      ·exact tR Zd9
      ·exact tR Zd9
     ·exact tR Zd9
   ·refine tD (fun h20 => ?_) (fun h20 => ?_)
    ·refine tD (fun h21 => ?_) (fun h21 => ?_)
     ·exact tR Zd9
     ·exact tR Zd9
    ·exact tR Zd9
theorem Zaks (a0 : (List Zh)) (oa0 : (SzL 176 Zat) a0) : Tot (Z72 a0) (fun r => True) := by
 unfold Z72
 refine tZ ?_
 have lb_a0 := oa0.1
 dsimp only [Zaaz, LT.den]
 refine tB (Zlh a0 oa0) (fun x1 h2 => ?_)
 have eh2_0 := h2
 exact tR trivial
def Zakt : Zmp → Prop
 | .L0 E0 E1 E2 v4 => (0 ≤ v4) ∧ True
def Zwx : Zmp → M6
 | .L0 E0 E1 E2 v4 => (1, (5 - v4).toNat, 1000000, 0, 0, 0)
theorem Zaku (a0 : (A6 Int)) : Tot (Z73 a0) (fun r => True) := by
 unfold Z73
 refine tX (Inv := Zakt) (μ := Zwx) (m := (1000000, 0, 0, 0, 0, 0)) ?_ ?_
 ·dsimp only [Zaa1, LT.den]
  refine tB (tI (by omega) (by have e : (A6.list a0).length = 6 := rfl; omega)) (fun x1 h2 => ?_)
  exact tL ⟨cl, trivial⟩ (by unfold Zwx lt6; dsimp only; omega)
 ·intro s hs
  cases s with
  | L0 E0 E1 E2 v4 =>
   obtain ⟨cv4, _⟩ := hs
   show Tot (Zv3 E0 E1 E2 v4).den _
   dsimp only [Zv3, LT.den]
   refine tD (fun h1 => ?_) (fun h1 => ?_)
   ·refine qw (v4 + 1) fun q2 q3 => ?_
    refine tB (tI (by omega) tk56) (fun x4 h5 => ?_)
    refine tB (tI (by omega) (by have e : (A5.list E2.Color).length = 5 := rfl; omega)) (fun x6 h7 => ?_)
    refine tB (Tot.setA5 (by omega) (by omega)) (fun x8 h9 => ?_)
    exact tL ⟨cl, trivial⟩ (by unfold Zwx lt6; dsimp only; omega)
   ·exact tR trivial
def Zakv : Zhr → Prop
 | .L0 E0 v3 v4 => (0 ≤ v4) ∧ (E0.X ≤ 2) ∧ (∀ n, n ∈ A5.list E0.Color → n ≤ 9) ∧ (v3.length ≤ v4.toNat) ∧ (v4 ≤ 2)
 | .L1 E0 v3 v5 => (0 ≤ v5) ∧ (v3.length ≤ 200 + 200 * v5.toNat) ∧ (∀ n, n ∈ A5.list E0.Color → n ≤ 9) ∧ (v5 ≤ 5)
 | .L2 E0 v3 v5 v6 => (0 ≤ v5) ∧ (0 ≤ v6) ∧ (v5 < 5) ∧ (v3.length ≤ 200 + 200 * v5.toNat + v6.toNat) ∧ (∀ n, n ∈ A5.list E0.Color → n ≤ 9) ∧ (v5 < 5) ∧ (v6 ≤ 9)
def Z62 : Zhr → M6
 | .L0 E0 v3 v4 => (3, (E0.X - v4).toNat, 1000000, 0, 0, 0)
 | .L1 E0 v3 v5 => (1, (5 - v5).toNat, 1000000, 0, 0, 0)
 | .L2 E0 v3 v5 v6 => (1, (5 - v5).toNat, 1, (9 - v6).toNat, 1000000, 0)
theorem Zakw (a0 : Zl) : Tot (Z74 a0) (fun r => (SzT r)) := by
 unfold Z74
 refine tX (Inv := Zakv) (μ := Z62) (m := (1000000, 0, 0, 0, 0, 0)) ?_ ?_
 ·dsimp only [Zaa3, LT.den]
  refine tB (Zzn a0) (fun x1 h2 => ?_)
  have eh2_0 := h2.1
  have eh2_1 := h2.2
  refine tO (fun h3 => ?_) (fun h3 => ?_)
  ·exact tR (SzT.nil)
  ·have h3_0 := eh2_0 h3
   have h3_1 := eh2_1 h3
   exact tL ⟨cl, cl, cl, cl, cl⟩ Z8q
 ·intro s hs
  cases s with
  | L0 E0 v3 v4 =>
   obtain ⟨cv4, i0, i1, i2, i3⟩ := hs
   show Tot (Zv4 E0 v3 v4).den _
   dsimp only [Zv4, LT.den]
   refine tD (fun h1 => ?_) (fun h1 => ?_)
   ·refine tB (tK Zch) (fun x2 h3 => ?_)
    refine qw (v4 + 1) fun q4 q5 => ?_
    exact tL ⟨cl, cl, cl, cl, cl⟩ Z8q
   ·refine tN (fun h6 => ?_) (fun h6 => ?_)
    ·refine tB (Zhe E0.Generic) (fun x7 h8 => ?_)
     have q9 : x7.length ≤ 100 := h8
     refine tB (tK Zch) (fun x10 h11 => ?_)
     exact tL ⟨cl, cl, cl, cl⟩ Z8q
    ·exact tL ⟨cl, cl, cl, cl⟩ Z8q
  | L1 E0 v3 v5 =>
   obtain ⟨cv5, i0, i1, i2⟩ := hs
   show Tot (Zv5 E0 v3 v5).den _
   dsimp only [Zv5, LT.den]
   refine tD (fun h1 => ?_) (fun h1 => ?_)
   ·exact tL ⟨cl, cl, cl, cl, cl, cl, cl⟩ Z8q
   ·refine tF (fun h2 => ?_) (fun h2 => ?_)
    ·exact tR Zlf
    ·exact tR Zlf
  | L2 E0 v3 v5 v6 =>
   obtain ⟨cv5, cv6, bd2, i0, i1, i2, i3⟩ := hs
   show Tot (Zv6 E0 v3 v5 v6).den _
   dsimp only [Zv6, LT.den]
   refine tB (tI (by omega) tk53) (fun x1 h2 => ?_)
   have ph2 := i1 x1 h2.1
   refine tD (fun h3 => ?_) (fun h3 => ?_)
   ·refine qw (v5 + 1) fun q4 q5 => ?_
    refine tB (Tot.slice (by omega) (by omega) tk48) (fun x6 h7 => ?_)
    have lh7 := h7.1
    refine tB (tK Zch) (fun x8 h9 => ?_)
    refine qw (v6 + 1) fun q10 q11 => ?_
    exact tL ⟨cl, cl, cl, cl, cl, cl, cl⟩ Z8q
   ·refine qw (v5 + 1) fun q12 q13 => ?_
    exact tL ⟨cl, cl, cl, cl⟩ Z8q
theorem Z80 (a0 : (A6 Int)) : Tot (Zse a0) (fun r => (SzT r)) := by
 unfold Zse
 refine tZ ?_
 dsimp only [Zxm, LT.den]
 refine tB (Zaku a0) (fun x1 h2 => ?_)
 refine tB (Zakw x1) (fun x3 h4 => ?_)
 exact tR h4
theorem Zad4 (a0 : Int) (a1 : Zc) (oa1 : Zaq a1) : Tot (Zy2 a0 a1) (fun r => True) := by
 unfold Zy2
 refine tZ ?_
 dsimp only [Z1s, LT.den]
 refine tE (fun h1 => ?_) (fun h1 => ?_)
 ·refine tB (Zd0 a1 oa1) (fun x2 h3 => ?_)
  have eh3_0 := h3.1
  have eh3_1 := h3.2
  refine tF (fun h4 => ?_) (fun h4 => ?_)
  ·have h4_0 := eh3_0 h4
   exact tR trivial
  ·exact tR trivial
 ·refine tB (Zd0 a1 oa1) (fun x5 h6 => ?_)
  have eh6_0 := h6.1
  have eh6_1 := h6.2
  refine tF (fun h7 => ?_) (fun h7 => ?_)
  ·have h7_0 := eh6_0 h7
   exact tR trivial
  ·exact tR trivial
def Zd2 : Ze6 → Prop
 | .L0 E0 v5 => (Zac E0) ∧ True
 | .L1 E0 v5 v6 => (Zac E0) ∧ True
 | .L2 E0 v5 v6 v7 => (Zac E0) ∧ True
 | .L3 E0 v5 v6 v7 v8 => (Zac E0) ∧ True
 | .L4 E0 v5 v6 v7 v8 v9 => (Zac E0) ∧ True
 | .L5 E0 v5 v6 v7 v8 v9 v10 => (Zac E0) ∧ True
 | .L6 E0 v5 v6 v7 v8 v9 v10 v11 => (Zac E0) ∧ True
 | .L7 v5 v6 v7 v8 v9 v10 v11 v12 => True
def Zgt : Ze6 → M6
 | .L0 E0 v5 => (0, 0, 0, 0, 0, 0)
 | .L1 E0 v5 v6 => (0, 0, 0, 0, 0, 0)
 | .L2 E0 v5 v6 v7 => (0, 0, 0, 0, 0, 0)
 | .L3 E0 v5 v6 v7 v8 => (0, 0, 0, 0, 0, 0)
 | .L4 E0 v5 v6 v7 v8 v9 => (0, 0, 0, 0, 0, 0)
 | .L5 E0 v5 v6 v7 v8 v9 v10 => (0, 0, 0, 0, 0, 0)
 | .L6 E0 v5 v6 v7 v8 v9 v10 v11 => (0, 0, 0, 0, 0, 0)
 | .L7 v5 v6 v7 v8 v9 v10 v11 v12 => (0, 0, 0, 0, 0, 0)
theorem Zqo (v5 : Bool) (v6 : Bool) (v7 : Bool) (v8 : Bool) (v9 : Bool) (v10 : Bool) (v11 : Bool) (v12 : Bool) (h : True) : Tot (Zpc v5 v6 v7 v8 v9 v10 v11 v12).den (Nx Zd2 Zgt (0, 0, 0, 0, 0, 0) (fun r => True)) := by
 dsimp only [Zpc, LT.den]
 refine tF (fun h1 => ?_) (fun h1 => ?_)
 ·refine tF (fun h2 => ?_) (fun h2 => ?_)
  ·refine tF (fun h3 => ?_) (fun h3 => ?_)
   ·refine tF (fun h4 => ?_) (fun h4 => ?_)
    ·refine tF (fun h5 => ?_) (fun h5 => ?_)
     ·refine tF (fun h6 => ?_) (fun h6 => ?_)
      ·refine tF (fun h7 => ?_) (fun h7 => ?_)
       ·exact tR trivial
       ·exact tR trivial
      ·exact tR trivial
     ·exact tR trivial
    ·exact tR trivial
   ·exact tR trivial
  ·exact tR trivial
 ·exact tR trivial
theorem Zkz (E0 : Zs) (v5 : Bool) (v6 : Bool) (v7 : Bool) (v8 : Bool) (v9 : Bool) (v10 : Bool) (v11 : Bool) (h : (Zac E0) ∧ True) : Tot (Zlr E0 v5 v6 v7 v8 v9 v10 v11).den (Nx Zd2 Zgt (0, 0, 0, 0, 0, 0) (fun r => True)) := by
 obtain ⟨ob30000000, _⟩ := h
 dsimp only [Zlr, LT.den]
 refine tB (Zey E0.Op 102) (fun x1 h2 => ?_)
 refine tF (fun h3 => ?_) (fun h3 => ?_)
 ·refine tB (Zad4 E0.Op E0.Filter ob30000000.2.2.2.1) (fun x4 h5 => ?_)
  exact tJ (Zqo v5 v6 v7 v8 v9 v10 v11 x4 trivial)
 ·exact tJ (Zqo v5 v6 v7 v8 v9 v10 v11 (Zab (Zg E0.Filter) (Zg (⟨0, 0, 0, 0, 0, 0, 0, ([] : List UInt8), 0, 0, (⟨0, 0⟩ : Za), (⟨0, 0⟩ : Za), (⟨0, 0⟩ : Za)⟩ : Zc))) trivial)
theorem Zqp (E0 : Zs) (v5 : Bool) (v6 : Bool) (v7 : Bool) (v8 : Bool) (v9 : Bool) (v10 : Bool) (h : (Zac E0) ∧ True) : Tot (Zpd E0 v5 v6 v7 v8 v9 v10).den (Nx Zd2 Zgt (0, 0, 0, 0, 0, 0) (fun r => True)) := by
 obtain ⟨ob30000000, _⟩ := h
 dsimp only [Zpd, LT.den]
 refine tB (Zey E0.Op 112) (fun x1 h2 => ?_)
 refine tF (fun h3 => ?_) (fun h3 => ?_)
 ·refine tO (fun h4 => ?_) (fun h4 => ?_)
  ·refine tB (Z80 E0.Pool) (fun x5 h6 => ?_)
   exact tJ (Zkz E0 v5 v6 v7 v8 v9 v10 (!(x5 == ([] : List UInt8))) ⟨ob30000000, trivial⟩)
  ·exact tJ (Zkz E0 v5 v6 v7 v8 v9 v10 false ⟨ob30000000, trivial⟩)
 ·exact tJ (Zkz E0 v5 v6 v7 v8 v9 v10 (Zab ((cA6 (cI .i64)) E0.Pool) ((cA6 (cI .i64)) (⟨0, 0, 0, 0, 0, 0⟩ : (A6 Int)))) ⟨ob30000000, trivial⟩)
theorem Zqq (E0 : Zs) (v5 : Bool) (v6 : Bool) (v7 : Bool) (v8 : Bool) (v9 : Bool) (h : (Zac E0) ∧ True) : Tot (Zpe E0 v5 v6 v7 v8 v9).den (Nx Zd2 Zgt (0, 0, 0, 0, 0, 0) (fun r => True)) := by
 obtain ⟨ob30000000, _⟩ := h
 dsimp only [Zpe, LT.den]
 have q1 := ob30000000.2.2.2.2.1
 refine tB (Zey E0.Op 109) (fun x2 h3 => ?_)
 refine tF (fun h4 => ?_) (fun h4 => ?_)
 ·refine tB (Zaks E0.Mods ob30000000.2.2.2.2) (fun x5 h6 => ?_)
  exact tJ (Zqp E0 v5 v6 v7 v8 v9 x5 ⟨ob30000000, trivial⟩)
 ·exact tJ (Zqp E0 v5 v6 v7 v8 v9 ((E0.Mods.length : Int) == 0) ⟨ob30000000, trivial⟩)
theorem Zqr (E0 : Zs) (v5 : Bool) (v6 : Bool) (v7 : Bool) (v8 : Bool) (h : (Zac E0) ∧ True) : Tot (Zpf E0 v5 v6 v7 v8).den (Nx Zd2 Zgt (0, 0, 0, 0, 0, 0) (fun r => True)) := by
 obtain ⟨ob30000000, _⟩ := h
 dsimp only [Zpf, LT.den]
 refine tB (Zey E0.Op 97) (fun x1 h2 => ?_)
 refine tF (fun h3 => ?_) (fun h3 => ?_)
 ·refine tB (Zao1 E0.Amount ob30000000.2.1) (fun x4 h5 => ?_)
  have eh5_0 := h5
  exact tJ (Zqq E0 v5 v6 v7 v8 x4 ⟨ob30000000, trivial⟩)
 ·exact tJ (Zqq E0 v5 v6 v7 v8 (Zab (Z1 E0.Amount) (Z1 (⟨0, 0, 0, (⟨0, 0, 0, 0, 0, 0, 0, ([] : List UInt8), 0, 0, (⟨0, 0⟩ : Za), (⟨0, 0⟩ : Za), (⟨0, 0⟩ : Za)⟩ : Zc)⟩ : Zt))) ⟨ob30000000, trivial⟩)
theorem Zk0 (E0 : Zs) (v5 : Bool) (v6 : Bool) (v7 : Bool) (h : (Zac E0) ∧ True) : Tot (Zls E0 v5 v6 v7).den (Nx Zd2 Zgt (0, 0, 0, 0, 0, 0) (fun r => True)) := by
 obtain ⟨ob30000000, _⟩ := h
 dsimp only [Zls, LT.den]
 refine tB (Zey E0.Op 99) (fun x1 h2 => ?_)
 refine tF (fun h3 => ?_) (fun h3 => ?_)
 ·refine tB (Zzm E0.Card (SzS.t ob30000000.2.2.1)) (fun x4 h5 => ?_)
  exact tJ (Zqr E0 v5 v6 v7 x4 ⟨ob30000000, trivial⟩)
 ·exact tJ (Zqr E0 v5 v6 v7 (E0.Card == ([] : List UInt8)) ⟨ob30000000, trivial⟩)
theorem Zh9 (E0 : Zs) (v5 : Bool) (v6 : Bool) (h : Zd2 (.L1 E0 v5 v6)) : Tot (Zi2 E0 v5 v6).den (Nx Zd2 Zgt (0, 0, 0, 0, 0, 0) (fun r => True)) := by
 obtain ⟨ob30000000, _⟩ := h
 dsimp only [Zi2, LT.den]
 refine tE (fun h1 => ?_) (fun h1 => ?_)
 ·exact tJ (Zk0 E0 v5 v6 true ⟨ob30000000, trivial⟩)
 ·refine tB (Zey E0.Op 107) (fun x2 h3 => ?_)
  refine tF (fun h4 => ?_) (fun h4 => ?_)
  ·refine tB (Z3k E0.Counter) (fun x5 h6 => ?_)
   have eh6_1 := h6.2
   exact tJ (Zk0 E0 v5 v6 (!(x5 == ([] : List UInt8))) ⟨ob30000000, trivial⟩)
  ·exact tJ (Zk0 E0 v5 v6 false ⟨ob30000000, trivial⟩)
theorem Zqs (E0 : Zs) (v5 : Bool) (h : Zd2 (.L0 E0 v5)) : Tot (Zpg E0 v5).den (Nx Zd2 Zgt (0, 0, 0, 0, 0, 0) (fun r => True)) := by
 obtain ⟨ob30000000, _⟩ := h
 dsimp only [Zpg, LT.den]
 refine tE (fun h1 => ?_) (fun h1 => ?_)
 ·exact tJ (Zh9 E0 v5 true ⟨ob30000000, trivial⟩)
 ·refine tB (Zey E0.Op 122) (fun x2 h3 => ?_)
  refine tF (fun h4 => ?_) (fun h4 => ?_)
  ·refine tD (fun h5 => ?_) (fun h5 => ?_)
   ·exact tJ (Zh9 E0 v5 (decide (E0.Zone ≤ 4)) ⟨ob30000000, trivial⟩)
   ·exact tJ (Zh9 E0 v5 false ⟨ob30000000, trivial⟩)
  ·exact tJ (Zh9 E0 v5 false ⟨ob30000000, trivial⟩)
theorem Zao2 (a0 : Zs) (a1 : Int) (oa0 : Zac a0) : Tot (Zajb a0 a1) (fun r => True) := by
 unfold Zajb
 refine tX (Inv := Zd2) (μ := Zgt) (m := (1000000, 0, 0, 0, 0, 0)) ?_ ?_
 ·dsimp only [Zai9, LT.den]
  refine tB (Zakp a0.Op) (fun x1 h2 => ?_)
  refine tF (fun h3 => ?_) (fun h3 => ?_)
  ·exact tR trivial
  ·refine tB (Zey a0.Op 114) (fun x4 h5 => ?_)
   refine tF (fun h6 => ?_) (fun h6 => ?_)
   ·refine tB (Zao0 a0.Ref a1 oa0.1) (fun x7 h8 => ?_)
    exact tJ (Zqs a0 x7 ⟨oa0, trivial⟩)
   ·exact tJ (Zqs a0 (Zab (Zbh a0.Ref) (Zbh (⟨0, 0, (⟨0, 0, 0, 0, 0, 0, 0, ([] : List UInt8), 0, 0, (⟨0, 0⟩ : Za), (⟨0, 0⟩ : Za), (⟨0, 0⟩ : Za)⟩ : Zc)⟩ : Z4))) ⟨oa0, trivial⟩)
 ·intro s hs
  cases s with
  | L0 E0 v5 => exact Zqs E0 v5 hs
  | L1 E0 v5 v6 => exact Zh9 E0 v5 v6 hs
  | L2 E0 v5 v6 v7 => exact Zk0 E0 v5 v6 v7 hs
  | L3 E0 v5 v6 v7 v8 => exact Zqr E0 v5 v6 v7 v8 hs
  | L4 E0 v5 v6 v7 v8 v9 => exact Zqq E0 v5 v6 v7 v8 v9 hs
  | L5 E0 v5 v6 v7 v8 v9 v10 => exact Zqp E0 v5 v6 v7 v8 v9 v10 hs
  | L6 E0 v5 v6 v7 v8 v9 v10 v11 => exact Zkz E0 v5 v6 v7 v8 v9 v10 v11 hs
  | L7 v5 v6 v7 v8 v9 v10 v11 v12 => exact Zqo v5 v6 v7 v8 v9 v10 v11 v12 hs
def Zacb : Zhz → Prop
 | .L0 v0 v1 v5 => ((SzL 560 Zac) v0) ∧ (0 ≤ v5)
def Zob : Zhz → M6
 | .L0 v0 v1 v5 => (1, ((v0.length : Int) - v5).toNat, 1000000, 0, 0, 0)
theorem Zacc (a0 : (List Zs)) (a1 : Int) (oa0 : (SzL 560 Zac) a0) : Tot (Zv7 a0 a1) (fun r => True) := by
 unfold Zv7
 refine tX (Inv := Zacb) (μ := Zob) (m := (1000000, 0, 0, 0, 0, 0)) ?_ ?_
 ·have lb_a0 := oa0.1
  dsimp only [Zz1, LT.den]
  exact tL ⟨oa0, cl⟩ (by unfold Zob lt6; dsimp only; omega)
 ·intro s hs
  cases s with
  | L0 v0 v1 v5 =>
   obtain ⟨ov0, cv5⟩ := hs
   have lb_v0 := ov0.1
   show Tot (Znw v0 v1 v5).den _
   dsimp only [Znw, LT.den]
   have q1 := ov0.1
   refine tD (fun h2 => ?_) (fun h2 => ?_)
   ·refine tB (tI (by omega) (by omega)) (fun x3 h4 => ?_)
    have oh4 : Zac x3 := ov0.2 x3 h4.1
    refine tB (Zao2 x3 v1 oh4) (fun x5 h6 => ?_)
    refine tO (fun h7 => ?_) (fun h7 => ?_)
    ·exact tR trivial
    ·refine qw (v5 + 1) fun q8 q9 => ?_
     exact tL ⟨ov0, cl⟩ (by unfold Zob lt6; dsimp only; omega)
   ·refine tD (fun h10 => ?_) (fun h10 => ?_)
    ·exact tR trivial
    ·exact tR trivial
def Zd3 : Zhs → Prop
 | .L0 E0 v3 => (Zax E0) ∧ True
 | .L1 E0 v3 => (Zax E0) ∧ True
 | .L2 E0 v3 => (Zax E0) ∧ True
 | .L3 E0 v3 => (Zax E0) ∧ True
 | .L4 E0 v3 => (Zax E0) ∧ True
def Zl2 : Zhs → M6
 | .L0 E0 v3 => (0, 0, 0, 0, 0, 0)
 | .L1 E0 v3 => (0, 0, 0, 0, 0, 0)
 | .L2 E0 v3 => (0, 0, 0, 0, 0, 0)
 | .L3 E0 v3 => (0, 0, 0, 0, 0, 0)
 | .L4 E0 v3 => (0, 0, 0, 0, 0, 0)
theorem Zqt (E0 : Zk) (v3 : Bool) (h : Zd3 (.L4 E0 v3)) : Tot (Zph E0 v3).den (Nx Zd3 Zl2 (0, 0, 0, 0, 0, 0) (fun r => True)) := by
 obtain ⟨ob30000000, _⟩ := h
 dsimp only [Zph, LT.den]
 refine tF (fun h1 => ?_) (fun h1 => ?_)
 ·refine tB (Zaf9 E0.Specs ob30000000.2.2.2.1) (fun x2 h3 => ?_)
  refine tF (fun h4 => ?_) (fun h4 => ?_)
  ·have q5 := ob30000000.2.2.2.1.1
   refine tB (Zacc E0.Effects (E0.Specs.length : Int) ob30000000.2.2.2.2.1) (fun x6 h7 => ?_)
   exact tR trivial
  ·exact tR trivial
 ·have q8 := ob30000000.2.2.2.1.1
  refine tE (fun h9 => ?_) (fun h9 => ?_)
  ·have q10 := ob30000000.2.2.2.2.1.1
   exact tR trivial
  ·exact tR trivial
theorem Zqu (E0 : Zk) (v3 : Bool) (h : Zd3 (.L3 E0 v3)) : Tot (Zpi E0 v3).den (Nx Zd3 Zl2 (0, 0, 0, 0, 0, 0) (fun r => True)) := by
 obtain ⟨ob30000000, _⟩ := h
 dsimp only [Zpi, LT.den]
 refine tE (fun h1 => ?_) (fun h1 => ?_)
 ·refine tB (Zaoz E0.Replace ob30000000.2.2.2.2.2) (fun x2 h3 => ?_)
  refine tO (fun h4 => ?_) (fun h4 => ?_)
  ·exact tR trivial
  ·exact tJ (Zqt E0 v3 ⟨ob30000000, trivial⟩)
 ·refine tO (fun h5 => ?_) (fun h5 => ?_)
  ·exact tR trivial
  ·exact tJ (Zqt E0 v3 ⟨ob30000000, trivial⟩)
theorem Zqv (E0 : Zk) (v3 : Bool) (h : Zd3 (.L2 E0 v3)) : Tot (Zpj E0 v3).den (Nx Zd3 Zl2 (0, 0, 0, 0, 0, 0) (fun r => True)) := by
 obtain ⟨ob30000000, _⟩ := h
 dsimp only [Zpj, LT.den]
 refine tE (fun h1 => ?_) (fun h1 => ?_)
 ·refine tB (Zaoy E0.Trigger ob30000000.2.2.1) (fun x2 h3 => ?_)
  refine tO (fun h4 => ?_) (fun h4 => ?_)
  ·exact tR trivial
  ·exact tJ (Zqu E0 v3 ⟨ob30000000, trivial⟩)
 ·refine tO (fun h5 => ?_) (fun h5 => ?_)
  ·exact tR trivial
  ·refine tF (fun h6 => ?_) (fun h6 => ?_)
   ·exact tR trivial
   ·exact tJ (Zqu E0 v3 ⟨ob30000000, trivial⟩)
theorem Zqw (E0 : Zk) (v3 : Bool) (h : Zd3 (.L1 E0 v3)) : Tot (Zpk E0 v3).den (Nx Zd3 Zl2 (0, 0, 0, 0, 0, 0) (fun r => True)) := by
 obtain ⟨ob30000000, _⟩ := h
 dsimp only [Zpk, LT.den]
 refine tE (fun h1 => ?_) (fun h1 => ?_)
 ·refine tB (Zaf5 E0.Price) (fun x2 h3 => ?_)
  refine tO (fun h4 => ?_) (fun h4 => ?_)
  ·exact tR trivial
  ·exact tJ (Zqv E0 v3 ⟨ob30000000, trivial⟩)
 ·refine tO (fun h5 => ?_) (fun h5 => ?_)
  ·exact tR trivial
  ·refine tF (fun h6 => ?_) (fun h6 => ?_)
   ·exact tR trivial
   ·exact tJ (Zqv E0 v3 ⟨ob30000000, trivial⟩)
theorem Zk1 (E0 : Zk) (v3 : Bool) (h : Zd3 (.L0 E0 v3)) : Tot (Zlt E0 v3).den (Nx Zd3 Zl2 (0, 0, 0, 0, 0, 0) (fun r => True)) := by
 obtain ⟨ob30000000, _⟩ := h
 dsimp only [Zlt, LT.den]
 refine tE (fun h1 => ?_) (fun h1 => ?_)
 ·refine tB (Zd0 E0.Filter ob30000000.1) (fun x2 h3 => ?_)
  have eh3_0 := h3.1
  have eh3_1 := h3.2
  refine tO (fun h4 => ?_) (fun h4 => ?_)
  ·exact tR trivial
  ·have h4_0 := eh3_0 h4
   refine tN (fun h5 => ?_) (fun h5 => ?_)
   ·exact tR trivial
   ·refine tB (Zlh E0.Mods ob30000000.2.1) (fun x6 h7 => ?_)
    have eh7_0 := h7
    refine tF (fun h8 => ?_) (fun h8 => ?_)
    ·exact tR trivial
    ·exact tJ (Zqw E0 v3 ⟨ob30000000, trivial⟩)
 ·refine tO (fun h9 => ?_) (fun h9 => ?_)
  ·exact tR trivial
  ·have q10 := ob30000000.2.1.1
   refine tD (fun h11 => ?_) (fun h11 => ?_)
   ·exact tR trivial
   ·exact tJ (Zqw E0 v3 ⟨ob30000000, trivial⟩)
theorem Zrf (a0 : Zk) (oa0 : Zax a0) : Tot (Zaje a0) (fun r => True) := by
 unfold Zaje
 refine tX (Inv := Zd3) (μ := Zl2) (m := (1000000, 0, 0, 0, 0, 0)) ?_ ?_
 ·dsimp only [Zajc, LT.den]
  refine tD (fun h1 => ?_) (fun h1 => ?_)
  ·exact tR trivial
  ·refine tD (fun h2 => ?_) (fun h2 => ?_)
   ·exact tR trivial
   ·refine tE (fun h3 => ?_) (fun h3 => ?_)
    ·exact tJ (Zk1 a0 true ⟨oa0, trivial⟩)
    ·refine tE (fun h4 => ?_) (fun h4 => ?_)
     ·exact tJ (Zk1 a0 true ⟨oa0, trivial⟩)
     ·exact tJ (Zk1 a0 (a0.Kind == 4) ⟨oa0, trivial⟩)
 ·intro s hs
  cases s with
  | L0 E0 v3 => exact Zk1 E0 v3 hs
  | L1 E0 v3 => exact Zqw E0 v3 hs
  | L2 E0 v3 => exact Zqv E0 v3 hs
  | L3 E0 v3 => exact Zqu E0 v3 hs
  | L4 E0 v3 => exact Zqt E0 v3 hs
theorem Zakx (a0 : Zq) (oa0 : Zal a0) : Tot (Z75 a0) (fun r => True) := by
 unfold Z75
 refine tZ ?_
 dsimp only [Zaa6, LT.den]
 refine tE (fun h1 => ?_) (fun h1 => ?_)
 ·exact tR trivial
 ·exact tR trivial
def Zzs (a0 : Zq) : Znx → Prop
 | .L0 E0 => (E0 = a0) ∧ (Zal E0) ∧ (E0.Abilities.length ≤ 8)
 | .L1 E0 v3 v4 => (E0 = a0) ∧ (Zal E0) ∧ (0 ≤ v4) ∧ (E0.Abilities.length ≤ 8)
def Zve : Znx → M6
 | .L0 E0 => (2, 0, 0, 0, 0, 0)
 | .L1 E0 v3 v4 => (1, ((E0.Abilities.length : Int) - v4).toNat, 1000000, 0, 0, 0)
theorem Zqx (a0 : Zq) (E0 : Zq) (h : (Zzs a0) (.L0 E0)) : Tot (Zpl E0).den (Nx (Zzs a0) Zve (2, 0, 0, 0, 0, 0) (fun r => (r = true → a0.Abilities.length ≤ 8))) := by
 obtain ⟨al0, ob30000000, i0⟩ := h
 subst al0
 dsimp only [Zpl, LT.den]
 exact tL ⟨rfl, ob30000000, cl, cl⟩ Zaot
theorem Zao3 (a0 : Zq) (oa0 : Zal a0) : Tot (Zajh a0) (fun r => (r = true → a0.Abilities.length ≤ 8)) := by
 unfold Zajh
 refine tX (Inv := (Zzs a0)) (μ := Zve) (m := (1000000, 0, 0, 0, 0, 0)) ?_ ?_
 ·dsimp only [Zajf, LT.den]
  refine tB (Zzm a0.Name (SzS.t oa0.1)) (fun x1 h2 => ?_)
  refine tO (fun h3 => ?_) (fun h3 => ?_)
  ·exact tR Zf8
  ·refine tB (Zzn a0.Cost) (fun x4 h5 => ?_)
   have eh5_0 := h5.1
   have eh5_1 := h5.2
   refine tO (fun h6 => ?_) (fun h6 => ?_)
   ·exact tR Zf8
   ·have h6_0 := eh5_0 h6
    have h6_1 := eh5_1 h6
    refine tB (Zaow a0.Line oa0.2.1) (fun x7 h8 => ?_)
    refine tO (fun h9 => ?_) (fun h9 => ?_)
    ·exact tR Zf8
    ·refine tB (Zab9 a0.Keys) (fun x10 h11 => ?_)
     refine tO (fun h12 => ?_) (fun h12 => ?_)
     ·exact tR Zf8
     ·refine tD (fun h13 => ?_) (fun h13 => ?_)
      ·exact tR Zf8
      ·refine tD (fun h14 => ?_) (fun h14 => ?_)
       ·exact tR Zf8
       ·refine tD (fun h15 => ?_) (fun h15 => ?_)
        ·exact tR Zf8
        ·refine tD (fun h16 => ?_) (fun h16 => ?_)
         ·exact tR Zf8
         ·refine tD (fun h17 => ?_) (fun h17 => ?_)
          ·exact tR Zf8
          ·refine tD (fun h18 => ?_) (fun h18 => ?_)
           ·exact tR Zf8
           ·refine tB (Z8u a0 oa0) (fun x19 h20 => ?_)
            refine tO (fun h21 => ?_) (fun h21 => ?_)
            ·refine tN (fun h22 => ?_) (fun h22 => ?_)
             ·exact tR Zf8
             ·refine tN (fun h23 => ?_) (fun h23 => ?_)
              ·exact tR Zf8
              ·have q24 := oa0.2.2.1
               refine tD (fun h25 => ?_) (fun h25 => ?_)
               ·exact tR Zf8
               ·exact tJ (Zqx a0 a0 ⟨rfl, oa0, cl⟩)
            ·have q26 := oa0.2.2.1
             refine tD (fun h27 => ?_) (fun h27 => ?_)
             ·exact tR Zf8
             ·exact tJ (Zqx a0 a0 ⟨rfl, oa0, cl⟩)
 ·intro s hs
  cases s with
  | L0 E0 => exact Zqx a0 E0 hs
  | L1 E0 v3 v4 =>
   obtain ⟨al0, ob30000000, cv4, i0⟩ := hs
   subst al0
   show Tot (Z1u E0 v3 v4).den _
   dsimp only [Z1u, LT.den, Zve]
   have q1 := ob30000000.2.2.1
   refine tD (fun h2 => ?_) (fun h2 => ?_)
   ·refine tB (tI (by omega) (by omega)) (fun x3 h4 => ?_)
    have oh4 : Zax x3 := ob30000000.2.2.2 x3 h4.1
    refine tB (Zrf x3 oh4) (fun x5 h6 => ?_)
    refine tO (fun h7 => ?_) (fun h7 => ?_)
    ·exact tR Zf8
    ·refine tE (fun h8 => ?_) (fun h8 => ?_)
     ·refine qw (v3 + 1) fun q9 q10 => ?_
      refine qw (v4 + 1) fun q11 q12 => ?_
      exact tL ⟨rfl, ob30000000, cl, cl⟩ Zaot
     ·refine qw (v4 + 1) fun q13 q14 => ?_
      exact tL ⟨rfl, ob30000000, cl, cl⟩ Zaot
   ·refine tB (Zakx E0 ob30000000) (fun x15 h16 => ?_)
    refine tF (fun h17 => ?_) (fun h17 => ?_)
    ·refine tO (fun h18 => ?_) (fun h18 => ?_)
     ·refine tE (fun h19 => ?_) (fun h19 => ?_)
      ·refine tE (fun h20 => ?_) (fun h20 => ?_)
       ·exact tR Zf8
       ·exact tR Zf8
      ·exact tR Zf8
     ·exact tR Zf8
    ·refine tE (fun h21 => ?_) (fun h21 => ?_)
     ·refine tO (fun h22 => ?_) (fun h22 => ?_)
      ·refine tE (fun h23 => ?_) (fun h23 => ?_)
       ·exact tR Zf8
       ·exact tR Zf8
      ·exact tR Zf8
     ·exact tR Zf8
def Zaky : Zmq → Prop
 | .L0 v0 v1 v5 => ((SzL 176 Zal) v0) ∧ (SzT v1) ∧ (0 ≤ v5)
def Zwy : Zmq → M6
 | .L0 v0 v1 v5 => (1, ((v0.length : Int) - v5).toNat, 1000000, 0, 0, 0)
theorem Zakz (a0 : (List Zq)) (a1 : (List UInt8)) (oa0 : (SzL 176 Zal) a0) (oa1 : SzT a1) : Tot (Z76 a0 a1) (fun r => True) := by
 unfold Z76
 refine tX (Inv := Zaky) (μ := Zwy) (m := (1000000, 0, 0, 0, 0, 0)) ?_ ?_
 ·have lb_a0 := oa0.1
  have lb_a1 : a1.length ≤ 562949953421312 := oa1
  dsimp only [Zaa8, LT.den]
  exact tL ⟨oa0, oa1, cl⟩ (by unfold Zwy lt6; dsimp only; omega)
 ·intro s hs
  cases s with
  | L0 v0 v1 v5 =>
   obtain ⟨ov0, ov1, cv5⟩ := hs
   have lb_v0 := ov0.1
   have lb_v1 : v1.length ≤ 562949953421312 := ov1
   show Tot (Zv8 v0 v1 v5).den _
   dsimp only [Zv8, LT.den]
   have q1 := ov0.1
   refine tD (fun h2 => ?_) (fun h2 => ?_)
   ·refine tB (tI (by omega) (by omega)) (fun x3 h4 => ?_)
    have oh4 : Zal x3 := ov0.2 x3 h4.1
    refine tF (fun h5 => ?_) (fun h5 => ?_)
    ·exact tR trivial
    ·refine qw (v5 + 1) fun q6 q7 => ?_
     exact tL ⟨ov0, ov1, cl⟩ (by unfold Zwy lt6; dsimp only; omega)
   ·exact tR trivial
def Zaga : Zkf → Prop
 | .L0 v0 v1 v5 => ((SzL 176 Zal) v0) ∧ (SzT v1) ∧ (0 ≤ v5)
def Z3l : Zkf → M6
 | .L0 v0 v1 v5 => (1, ((v0.length : Int) - v5).toNat, 1000000, 0, 0, 0)
theorem Zagb (a0 : (List Zq)) (a1 : (List UInt8)) (oa0 : (SzL 176 Zal) a0) (oa1 : SzT a1) : Tot (Z1v a0 a1) (fun r => True) := by
 unfold Z1v
 refine tX (Inv := Zaga) (μ := Z3l) (m := (1000000, 0, 0, 0, 0, 0)) ?_ ?_
 ·have lb_a0 := oa0.1
  have lb_a1 : a1.length ≤ 562949953421312 := oa1
  dsimp only [Z5u, LT.den]
  exact tL ⟨oa0, oa1, cl⟩ tk85
 ·intro s hs
  cases s with
  | L0 v0 v1 v5 =>
   obtain ⟨ov0, ov1, cv5⟩ := hs
   have lb_v0 := ov0.1
   have lb_v1 : v1.length ≤ 562949953421312 := ov1
   show Tot (Zsf v0 v1 v5).den _
   dsimp only [Zsf, LT.den]
   have q1 := ov0.1
   refine tD (fun h2 => ?_) (fun h2 => ?_)
   ·refine tB (tI (by omega) (by omega)) (fun x3 h4 => ?_)
    have oh4 : Zal x3 := ov0.2 x3 h4.1
    refine tF (fun h5 => ?_) (fun h5 => ?_)
    ·refine tF (fun h6 => ?_) (fun h6 => ?_)
     ·exact tR trivial
     ·refine qw (v5 + 1) fun q7 q8 => ?_
      exact tL ⟨ov0, ov1, cl⟩ tk85
    ·refine qw (v5 + 1) fun q9 q10 => ?_
     exact tL ⟨ov0, ov1, cl⟩ tk85
   ·exact tR trivial
def Zacd : Zgj → Prop
 | .L0 v0 E0 v5 => ((SzL 176 Zal) v0) ∧ (Zal E0) ∧ (0 ≤ v5)
 | .L1 v0 E0 v5 v6 => ((SzL 176 Zal) v0) ∧ (Zal E0) ∧ (0 ≤ v5) ∧ (0 ≤ v6) ∧ (v5 < (E0.Abilities.length : Int)) ∧ (v5 < (E0.Abilities.length : Int))
def Zx9 : Zgj → M6
 | .L0 v0 E0 v5 => (1, ((E0.Abilities.length : Int) - v5).toNat, 1000000, 0, 0, 0)
 | .L1 v0 E0 v5 v6 => (1, ((E0.Abilities.length : Int) - v5).toNat, 1, ((((E0.Abilities[v5.toNat]?).map fun x => x.Effects.length).getD 0 : Nat) - v6).toNat, 1000000, 0)
theorem Zace (a0 : (List Zq)) (a1 : Zq) (oa0 : (SzL 176 Zal) a0) (oa1 : Zal a1) : Tot (Zv9 a0 a1) (fun r => True) := by
 unfold Zv9
 refine tX (Inv := Zacd) (μ := Zx9) (m := (1000000, 0, 0, 0, 0, 0)) ?_ ?_
 ·have lb_a0 := oa0.1
  dsimp only [Zz3, LT.den]
  exact tL ⟨oa0, oa1, cl⟩ tk66
 ·intro s hs
  cases s with
  | L0 v0 E0 v5 =>
   obtain ⟨ov0, ob30000000, cv5⟩ := hs
   have lb_v0 := ov0.1
   show Tot (Zny v0 E0 v5).den _
   dsimp only [Zny, LT.den]
   have q1 := ob30000000.2.2.1
   refine tD (fun h2 => ?_) (fun h2 => ?_)
   ·exact tL ⟨ov0, ob30000000, cl, cl, cl, cl⟩ tk66
   ·exact tR trivial
  | L1 v0 E0 v5 v6 =>
   obtain ⟨ov0, ob30000000, cv5, cv6, bd4, i0⟩ := hs
   have lb_v0 := ov0.1
   show Tot (Znz v0 E0 v5 v6).den _
   dsimp only [Znz, LT.den]
   have lx_0 : E0.Abilities.length * 640 ≤ 140737488351232 := ob30000000.2.2.1
   refine tB (tI (by omega) (by omega)) (fun x1 h2 => ?_)
   have oh2 : Zax x1 := ob30000000.2.2.2 x1 h2.1
   have mh2 : ((E0.Abilities[v5.toNat]?).map fun x => x.Effects.length).getD 0 = x1.Effects.length := by rw [h2.2]; rfl
   have q3 := oh2.2.2.2.2.1.1
   refine tD (fun h4 => ?_) (fun h4 => ?_)
   ·refine tB (tI (by omega) (by omega)) (fun x5 h6 => ?_)
    have oh6 : Zac x5 := oh2.2.2.2.2.1.2 x5 h6.1
    refine tE (fun h7 => ?_) (fun h7 => ?_)
    ·refine tB (Zagb v0 x5.Card ov0 (SzS.t oh6.2.2.1)) (fun x8 h9 => ?_)
     refine tO (fun h10 => ?_) (fun h10 => ?_)
     ·exact tR trivial
     ·refine qw (v6 + 1) fun q11 q12 => ?_
      exact tL ⟨ov0, ob30000000, cl, cl, cl, cl⟩ tk66
    ·refine qw (v6 + 1) fun q13 q14 => ?_
     exact tL ⟨ov0, ob30000000, cl, cl, cl, cl⟩ tk66
   ·refine qw (v5 + 1) fun q15 q16 => ?_
    exact tL ⟨ov0, ob30000000, cl⟩ tk66
def Zagc (a0 : (List Zq)) : Zkg → Prop
 | .L0 v0 v4 => (v0 = a0) ∧ ((SzL 176 Zal) v0) ∧ (0 ≤ v4) ∧ (∀ (k : Nat) c, (k : Int) < v4 → v0[k]? = some c → c.Abilities.length ≤ 8)
def Zts : Zkg → M6
 | .L0 v0 v4 => (1, ((v0.length : Int) - v4).toNat, 1000000, 0, 0, 0)
theorem Zagd (a0 : (List Zq)) (oa0 : (SzL 176 Zal) a0) : Tot (Z1w a0) (fun r => (r.2 = 0 → ∀ c, c ∈ a0 → c.Abilities.length ≤ 8)) := by
 unfold Z1w
 refine tX (Inv := (Zagc a0)) (μ := Zts) (m := (1000000, 0, 0, 0, 0, 0)) ?_ ?_
 ·have lb_a0 := oa0.1
  dsimp only [Z5w, LT.den]
  have q1 := oa0.1
  refine tD (fun h2 => ?_) (fun h2 => ?_)
  ·exact tR tk20
  ·exact tL ⟨rfl, oa0, cl, tk13⟩ (by unfold Zts lt6; dsimp only; omega)
 ·intro s hs
  cases s with
  | L0 v0 v4 =>
   obtain ⟨al0, ov0, cv4, i0⟩ := hs
   have lb_v0 := ov0.1
   subst al0
   show Tot (Zsg v0 v4).den _
   dsimp only [Zsg, LT.den]
   have q1 := ov0.1
   refine tD (fun h2 => ?_) (fun h2 => ?_)
   ·refine tB (tI (by omega) (by omega)) (fun x3 h4 => ?_)
    have oh4 : Zal x3 := ov0.2 x3 h4.1
    have mh4 := h4.2
    refine tB (Zao3 x3 oh4) (fun x5 h6 => ?_)
    have eh6_0 := h6
    refine tO (fun h7 => ?_) (fun h7 => ?_)
    ·exact tR tk20
    ·have h7_0 := eh6_0 h7
     refine tB (Zakz v0 x3.Name ov0 (SzS.t oh4.1)) (fun x8 h9 => ?_)
     refine tD (fun h10 => ?_) (fun h10 => ?_)
     ·exact tR tk20
     ·refine tB (Zace v0 x3 ov0 oh4) (fun x11 h12 => ?_)
      refine tO (fun h13 => ?_) (fun h13 => ?_)
      ·exact tR tk20
      ·refine qw (v4 + 1) fun q14 q15 => ?_
       exact tL ⟨rfl, ov0, cl, tk13⟩ (by unfold Zts lt6; dsimp only; omega)
   ·exact tR tk20
theorem Zct (a0 : Int) (a1 : Int) (a2 : Int) : Tot (Zajm a0 a1 a2) (fun r => (r = true ↔ (a1 ≤ a0 ∧ a0 ≤ a2))) := by
 unfold Zajm
 refine tZ ?_
 dsimp only [Zajk, LT.den]
 refine tD (fun h1 => ?_) (fun h1 => ?_)
 ·exact tR (by grind)
 ·exact tR (by grind)
def Zage : Zkh → Prop
 | .L0 E0 v3 => (0 ≤ v3) ∧ True
def Ztt : Zkh → M6
 | .L0 E0 v3 => (1, (6 - v3).toNat, 1000000, 0, 0, 0)
theorem Zagf (a0 : (A6 Int)) : Tot (Z1x a0) (fun r => True) := by
 unfold Z1x
 refine tX (Inv := Zage) (μ := Ztt) (m := (1000000, 0, 0, 0, 0, 0)) ?_ ?_
 ·dsimp only [Z5y, LT.den]
  exact tL ⟨cl, trivial⟩ (by unfold Ztt lt6; dsimp only; omega)
 ·intro s hs
  cases s with
  | L0 E0 v3 =>
   obtain ⟨cv3, _⟩ := hs
   show Tot (Zsh E0 v3).den _
   dsimp only [Zsh, LT.den]
   refine tD (fun h1 => ?_) (fun h1 => ?_)
   ·refine tB (tI (by omega) tk56) (fun x2 h3 => ?_)
    refine tD (fun h4 => ?_) (fun h4 => ?_)
    ·exact tR trivial
    ·refine tB (tI (by omega) tk56) (fun x5 h6 => ?_)
     refine tD (fun h7 => ?_) (fun h7 => ?_)
     ·exact tR trivial
     ·refine qw (v3 + 1) fun q8 q9 => ?_
      exact tL ⟨cl, trivial⟩ (by unfold Ztt lt6; dsimp only; omega)
   ·exact tR trivial
def Zagg (a0 : Zb) (a1 : Int) : Zki → Prop
 | .L0 v1 E0 v5 => (E0 = a0) ∧ (v1 = a1) ∧ (Zp E0) ∧ (0 ≤ v5) ∧ (Z3a E0.Objects v1 v5)
def Ztu : Zki → M6
 | .L0 v1 E0 v5 => (1, ((E0.Objects.length : Int) - v5).toNat, 1000000, 0, 0, 0)
theorem Zagh (a0 : Zb) (a1 : Int) (oa0 : Zp a0) : Tot (Z1y a0 a1) (fun r => (r < (a0.Objects.length : Int)) ∧ (r = ixO a0.Objects a1)) := by
 unfold Z1y
 refine tX (Inv := (Zagg a0 a1)) (μ := Ztu) (m := (1000000, 0, 0, 0, 0, 0)) ?_ ?_
 ·dsimp only [Z50, LT.den]
  exact tL ⟨rfl, rfl, oa0, cl, tk22⟩ (by unfold Ztu lt6; dsimp only; omega)
 ·intro s hs
  cases s with
  | L0 v1 E0 v5 =>
   obtain ⟨al0, al1, ob30000000, cv5, i0⟩ := hs
   subst al0
   subst al1
   show Tot (Zsi v1 E0 v5).den _
   dsimp only [Zsi, LT.den]
   have q1 := ob30000000.2.1.1
   refine tD (fun h2 => ?_) (fun h2 => ?_)
   ·refine tB (tI (by omega) (by omega)) (fun x3 h4 => ?_)
    have mh4 := h4.2
    refine tE (fun h5 => ?_) (fun h5 => ?_)
    ·exact tR ⟨cl, tk16⟩
    ·refine qw (v5 + 1) fun q6 q7 => ?_
     exact tL ⟨rfl, rfl, ob30000000, cl, tk22⟩ (by unfold Ztu lt6; dsimp only; omega)
   ·exact tR ⟨cl, tk16⟩
theorem Zak0 (a0 : Zb) (a1 : Int) (oa0 : Zp a0) : Tot (Z77 a0 a1) (fun r => (r = fdV a0.Objects a1)) := by
 unfold Z77
 refine tZ ?_
 dsimp only [Zaba, LT.den]
 refine tB (Zagh a0 a1 oa0) (fun x1 h2 => ?_)
 have eh2_0 := h2.1
 have eh2_1 := h2.2
 have lh2 := Zab6 a0.Objects a1
 refine tD (fun h3 => ?_) (fun h3 => ?_)
 ·exact tR tk27
 ·refine tB (tI (by omega) (by omega)) (fun x4 h5 => ?_)
  have mh5 := h5.2
  exact tR tk27
theorem Zya (a0 : Zb) (a1 : Int) (oa0 : Zp a0) : Tot (Zy3 a0 a1) (fun r => True) := by
 unfold Zy3
 refine tZ ?_
 dsimp only [Z1z, LT.den]
 refine tB (Zak0 a0 a1 oa0) (fun x1 h2 => ?_)
 have eh2_0 := h2
 exact tR trivial
def Zagi : Zkj → Prop
 | .L0 v0 v1 v5 v6 => ((SzL 8 (fun _ => True)) v0) ∧ (0 ≤ v6)
def Z3m : Zkj → M6
 | .L0 v0 v1 v5 v6 => (1, ((v0.length : Int) - v6).toNat, 1000000, 0, 0, 0)
theorem Zqy (a0 : (List Int)) (a1 : Int) (oa0 : (SzL 8 (fun _ => True)) a0) : Tot (Z11 a0 a1) (fun r => True) := by
 unfold Z11
 refine tX (Inv := Zagi) (μ := Z3m) (m := (1000000, 0, 0, 0, 0, 0)) ?_ ?_
 ·have lb_a0 := oa0.1
  dsimp only [Z52, LT.den]
  exact tL ⟨oa0, cl⟩ tk86
 ·intro s hs
  cases s with
  | L0 v0 v1 v5 v6 =>
   obtain ⟨ov0, cv6⟩ := hs
   have lb_v0 := ov0.1
   show Tot (Zsj v0 v1 v5 v6).den _
   dsimp only [Zsj, LT.den]
   have q1 := ov0.1
   refine tD (fun h2 => ?_) (fun h2 => ?_)
   ·refine tB (tI (by omega) (by omega)) (fun x3 h4 => ?_)
    refine tE (fun h5 => ?_) (fun h5 => ?_)
    ·refine qw (v5 + 1) fun q6 q7 => ?_
     refine qw (v6 + 1) fun q8 q9 => ?_
     exact tL ⟨ov0, cl⟩ tk86
    ·refine qw (v6 + 1) fun q10 q11 => ?_
     exact tL ⟨ov0, cl⟩ tk86
   ·exact tR trivial
def Zak1 : Zmr → Prop
 | .L0 v1 v2 v3 E0 v9 => ((SzL 8 (fun _ => True)) v1) ∧ (Zp E0) ∧ (0 ≤ v9)
def Z63 : Zmr → M6
 | .L0 v1 v2 v3 E0 v9 => (1, ((v1.length : Int) - v9).toNat, 1000000, 0, 0, 0)
theorem Zjb (a0 : Zb) (a1 : (List Int)) (a2 : Int) (a3 : Int) (oa0 : Zp a0) (oa1 : (SzL 8 (fun _ => True)) a1) : Tot (Z78 a0 a1 a2 a3) (fun r => True) := by
 unfold Z78
 refine tX (Inv := Zak1) (μ := Z63) (m := (1000000, 0, 0, 0, 0, 0)) ?_ ?_
 ·have lb_a1 := oa1.1
  dsimp only [Zabc, LT.den]
  exact tL ⟨oa1, oa0, cl⟩ tk95
 ·intro s hs
  cases s with
  | L0 v1 v2 v3 E0 v9 =>
   obtain ⟨ov1, ob30000000, cv9⟩ := hs
   have lb_v1 := ov1.1
   show Tot (Zwa v1 v2 v3 E0 v9).den _
   dsimp only [Zwa, LT.den]
   have q1 := ov1.1
   refine tD (fun h2 => ?_) (fun h2 => ?_)
   ·refine tB (tI (by omega) (by omega)) (fun x3 h4 => ?_)
    refine tB (Zya E0 x3 ob30000000) (fun x5 h6 => ?_)
    refine tO (fun h7 => ?_) (fun h7 => ?_)
    ·exact tR trivial
    ·refine tN (fun h8 => ?_) (fun h8 => ?_)
     ·exact tR trivial
     ·refine tD (fun h9 => ?_) (fun h9 => ?_)
      ·refine tN (fun h10 => ?_) (fun h10 => ?_)
       ·exact tR trivial
       ·refine tB (Zqy v1 x3 ov1) (fun x11 h12 => ?_)
        refine tN (fun h13 => ?_) (fun h13 => ?_)
        ·exact tR trivial
        ·refine qw (v9 + 1) fun q14 q15 => ?_
         exact tL ⟨ov1, ob30000000, cl⟩ tk95
      ·refine tB (Zqy v1 x3 ov1) (fun x16 h17 => ?_)
       refine tN (fun h18 => ?_) (fun h18 => ?_)
       ·exact tR trivial
       ·refine qw (v9 + 1) fun q19 q20 => ?_
        exact tL ⟨ov1, ob30000000, cl⟩ tk95
   ·exact tR trivial
def Zacf : Zh0 → Prop
 | .L0 E0 v3 => (Zp E0) ∧ (0 ≤ v3)
def Zoc : Zh0 → M6
 | .L0 E0 v3 => (1, ((E0.Players.length : Int) - v3).toNat, 1000000, 0, 0, 0)
theorem Zacg (a0 : Zb) (oa0 : Zp a0) : Tot (Zwb a0) (fun r => True) := by
 unfold Zwb
 refine tX (Inv := Zacf) (μ := Zoc) (m := (1000000, 0, 0, 0, 0, 0)) ?_ ?_
 ·dsimp only [Zz6, LT.den]
  have q1 := oa0.1.1
  refine tB (Zct (a0.Players.length : Int) 2 4) (fun x2 h3 => ?_)
  have eh3_0 := h3
  refine tO (fun h4 => ?_) (fun h4 => ?_)
  ·exact tR trivial
  ·exact tL ⟨oa0, cl⟩ (by unfold Zoc lt6; dsimp only; omega)
 ·intro s hs
  cases s with
  | L0 E0 v3 =>
   obtain ⟨ob30000000, cv3⟩ := hs
   show Tot (Zn0 E0 v3).den _
   dsimp only [Zn0, LT.den]
   have q1 := ob30000000.1.1
   refine tD (fun h2 => ?_) (fun h2 => ?_)
   ·refine tB (tI (by omega) (by omega)) (fun x3 h4 => ?_)
    have oh4 : Zbx x3 := ob30000000.1.2 x3 h4.1
    refine tB (Zct x3.Life (-1000000) 1000000) (fun x5 h6 => ?_)
    have eh6_0 := h6
    refine tO (fun h7 => ?_) (fun h7 => ?_)
    ·exact tR trivial
    ·refine tB (Zct x3.Venom 0 1000000) (fun x8 h9 => ?_)
     have eh9_0 := h9
     refine tO (fun h10 => ?_) (fun h10 => ?_)
     ·exact tR trivial
     ·refine tB (Zct x3.Lands 0 1000000) (fun x11 h12 => ?_)
      have eh12_0 := h12
      refine tO (fun h13 => ?_) (fun h13 => ?_)
      ·exact tR trivial
      ·refine tB (Zagf x3.Pool) (fun x14 h15 => ?_)
       refine tO (fun h16 => ?_) (fun h16 => ?_)
       ·exact tR trivial
       ·refine tB (Zjb E0 x3.Library 2 v3 ob30000000 oh4.1) (fun x17 h18 => ?_)
        refine tO (fun h19 => ?_) (fun h19 => ?_)
        ·exact tR trivial
        ·refine tB (Zjb E0 x3.Hand 1 v3 ob30000000 oh4.2.1) (fun x20 h21 => ?_)
         refine tO (fun h22 => ?_) (fun h22 => ?_)
         ·exact tR trivial
         ·refine tB (Zjb E0 x3.Graveyard 3 v3 ob30000000 oh4.2.2) (fun x23 h24 => ?_)
          refine tO (fun h25 => ?_) (fun h25 => ?_)
          ·exact tR trivial
          ·refine qw (v3 + 1) fun q26 q27 => ?_
           exact tL ⟨ob30000000, cl⟩ (by unfold Zoc lt6; dsimp only; omega)
   ·refine tB (Zjb E0 E0.Battlefield 0 (-1) ob30000000 ob30000000.2.2.1) (fun x28 h29 => ?_)
    refine tF (fun h30 => ?_) (fun h30 => ?_)
    ·refine tB (Zjb E0 E0.Exile 4 (-1) ob30000000 ob30000000.2.2.2.1) (fun x31 h32 => ?_)
     exact tR trivial
    ·exact tR trivial
theorem Zei (a0 : Zb) (a1 : Int) (oa0 : Zp a0) : Tot (Zy4 a0 a1) (fun r => (r = true ↔ (0 ≤ a1 ∧ a1 < (a0.Players.length : Int)))) := by
 unfold Zy4
 refine tZ ?_
 dsimp only [Z12, LT.den]
 have q1 := oa0.1.1
 refine qw ((a0.Players.length : Int) - 1) fun q2 q3 => ?_
 refine tB (Zct a1 0 (IntKind.wrap .i64 ((a0.Players.length : Int) - 1))) (fun x4 h5 => ?_)
 have eh5_0 := h5
 exact tR (by grind)
def Zao4 : Zsl → Prop
 | .L0 E0 v3 => (0 ≤ v3) ∧ True
def Z3n : Zsl → M6
 | .L0 E0 v3 => (1, (3 - v3).toNat, 1000000, 0, 0, 0)
theorem Zao5 (a0 : (A3 Int)) : Tot (Zajr a0) (fun r => True) := by
 unfold Zajr
 refine tX (Inv := Zao4) (μ := Z3n) (m := (1000000, 0, 0, 0, 0, 0)) ?_ ?_
 ·dsimp only [Zajp, LT.den]
  exact tL ⟨cl, trivial⟩ (by unfold Z3n lt6; dsimp only; omega)
 ·intro s hs
  cases s with
  | L0 E0 v3 =>
   obtain ⟨cv3, _⟩ := hs
   show Tot (Z14 E0 v3).den _
   dsimp only [Z14, LT.den]
   refine tD (fun h1 => ?_) (fun h1 => ?_)
   ·refine tB (tI (by omega) (by have e : (A3.list E0).length = 3 := rfl; omega)) (fun x2 h3 => ?_)
    refine tD (fun h4 => ?_) (fun h4 => ?_)
    ·exact tR trivial
    ·refine tB (tI (by omega) (by have e : (A3.list E0).length = 3 := rfl; omega)) (fun x5 h6 => ?_)
     refine tD (fun h7 => ?_) (fun h7 => ?_)
     ·exact tR trivial
     ·refine qw (v3 + 1) fun q8 q9 => ?_
      exact tL ⟨cl, trivial⟩ (by unfold Z3n lt6; dsimp only; omega)
   ·exact tR trivial
theorem Zak2 (a0 : Zf) : Tot (Z79 a0) (fun r => True) := by
 unfold Z79
 refine tZ ?_
 dsimp only [Zabe, LT.den]
 exact tR trivial
theorem Zagj (a0 : Zf) : Tot (Z15 a0) (fun r => True) := by
 unfold Z15
 refine tZ ?_
 dsimp only [Z54, LT.den]
 exact tR trivial
theorem Zao6 (a0 : Zf) (a1 : Int) (a2 : Int) : Tot (Zajv a0 a1 a2) (fun r => True) := by
 unfold Zajv
 refine tZ ?_
 dsimp only [Zajt, LT.den]
 refine tD (fun h1 => ?_) (fun h1 => ?_)
 ·exact tR trivial
 ·refine tD (fun h2 => ?_) (fun h2 => ?_)
  ·exact tR trivial
  ·refine tD (fun h3 => ?_) (fun h3 => ?_)
   ·exact tR trivial
   ·refine tD (fun h4 => ?_) (fun h4 => ?_)
    ·exact tR trivial
    ·refine tD (fun h5 => ?_) (fun h5 => ?_)
     ·exact tR trivial
     ·refine tD (fun h6 => ?_) (fun h6 => ?_)
      ·exact tR trivial
      ·refine tD (fun h7 => ?_) (fun h7 => ?_)
       ·exact tR trivial
       ·refine tD (fun h8 => ?_) (fun h8 => ?_)
        ·exact tR trivial
        ·refine tD (fun h9 => ?_) (fun h9 => ?_)
         ·exact tR trivial
         ·refine tD (fun h10 => ?_) (fun h10 => ?_)
          ·exact tR trivial
          ·refine tD (fun h11 => ?_) (fun h11 => ?_)
           ·exact tR trivial
           ·refine tD (fun h12 => ?_) (fun h12 => ?_)
            ·exact tR trivial
            ·refine tD (fun h13 => ?_) (fun h13 => ?_)
             ·exact tR trivial
             ·refine tD (fun h14 => ?_) (fun h14 => ?_)
              ·exact tR trivial
              ·refine tD (fun h15 => ?_) (fun h15 => ?_)
               ·exact tR trivial
               ·refine tD (fun h16 => ?_) (fun h16 => ?_)
                ·exact tR trivial
                ·refine tD (fun h17 => ?_) (fun h17 => ?_)
                 ·exact tR trivial
                 ·refine tB (Zao5 a0.Counters) (fun x18 h19 => ?_)
                  refine tO (fun h20 => ?_) (fun h20 => ?_)
                  ·exact tR trivial
                  ·refine tD (fun h21 => ?_) (fun h21 => ?_)
                   ·exact tR trivial
                   ·refine tD (fun h22 => ?_) (fun h22 => ?_)
                    ·exact tR trivial
                    ·refine tD (fun h23 => ?_) (fun h23 => ?_)
                     ·exact tR trivial
                     ·refine tD (fun h24 => ?_) (fun h24 => ?_)
                      ·exact tR trivial
                      ·refine tE (fun h25 => ?_) (fun h25 => ?_)
                       ·exact tR trivial
                       ·refine tB (Zak2 a0) (fun x26 h27 => ?_)
                        refine tF (fun h28 => ?_) (fun h28 => ?_)
                        ·refine tB (Zagj a0) (fun x29 h30 => ?_)
                         refine tF (fun h31 => ?_) (fun h31 => ?_)
                         ·refine tO (fun h32 => ?_) (fun h32 => ?_)
                          ·refine tO (fun h33 => ?_) (fun h33 => ?_)
                           ·exact tR trivial
                           ·exact tR trivial
                          ·exact tR trivial
                         ·exact tR trivial
                        ·exact tR trivial
def Zad5 : Zi3 → Prop
 | .L0 v1 E0 v5 v6 => (Zp E0) ∧ (0 ≤ v6)
def Z0n : Zi3 → M6
 | .L0 v1 E0 v5 v6 => (1, ((E0.Stack.length : Int) - v6).toNat, 1000000, 0, 0, 0)
theorem Zad6 (a0 : Zb) (a1 : Int) (oa0 : Zp a0) : Tot (Zy5 a0 a1) (fun r => True) := by
 unfold Zy5
 refine tX (Inv := Zad5) (μ := Z0n) (m := (1000000, 0, 0, 0, 0, 0)) ?_ ?_
 ·dsimp only [Z16, LT.den]
  exact tL ⟨oa0, cl⟩ tk76
 ·intro s hs
  cases s with
  | L0 v1 E0 v5 v6 =>
   obtain ⟨ob30000000, cv6⟩ := hs
   show Tot (Zp2 v1 E0 v5 v6).den _
   dsimp only [Zp2, LT.den]
   have q1 := ob30000000.2.2.2.2.1.1
   refine tD (fun h2 => ?_) (fun h2 => ?_)
   ·refine tB (tI (by omega) (by omega)) (fun x3 h4 => ?_)
    have oh4 : Zgx x3 := ob30000000.2.2.2.2.1.2 x3 h4.1
    refine tE (fun h5 => ?_) (fun h5 => ?_)
    ·refine tE (fun h6 => ?_) (fun h6 => ?_)
     ·refine qw (v5 + 1) fun q7 q8 => ?_
      refine qw (v6 + 1) fun q9 q10 => ?_
      exact tL ⟨ob30000000, cl⟩ tk76
     ·refine qw (v6 + 1) fun q11 q12 => ?_
      exact tL ⟨ob30000000, cl⟩ tk76
    ·refine qw (v6 + 1) fun q13 q14 => ?_
     exact tL ⟨ob30000000, cl⟩ tk76
   ·exact tR trivial
theorem Zjc (a0 : (List Int)) (oa0 : (SzL 8 (fun _ => True)) a0) : Tot (Z8a a0) (fun r => ((SzL 8 (fun _ => True)) r)) := by
 unfold Z8a
 refine tZ ?_
 have lb_a0 := oa0.1
 dsimp only [Zabg, LT.den]
 have q3 := oa0.1
 refine tB (tA tk48 (by decide)) (fun x1 h2 => ?_)
 have lh2 : x1.length = ([] : (List Int)).length + a0.length := by rw [h2, List.length_append]
 try simp only [List.length_cons, List.length_nil, Nat.zero_add] at lh2
 exact tR ⟨lo, fun _ _ => trivial⟩
theorem Zak3 (a0 : Zb) (a1 : Int) (a2 : Int) (oa0 : Zp a0) : Tot (Zy6 a0 a1 a2) (fun r => ((SzL 8 (fun _ => True)) r)) := by
 unfold Zy6
 refine tZ ?_
 dsimp only [Zabi, LT.den]
 refine tE (fun h1 => ?_) (fun h1 => ?_)
 ·refine tB (Zjc a0.Battlefield oa0.2.2.1) (fun x2 h3 => ?_)
  exact tR h3
 ·refine tE (fun h4 => ?_) (fun h4 => ?_)
  ·refine tB (Zjc a0.Exile oa0.2.2.2.1) (fun x5 h6 => ?_)
   exact tR h6
  ·refine tD (fun h7 => ?_) (fun h7 => ?_)
   ·exact tR SzL.nil
   ·have q8 := oa0.1.1
    refine tD (fun h9 => ?_) (fun h9 => ?_)
    ·exact tR SzL.nil
    ·refine tE (fun h10 => ?_) (fun h10 => ?_)
     ·refine tB (tI (by omega) (by omega)) (fun x11 h12 => ?_)
      have oh12 : Zbx x11 := oa0.1.2 x11 h12.1
      refine tB (Zjc x11.Hand oh12.2.1) (fun x13 h14 => ?_)
      exact tR h14
     ·refine tE (fun h15 => ?_) (fun h15 => ?_)
      ·refine tB (tI (by omega) (by omega)) (fun x16 h17 => ?_)
       have oh17 : Zbx x16 := oa0.1.2 x16 h17.1
       refine tB (Zjc x16.Library oh17.1) (fun x18 h19 => ?_)
       exact tR h19
      ·refine tE (fun h20 => ?_) (fun h20 => ?_)
       ·refine tB (tI (by omega) (by omega)) (fun x21 h22 => ?_)
        have oh22 : Zbx x21 := oa0.1.2 x21 h22.1
        refine tB (Zjc x21.Graveyard oh22.2.2) (fun x23 h24 => ?_)
        exact tR h24
       ·exact tR SzL.nil
theorem Zyb (a0 : Zb) (a1 : Zf) (oa0 : Zp a0) : Tot (Zy7 a0 a1) (fun r => True) := by
 unfold Zy7
 refine tZ ?_
 dsimp only [Z18, LT.den]
 refine tE (fun h1 => ?_) (fun h1 => ?_)
 ·refine tB (Zad6 a0 a1.Id oa0) (fun x2 h3 => ?_)
  exact tR trivial
 ·refine tB (Zak3 a0 a1.Zone a1.Owner oa0) (fun x4 h5 => ?_)
  refine tB (Zqy x4 a1.Id h5) (fun x6 h7 => ?_)
  exact tR trivial
def Zach : Zh1 → Prop
 | .L0 v0 E0 v5 => ((SzL 176 Zal) v0) ∧ (Zp E0) ∧ (0 ≤ v5)
def Zyc : Zh1 → M6
 | .L0 v0 E0 v5 => (1, ((E0.Objects.length : Int) - v5).toNat, 1000000, 0, 0, 0)
theorem Zio (a0 : (List Zq)) (a1 : Zb) (oa0 : (SzL 176 Zal) a0) (oa1 : Zp a1) : Tot (Zwc a0 a1) (fun r => True) := by
 unfold Zwc
 refine tX (Inv := Zach) (μ := Zyc) (m := (1000000, 0, 0, 0, 0, 0)) ?_ ?_
 ·have lb_a0 := oa0.1
  dsimp only [Zz9, LT.den]
  have q1 := oa1.2.1.1
  refine tD (fun h2 => ?_) (fun h2 => ?_)
  ·exact tR trivial
  ·exact tL ⟨oa0, oa1, cl⟩ tk67
 ·intro s hs
  cases s with
  | L0 v0 E0 v5 =>
   obtain ⟨ov0, ob30000000, cv5⟩ := hs
   have lb_v0 := ov0.1
   show Tot (Zn1 v0 E0 v5).den _
   dsimp only [Zn1, LT.den]
   have q1 := ob30000000.2.1.1
   refine tD (fun h2 => ?_) (fun h2 => ?_)
   ·refine tB (tI (by omega) (by omega)) (fun x3 h4 => ?_)
    have q5 := ov0.1
    have q6 := ob30000000.1.1
    refine tB (Zao6 x3 (v0.length : Int) (E0.Players.length : Int)) (fun x7 h8 => ?_)
    refine tO (fun h9 => ?_) (fun h9 => ?_)
    ·exact tR trivial
    ·refine tD (fun h10 => ?_) (fun h10 => ?_)
     ·exact tR trivial
     ·refine tD (fun h11 => ?_) (fun h11 => ?_)
      ·exact tR trivial
      ·refine tD (fun h12 => ?_) (fun h12 => ?_)
       ·refine qw (v5 - 1) fun q13 q14 => ?_
        refine tB (tI (by omega) (by omega)) (fun x15 h16 => ?_)
        refine tD (fun h17 => ?_) (fun h17 => ?_)
        ·exact tR trivial
        ·refine tB (Zyb E0 x3 ob30000000) (fun x18 h19 => ?_)
         refine tO (fun h20 => ?_) (fun h20 => ?_)
         ·exact tR trivial
         ·refine qw (v5 + 1) fun q21 q22 => ?_
          exact tL ⟨ov0, ob30000000, cl⟩ tk67
       ·refine tB (Zyb E0 x3 ob30000000) (fun x23 h24 => ?_)
        refine tO (fun h25 => ?_) (fun h25 => ?_)
        ·exact tR trivial
        ·refine qw (v5 + 1) fun q26 q27 => ?_
         exact tL ⟨ov0, ob30000000, cl⟩ tk67
   ·exact tR trivial
def Z81 : Zg8 → Prop
 | .L0 v0 v1 v5 => ((SzL 176 Zat) v0) ∧ ((SzL 176 Zat) v1) ∧ (0 ≤ v5) ∧ (v0.length = v1.length)
def Zni : Zg8 → M6
 | .L0 v0 v1 v5 => (1, ((v0.length : Int) - v5).toNat, 1000000, 0, 0, 0)
theorem Ztv (a0 : (List Zh)) (a1 : (List Zh)) (oa0 : (SzL 176 Zat) a0) (oa1 : (SzL 176 Zat) a1) : Tot (Zsm a0 a1) (fun r => True) := by
 unfold Zsm
 refine tX (Inv := Z81) (μ := Zni) (m := (1000000, 0, 0, 0, 0, 0)) ?_ ?_
 ·have lb_a0 := oa0.1
  have lb_a1 := oa1.1
  dsimp only [Zxo, LT.den]
  have q1 := oa0.1
  have q2 := oa1.1
  refine tN (fun h3 => ?_) (fun h3 => ?_)
  ·exact tR trivial
  ·exact tL ⟨oa0, oa1, cl, cl⟩ (by unfold Zni lt6; dsimp only; omega)
 ·intro s hs
  cases s with
  | L0 v0 v1 v5 =>
   obtain ⟨ov0, ov1, cv5, i0⟩ := hs
   have lb_v0 := ov0.1
   have lb_v1 := ov1.1
   show Tot (Zms v0 v1 v5).den _
   dsimp only [Zms, LT.den]
   have q1 := ov0.1
   refine tD (fun h2 => ?_) (fun h2 => ?_)
   ·refine tB (tI (by omega) (by omega)) (fun x3 h4 => ?_)
    have oh4 : Zat x3 := ov0.2 x3 h4.1
    refine tB (tI (by omega) (by omega)) (fun x5 h6 => ?_)
    have oh6 : Zat x5 := ov1.2 x5 h6.1
    refine tO (fun h7 => ?_) (fun h7 => ?_)
    ·exact tR trivial
    ·refine qw (v5 + 1) fun q8 q9 => ?_
     exact tL ⟨ov0, ov1, cl, cl⟩ (by unfold Zni lt6; dsimp only; omega)
   ·exact tR trivial
theorem Zak4 (a0 : Zs) (a1 : Zs) (oa0 : Zac a0) (oa1 : Zac a1) : Tot (Z8b a0 a1) (fun r => True) := by
 unfold Z8b
 refine tZ ?_
 dsimp only [Zabk, LT.den]
 refine tE (fun h1 => ?_) (fun h1 => ?_)
 ·refine tF (fun h2 => ?_) (fun h2 => ?_)
  ·refine tF (fun h3 => ?_) (fun h3 => ?_)
   ·refine tE (fun h4 => ?_) (fun h4 => ?_)
    ·refine tE (fun h5 => ?_) (fun h5 => ?_)
     ·refine tF (fun h6 => ?_) (fun h6 => ?_)
      ·refine tF (fun h7 => ?_) (fun h7 => ?_)
       ·refine tF (fun h8 => ?_) (fun h8 => ?_)
        ·refine tB (Ztv a0.Mods a1.Mods oa0.2.2.2.2 oa1.2.2.2.2) (fun x9 h10 => ?_)
         exact tR trivial
        ·exact tR trivial
       ·exact tR trivial
      ·exact tR trivial
     ·exact tR trivial
    ·exact tR trivial
   ·exact tR trivial
  ·exact tR trivial
 ·exact tR trivial
def Z82 : Zg9 → Prop
 | .L0 v0 v1 v5 => ((SzL 560 Zac) v0) ∧ ((SzL 560 Zac) v1) ∧ (0 ≤ v5) ∧ (v0.length = v1.length)
def Znj : Zg9 → M6
 | .L0 v0 v1 v5 => (1, ((v0.length : Int) - v5).toNat, 1000000, 0, 0, 0)
theorem Z83 (a0 : (List Zs)) (a1 : (List Zs)) (oa0 : (SzL 560 Zac) a0) (oa1 : (SzL 560 Zac) a1) : Tot (Zsn a0 a1) (fun r => True) := by
 unfold Zsn
 refine tX (Inv := Z82) (μ := Znj) (m := (1000000, 0, 0, 0, 0, 0)) ?_ ?_
 ·have lb_a0 := oa0.1
  have lb_a1 := oa1.1
  dsimp only [Zxq, LT.den]
  have q1 := oa0.1
  have q2 := oa1.1
  refine tN (fun h3 => ?_) (fun h3 => ?_)
  ·exact tR trivial
  ·exact tL ⟨oa0, oa1, cl, cl⟩ (by unfold Znj lt6; dsimp only; omega)
 ·intro s hs
  cases s with
  | L0 v0 v1 v5 =>
   obtain ⟨ov0, ov1, cv5, i0⟩ := hs
   have lb_v0 := ov0.1
   have lb_v1 := ov1.1
   show Tot (Zmt v0 v1 v5).den _
   dsimp only [Zmt, LT.den]
   have q1 := ov0.1
   refine tD (fun h2 => ?_) (fun h2 => ?_)
   ·refine tB (tI (by omega) (by omega)) (fun x3 h4 => ?_)
    have oh4 : Zac x3 := ov0.2 x3 h4.1
    refine tB (tI (by omega) (by omega)) (fun x5 h6 => ?_)
    have oh6 : Zac x5 := ov1.2 x5 h6.1
    refine tB (Zak4 x3 x5 oh4 oh6) (fun x7 h8 => ?_)
    refine tO (fun h9 => ?_) (fun h9 => ?_)
    ·exact tR trivial
    ·refine qw (v5 + 1) fun q10 q11 => ?_
     exact tL ⟨ov0, ov1, cl, cl⟩ (by unfold Znj lt6; dsimp only; omega)
   ·exact tR trivial
def Zak5 : Zmu → Prop
 | .L0 E0 E1 v5 => (Zax E0) ∧ (Zax E1) ∧ (0 ≤ v5) ∧ (E0.Specs.length = E1.Specs.length)
def Zwz : Zmu → M6
 | .L0 E0 E1 v5 => (1, ((E0.Specs.length : Int) - v5).toNat, 1000000, 0, 0, 0)
theorem Zak6 (a0 : Zk) (a1 : Zk) (oa0 : Zax a0) (oa1 : Zax a1) : Tot (Z8c a0 a1) (fun r => True) := by
 unfold Z8c
 refine tX (Inv := Zak5) (μ := Zwz) (m := (1000000, 0, 0, 0, 0, 0)) ?_ ?_
 ·dsimp only [Zabn, LT.den]
  have q1 := oa0.2.2.2.1.1
  have q2 := oa1.2.2.2.1.1
  refine tN (fun h3 => ?_) (fun h3 => ?_)
  ·exact tR trivial
  ·exact tL ⟨oa0, oa1, cl, cl⟩ (by unfold Zwz lt6; dsimp only; omega)
 ·intro s hs
  cases s with
  | L0 E0 E1 v5 =>
   obtain ⟨ob30000000, ob30000001, cv5, i0⟩ := hs
   show Tot (Zwd E0 E1 v5).den _
   dsimp only [Zwd, LT.den]
   have q1 := ob30000000.2.2.2.1.1
   refine tD (fun h2 => ?_) (fun h2 => ?_)
   ·refine tB (tI (by omega) (by omega)) (fun x3 h4 => ?_)
    have oh4 : Zfo x3 := ob30000000.2.2.2.1.2 x3 h4.1
    refine tB (tI (by omega) (by omega)) (fun x5 h6 => ?_)
    have oh6 : Zfo x5 := ob30000001.2.2.2.1.2 x5 h6.1
    refine tO (fun h7 => ?_) (fun h7 => ?_)
    ·exact tR trivial
    ·refine qw (v5 + 1) fun q8 q9 => ?_
     exact tL ⟨ob30000000, ob30000001, cl, cl⟩ (by unfold Zwz lt6; dsimp only; omega)
   ·refine tE (fun h10 => ?_) (fun h10 => ?_)
    ·refine tF (fun h11 => ?_) (fun h11 => ?_)
     ·refine tB (Ztv E0.Mods E1.Mods ob30000000.2.1 ob30000001.2.1) (fun x12 h13 => ?_)
      refine tF (fun h14 => ?_) (fun h14 => ?_)
      ·refine tF (fun h15 => ?_) (fun h15 => ?_)
       ·refine tF (fun h16 => ?_) (fun h16 => ?_)
        ·refine tF (fun h17 => ?_) (fun h17 => ?_)
         ·refine tF (fun h18 => ?_) (fun h18 => ?_)
          ·refine tB (Z83 E0.Effects E1.Effects ob30000000.2.2.2.2.1 ob30000001.2.2.2.2.1) (fun x19 h20 => ?_)
           refine tF (fun h21 => ?_) (fun h21 => ?_)
           ·exact tR trivial
           ·exact tR trivial
          ·exact tR trivial
         ·exact tR trivial
        ·exact tR trivial
       ·exact tR trivial
      ·exact tR trivial
     ·exact tR trivial
    ·exact tR trivial
theorem Zak7 (a0 : Zb) (a1 : Zgv) (oa0 : Zp a0) (oa1 : Zgx a1) : Tot (Z8d a0 a1) (fun r => True) := by
 unfold Z8d
 refine tZ ?_
 dsimp only [Zabp, LT.den]
 refine qw (a0.NextId - 1) fun q1 q2 => ?_
 refine tB (Zct a1.Id 1 (IntKind.wrap .i64 (a0.NextId - 1))) (fun x3 h4 => ?_)
 have eh4_0 := h4
 refine tO (fun h5 => ?_) (fun h5 => ?_)
 ·exact tR trivial
 ·refine tB (Zct a1.X 0 1000000) (fun x6 h7 => ?_)
  have eh7_0 := h7
  refine tO (fun h8 => ?_) (fun h8 => ?_)
  ·exact tR trivial
  ·have q9 := oa1.2.1
   refine tD (fun h10 => ?_) (fun h10 => ?_)
   ·exact tR trivial
   ·refine tB (Zei a0 a1.Control oa0) (fun x11 h12 => ?_)
    have eh12_0 := h12
    refine tO (fun h13 => ?_) (fun h13 => ?_)
    ·exact tR trivial
    ·refine tB (Zya a0 a1.Id oa0) (fun x14 h15 => ?_)
     refine tE (fun h16 => ?_) (fun h16 => ?_)
     ·refine tB (Zak6 a1.Ability (⟨0, (⟨0, 0, 0, 0, 0, 0, 0, ([] : List UInt8), 0, 0, (⟨0, 0⟩ : Za), (⟨0, 0⟩ : Za), (⟨0, 0⟩ : Za)⟩ : Zc), ([] : (List Zh)), (⟨(⟨0, 0, (⟨0, 0, 0, 0, 0⟩ : (A5 Int))⟩ : Zl), false, false, 0⟩ : Zfl), false, (⟨0, 0, (⟨0, 0, 0, 0, 0, 0, 0, ([] : List UInt8), 0, 0, (⟨0, 0⟩ : Za), (⟨0, 0⟩ : Za), (⟨0, 0⟩ : Za)⟩ : Zc)⟩ : Zb9), false, ([] : (List Zcw)), ([] : (List Zs)), (⟨0, 0, (⟨0, 0, 0, 0, 0, 0, 0, ([] : List UInt8), 0, 0, (⟨0, 0⟩ : Za), (⟨0, 0⟩ : Za), (⟨0, 0⟩ : Za)⟩ : Zc), 0, 0, 0, 0⟩ : Zaj)⟩ : Zk) oa1.1 ⟨(SzS.nil), SzL.nil, (SzS.nil), SzL.nil, SzL.nil, (SzS.nil)⟩) (fun x17 h18 => ?_)
      refine tE (fun h19 => ?_) (fun h19 => ?_)
      ·refine tF (fun h20 => ?_) (fun h20 => ?_)
       ·refine tE (fun h21 => ?_) (fun h21 => ?_)
        ·refine tF (fun h22 => ?_) (fun h22 => ?_)
         ·exact tR trivial
         ·refine tB (Zrf a1.Ability oa1.1) (fun x23 h24 => ?_)
          exact tR trivial
        ·exact tR trivial
       ·exact tR trivial
      ·exact tR trivial
     ·refine tE (fun h25 => ?_) (fun h25 => ?_)
      ·refine tO (fun h26 => ?_) (fun h26 => ?_)
       ·refine tB (Zrf a1.Ability oa1.1) (fun x27 h28 => ?_)
        exact tR trivial
       ·exact tR trivial
      ·exact tR trivial
def Zao7 : Zso → Prop
 | .L0 v0 v3 => ((SzL 8 (fun _ => True)) v0) ∧ (0 ≤ v3) ∧ (1 ≤ v3)
def Z3o : Zso → M6
 | .L0 v0 v3 => (1, ((v0.length : Int) - v3).toNat, 1000000, 0, 0, 0)
theorem Zao8 (a0 : (List Int)) (oa0 : (SzL 8 (fun _ => True)) a0) : Tot (Zajz a0) (fun r => True) := by
 unfold Zajz
 refine tX (Inv := Zao7) (μ := Z3o) (m := (1000000, 0, 0, 0, 0, 0)) ?_ ?_
 ·have lb_a0 := oa0.1
  dsimp only [Zajx, LT.den]
  exact tL ⟨oa0, cl, cl⟩ (by unfold Z3o lt6; dsimp only; omega)
 ·intro s hs
  cases s with
  | L0 v0 v3 =>
   obtain ⟨ov0, cv3, i0⟩ := hs
   have lb_v0 := ov0.1
   show Tot (Z2a v0 v3).den _
   dsimp only [Z2a, LT.den]
   have q1 := ov0.1
   refine tD (fun h2 => ?_) (fun h2 => ?_)
   ·refine qw (v3 - 1) fun q3 q4 => ?_
    refine tB (tI (by omega) (by omega)) (fun x5 h6 => ?_)
    refine tB (tI (by omega) (by omega)) (fun x7 h8 => ?_)
    refine tD (fun h9 => ?_) (fun h9 => ?_)
    ·exact tR trivial
    ·refine qw (v3 + 1) fun q10 q11 => ?_
     exact tL ⟨ov0, cl, cl⟩ (by unfold Z3o lt6; dsimp only; omega)
   ·exact tR trivial
def Zagk : Zfn → Prop
 | .L0 E0 v3 => (Zp E0) ∧ (0 ≤ v3)
 | .L1 E0 v3 v4 => (Zp E0) ∧ (0 ≤ v4) ∧ (0 ≤ v3) ∧ (v3 < (E0.Stack.length : Int))
 | .L2 E0 v5 => (Zp E0) ∧ (0 ≤ v5)
 | .L3 E0 v7 => (Zp E0) ∧ (0 ≤ v7)
def Z3p : Zfn → M6
 | .L0 E0 v3 => (5, ((E0.Stack.length : Int) - v3).toNat, 1000000, 0, 0, 0)
 | .L1 E0 v3 v4 => (5, ((E0.Stack.length : Int) - v3).toNat, 1, (v3 - v4).toNat, 1000000, 0)
 | .L2 E0 v5 => (3, ((E0.Waiting.length : Int) - v5).toNat, 1000000, 0, 0, 0)
 | .L3 E0 v7 => (1, ((E0.Conts.length : Int) - v7).toNat, 1000000, 0, 0, 0)
theorem Zk2 (a0 : Zb) (oa0 : Zp a0) : Tot (Z2b a0) (fun r => True) := by
 unfold Z2b
 refine tX (Inv := Zagk) (μ := Z3p) (m := (1000000, 0, 0, 0, 0, 0)) ?_ ?_
 ·dsimp only [Z56, LT.den]
  have q1 := oa0.2.2.2.2.1.1
  refine tD (fun h2 => ?_) (fun h2 => ?_)
  ·exact tR trivial
  ·have q3 := oa0.2.2.2.2.2.1.1
   refine tD (fun h4 => ?_) (fun h4 => ?_)
   ·exact tR trivial
   ·have q5 := oa0.2.2.2.2.2.2.1.1
    refine tD (fun h6 => ?_) (fun h6 => ?_)
    ·exact tR trivial
    ·exact tL ⟨oa0, cl⟩ Z3c
 ·intro s hs
  cases s with
  | L0 E0 v3 =>
   obtain ⟨ob30000000, cv3⟩ := hs
   show Tot (Zsp E0 v3).den _
   dsimp only [Zsp, LT.den]
   have q1 := ob30000000.2.2.2.2.1.1
   refine tD (fun h2 => ?_) (fun h2 => ?_)
   ·refine tB (tI (by omega) (by omega)) (fun x3 h4 => ?_)
    have oh4 : Zgx x3 := ob30000000.2.2.2.2.1.2 x3 h4.1
    refine tB (Zak7 E0 x3 ob30000000 oh4) (fun x5 h6 => ?_)
    refine tO (fun h7 => ?_) (fun h7 => ?_)
    ·exact tR trivial
    ·exact tL ⟨ob30000000, cl, cl, cl⟩ Z3c
   ·exact tL ⟨ob30000000, cl⟩ Z3c
  | L1 E0 v3 v4 =>
   obtain ⟨ob30000000, cv4, cv3, bd3⟩ := hs
   show Tot (Zsq E0 v3 v4).den _
   dsimp only [Zsq, LT.den]
   have lx_0 : E0.Stack.length * 824 ≤ 140737488351232 := ob30000000.2.2.2.2.1.1
   refine tD (fun h1 => ?_) (fun h1 => ?_)
   ·refine tB (tI (by omega) (by omega)) (fun x2 h3 => ?_)
    have oh3 : Zgx x2 := ob30000000.2.2.2.2.1.2 x2 h3.1
    refine tB (tI (by omega) (by omega)) (fun x4 h5 => ?_)
    have oh5 : Zgx x4 := ob30000000.2.2.2.2.1.2 x4 h5.1
    refine tE (fun h6 => ?_) (fun h6 => ?_)
    ·exact tR trivial
    ·refine qw (v4 + 1) fun q7 q8 => ?_
     exact tL ⟨ob30000000, cl, cl, cl⟩ Z3c
   ·refine qw (v3 + 1) fun q9 q10 => ?_
    exact tL ⟨ob30000000, cl⟩ Z3c
  | L2 E0 v5 =>
   obtain ⟨ob30000000, cv5⟩ := hs
   show Tot (Zsr E0 v5).den _
   dsimp only [Zsr, LT.den]
   have q1 := ob30000000.2.2.2.2.2.1.1
   refine tD (fun h2 => ?_) (fun h2 => ?_)
   ·refine tB (tI (by omega) (by omega)) (fun x3 h4 => ?_)
    have oh4 : Zoa x3 := ob30000000.2.2.2.2.2.1.2 x3 h4.1
    refine tB (Zei E0 x3.Control ob30000000) (fun x5 h6 => ?_)
    have eh6_0 := h6
    refine tO (fun h7 => ?_) (fun h7 => ?_)
    ·exact tR trivial
    ·refine tN (fun h8 => ?_) (fun h8 => ?_)
     ·exact tR trivial
     ·refine tB (Zrf x3.Ability oh4) (fun x9 h10 => ?_)
      refine tO (fun h11 => ?_) (fun h11 => ?_)
      ·exact tR trivial
      ·refine qw (v5 + 1) fun q12 q13 => ?_
       exact tL ⟨ob30000000, cl⟩ Z3c
   ·exact tL ⟨ob30000000, cl⟩ Z3c
  | L3 E0 v7 =>
   obtain ⟨ob30000000, cv7⟩ := hs
   show Tot (Zss E0 v7).den _
   dsimp only [Zss, LT.den]
   have q1 := ob30000000.2.2.2.2.2.2.1.1
   refine tD (fun h2 => ?_) (fun h2 => ?_)
   ·refine tB (tI (by omega) (by omega)) (fun x3 h4 => ?_)
    have oh4 : Zws x3 := ob30000000.2.2.2.2.2.2.1.2 x3 h4.1
    refine tB (Zei E0 x3.Control ob30000000) (fun x5 h6 => ?_)
    have eh6_0 := h6
    refine tO (fun h7 => ?_) (fun h7 => ?_)
    ·exact tR trivial
    ·refine tD (fun h8 => ?_) (fun h8 => ?_)
     ·exact tR trivial
     ·refine tB (Zct x3.Until 1 2) (fun x9 h10 => ?_)
      have eh10_0 := h10
      refine tO (fun h11 => ?_) (fun h11 => ?_)
      ·exact tR trivial
      ·refine tB (Zao8 x3.Objects oh4.1) (fun x12 h13 => ?_)
       refine tO (fun h14 => ?_) (fun h14 => ?_)
       ·exact tR trivial
       ·refine tB (Zlh x3.Mods oh4.2) (fun x15 h16 => ?_)
        have eh16_0 := h16
        refine tF (fun h17 => ?_) (fun h17 => ?_)
        ·exact tR trivial
        ·refine qw (v7 + 1) fun q18 q19 => ?_
         exact tL ⟨ob30000000, cl⟩ Z3c
   ·exact tR trivial
end Go.PW
