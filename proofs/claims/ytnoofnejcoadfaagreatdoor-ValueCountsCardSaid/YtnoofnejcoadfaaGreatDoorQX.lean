import Derived.Test.YtnoofnejcoadfaaGreatDoorQE
import Derived.Test.YtnoofnejcoadfaaGreatDoorPwYc
import Derived.Test.YtnoofnejcoadfaaGreatDoorQDc
import Derived.Test.YtnoofnejcoadfaaGreatDoorQS
set_option linter.all false
set_option maxRecDepth 100000
namespace Go.PW
theorem tk1 {p : Prop} (h : p := by first | assumption | (intro x hx hd; rfl) | (intro x hx hd; exact absurd hd (Zbag (v := v7) (w := v9) (by assumption) (by assumption) (by assumption) (by assumption) (by assumption) (by assumption) (by assumption) (by assumption) (by assumption) (by assumption) (by assumption) hx)) | grind) : p := h
theorem tk3 {p : Prop} (h : p := by first | exact Za56 (by assumption) (by assumption) (by omega) | exact Za77 (v := v0) (i := v5) (j := v6) (by assumption) (by grind) (by assumption) (by grind) (by omega) (by omega) | exact Za78 (j := v6) (by assumption) (by assumption) (by grind) (by omega)) : p := h
theorem tk4 {p : Prop} (h : p := by first | rfl | (rw [← ‹v19 = Zi7 a0.Players›] at *; first | exact Zaoq (by assumption) (by assumption) (by assumption) (by assumption) (by grind) (by omega) | exact Zagd (by assumption) (by assumption) (by assumption) (by grind) (by omega))) : p := h
theorem tk5 {p : Prop} (h : p := by first | rfl | exact Za6l (by assumption) (by assumption) (by assumption) (by assumption) (by first | assumption | grind) (by omega) | exact Za4q (by assumption) (by assumption) (by assumption) (by first | assumption | grind) (by omega)) : p := h
theorem tk7 {p : Prop} (h : p := by first | rfl | exact Zaoq (by assumption) (by assumption) (by assumption) (by assumption) (by unfold exB; grind) (by omega) | exact Zagd (by assumption) (by assumption) (by assumption) (by unfold exB; grind) (by omega)) : p := h
theorem tk8 {p : Prop} (h : p := by first | rfl | (exact Zaoq (by assumption) (by assumption) (by assumption) (by assumption) (by grind) (by omega)) | (exact Zagd (by assumption) (by assumption) (by assumption) (by grind) (by omega))) : p := h
theorem tk9 {p : Prop} (h : p := by first | (intro k x hk; omega) | (intro k x hk hx hd; by_cases hkk : (k : Int) < v7; (have := i6 k x hkk hx hd; grind); (have hke : k = v7.toNat := by omega); subst hke; have := i7 x hx hd; grind)) : p := h
theorem tk10 {p : Prop} (h : p := by first | rfl | (rw [Zauw (v := v9) (by assumption) (by assumption) (by grind) (by omega)]; assumption) | (rw [Zaop (v := v9) (by assumption) (by assumption) (by grind) (by omega)]; omega)) : p := h
theorem tk11 {p : Prop} (h : p := by first | assumption | exact List.nodup_nil | (refine ‹_ = v6 ++ _› ▸ Zlh (by assumption) (by grind)) | (rw [‹_ = List.filter _ v6›]; exact List.Nodup.filter _ (by assumption)) | grind) : p := h
theorem tk12 {p : Prop} (h : p := by first | exact Za8l (by assumption) (by assumption) | exact Za8m (by assumption) (by assumption) (by assumption) | exact Za9r (by assumption) (by assumption) (by assumption)) : p := h
theorem tk13 {p : Prop} (h : p := by first | (intro k c hk; omega) | (intro k c hk hc; rcases Zvu (v := v4) (by assumption) (by omega) hk hc (by assumption) with h | h; (exact i0 k c h hc); (rw [h]; assumption))) : p := h
theorem tk14 {p : Prop} (h : p := by first | exact Za9l (by assumption) (by assumption) | exact Za9j (v := v0) (i := v5) (j := v6) (by assumption) (by assumption) (by assumption) (by omega) (by omega)) : p := h
theorem tk15 {p : Prop} (h : p := by first | (refine ⟨fun _ => by omega, fun _ => rfl⟩) | (have w := ‹_ ∈ A3.list _›; simp only [A3.list, List.mem_cons, List.not_mem_nil, or_false] at w; grind) | grind) : p := h
theorem tk16 {p : Prop} (h : p := by first | exact Za8i (by assumption) (by assumption) (by assumption) (by first | assumption | grind) | exact Za6k (by assumption) (by omega)) : p := h
theorem tk17 {p : Prop} (h : p := by first | (intro k x hk; omega) | (intro k x hk hx; rcases Zvu (v := v5) (by assumption) (by grind) hk hx (by assumption) with h | h <;> grind)) : p := h
theorem tk18 {p : Prop} (h : p := by first | (intro k x hk; omega) | (intro k x hk hx; rcases Zvu (v := v4) (by assumption) (by grind) hk hx (by assumption) with h | h <;> grind)) : p := h
theorem tk19 {p : Prop} (h : p := by first | assumption | (intro y hy; exact absurd hy List.not_mem_nil) | exact Za57 (by assumption) (by assumption) (by assumption) | grind) : p := h
theorem tk20 {p : Prop} (h : p := by first | (intro hr; exact absurd hr (by decide)) | (intro _ c hc; obtain ⟨k, hk⟩ := List.mem_iff_getElem?.1 hc; exact i0 k c (by grind) hk)) : p := h
theorem tk21 {p : Prop} (h : p := by first | (intro k hk; omega) | exact Za4r (by assumption) (by assumption) (by assumption) (by assumption) (by assumption) (by omega)) : p := h
theorem tk22 {p : Prop} (h : p := by first | exact Za9n | exact Za4n (by assumption) (by assumption) (by assumption) (by first | assumption | grind) (by omega)) : p := h
theorem Zup {p : Prop} (h : p := by first | (intro hr; exact absurd hr (by decide)) | (intro _; exact ⟨by assumption, by assumption, by assumption, by grind⟩)) : p := h
theorem tk24 {p : Prop} (h : p := by first | exact Za9k (by assumption) (by assumption) (by assumption) (by grind) | exact Za79 (by assumption) (by omega)) : p := h
theorem tk25 {p : Prop} (h : p := by first | (intro k x hk; omega) | exact Zaux (by assumption) (by assumption) (by assumption) (by assumption) (by omega)) : p := h
theorem tk27 {p : Prop} (h : p := by first | exact Za9s (by assumption) (by assumption) | exact Za8n (by assumption) (by assumption) (by assumption)) : p := h
theorem tk28 {p : Prop} (h : p := by first | (intro k x hk; omega) | exact Zaux (by assumption) (by assumption) (by assumption) (by grind) (by omega)) : p := h
theorem tk29 {p : Prop} (h : p := by first | exact Za0d (by assumption) | exact Za0e (by assumption) | exact Za4p (by assumption) (by assumption)) : p := h
theorem tk31 {p : Prop} (h : p := by first | exact RB_0 (by assumption) (by omega) | exact Za9g (by assumption) (by assumption) (by omega) (by grind)) : p := h
theorem Zrt {p : Prop} (h : p := by first | (unfold ofV; grind; done) | (rw [Zbak]; unfold ofV raV; grind; done) | (exfalso; unfold amV at *; grind)) : p := h
theorem Zam {p : Prop} (h : p := by unfold SzN; first | omega | (simp only [List.length_append, List.length_cons, List.length_nil]; omega)) : p := h
theorem Zn1 {p : Prop} (h : p := by unfold SzT; first | omega | (simp only [List.length_append, List.length_cons, List.length_nil]; omega)) : p := h
theorem tk36 {p : Prop} (h : p := by intro m hm; simp only [List.mem_cons, List.not_mem_nil, or_false] at hm; subst hm; exact Za9e _) : p := h
theorem Zcz {p : Prop} (h : p := by first | (simp only [List.length_append, List.length_cons, List.length_nil]; omega) | omega) : p := h
theorem tk39 {p : Prop} (h : p := by unfold Zcl lt6; dsimp only; omega) : p := h
theorem tk40 {p : Prop} (h : p := by first | (intro x hx; exact absurd hx List.not_mem_nil) | (intro x hx; have := i9 x; grind)) : p := h
theorem tk41 {p : Prop} (h : p := by first | (rw [Z5w (by omega)]; rfl) | (rw [Zacv (by assumption) (by omega)]; simp)) : p := h
theorem tk42 {p : Prop} (h : p := by unfold Zct lt6; dsimp only; omega) : p := h
theorem tk43 {p : Prop} (h : p := by first | exact Za8j (by omega) | exact Za9o (by assumption) (by omega) (by omega)) : p := h
theorem tk44 {p : Prop} (h : p := by unfold Zc0 lt6; dsimp only; omega) : p := h
theorem tk45 {p : Prop} (h : p := by unfold Zc1 lt6; dsimp only; omega) : p := h
theorem tk46 {p : Prop} (h : p := by unfold Zdk lt6; dsimp only; omega) : p := h
theorem tk47 {p : Prop} (h : p := by unfold Zdl lt6; dsimp only; omega) : p := h
theorem Zn2 {p : Prop} (h : p := by first | omega | (simp only [List.length_cons, List.length_nil]; omega)) : p := h
theorem Zhc {p : Prop} (h : p := by first | (intro hr; exact absurd hr (by decide)) | (intro _; omega)) : p := h
theorem tk50 {p : Prop} (h : p := by first | (intro x hx; exact absurd hx List.not_mem_nil) | grind) : p := h
theorem Ze5 {p : Prop} (h : p := by obtain ⟨k1, k2, k3, k4⟩ := a0; unfold amV; grind [Zbaj, usV]) : p := h
theorem tk52 {p : Prop} (h : p := by first | omega | exact shl_ne' (by omega) (by omega) | decide) : p := h
theorem tk53 {p : Prop} (h : p := by have e : (A5.list E0.Color).length = 5 := rfl; omega) : p := h
theorem tk55 {p : Prop} (h : p := by first | assumption | (left; constructor <;> omega) | grind) : p := h
theorem tk56 {p : Prop} (h : p := by have e : (A6.list E0).length = 6 := rfl; omega) : p := h
theorem Zdt {p : Prop} (h : p := by simp only [List.length_cons, List.length_nil]; omega) : p := h
theorem Z2c {p : Prop} (h : p := by first | assumption | (exfalso; omega) | grind [exB]) : p := h
theorem tk59 {p : Prop} (h : p := by unfold Zft lt6; dsimp only; omega) : p := h
theorem tk60 {p : Prop} (h : p := by unfold Z0g lt6; dsimp only; omega) : p := h
theorem tk61 {p : Prop} (h : p := by unfold Z0j lt6; dsimp only; omega) : p := h
theorem tk62 {p : Prop} (h : p := by unfold Zkg lt6; dsimp only; omega) : p := h
theorem tk63 {p : Prop} (h : p := by unfold Zqp lt6; dsimp only; omega) : p := h
theorem tk64 {p : Prop} (h : p := by unfold Z0l lt6; dsimp only; omega) : p := h
theorem Zl1 {p : Prop} (h : p := by first | assumption | (exfalso; omega) | grind) : p := h
theorem tk66 {p : Prop} (h : p := by unfold Z34 lt6; dsimp only; omega) : p := h
theorem tk67 {p : Prop} (h : p := by unfold Z37 lt6; dsimp only; omega) : p := h
theorem tk68 {p : Prop} (h : p := by unfold Z4a lt6; dsimp only; omega) : p := h
theorem Z5x {p : Prop} (h : p := by unfold Z4e lt6; dsimp only; omega) : p := h
theorem tk70 {p : Prop} (h : p := by unfold Z4f lt6; dsimp only; omega) : p := h
theorem tk71 {p : Prop} (h : p := by unfold Z4g lt6; dsimp only; omega) : p := h
theorem Z5y {p : Prop} (h : p := by unfold Z4h lt6; dsimp only; omega) : p := h
theorem tk73 {p : Prop} (h : p := by unfold Z4i lt6; dsimp only; omega) : p := h
theorem Z5z {p : Prop} (h : p := by unfold Z4j lt6; dsimp only; omega) : p := h
theorem tk75 {p : Prop} (h : p := by unfold Z7u lt6; dsimp only; omega) : p := h
theorem tk76 {p : Prop} (h : p := by unfold Z7v lt6; dsimp only; omega) : p := h
theorem tk77 {p : Prop} (h : p := by unfold Z7x lt6; dsimp only; omega) : p := h
theorem tk78 {p : Prop} (h : p := by unfold Z7y lt6; dsimp only; omega) : p := h
theorem tk79 {p : Prop} (h : p := by unfold Z71 lt6; dsimp only; omega) : p := h
theorem tk84 {p : Prop} (h : p := by unfold Zabr lt6; dsimp only; omega) : p := h
theorem tk85 {p : Prop} (h : p := by unfold Zaby lt6; dsimp only; omega) : p := h
theorem tk86 {p : Prop} (h : p := by unfold Zab0 lt6; dsimp only; omega) : p := h
theorem tk87 {p : Prop} (h : p := by unfold Zab3 lt6; dsimp only; omega) : p := h
theorem tk88 {p : Prop} (h : p := by unfold Zab6 lt6; dsimp only; omega) : p := h
theorem tk89 {p : Prop} (h : p := by unfold Zab7 lt6; dsimp only; omega) : p := h
theorem tk90 {p : Prop} (h : p := by unfold Zafu lt6; dsimp only; omega) : p := h
theorem tk91 {p : Prop} (h : p := by unfold Zafv lt6; dsimp only; omega) : p := h
theorem tk92 {p : Prop} (h : p := by unfold Zafw lt6; dsimp only; omega) : p := h
theorem Zn3 {p : Prop} (h : p := by unfold Zgo lt6; dsimp only; omega) : p := h
theorem tk94 {p : Prop} (h : p := by unfold Zafx lt6; dsimp only; omega) : p := h
theorem tk95 {p : Prop} (h : p := by unfold Zafy lt6; dsimp only; omega) : p := h
theorem tk96 {p : Prop} (h : p := by unfold Zaf1 lt6; dsimp only; omega) : p := h
theorem tk97 {p : Prop} (h : p := by unfold Zaf2 lt6; dsimp only; omega) : p := h
theorem Z50 {p : Prop} (h : p := by first | assumption | (unfold obV; grind)) : p := h
theorem tk99 {p : Prop} (h : p := by unfold Z0d lt6; dsimp only; omega) : p := h
theorem Za2i {p : Prop} (h : p := by unfold Zarn lt6; dsimp only; omega) : p := h
theorem Za2j {p : Prop} (h : p := by unfold Z0i lt6; dsimp only; omega) : p := h
theorem Zatq {p : Prop} (h : p := by grind [List.mem_iff_getElem?]) : p := h
theorem Zar {p : Prop} (h : p := by first | assumption | grind) : p := h
theorem Zsg {p : Prop} (h : p := by unfold raV cnV; grind) : p := h
theorem Zi8 {p : Prop} (h : p := by first | omega | grind) : p := h
theorem Zatr {p : Prop} (h : p := by rw [h2]; kernel_rfl) : p := h
theorem Zfl {p : Prop} (h : p := by intro hr; cases hr) : p := h
theorem Zvz {p : Prop} (h : p := by unfold tlV; grind) : p := h
theorem Z51 {p : Prop} (h : p := by unfold obV; grind) : p := h
abbrev Zdc (x : Zu) : Prop := (SzL 16 SzT) x.Subs
theorem Zapq {x : Zu} (h : Z17 x) : Zdc x := (Zc7 h.2.2 (fun _ h => Za9f h))
abbrev Zan (x : Ze) : Prop := SzS x.Sub
theorem Zdj {x : Ze} (h : Zdn x) : Zan x := (Zajv h.2.2.2.2.2.2.2.1)
abbrev Zat (x : Zr) : Prop := SzS x.Sub ∧ Zan x.Filter
theorem Zuq {x : Zr} (h : Zqa x) : Zat x := ⟨(Zajv h.2.2.2.1), (Zdj h.2.2.2.2)⟩
abbrev Zlm (x : Zcb) : Prop := Zan x.Filter
theorem Zac3 {x : Zcb} (h : Zrp x) : Zlm x := (Zdj h.2.2)
abbrev Zgn (x : Zcy) : Prop := Zan x.Filter
theorem Zapr {x : Zcy} (h : Z18 x) : Zgn x := (Zdj h.2.2)
abbrev Zed (x : Zak) : Prop := Zan x.Filter
theorem Z7s {x : Zak} (h : Zvy x) : Zed x := (Zdj h.2.2)
abbrev Zc8 (x : Zw) : Prop := Zan x.Filter
theorem Zyg {x : Zw} (h : Zna x) : Zc8 x := (Zdj h.2.2.2)
abbrev Zao (x : Z0) : Prop := Zed x.Ref ∧ Zc8 x.Amount ∧ SzS x.Card ∧ Zan x.Filter ∧ (SzL 176 Zat) x.Mods
theorem Zahu {x : Z0} (h : Zum x) : Zao x := ⟨(Z7s h.2.1), (Zyg h.2.2.1), (Zajv h.2.2.2.2.2.1), (Zdj h.2.2.2.2.2.2.1), (Zc7 h.2.2.2.2.2.2.2.2 (fun _ h => (Zuq h)))⟩
abbrev Zdu (x : Zaz) : Prop := Zan x.Filter
theorem Zac4 {x : Zaz} (h : Zrq x) : Zdu x := (Zdj h.2.2.1)
abbrev Zav (x : Zk) : Prop := Zan x.Filter ∧ (SzL 176 Zat) x.Mods ∧ Zlm x.Trigger ∧ (SzL 144 Zgn) x.Specs ∧ (SzL 560 Zao) x.Effects ∧ Zdu x.Replace
theorem Zl2 {x : Zk} (h : Zio x) : Zav x := ⟨(Zdj h.2.1), (Zc7 h.2.2.1 (fun _ h => (Zuq h))), (Zac3 h.2.2.2.2.2.1), (Zc7 h.2.2.2.2.2.2.2.1 (fun _ h => (Zapr h))), (Zc7 h.2.2.2.2.2.2.2.2.1 (fun _ h => (Zahu h))), (Zac4 h.2.2.2.2.2.2.2.2.2)⟩
abbrev Zad (x : Zl) : Prop := SzS x.Name ∧ Zdc x.Line ∧ (SzL 640 Zav) x.Abilities
theorem Zln {x : Zl} (h : Zafq x) : Zad x := ⟨(Zajv h.1), (Zapq h.2.2.2.2.1), (Zc7 h.2.2.2.2.2.2.2.2 (fun _ h => (Zl2 h)))⟩
abbrev Zbs (x : Za1) : Prop := (SzL 8 (fun _ => True)) x.Library ∧ (SzL 8 (fun _ => True)) x.Hand ∧ (SzL 8 (fun _ => True)) x.Graveyard
theorem Zahv {x : Za1} (h : Zun x) : Zbs x := ⟨(Zc7 h.2.2.2.2.2.2.1 (fun _ _ => trivial)), (Zc7 h.2.2.2.2.2.2.2.1 (fun _ _ => trivial)), (Zc7 h.2.2.2.2.2.2.2.2 (fun _ _ => trivial))⟩
abbrev Zh1 (x : Zeg) : Prop := Zav x.Ability ∧ (SzL 16 (fun _ => True)) x.Targets
theorem Zaps {x : Zeg} (h : Z19 x) : Zh1 x := ⟨(Zl2 h.2.2.2.2.2.2.1), (Zc7 h.2.2.2.2.2.2.2.1 (fun _ _ => trivial))⟩
abbrev Zru (x : Zd8) : Prop := Zav x.Ability
theorem Zac5 {x : Zd8} (h : Zrr x) : Zru x := (Zl2 h.2.2.1)
abbrev Zsh (x : Zgz) : Prop := (SzL 8 (fun _ => True)) x.Objects ∧ (SzL 176 Zat) x.Mods
theorem Zapt {x : Zgz} (h : Z2a x) : Zsh x := ⟨(Zc7 h.2.2.2.2.1 (fun _ _ => trivial)), (Zc7 h.2.2.2.2.2 (fun _ h => (Zuq h)))⟩
abbrev Zq (x : Zb) : Prop := (SzL 152 Zbs) x.Players ∧ (SzL 128 (fun _ => True)) x.Objects ∧ (SzL 8 (fun _ => True)) x.Battlefield ∧ (SzL 8 (fun _ => True)) x.Exile ∧ (SzL 824 Zh1) x.Stack ∧ (SzL 768 Zru) x.Waiting ∧ (SzL 80 Zsh) x.Conts ∧ (SzL 8 (fun _ => True)) x.Extra
theorem Zke {x : Zb} (h : Zabe x) : Zq x := ⟨(Zc7 h.1 (fun _ h => (Zahv h))), (Zc7 h.2.1 (fun _ _ => trivial)), (Zc7 h.2.2.1 (fun _ _ => trivial)), (Zc7 h.2.2.2.1 (fun _ _ => trivial)), (Zc7 h.2.2.2.2.1 (fun _ h => (Zaps h))), (Zc7 h.2.2.2.2.2.1 (fun _ h => (Zac5 h))), (Zc7 h.2.2.2.2.2.2.1 (fun _ h => (Zapt h))), (Zc7 h.2.2.2.2.2.2.2.2.2.2.2.2.2.2.2.2.1 (fun _ _ => trivial))⟩
abbrev Zbx (x : Zs) : Prop := (SzL 16 (fun _ => True)) x.Targets
theorem Zac6 {x : Zs} (h : Zrs x) : Zbx x := (Zc7 h.2.2.2.1 (fun _ _ => trivial))
abbrev Zcr (x : Zaa) : Prop := Zbx x.Ctx ∧ Zc8 x.Amount ∧ Zed x.Ref
theorem Zem {x : Zaa} (h : Zm1 x) : Zcr x := ⟨(Zac6 h.1), (Zyg h.2.1), (Z7s h.2.2)⟩
abbrev Zt (x : Za) : Prop := SzS x.Name ∧ Zdc x.Line ∧ (SzL 640 Zav) x.Abilities
abbrev Z7 (x : Zm) : Prop := (SzL 8 (fun _ => True)) x.Objects ∧ Zan x.Filter ∧ (SzL 176 Zat) x.Mods
abbrev Zy (x : Zc) : Prop := Zq x.S ∧ (SzL 176 Zt) x.All ∧ (SzL 224 Z7) x.L ∧ (SzL 1 (fun _ => True)) x.Begun ∧ (SzL 24 (SzL 8 (fun _ => True))) x.Sets ∧ (SzL 1 (fun _ => True)) x.Blank
theorem Zafs (a0 : Int) : Tot (Z2r a0) (fun r => True) := by
 unfold Z2r
 refine tZ ?_
 dsimp only [Z8y, LT.den]
 refine tD (fun h1 => ?_) (fun h1 => ?_)
 ·exact tR trivial
 ·exact tR trivial
def Z52 : Zi1 → Prop
 | .L0 v0 v3 => (SzT v0) ∧ (0 ≤ v3)
 | .L1 v0 v3 => (SzT v0) ∧ (0 ≤ v3) ∧ (v3 < (v0.length : Int)) ∧ (0 ≤ v3) ∧ (v3 < v0.length)
def Z0d : Zi1 → M6
 | .L0 v0 v3 => (1, ((v0.length : Int) - v3).toNat, 1000000, 0, 0, 0)
 | .L1 v0 v3 => (1, ((v0.length : Int) - v3).toNat, 0, 0, 0, 0)
theorem Zjv (v0 : (List UInt8)) (v3 : Int) (h : Z52 (.L1 v0 v3)) : Tot (Zhu v0 v3).den (Nx Z52 Z0d (1, ((v0.length : Int) - v3).toNat, 0, 0, 0, 0) (fun r => True)) := by
 obtain ⟨ov0, cv3, bd2, i0, i1⟩ := h
 have lb_v0 : v0.length ≤ 562949953421312 := ov0
 dsimp only [Zhu, LT.den]
 refine tD (fun h1 => ?_) (fun h1 => ?_)
 ·refine tB (tI (by omega) (by omega)) (fun x2 h3 => ?_)
  refine tE (fun h4 => ?_) (fun h4 => ?_)
  ·refine qw (v3 - 1) fun q5 q6 => ?_
   refine tB (tI (by omega) (by omega)) (fun x7 h8 => ?_)
   refine tE (fun h9 => ?_) (fun h9 => ?_)
   ·exact tR trivial
   ·refine qw (v3 + 1) fun q10 q11 => ?_
    exact tL ⟨ov0, cl⟩ tk99
  ·refine qw (v3 + 1) fun q12 q13 => ?_
   exact tL ⟨ov0, cl⟩ tk99
 ·refine qw (v3 + 1) fun q14 q15 => ?_
  exact tL ⟨ov0, cl⟩ tk99
theorem Z53 (a0 : (List UInt8)) (oa0 : SzT a0) : Tot (Z8z a0) (fun r => True) := by
 unfold Z8z
 refine tX (Inv := Z52) (μ := Z0d) (m := (1000000, 0, 0, 0, 0, 0)) ?_ ?_
 ·have lb_a0 : a0.length ≤ 562949953421312 := oa0
  dsimp only [Zage, LT.den]
  have q1 : a0.length ≤ 562949953421312 := oa0
  refine tD (fun h2 => ?_) (fun h2 => ?_)
  ·exact tR trivial
  ·refine tD (fun h3 => ?_) (fun h3 => ?_)
   ·exact tR trivial
   ·refine tB (tI (by omega) (by omega)) (fun x4 h5 => ?_)
    refine tB (Zafs (UInt8.toNat x4 : Int)) (fun x6 h7 => ?_)
    refine tO (fun h8 => ?_) (fun h8 => ?_)
    ·exact tR trivial
    ·refine qw ((a0.length : Int) - 1) fun q9 q10 => ?_
     refine tB (tI (by omega) (by omega)) (fun x11 h12 => ?_)
     refine tE (fun h13 => ?_) (fun h13 => ?_)
     ·exact tR trivial
     ·exact tL ⟨oa0, cl⟩ tk99
 ·intro s hs
  cases s with
  | L0 v0 v3 =>
   obtain ⟨ov0, cv3⟩ := hs
   have lb_v0 : v0.length ≤ 562949953421312 := ov0
   show Tot (Zkq v0 v3).den _
   dsimp only [Zkq, LT.den, Z0d]
   have q1 : v0.length ≤ 562949953421312 := ov0
   refine tD (fun h2 => ?_) (fun h2 => ?_)
   ·refine tB (tI (by omega) (by omega)) (fun x3 h4 => ?_)
    refine tB (Zafs (UInt8.toNat x3 : Int)) (fun x5 h6 => ?_)
    refine tO (fun h7 => ?_) (fun h7 => ?_)
    ·refine tB (tI (by omega) (by omega)) (fun x8 h9 => ?_)
     refine tD (fun h10 => ?_) (fun h10 => ?_)
     ·refine tB (tI (by omega) (by omega)) (fun x11 h12 => ?_)
      refine tN (fun h13 => ?_) (fun h13 => ?_)
      ·exact tR trivial
      ·exact tJ (Zjv v0 v3 ⟨ov0, cl, cl, cl, cl⟩)
     ·refine tB (tI (by omega) (by omega)) (fun x14 h15 => ?_)
      refine tD (fun h16 => ?_) (fun h16 => ?_)
      ·refine tB (tI (by omega) (by omega)) (fun x17 h18 => ?_)
       refine tN (fun h19 => ?_) (fun h19 => ?_)
       ·exact tR trivial
       ·exact tJ (Zjv v0 v3 ⟨ov0, cl, cl, cl, cl⟩)
      ·exact tJ (Zjv v0 v3 ⟨ov0, cl, cl, cl, cl⟩)
    ·exact tJ (Zjv v0 v3 ⟨ov0, cl, cl, cl, cl⟩)
   ·exact tR trivial
  | L1 v0 v3 => exact Zjv v0 v3 hs
def Zyh (n m : Int) : Bool := decide (n ≥ 0) && decide (n ≤ m)
def Zamn (c : Zp) : Bool := Zyh c.Generic 99 && (Zyh c.X 2 && c.Color.list.all fun n => Zyh n 9)
theorem Za2k (c : Zp) : Z2s c = some (Zamn c) := by
 unfold Z2s LF.run; dsimp only [Zagf, LT.den]
 have hl : Zca Zhy.step (.L0 c 0) = some (c.Color.list.all fun n => Zyh n 9) := by
  have := Zwf (st := fun i => Zi2.L0 c (i : Int)) (step := Zhy.step) (bad := false) c.Color.list (fun n => Zyh n 9) (fun i x hx => by
   have hi := (List.getElem?_eq_some_iff.1 hx).1
   have hi : i < 5 := hi
   show (Zkr _ _).den = _
   dsimp only [Zkr, LT.den]
   rw [decide_eq_true (by omega), Zgy hx, Zet (by omega) (by omega)]
   simp only [cond_true, Option.bind_some]
   unfold Zyh
   by_cases h1 : x < 0
   ·rw [decide_eq_true h1, decide_eq_false (show ¬ x ≥ 0 by omega)]; rfl
   ·rw [decide_eq_false h1, decide_eq_true (show x ≥ 0 by omega)]
    by_cases h2 : x > 9
    ·rw [decide_eq_true h2, decide_eq_false (show ¬ x ≤ 9 by omega)]; rfl
    ·rw [decide_eq_false h2, decide_eq_true (show x ≤ 9 by omega)]; rfl)
  rw [show (Zi2.L0 c 0) = .L0 c ((0 : Nat) : Int) from rfl, this]
  have he : Zca Zhy.step (.L0 c ((c.Color.list.length : Nat) : Int)) = some true := by
   refine Zcp ?_
   show (Zkr c 5).den = _
   rfl
  rw [he]
  cases c.Color.list.all fun n => Zyh n 9 <;> rfl
 refine (Zbl fun _ => Zbl fun _ => Zbl fun _ => Zbl fun _ => (show Option.bind (some (Sum.inl (Zi2.L0 c 0))) (Zes Zhy.step) = some (c.Color.list.all fun n => Zyh n 9) from hl)).trans ?_
 congr 1
 unfold Zamn Zyh
 rw [Bool.eq_iff_iff]
 simp only [Bool.and_eq_true, Bool.not_eq_true', decide_eq_false_iff_not, decide_eq_true_eq, ge_iff_le, gt_iff_lt, Int.not_lt]
 constructor
 ·rintro ⟨h1, h2, h3, h4, h5⟩; exact ⟨⟨h1, h2⟩, ⟨h3, h4⟩, h5⟩
 ·rintro ⟨⟨h1, h2⟩, ⟨h3, h4⟩, h5⟩; exact ⟨h1, h2, h3, h4, h5⟩
theorem Zqc (a0 : Zp) : Tot (Z2s a0) (fun r => (r = true → a0.X ≤ 2) ∧ (r = true → ∀ n, n ∈ A5.list a0.Color → n ≤ 9)) := by
 refine ⟨_, Za2k a0, fun h => ?_, fun h n hn => ?_⟩
 ·simp only [Zamn, Zyh, Bool.and_eq_true, decide_eq_true_eq] at h
  exact h.2.1.2
 ·simp only [Zamn, Zyh, Bool.and_eq_true, decide_eq_true_eq, List.all_eq_true] at h
  exact (h.2.2 n hn).2
theorem Zabq : Tot (Zic) (fun r => ((SzL 16 SzN) r) ∧ (r.length = 2)) := by
 unfold Zic
 refine tZ ?_
 dsimp only [Zwi, LT.den]
 have q1 : (SzL 16 SzN) ([([98, 97, 115, 105, 99] : List UInt8), ([117, 110, 105, 113, 117, 101] : List UInt8)] : (List (List UInt8))) := ⟨by simp only [List.length_cons, List.length_nil]; omega, (mem_cons' Zam (mem_cons' Zam (fun _ h => by cases h)))⟩
 have lq1 : ([([98, 97, 115, 105, 99] : List UInt8), ([117, 110, 105, 113, 117, 101] : List UInt8)] : (List (List UInt8))).length = 2 := rfl
 exact tR ⟨q1, cl⟩
def Zasa : Zmc → Prop
 | .L0 v0 v1 v5 => ((SzL 16 SzT) v0) ∧ (SzT v1) ∧ (0 ≤ v5)
def Zyi : Zmc → M6
 | .L0 v0 v1 v5 => (1, ((v0.length : Int) - v5).toNat, 1000000, 0, 0, 0)
theorem Zur (a0 : (List (List UInt8))) (a1 : (List UInt8)) (oa0 : (SzL 16 SzT) a0) (oa1 : SzT a1) : Tot (Zsw a0 a1) (fun r => True) := by
 unfold Zsw
 refine tX (Inv := Zasa) (μ := Zyi) (m := (1000000, 0, 0, 0, 0, 0)) ?_ ?_
 ·have lb_a0 := oa0.1
  have lb_a1 : a1.length ≤ 562949953421312 := oa1
  dsimp only [Z0v, LT.den]
  exact tL ⟨oa0, oa1, cl⟩ (by unfold Zyi lt6; dsimp only; omega)
 ·intro s hs
  cases s with
  | L0 v0 v1 v5 =>
   obtain ⟨ov0, ov1, cv5⟩ := hs
   have lb_v0 := ov0.1
   have lb_v1 : v1.length ≤ 562949953421312 := ov1
   show Tot (Zg0 v0 v1 v5).den _
   dsimp only [Zg0, LT.den]
   have q1 := ov0.1
   refine tD (fun h2 => ?_) (fun h2 => ?_)
   ·refine tB (tI (by omega) (by omega)) (fun x3 h4 => ?_)
    have oh4 : SzT x3 := ov0.2 x3 h4.1
    refine tF (fun h5 => ?_) (fun h5 => ?_)
    ·exact tR trivial
    ·refine qw (v5 + 1) fun q6 q7 => ?_
     exact tL ⟨ov0, ov1, cl⟩ (by unfold Zyi lt6; dsimp only; omega)
   ·exact tR trivial
theorem Zvn : Tot (Zjd) (fun r => ((SzL 16 SzN) r) ∧ (r.length = 6)) := by
 unfold Zjd
 refine tZ ?_
 dsimp only [Zzi, LT.den]
 have q1 : (SzL 16 SzN) ([([99, 114, 101, 97, 116, 117, 114, 101] : List UInt8), ([105, 110, 115, 116, 97, 110, 116] : List UInt8), ([114, 105, 116, 117, 97, 108] : List UInt8), ([114, 101, 108, 105, 99] : List UInt8), ([99, 104, 97, 114, 109] : List UInt8), ([108, 97, 110, 100] : List UInt8)] : (List (List UInt8))) := ⟨by simp only [List.length_cons, List.length_nil]; omega, (mem_cons' Zam (mem_cons' Zam (mem_cons' Zam (mem_cons' Zam (mem_cons' Zam (mem_cons' Zam (fun _ h => by cases h)))))))⟩
 have lq1 : ([([99, 114, 101, 97, 116, 117, 114, 101] : List UInt8), ([105, 110, 115, 116, 97, 110, 116] : List UInt8), ([114, 105, 116, 117, 97, 108] : List UInt8), ([114, 101, 108, 105, 99] : List UInt8), ([99, 104, 97, 114, 109] : List UInt8), ([108, 97, 110, 100] : List UInt8)] : (List (List UInt8))).length = 6 := rfl
 exact tR ⟨q1, cl⟩
theorem Znc (a0 : (List UInt8)) (oa0 : SzT a0) : Tot (Zsx a0) (fun r => True) := by
 unfold Zsx
 refine tZ ?_
 have lb_a0 : a0.length ≤ 562949953421312 := oa0
 dsimp only [Z0x, LT.den]
 refine tB (Z53 a0 oa0) (fun x1 h2 => ?_)
 refine tF (fun h3 => ?_) (fun h3 => ?_)
 ·refine tB (Zabq) (fun x4 h5 => ?_)
  have eh5_1 := h5.2
  refine tB (Zur x4 a0 (SzL.nt h5.1) oa0) (fun x6 h7 => ?_)
  refine tD (fun h8 => ?_) (fun h8 => ?_)
  ·refine tB (Zvn) (fun x9 h10 => ?_)
   have eh10_1 := h10.2
   refine tB (Zur x9 a0 (SzL.nt h10.1) oa0) (fun x11 h12 => ?_)
   exact tR trivial
  ·exact tR trivial
 ·exact tR trivial
def Zazj : Zsy → Prop
 | .L0 v0 v1 v5 => (0 ≤ v5) ∧ (v1 ≤ 100)
def Z54 : Zsy → M6
 | .L0 v0 v1 v5 => (1, (v1 - v5).toNat, 1000000, 0, 0, 0)
theorem Z2d (a0 : Int) (a1 : Int) (h0 : a1 ≤ 100) : Tot (Zaor a0 a1) (fun r => True) := by
 unfold Zaor
 refine tX (Inv := Zazj) (μ := Z54) (m := (1000000, 0, 0, 0, 0, 0)) ?_ ?_
 ·dsimp only [Zaqs, LT.den]
  exact tL ⟨cl, cl⟩ (by unfold Z54 lt6; dsimp only; omega)
 ·intro s hs
  cases s with
  | L0 v0 v1 v5 =>
   obtain ⟨cv5, i0⟩ := hs
   show Tot (Z4z v0 v1 v5).den _
   dsimp only [Z4z, LT.den]
   refine tD (fun h1 => ?_) (fun h1 => ?_)
   ·refine qw (v5 + 1) fun q2 q3 => ?_
    exact tL ⟨cl, cl⟩ (by unfold Z54 lt6; dsimp only; omega)
   ·exact tR trivial
def Za2l : Zwm → Prop
 | .L0 E0 v3 => (Zdc E0) ∧ (0 ≤ v3)
def Zarn : Zwm → M6
 | .L0 E0 v3 => (1, ((E0.Subs.length : Int) - v3).toNat, 1000000, 0, 0, 0)
theorem Za2m (a0 : Zu) (oa0 : Zdc a0) : Tot (Zau4 a0) (fun r => True) := by
 unfold Zau4
 refine tX (Inv := Za2l) (μ := Zarn) (m := (1000000, 0, 0, 0, 0, 0)) ?_ ?_
 ·dsimp only [Zau2, LT.den]
  refine tD (fun h1 => ?_) (fun h1 => ?_)
  ·exact tR trivial
  ·refine tD (fun h2 => ?_) (fun h2 => ?_)
   ·exact tR trivial
   ·refine tD (fun h3 => ?_) (fun h3 => ?_)
    ·exact tR trivial
    ·refine tD (fun h4 => ?_) (fun h4 => ?_)
     ·exact tR trivial
     ·have q5 := oa0.1
      refine tD (fun h6 => ?_) (fun h6 => ?_)
      ·exact tR trivial
      ·exact tL ⟨oa0, cl⟩ Za2i
 ·intro s hs
  cases s with
  | L0 E0 v3 =>
   obtain ⟨O0, cv3⟩ := hs
   show Tot (Z82 E0 v3).den _
   dsimp only [Z82, LT.den]
   have q1 := O0.1
   refine tD (fun h2 => ?_) (fun h2 => ?_)
   ·refine tB (tI (by omega) (by omega)) (fun x3 h4 => ?_)
    have oh4 : SzT x3 := O0.2 x3 h4.1
    refine tB (Znc x3 oh4) (fun x5 h6 => ?_)
    refine tO (fun h7 => ?_) (fun h7 => ?_)
    ·exact tR trivial
    ·refine tD (fun h8 => ?_) (fun h8 => ?_)
     ·refine qw (v3 - 1) fun q9 q10 => ?_
      refine tB (tI (by omega) (by omega)) (fun x11 h12 => ?_)
      have oh12 : SzT x11 := O0.2 x11 h12.1
      refine tO (fun h13 => ?_) (fun h13 => ?_)
      ·exact tR trivial
      ·refine qw (v3 + 1) fun q14 q15 => ?_
       exact tL ⟨O0, cl⟩ Za2i
     ·refine qw (v3 + 1) fun q16 q17 => ?_
      exact tL ⟨O0, cl⟩ Za2i
   ·refine tE (fun h18 => ?_) (fun h18 => ?_)
    ·exact tR trivial
    ·refine tE (fun h19 => ?_) (fun h19 => ?_)
     ·exact tR trivial
     ·refine tB (Z2d E0.Types 1 cl) (fun x20 h21 => ?_)
      refine tO (fun h22 => ?_) (fun h22 => ?_)
      ·refine tB (Z2d E0.Types 2 cl) (fun x23 h24 => ?_)
       exact tR trivial
      ·exact tR trivial
theorem Zamo (a0 : Int) : Tot (Zau7 a0) (fun r => True) := by
 unfold Zau7
 refine tZ ?_
 dsimp only [Zau5, LT.den]
 refine tD (fun h1 => ?_) (fun h1 => ?_)
 ·exact tR trivial
 ·exact tR trivial
theorem Zahw (a0 : Zl) (oa0 : Zad a0) : Tot (Zwn a0) (fun r => True) := by
 unfold Zwn
 refine tZ ?_
 dsimp only [Z2t, LT.den]
 exact tR trivial
def Zasb : Zmd → Prop
 | .L0 v0 v1 v7 => (0 ≤ v7) ∧ True
def Zabr : Zmd → M6
 | .L0 v0 v1 v7 => (1, (6 - v7).toNat, 1000000, 0, 0, 0)
theorem Z7t (a0 : Int) (a1 : Int) (a2 : Int) : Tot (Zsz a0 a1 a2) (fun r => True) := by
 unfold Zsz
 refine tX (Inv := Zasb) (μ := Zabr) (m := (1000000, 0, 0, 0, 0, 0)) ?_ ?_
 ·dsimp only [Z0y, LT.den]
  refine tD (fun h1 => ?_) (fun h1 => ?_)
  ·exact tR trivial
  ·refine tD (fun h2 => ?_) (fun h2 => ?_)
   ·exact tR trivial
   ·refine tD (fun h3 => ?_) (fun h3 => ?_)
    ·exact tR trivial
    ·refine tD (fun h4 => ?_) (fun h4 => ?_)
     ·exact tR trivial
     ·exact tL ⟨cl, trivial⟩ tk84
 ·intro s hs
  cases s with
  | L0 v0 v1 v7 =>
   obtain ⟨cv7, _⟩ := hs
   show Tot (Zg1 v0 v1 v7).den _
   dsimp only [Zg1, LT.den]
   refine tD (fun h1 => ?_) (fun h1 => ?_)
   ·refine tE (fun h2 => ?_) (fun h2 => ?_)
    ·refine tE (fun h3 => ?_) (fun h3 => ?_)
     ·exact tR trivial
     ·refine qw (v7 + 1) fun q4 q5 => ?_
      exact tL ⟨cl, trivial⟩ tk84
    ·refine qw (v7 + 1) fun q6 q7 => ?_
     exact tL ⟨cl, trivial⟩ tk84
   ·exact tR trivial
theorem Zus (a0 : Zd) : Tot (Zs0 a0) (fun r => (r = true → 0 ≤ a0.Kind ∧ a0.Kind ≤ 3)) := by
 unfold Zs0
 refine tZ ?_
 dsimp only [Z0z, LT.den]
 refine tD (fun h1 => ?_) (fun h1 => ?_)
 ·exact tR Zfl
 ·refine tD (fun h2 => ?_) (fun h2 => ?_)
  ·exact tR Zfl
  ·refine tD (fun h3 => ?_) (fun h3 => ?_)
   ·exact tR Zfl
   ·refine tD (fun h4 => ?_) (fun h4 => ?_)
    ·exact tR Zfl
    ·refine tN (fun h5 => ?_) (fun h5 => ?_)
     ·exact tR (by intro hr; first | omega | (cases hr; done))
     ·exact tR (by intro hr; first | omega | (cases hr; done))
abbrev Zaft (a0 : Ze) (r : Bool) : Prop := (r = true → 0 ≤ a0.Zone ∧ a0.Zone ≤ 5 ∧ 0 ≤ a0.Who ∧ a0.Who ≤ 2 ∧ 0 ≤ a0.Self ∧ a0.Self ≤ 2 ∧ 0 ≤ a0.Tap ∧ a0.Tap ≤ 2 ∧ 0 ≤ a0.Power.Kind ∧ a0.Power.Kind ≤ 3 ∧ 0 ≤ a0.Tough.Kind ∧ a0.Tough.Kind ≤ 3 ∧ 0 ≤ a0.Value.Kind ∧ a0.Value.Kind ≤ 3)
def Z55 (a0 : Ze) : Zwp → Prop
 | .L0 E0 => (E0 = a0) ∧ (Zan E0) ∧ (0 ≤ E0.Zone ∧ E0.Zone ≤ 5 ∧ 0 ≤ E0.Who ∧ E0.Who ≤ 2 ∧ 0 ≤ E0.Self ∧ E0.Self ≤ 2 ∧ 0 ≤ E0.Tap ∧ E0.Tap ≤ 2)
def Zaro : Zwp → M6
 | .L0 E0 => (0, 0, 0, 0, 0, 0)
theorem Zut (a0 : Ze) (E0 : Ze) (h : (Z55 a0) (.L0 E0)) : Tot (Zks E0).den (Nx (Z55 a0) Zaro (0, 0, 0, 0, 0, 0) (Zaft a0)) := by
 obtain ⟨al0, O0, i0⟩ := h
 subst al0
 dsimp only [Zks, LT.den]
 refine tB (Zus E0.Power) (fun x1 h2 => ?_)
 have eh2_0 := h2
 refine tF (fun h3 => ?_) (fun h3 => ?_)
 ·have h3_0 := eh2_0 h3
  refine tB (Zus E0.Tough) (fun x4 h5 => ?_)
  have eh5_0 := h5
  refine tF (fun h6 => ?_) (fun h6 => ?_)
  ·have h6_0 := eh5_0 h6
   refine tB (Zus E0.Value) (fun x7 h8 => ?_)
   have eh8_0 := h8
   exact tR (by intro hr; have := eh8_0 hr; first | omega | (cases hr; done))
  ·exact tR Zfl
 ·exact tR Zfl
theorem Zazk (a0 : Ze) (oa0 : Zan a0) : Tot (Z2v a0) (Zaft a0) := by
 unfold Z2v
 refine tX (Inv := (Z55 a0)) (μ := Zaro) (m := (1000000, 0, 0, 0, 0, 0)) ?_ ?_
 ·dsimp only [Zagg, LT.den]
  refine tD (fun h1 => ?_) (fun h1 => ?_)
  ·exact tR Zfl
  ·refine tD (fun h2 => ?_) (fun h2 => ?_)
   ·exact tR Zfl
   ·refine tD (fun h3 => ?_) (fun h3 => ?_)
    ·exact tR Zfl
    ·refine tD (fun h4 => ?_) (fun h4 => ?_)
     ·exact tR Zfl
     ·refine tD (fun h5 => ?_) (fun h5 => ?_)
      ·exact tR Zfl
      ·refine tD (fun h6 => ?_) (fun h6 => ?_)
       ·exact tR Zfl
       ·refine tD (fun h7 => ?_) (fun h7 => ?_)
        ·exact tR Zfl
        ·refine tD (fun h8 => ?_) (fun h8 => ?_)
         ·exact tR Zfl
         ·refine tB (Z7t a0.Types a0.NotTypes 63) (fun x9 h10 => ?_)
          refine tO (fun h11 => ?_) (fun h11 => ?_)
          ·exact tR Zfl
          ·refine tB (Z7t a0.Colors a0.NotColors 31) (fun x12 h13 => ?_)
           refine tO (fun h14 => ?_) (fun h14 => ?_)
           ·exact tR Zfl
           ·refine tO (fun h15 => ?_) (fun h15 => ?_)
            ·refine tB (Znc a0.Sub (SzS.t oa0)) (fun x16 h17 => ?_)
             refine tO (fun h18 => ?_) (fun h18 => ?_)
             ·exact tR Zfl
             ·refine tD (fun h19 => ?_) (fun h19 => ?_)
              ·exact tR Zfl
              ·refine tD (fun h20 => ?_) (fun h20 => ?_)
               ·exact tR Zfl
               ·exact tJ (Zut a0 a0 ⟨rfl, oa0, cl⟩)
            ·refine tD (fun h21 => ?_) (fun h21 => ?_)
             ·exact tR Zfl
             ·refine tD (fun h22 => ?_) (fun h22 => ?_)
              ·exact tR Zfl
              ·exact tJ (Zut a0 a0 ⟨rfl, oa0, cl⟩)
 ·intro s hs
  cases s with
  | L0 E0 => exact Zut a0 E0 hs
theorem Zdv (a0 : Ze) (oa0 : Zan a0) : Tot (Z2v a0) (fun r => (r = true → 0 ≤ a0.Zone ∧ a0.Zone ≤ 5 ∧ 0 ≤ a0.Who ∧ a0.Who ≤ 2 ∧ 0 ≤ a0.Self ∧ a0.Self ≤ 2 ∧ 0 ≤ a0.Tap ∧ a0.Tap ≤ 2 ∧ 0 ≤ a0.Power.Kind ∧ a0.Power.Kind ≤ 3 ∧ 0 ≤ a0.Tough.Kind ∧ a0.Tough.Kind ≤ 3 ∧ 0 ≤ a0.Value.Kind ∧ a0.Value.Kind ≤ 3) ∧ (r = Z5q a0)) := (Tot.we (Zazk a0 oa0)).mono fun r h => ⟨h.1, Option.some.inj (h.2.symm.trans (Zarj a0))⟩
def Zk7 : Zli → Prop
 | .L0 E0 E1 v7 v8 => (Zat E0) ∧ (Zat E1)
 | .L1 E0 E1 v7 v16 => (Zat E0) ∧ (Zat E1)
def Z2e : Zli → M6
 | .L0 E0 E1 v7 v8 => (0, 0, 0, 0, 0, 0)
 | .L1 E0 E1 v7 v16 => (0, 0, 0, 0, 0, 0)
theorem Zqd (E0 : Zr) (E1 : Zr) (v7 : Int) (v16 : Bool) (h : Zk7 (.L1 E0 E1 v7 v16)) : Tot (Zmf E0 E1 v7 v16).den (Nx Zk7 Z2e (0, 0, 0, 0, 0, 0) (fun r => (Zat r))) := by
 obtain ⟨O0, O1⟩ := h
 dsimp only [Zmf, LT.den]
 refine tF (fun h1 => ?_) (fun h1 => ?_)
 ·exact tR ⟨(SzS.nil), O0.2⟩
 ·refine tE (fun h2 => ?_) (fun h2 => ?_)
  ·exact tR ⟨O0.1, (SzS.nil)⟩
  ·refine tE (fun h3 => ?_) (fun h3 => ?_)
   ·exact tR ⟨O0.1, O0.2⟩
   ·refine tE (fun h4 => ?_) (fun h4 => ?_)
    ·exact tR ⟨O0.1, O0.2⟩
    ·exact tR O0
theorem Zev (E0 : Zr) (E1 : Zr) (v7 : Int) (v8 : Bool) (h : Zk7 (.L0 E0 E1 v7 v8)) : Tot (Zfh E0 E1 v7 v8).den (Nx Zk7 Z2e (0, 0, 0, 0, 0, 0) (fun r => (Zat r))) := by
 obtain ⟨O0, O1⟩ := h
 dsimp only [Zfh, LT.den]
 refine tF (fun h1 => ?_) (fun h1 => ?_)
 ·exact tR ⟨O0.1, O0.2⟩
 ·refine tE (fun h2 => ?_) (fun h2 => ?_)
  ·exact tJ (Zqd E0 E1 v7 (v7 == 4) ⟨O0, O1⟩)
  ·exact tJ (Zqd E0 E1 v7 (v7 == 5) ⟨O0, O1⟩)
theorem Zaxj (a0 : Zr) (oa0 : Zat a0) : Tot (Zagi a0) (fun r => (Zat r)) := by
 unfold Zagi
 refine tX (Inv := Zk7) (μ := Z2e) (m := (1000000, 0, 0, 0, 0, 0)) ?_ ?_
 ·dsimp only [Zaj1, LT.den]
  refine tE (fun h1 => ?_) (fun h1 => ?_)
  ·exact tJ (Zev (⟨0, a0.N, a0.M, a0.Sub, a0.Filter⟩ : Zr) (⟨0, 0, 0, ([] : List UInt8), (⟨0, 0, 0, 0, 0, 0, 0, ([] : List UInt8), 0, 0, (⟨0, 0⟩ : Zd), (⟨0, 0⟩ : Zd), (⟨0, 0⟩ : Zd)⟩ : Ze)⟩ : Zr) a0.Kind (a0.Kind == 2) ⟨⟨oa0.1, oa0.2⟩, ⟨(SzS.nil), (SzS.nil)⟩⟩)
  ·refine tE (fun h2 => ?_) (fun h2 => ?_)
   ·exact tJ (Zev (⟨0, a0.N, a0.M, a0.Sub, a0.Filter⟩ : Zr) (⟨0, 0, 0, ([] : List UInt8), (⟨0, 0, 0, 0, 0, 0, 0, ([] : List UInt8), 0, 0, (⟨0, 0⟩ : Zd), (⟨0, 0⟩ : Zd), (⟨0, 0⟩ : Zd)⟩ : Ze)⟩ : Zr) a0.Kind (a0.Kind == 3) ⟨⟨oa0.1, oa0.2⟩, ⟨(SzS.nil), (SzS.nil)⟩⟩)
   ·refine tE (fun h3 => ?_) (fun h3 => ?_)
    ·exact tJ (Zev (⟨0, a0.N, a0.M, a0.Sub, a0.Filter⟩ : Zr) (⟨0, 0, 0, ([] : List UInt8), (⟨0, 0, 0, 0, 0, 0, 0, ([] : List UInt8), 0, 0, (⟨0, 0⟩ : Zd), (⟨0, 0⟩ : Zd), (⟨0, 0⟩ : Zd)⟩ : Ze)⟩ : Zr) a0.Kind (a0.Kind == 6) ⟨⟨oa0.1, oa0.2⟩, ⟨(SzS.nil), (SzS.nil)⟩⟩)
    ·refine tE (fun h4 => ?_) (fun h4 => ?_)
     ·exact tJ (Zev (⟨0, a0.N, a0.M, a0.Sub, a0.Filter⟩ : Zr) (⟨0, 0, 0, ([] : List UInt8), (⟨0, 0, 0, 0, 0, 0, 0, ([] : List UInt8), 0, 0, (⟨0, 0⟩ : Zd), (⟨0, 0⟩ : Zd), (⟨0, 0⟩ : Zd)⟩ : Ze)⟩ : Zr) a0.Kind (a0.Kind == 7) ⟨⟨oa0.1, oa0.2⟩, ⟨(SzS.nil), (SzS.nil)⟩⟩)
     ·refine tE (fun h5 => ?_) (fun h5 => ?_)
      ·exact tJ (Zev (⟨0, a0.N, a0.M, a0.Sub, a0.Filter⟩ : Zr) (⟨0, 0, 0, ([] : List UInt8), (⟨0, 0, 0, 0, 0, 0, 0, ([] : List UInt8), 0, 0, (⟨0, 0⟩ : Zd), (⟨0, 0⟩ : Zd), (⟨0, 0⟩ : Zd)⟩ : Ze)⟩ : Zr) a0.Kind (a0.Kind == 8) ⟨⟨oa0.1, oa0.2⟩, ⟨(SzS.nil), (SzS.nil)⟩⟩)
      ·exact tJ (Zev (⟨0, a0.N, a0.M, a0.Sub, a0.Filter⟩ : Zr) (⟨0, 0, 0, ([] : List UInt8), (⟨0, 0, 0, 0, 0, 0, 0, ([] : List UInt8), 0, 0, (⟨0, 0⟩ : Zd), (⟨0, 0⟩ : Zd), (⟨0, 0⟩ : Zd)⟩ : Ze)⟩ : Zr) a0.Kind (a0.Kind == 9) ⟨⟨oa0.1, oa0.2⟩, ⟨(SzS.nil), (SzS.nil)⟩⟩)
 ·intro s hs
  cases s with
  | L0 E0 E1 v7 v8 => exact Zev E0 E1 v7 v8 hs
  | L1 E0 E1 v7 v16 => exact Zqd E0 E1 v7 v16 hs
theorem Zasc (a0 : Int) : Tot (Z84 a0) (fun r => True) := by
 unfold Z84
 refine tZ ?_
 dsimp only [Zadm, LT.den]
 refine tD (fun h1 => ?_) (fun h1 => ?_)
 ·refine tD (fun h2 => ?_) (fun h2 => ?_)
  ·exact tR trivial
  ·exact tR trivial
 ·exact tR trivial
def Zv0 : Znr → Prop
 | .L0 E0 v18 v19 => (Zat E0) ∧ True
 | .L1 E0 v18 v25 => (Zat E0) ∧ True
 | .L2 E0 v18 v51 => (Zat E0) ∧ True
def Z0e : Znr → M6
 | .L0 E0 v18 v19 => (0, 0, 0, 0, 0, 0)
 | .L1 E0 v18 v25 => (0, 0, 0, 0, 0, 0)
 | .L2 E0 v18 v51 => (0, 0, 0, 0, 0, 0)
theorem Zuu (E0 : Zr) (v18 : Int) (v51 : Bool) (h : (Zat E0) ∧ True) : Tot (Zs1 E0 v18 v51).den (Nx Zv0 Z0e (0, 0, 0, 0, 0, 0) (fun r => True)) := by
 obtain ⟨O0, _⟩ := h
 dsimp only [Zs1, LT.den]
 refine tF (fun h1 => ?_) (fun h1 => ?_)
 ·refine tD (fun h2 => ?_) (fun h2 => ?_)
  ·exact tR trivial
  ·exact tR trivial
 ·refine tE (fun h3 => ?_) (fun h3 => ?_)
  ·refine tB (Zdv E0.Filter O0.2) (fun x4 h5 => ?_)
   have eh5_0 := h5.1
   have eh5_1 := h5.2
   exact tR trivial
  ·refine tE (fun h6 => ?_) (fun h6 => ?_)
   ·refine tD (fun h7 => ?_) (fun h7 => ?_)
    ·refine tD (fun h8 => ?_) (fun h8 => ?_)
     ·refine tD (fun h9 => ?_) (fun h9 => ?_)
      ·exact tR trivial
      ·exact tR trivial
     ·exact tR trivial
    ·exact tR trivial
   ·refine tE (fun h10 => ?_) (fun h10 => ?_)
    ·refine tD (fun h11 => ?_) (fun h11 => ?_)
     ·refine tD (fun h12 => ?_) (fun h12 => ?_)
      ·refine tD (fun h13 => ?_) (fun h13 => ?_)
       ·exact tR trivial
       ·exact tR trivial
      ·exact tR trivial
     ·exact tR trivial
    ·exact tR trivial
theorem Zuv (E0 : Zr) (v18 : Int) (v25 : Bool) (h : (Zat E0) ∧ True) : Tot (Zs2 E0 v18 v25).den (Nx Zv0 Z0e (0, 0, 0, 0, 0, 0) (fun r => True)) := by
 obtain ⟨O0, _⟩ := h
 dsimp only [Zs2, LT.den]
 refine tF (fun h1 => ?_) (fun h1 => ?_)
 ·refine tB (Znc E0.Sub (SzS.t O0.1)) (fun x2 h3 => ?_)
  exact tR trivial
 ·refine tE (fun h4 => ?_) (fun h4 => ?_)
  ·refine tD (fun h5 => ?_) (fun h5 => ?_)
   ·exact tR trivial
   ·exact tR trivial
  ·refine tE (fun h6 => ?_) (fun h6 => ?_)
   ·refine tD (fun h7 => ?_) (fun h7 => ?_)
    ·exact tR trivial
    ·exact tR trivial
   ·refine tE (fun h8 => ?_) (fun h8 => ?_)
    ·exact tJ (Zuu E0 v18 (v18 == 8) ⟨O0, trivial⟩)
    ·exact tJ (Zuu E0 v18 (v18 == 9) ⟨O0, trivial⟩)
theorem Zuw (E0 : Zr) (v18 : Int) (v19 : Bool) (h : (Zat E0) ∧ True) : Tot (Zs3 E0 v18 v19).den (Nx Zv0 Z0e (0, 0, 0, 0, 0, 0) (fun r => True)) := by
 obtain ⟨O0, _⟩ := h
 dsimp only [Zs3, LT.den]
 refine tF (fun h1 => ?_) (fun h1 => ?_)
 ·refine tB (Zasc E0.N) (fun x2 h3 => ?_)
  exact tR trivial
 ·refine tE (fun h4 => ?_) (fun h4 => ?_)
  ·exact tJ (Zuv E0 v18 (v18 == 4) ⟨O0, trivial⟩)
  ·exact tJ (Zuv E0 v18 (v18 == 5) ⟨O0, trivial⟩)
theorem Z56 (a0 : Zr) (oa0 : Zat a0) : Tot (Zavb a0) (fun r => True) := by
 unfold Zavb
 refine tX (Inv := Zv0) (μ := Z0e) (m := (1000000, 0, 0, 0, 0, 0)) ?_ ?_
 ·dsimp only [Zau9, LT.den]
  refine tD (fun h1 => ?_) (fun h1 => ?_)
  ·exact tR trivial
  ·refine tD (fun h2 => ?_) (fun h2 => ?_)
   ·exact tR trivial
   ·refine tB (Zaxj a0 oa0) (fun x3 h4 => ?_)
    refine tO (fun h5 => ?_) (fun h5 => ?_)
    ·exact tR trivial
    ·refine tE (fun h6 => ?_) (fun h6 => ?_)
     ·exact tJ (Zuw a0 a0.Kind (a0.Kind == 2) ⟨oa0, trivial⟩)
     ·exact tJ (Zuw a0 a0.Kind (a0.Kind == 3) ⟨oa0, trivial⟩)
 ·intro s hs
  cases s with
  | L0 E0 v18 v19 => exact Zuw E0 v18 v19 hs
  | L1 E0 v18 v25 => exact Zuv E0 v18 v25 hs
  | L2 E0 v18 v51 => exact Zuu E0 v18 v51 hs
def Zapu : Zkt → Prop
 | .L0 v0 v1 v2 v7 v8 => ((SzL 16 SzN) v0) ∧ (SzN v2) ∧ (0 ≤ v8) ∧ (v7.length ≤ 200 * v8.toNat) ∧ (v0.length ≤ 100) ∧ (v8 ≤ v0.length)
def Z7u : Zkt → M6
 | .L0 v0 v1 v2 v7 v8 => (1, ((v0.length : Int) - v8).toNat, 1000000, 0, 0, 0)
theorem Zapv (a0 : (List (List UInt8))) (a1 : Int) (a2 : (List UInt8)) (oa0 : (SzL 16 SzN) a0) (oa2 : SzN a2) (h0 : a0.length ≤ 100) : Tot (Z41 a0 a1 a2) (fun r => (SzT r) ∧ (r.length ≤ 20000)) := by
 unfold Z41
 refine tX (Inv := Zapu) (μ := Z7u) (m := (1000000, 0, 0, 0, 0, 0)) ?_ ?_
 ·have lb_a0 := oa0.1
  have lb_a2 : a2.length ≤ 100 := oa2
  dsimp only [Z86, LT.den]
  exact tL ⟨oa0, oa2, cl, cl, cl, cl⟩ tk75
 ·intro s hs
  cases s with
  | L0 v0 v1 v2 v7 v8 =>
   obtain ⟨ov0, ov2, cv8, i0, i1, i2⟩ := hs
   have lb_v0 := ov0.1
   have lb_v2 : v2.length ≤ 100 := ov2
   show Tot (Zt6 v0 v1 v2 v7 v8).den _
   dsimp only [Zt6, LT.den]
   have q1 := (SzL.nt ov0).1
   refine tD (fun h2 => ?_) (fun h2 => ?_)
   ·refine tB (Z2d v1 v8 cl) (fun x3 h4 => ?_)
    refine tF (fun h5 => ?_) (fun h5 => ?_)
    ·refine tO (fun h6 => ?_) (fun h6 => ?_)
     ·have q7 : v2.length ≤ 100 := ov2
      refine tB (tK Zcz) (fun x8 h9 => ?_)
      refine tB (tI (by omega) (by omega)) (fun x10 h11 => ?_)
      have oh11 : SzN x10 := ov0.2 x10 h11.1
      have q12 : x10.length ≤ 100 := oh11
      refine tB (tK Zcz) (fun x13 h14 => ?_)
      refine qw (v8 + 1) fun q15 q16 => ?_
      exact tL ⟨ov0, ov2, cl, cl, cl, cl⟩ tk75
     ·refine tB (tI (by omega) (by omega)) (fun x17 h18 => ?_)
      have oh18 : SzN x17 := ov0.2 x17 h18.1
      have q19 : x17.length ≤ 100 := oh18
      refine tB (tK Zcz) (fun x20 h21 => ?_)
      refine qw (v8 + 1) fun q22 q23 => ?_
      exact tL ⟨ov0, ov2, cl, cl, cl, cl⟩ tk75
    ·refine qw (v8 + 1) fun q24 q25 => ?_
     exact tL ⟨ov0, ov2, cl, cl, cl, cl⟩ tk75
   ·exact tR ⟨Zn1, cl⟩
theorem Zl3 (a0 : Int) : Tot (Zt7 a0) (fun r => (SzT r) ∧ (r.length ≤ 20000)) := by
 unfold Zt7
 refine tZ ?_
 dsimp only [Zzk, LT.den]
 refine tD (fun h1 => ?_) (fun h1 => ?_)
 ·exact tR ⟨(SzT.nil), cl⟩
 ·refine tD (fun h2 => ?_) (fun h2 => ?_)
  ·exact tR ⟨(SzT.nil), cl⟩
  ·refine tB (Zvn) (fun x3 h4 => ?_)
   have eh4_1 := h4.2
   refine tB (Zapv x3 a0 ([43] : List UInt8) h4.1 Zam cl) (fun x5 h6 => ?_)
   have eh6_1 := h6.2
   exact tR ⟨h6.1, cl⟩
theorem Za2n (a0 : Int) : Tot (Zave a0) (fun r => True) := by
 unfold Zave
 refine tZ ?_
 dsimp only [Zavc, LT.den]
 refine tD (fun h1 => ?_) (fun h1 => ?_)
 ·exact tR trivial
 ·exact tR trivial
theorem Zqe (a0 : Int) : Tot (Zagj a0) (fun r => (SzN r)) := by
 unfold Zagj
 refine tZ ?_
 dsimp only [Zaj3, LT.den]
 refine tE (fun h1 => ?_) (fun h1 => ?_)
 ·exact tR Zam
 ·refine tE (fun h2 => ?_) (fun h2 => ?_)
  ·exact tR Zam
  ·refine tE (fun h3 => ?_) (fun h3 => ?_)
   ·exact tR Zam
   ·refine tE (fun h4 => ?_) (fun h4 => ?_)
    ·exact tR Zam
    ·refine tE (fun h5 => ?_) (fun h5 => ?_)
     ·exact tR Zam
     ·exact tR (SzN.nil)
def Zaxk : Zo4 → Prop
 | .L0 v0 v3 v4 => (0 ≤ v4) ∧ (v3.length ≤ 200 * v4.toNat) ∧ (v4 ≤ 5)
def Zafu : Zo4 → M6
 | .L0 v0 v3 v4 => (1, (5 - v4).toNat, 1000000, 0, 0, 0)
theorem Zabs (a0 : Int) : Tot (Zagk a0) (fun r => (SzT r)) := by
 unfold Zagk
 refine tX (Inv := Zaxk) (μ := Zafu) (m := (1000000, 0, 0, 0, 0, 0)) ?_ ?_
 ·dsimp only [Zaj5, LT.den]
  refine tB (Za2n a0) (fun x1 h2 => ?_)
  refine tO (fun h3 => ?_) (fun h3 => ?_)
  ·exact tR (SzT.nil)
  ·refine tE (fun h4 => ?_) (fun h4 => ?_)
   ·exact tR Zn1
   ·exact tL ⟨cl, cl, cl⟩ tk90
 ·intro s hs
  cases s with
  | L0 v0 v3 v4 =>
   obtain ⟨cv4, i0, i1⟩ := hs
   show Tot (Z00 v0 v3 v4).den _
   dsimp only [Z00, LT.den]
   refine tD (fun h1 => ?_) (fun h1 => ?_)
   ·refine tB (tK tk52) (fun x2 h3 => ?_)
    refine tB (tK tk52) (fun x4 h5 => ?_)
    refine tE (fun h6 => ?_) (fun h6 => ?_)
    ·refine tO (fun h7 => ?_) (fun h7 => ?_)
     ·refine tB (tK Zcz) (fun x8 h9 => ?_)
      refine tB (Zqe v4) (fun x10 h11 => ?_)
      have q12 : x10.length ≤ 100 := h11
      refine tB (tK Zcz) (fun x13 h14 => ?_)
      refine qw (v4 + 1) fun q15 q16 => ?_
      exact tL ⟨cl, cl, cl⟩ tk90
     ·refine tB (Zqe v4) (fun x17 h18 => ?_)
      have q19 : x17.length ≤ 100 := h18
      refine tB (tK Zcz) (fun x20 h21 => ?_)
      refine qw (v4 + 1) fun q22 q23 => ?_
      exact tL ⟨cl, cl, cl⟩ tk90
    ·refine qw (v4 + 1) fun q24 q25 => ?_
     exact tL ⟨cl, cl, cl⟩ tk90
   ·exact tR Zn1
theorem Zasd : Tot (Zzm) (fun r => ((SzL 16 SzN) r) ∧ (r.length = 17)) := by
 unfold Zzm
 refine tZ ?_
 dsimp only [Zadp, LT.den]
 have q1 : (SzL 16 SzN) ([([102, 108, 121, 105, 110, 103] : List UInt8), ([114, 101, 97, 99, 104] : List UInt8), ([104, 97, 115, 116, 101] : List UInt8), ([118, 105, 103, 105, 108, 97, 110, 116] : List UInt8), ([116, 114, 97, 109, 112, 108, 101] : List UInt8), ([102, 105, 114, 115, 116, 45, 115, 116, 114, 105, 107, 101] : List UInt8), ([100, 111, 117, 98, 108, 101, 45, 115, 116, 114, 105, 107, 101] : List UInt8), ([100, 101, 97, 100, 108, 121] : List UInt8), ([108, 105, 102, 101, 108, 105, 110, 107] : List UInt8), ([109, 101, 110, 97, 99, 101] : List UInt8), ([100, 101, 102, 101, 110, 100, 101, 114] : List UInt8), ([119, 97, 114, 100, 101, 100] : List UInt8), ([115, 116, 117, 114, 100, 121] : List UInt8), ([101, 108, 117, 115, 105, 118, 101] : List UInt8), ([110, 111, 45, 97, 116, 116, 97, 99, 107] : List UInt8), ([110, 111, 45, 98, 108, 111, 99, 107] : List UInt8), ([109, 117, 115, 116, 45, 97, 116, 116, 97, 99, 107] : List UInt8)] : (List (List UInt8))) := ⟨by simp only [List.length_cons, List.length_nil]; omega, (mem_cons' Zam (mem_cons' Zam (mem_cons' Zam (mem_cons' Zam (mem_cons' Zam (mem_cons' Zam (mem_cons' Zam (mem_cons' Zam (mem_cons' Zam (mem_cons' Zam (mem_cons' Zam (mem_cons' Zam (mem_cons' Zam (mem_cons' Zam (mem_cons' Zam (mem_cons' Zam (mem_cons' Zam (fun _ h => by cases h))))))))))))))))))⟩
 have lq1 : ([([102, 108, 121, 105, 110, 103] : List UInt8), ([114, 101, 97, 99, 104] : List UInt8), ([104, 97, 115, 116, 101] : List UInt8), ([118, 105, 103, 105, 108, 97, 110, 116] : List UInt8), ([116, 114, 97, 109, 112, 108, 101] : List UInt8), ([102, 105, 114, 115, 116, 45, 115, 116, 114, 105, 107, 101] : List UInt8), ([100, 111, 117, 98, 108, 101, 45, 115, 116, 114, 105, 107, 101] : List UInt8), ([100, 101, 97, 100, 108, 121] : List UInt8), ([108, 105, 102, 101, 108, 105, 110, 107] : List UInt8), ([109, 101, 110, 97, 99, 101] : List UInt8), ([100, 101, 102, 101, 110, 100, 101, 114] : List UInt8), ([119, 97, 114, 100, 101, 100] : List UInt8), ([115, 116, 117, 114, 100, 121] : List UInt8), ([101, 108, 117, 115, 105, 118, 101] : List UInt8), ([110, 111, 45, 97, 116, 116, 97, 99, 107] : List UInt8), ([110, 111, 45, 98, 108, 111, 99, 107] : List UInt8), ([109, 117, 115, 116, 45, 97, 116, 116, 97, 99, 107] : List UInt8)] : (List (List UInt8))).length = 17 := rfl
 exact tR ⟨q1, cl⟩
theorem Zyj (a0 : Int) : Tot (Zagl a0) (fun r => (SzN r)) := by
 unfold Zagl
 refine tZ ?_
 dsimp only [Zaj7, LT.den]
 refine tD (fun h1 => ?_) (fun h1 => ?_)
 ·exact tR (SzN.nil)
 ·refine tD (fun h2 => ?_) (fun h2 => ?_)
  ·exact tR (SzN.nil)
  ·refine tB (Zasd) (fun x3 h4 => ?_)
   have eh4_1 := h4.2
   refine tB (tI (by omega) (by omega)) (fun x5 h6 => ?_)
   have oh6 : SzN x5 := h4.1.2 x5 h6.1
   exact tR oh6
def Zaxl : Zo5 → Prop
 | .L0 v0 v3 v4 => (0 ≤ v4) ∧ (v3.length ≤ 200 * v4.toNat) ∧ (v4 ≤ 17)
def Zafv : Zo5 → M6
 | .L0 v0 v3 v4 => (1, (17 - v4).toNat, 1000000, 0, 0, 0)
theorem Zabt (a0 : Int) : Tot (Zagm a0) (fun r => (SzT r)) := by
 unfold Zagm
 refine tX (Inv := Zaxl) (μ := Zafv) (m := (1000000, 0, 0, 0, 0, 0)) ?_ ?_
 ·dsimp only [Zaj9, LT.den]
  refine tB (Zamo a0) (fun x1 h2 => ?_)
  refine tO (fun h3 => ?_) (fun h3 => ?_)
  ·exact tR (SzT.nil)
  ·exact tL ⟨cl, cl, cl⟩ tk91
 ·intro s hs
  cases s with
  | L0 v0 v3 v4 =>
   obtain ⟨cv4, i0, i1⟩ := hs
   show Tot (Z02 v0 v3 v4).den _
   dsimp only [Z02, LT.den]
   refine tD (fun h1 => ?_) (fun h1 => ?_)
   ·refine tE (fun h2 => ?_) (fun h2 => ?_)
    ·refine tO (fun h3 => ?_) (fun h3 => ?_)
     ·refine tB (tK Zcz) (fun x4 h5 => ?_)
      refine tB (Zyj v4) (fun x6 h7 => ?_)
      have q8 : x6.length ≤ 100 := h7
      refine tB (tK Zcz) (fun x9 h10 => ?_)
      refine qw (v4 + 1) fun q11 q12 => ?_
      exact tL ⟨cl, cl, cl⟩ tk91
     ·refine tB (Zyj v4) (fun x13 h14 => ?_)
      have q15 : x13.length ≤ 100 := h14
      refine tB (tK Zcz) (fun x16 h17 => ?_)
      refine qw (v4 + 1) fun q18 q19 => ?_
      exact tL ⟨cl, cl, cl⟩ tk91
    ·refine qw (v4 + 1) fun q20 q21 => ?_
     exact tL ⟨cl, cl, cl⟩ tk91
   ·refine tF (fun h22 => ?_) (fun h22 => ?_)
    ·exact tR Zn1
    ·exact tR Zn1
theorem Zac7 : Tot (Zm5) (fun r => ((SzL 16 SzN) r) ∧ (r.length = 6)) := by
 unfold Zm5
 refine tZ ?_
 dsimp only [Zzn, LT.den]
 have q1 : (SzL 16 SzN) ([([] : List UInt8), ([105, 110, 45, 104, 97, 110, 100] : List UInt8), ([105, 110, 45, 108, 105, 98, 114, 97, 114, 121] : List UInt8), ([105, 110, 45, 103, 114, 97, 118, 101, 121, 97, 114, 100] : List UInt8), ([105, 110, 45, 101, 120, 105, 108, 101] : List UInt8), ([111, 110, 45, 115, 116, 97, 99, 107] : List UInt8)] : (List (List UInt8))) := ⟨by simp only [List.length_cons, List.length_nil]; omega, (mem_cons' (SzN.nil) (mem_cons' Zam (mem_cons' Zam (mem_cons' Zam (mem_cons' Zam (mem_cons' Zam (fun _ h => by cases h)))))))⟩
 have lq1 : ([([] : List UInt8), ([105, 110, 45, 104, 97, 110, 100] : List UInt8), ([105, 110, 45, 108, 105, 98, 114, 97, 114, 121] : List UInt8), ([105, 110, 45, 103, 114, 97, 118, 101, 121, 97, 114, 100] : List UInt8), ([105, 110, 45, 101, 120, 105, 108, 101] : List UInt8), ([111, 110, 45, 115, 116, 97, 99, 107] : List UInt8)] : (List (List UInt8))).length = 6 := rfl
 exact tR ⟨q1, cl⟩
theorem Zahx : Tot (Zo6) (fun r => ((SzL 16 SzN) r) ∧ (r.length = 3)) := by
 unfold Zo6
 refine tZ ?_
 dsimp only [Z2w, LT.den]
 have q1 : (SzL 16 SzN) ([([] : List UInt8), ([121, 111, 117, 114, 115] : List UInt8), ([116, 104, 101, 105, 114, 115] : List UInt8)] : (List (List UInt8))) := ⟨by simp only [List.length_cons, List.length_nil]; omega, (mem_cons' (SzN.nil) (mem_cons' Zam (mem_cons' Zam (fun _ h => by cases h))))⟩
 have lq1 : ([([] : List UInt8), ([121, 111, 117, 114, 115] : List UInt8), ([116, 104, 101, 105, 114, 115] : List UInt8)] : (List (List UInt8))).length = 3 := rfl
 exact tR ⟨q1, cl⟩
theorem Zac8 : Tot (Zm6) (fun r => ((SzL 16 SzN) r) ∧ (r.length = 3)) := by
 unfold Zm6
 refine tZ ?_
 dsimp only [Zzp, LT.den]
 have q1 : (SzL 16 SzN) ([([] : List UInt8), ([115, 101, 108, 102] : List UInt8), ([111, 116, 104, 101, 114] : List UInt8)] : (List (List UInt8))) := ⟨by simp only [List.length_cons, List.length_nil]; omega, (mem_cons' (SzN.nil) (mem_cons' Zam (mem_cons' Zam (fun _ h => by cases h))))⟩
 have lq1 : ([([] : List UInt8), ([115, 101, 108, 102] : List UInt8), ([111, 116, 104, 101, 114] : List UInt8)] : (List (List UInt8))).length = 3 := rfl
 exact tR ⟨q1, cl⟩
theorem Zahy : Tot (Zo7) (fun r => ((SzL 16 SzN) r) ∧ (r.length = 3)) := by
 unfold Zo7
 refine tZ ?_
 dsimp only [Z2y, LT.den]
 have q1 : (SzL 16 SzN) ([([] : List UInt8), ([116, 97, 112, 112, 101, 100] : List UInt8), ([117, 110, 116, 97, 112, 112, 101, 100] : List UInt8)] : (List (List UInt8))) := ⟨by simp only [List.length_cons, List.length_nil]; omega, (mem_cons' (SzN.nil) (mem_cons' Zam (mem_cons' Zam (fun _ h => by cases h))))⟩
 have lq1 : ([([] : List UInt8), ([116, 97, 112, 112, 101, 100] : List UInt8), ([117, 110, 116, 97, 112, 112, 101, 100] : List UInt8)] : (List (List UInt8))).length = 3 := rfl
 exact tR ⟨q1, cl⟩
def Zazl : Zs4 → Prop
 | .L0 v0 v1 v5 => (0 ≤ v5) ∧ (v1 ≤ 100)
def Z57 : Zs4 → M6
 | .L0 v0 v1 v5 => (1, (v1 - v5).toNat, 1000000, 0, 0, 0)
theorem Zm3 (a0 : Int) (a1 : Int) (h0 : a1 ≤ 100) : Tot (Zaos a0 a1) (fun r => True) := by
 unfold Zaos
 refine tX (Inv := Zazl) (μ := Z57) (m := (1000000, 0, 0, 0, 0, 0)) ?_ ?_
 ·dsimp only [Zaqv, LT.den]
  exact tL ⟨cl, cl⟩ (by unfold Z57 lt6; dsimp only; omega)
 ·intro s hs
  cases s with
  | L0 v0 v1 v5 =>
   obtain ⟨cv5, i0⟩ := hs
   show Tot (Z42 v0 v1 v5).den _
   dsimp only [Z42, LT.den]
   refine tD (fun h1 => ?_) (fun h1 => ?_)
   ·refine qw (v5 + 1) fun q2 q3 => ?_
    exact tL ⟨cl, cl⟩ (by unfold Z57 lt6; dsimp only; omega)
   ·exact tR trivial
def Zahz : Zid → Prop
 | .L0 v0 v3 v4 => (0 ≤ v4) ∧ (v0 ≤ 100)
def Zqf : Zid → M6
 | .L0 v0 v3 v4 => (1, (v0 - v4).toNat, 1000000, 0, 0, 0)
theorem Zyk (a0 : Int) (h0 : a0 ≤ 100) : Tot (Zwq a0) (fun r => (SzT r) ∧ (r.length ≤ 20000)) := by
 unfold Zwq
 refine tX (Inv := Zahz) (μ := Zqf) (m := (1000000, 0, 0, 0, 0, 0)) ?_ ?_
 ·dsimp only [Z20, LT.den]
  exact tL ⟨cl, cl⟩ (by unfold Zqf lt6; dsimp only; omega)
 ·intro s hs
  cases s with
  | L0 v0 v3 v4 =>
   obtain ⟨cv4, i0⟩ := hs
   show Tot (Zo9 v0 v3 v4).den _
   dsimp only [Zo9, LT.den]
   refine tD (fun h1 => ?_) (fun h1 => ?_)
   ·refine qw (v3 * 2) fun q2 q3 => ?_
    refine qw (v4 + 1) fun q4 q5 => ?_
    exact tL ⟨cl, cl⟩ (by unfold Zqf lt6; dsimp only; omega)
   ·refine tB (Zl3 v3) (fun x6 h7 => ?_)
    have eh7_1 := h7.2
    exact tR ⟨h7.1, cl⟩
theorem Zase : Tot (Zzs) (fun r => ((SzL 16 SzN) r) ∧ (r.length = 4)) := by
 unfold Zzs
 refine tZ ?_
 dsimp only [Zads, LT.den]
 have q1 : (SzL 16 SzN) ([([] : List UInt8), ([62, 61] : List UInt8), ([60, 61] : List UInt8), ([61] : List UInt8)] : (List (List UInt8))) := ⟨by simp only [List.length_cons, List.length_nil]; omega, (mem_cons' (SzN.nil) (mem_cons' Zam (mem_cons' Zam (mem_cons' Zam (fun _ h => by cases h)))))⟩
 have lq1 : ([([] : List UInt8), ([62, 61] : List UInt8), ([60, 61] : List UInt8), ([61] : List UInt8)] : (List (List UInt8))).length = 4 := rfl
 exact tR ⟨q1, cl⟩
theorem Za7l {n : Int} (h0 : 0 ≤ n) (h1 : n < 18446744073709551616) : Zko .u64 n 10 = n / 10 := by
 unfold Zko
 rw [Int.tdiv_eq_ediv_of_nonneg h0]
 have h2 : 0 ≤ n / 10 := by omega
 have h3 : n / 10 < 18446744073709551616 := by omega
 simp only [IntKind.wrap, IntKind.bits, IntKind.signed, Bool.false_and, Bool.false_eq_true, if_false]
 exact Int.emod_eq_of_lt h2 h3
theorem Z0f : ∀ (k : Nat) (n : Int) (s : List UInt8), k ≤ 20 → 0 ≤ n → n < 10 ^ k → n < 18446744073709551616 → s.length + k ≤ 40 → Tot (Zca Zpa.step (.L0 n s)) fun r => SzN r ∧ r.length ≤ 40
 | 0, n, s, _, h0, h1, _, hs => by
  have : n = 0 := by omega
  subst this
  refine Tot.stop (r := s) ?_ ⟨show s.length ≤ 100 by omega, by omega⟩
  show (Zf1 _ _).den = _
  dsimp only [Zf1, LT.den]
  rfl
 | k + 1, n, s, hk, h0, h1, h2, hs => by
  by_cases hn : n > 0
  ·obtain ⟨d, hd, hl⟩ := Tot.str (xs := [IntKind.wrap .u8 (IntKind.wrap .u64 (48 + (Int.tmod n 10)))]) (by simp) tk36
   simp only [List.length_cons, List.length_nil] at hl
   have e : Zpa.step (.L0 n s) = some (.inl (.L0 (n / 10) (d ++ s))) := by
    show (Zf1 _ _).den = _
    dsimp only [Zf1, LT.den]
    rw [decide_eq_true hn, cond_true, hd, Option.bind_some, decide_eq_true (show d.length + s.length ≤ 9223372036854775807 by omega), Za7l h0 h2]
    rfl
   obtain ⟨r, hr, hp⟩ := Z0f k (n / 10) (d ++ s) (by omega) (by omega) (by
    rw [Int.pow_succ] at h1
    have : n / 10 < 10 ^ k := Int.ediv_lt_of_lt_mul (by decide) h1
    exact this) (by omega) (by rw [List.length_append]; omega)
   exact ⟨r, by rw [Ze8 e]; exact hr, hp⟩
  ·refine Tot.stop (r := s) ?_ ⟨show s.length ≤ 100 by omega, by omega⟩
   show (Zf1 _ _).den = _
   dsimp only [Zf1, LT.den]
   rw [decide_eq_false hn]; rfl
theorem Z32 (a0 : Int) (h0 : 0 ≤ a0) (h1 : a0 < 18446744073709551616) : Tot (Z43 a0) (fun r => (SzN r) ∧ (r.length ≤ 40)) := by
 unfold Z43 LF.run; dsimp only [Z88, LT.den]
 obtain ⟨d, hd, hl⟩ := Tot.str (xs := [IntKind.wrap .u8 (IntKind.wrap .u64 (48 + (Int.tmod a0 10)))]) (by simp) tk36
 simp only [List.length_cons, List.length_nil] at hl
 rw [hd, Option.bind_some, Option.bind_some, Zhx, Za7l h0 h1]
 exact Z0f 20 (a0 / 10) d (by omega) (by omega) (by omega) (by omega) (by omega)
theorem Zip (a0 : Int) : Tot (Zagr a0) (fun r => (SzN r)) := by
 unfold Zagr
 refine tZ ?_
 dsimp only [Zakd, LT.den]
 refine tD (fun h1 => ?_) (fun h1 => ?_)
 ·have q2 : 0 ≤ IntKind.wrap .u64 a0 ∧ IntKind.wrap .u64 a0 < 18446744073709551616 := Zaon _
  have q3 : 0 ≤ IntKind.wrap .u64 (0 - (IntKind.wrap .u64 a0)) ∧ IntKind.wrap .u64 (0 - (IntKind.wrap .u64 a0)) < 18446744073709551616 := Zaon _
  refine tB (Z32 (IntKind.wrap .u64 (0 - (IntKind.wrap .u64 a0))) cl cl) (fun x4 h5 => ?_)
  have eh5_1 := h5.2
  have q6 : x4.length ≤ 100 := h5.1
  refine tB (tK Zcz) (fun x7 h8 => ?_)
  exact tR Zam
 ·have q9 : 0 ≤ IntKind.wrap .u64 a0 ∧ IntKind.wrap .u64 a0 < 18446744073709551616 := Zaon _
  refine tB (Z32 (IntKind.wrap .u64 a0) cl cl) (fun x10 h11 => ?_)
  have eh11_1 := h11.2
  exact tR h11.1
theorem Zl4 (a0 : (List UInt8)) (a1 : Zd) (oa0 : SzN a0) (h0 : 0 ≤ a1.Kind) (h1 : a1.Kind ≤ 3) : Tot (Zt8 a0 a1) (fun r => (SzT r)) := by
 unfold Zt8
 refine tZ ?_
 have lb_a0 : a0.length ≤ 100 := oa0
 dsimp only [Zzt, LT.den]
 refine tE (fun h1 => ?_) (fun h1 => ?_)
 ·exact tR (SzT.nil)
 ·refine tB (Zase) (fun x2 h3 => ?_)
  have eh3_1 := h3.2
  refine tB (tI (by omega) (by omega)) (fun x4 h5 => ?_)
  have oh5 : SzN x4 := h3.1.2 x4 h5.1
  have q6 : a0.length ≤ 100 := oa0
  have q7 : x4.length ≤ 100 := oh5
  refine tB (tK Zcz) (fun x8 h9 => ?_)
  refine tB (Zip a1.N) (fun x10 h11 => ?_)
  have q12 : x10.length ≤ 100 := h11
  refine tB (tK Zcz) (fun x13 h14 => ?_)
  exact tR Zn1
def Zaxm : Zpb → Prop
 | .L0 v0 v1 v5 v6 => ((SzL 16 SzT) v0) ∧ (SzN v1) ∧ (0 ≤ v6) ∧ (v5.length ≤ 1125899906842624 * v6.toNat) ∧ (v0.length ≤ 100) ∧ (v6 ≤ v0.length)
def Zafw : Zpb → M6
 | .L0 v0 v1 v5 v6 => (1, ((v0.length : Int) - v6).toNat, 1000000, 0, 0, 0)
theorem Zaxn (a0 : (List (List UInt8))) (a1 : (List UInt8)) (oa0 : (SzL 16 SzT) a0) (oa1 : SzN a1) (h0 : a0.length ≤ 100) : Tot (Zags a0 a1) (fun r => (r.length ≤ 144115188075855872)) := by
 unfold Zags
 refine tX (Inv := Zaxm) (μ := Zafw) (m := (1000000, 0, 0, 0, 0, 0)) ?_ ?_
 ·have lb_a0 := oa0.1
  have lb_a1 : a1.length ≤ 100 := oa1
  dsimp only [Zakf, LT.den]
  exact tL ⟨oa0, oa1, cl, cl, cl, cl⟩ tk92
 ·intro s hs
  cases s with
  | L0 v0 v1 v5 v6 =>
   obtain ⟨ov0, ov1, cv6, i0, i1, i2⟩ := hs
   have lb_v0 := ov0.1
   have lb_v1 : v1.length ≤ 100 := ov1
   show Tot (Z03 v0 v1 v5 v6).den _
   dsimp only [Z03, LT.den]
   have q1 := ov0.1
   refine tD (fun h2 => ?_) (fun h2 => ?_)
   ·refine tD (fun h3 => ?_) (fun h3 => ?_)
    ·have q4 : v1.length ≤ 100 := ov1
     refine tB (tK Zcz) (fun x5 h6 => ?_)
     refine tB (tI (by omega) (by omega)) (fun x7 h8 => ?_)
     have oh8 : SzT x7 := ov0.2 x7 h8.1
     have q9 : x7.length ≤ 562949953421312 := oh8
     refine tB (tK Zcz) (fun x10 h11 => ?_)
     refine qw (v6 + 1) fun q12 q13 => ?_
     exact tL ⟨ov0, ov1, cl, cl, cl, cl⟩ tk92
    ·refine tB (tI (by omega) (by omega)) (fun x14 h15 => ?_)
     have oh15 : SzT x14 := ov0.2 x14 h15.1
     have q16 : x14.length ≤ 562949953421312 := oh15
     refine tB (tK Zcz) (fun x17 h18 => ?_)
     refine qw (v6 + 1) fun q19 q20 => ?_
     exact tL ⟨ov0, ov1, cl, cl, cl, cl⟩ tk92
   ·exact tR cl
theorem Zei (b0 : (List (List UInt8))) (a1 : (List UInt8)) (ob0 : (SzL 16 SzT) b0) (oa1 : SzT a1) (h0 : b0.length ≤ 1000) : Tot (Zws b0 a1) (fun r => ((SzL 16 SzT) r) ∧ (r.length ≤ b0.length + 1)) := by
 unfold Zws
 refine tZ ?_
 have lb_b0 := ob0.1
 have lb_a1 : a1.length ≤ 562949953421312 := oa1
 dsimp only [Z22, LT.den]
 refine tF (fun h1 => ?_) (fun h1 => ?_)
 ·exact tR ⟨ob0, cl⟩
 ·have q2 : (SzL 16 SzT) ([a1] : (List (List UInt8))) := ⟨by simp only [List.length_cons, List.length_nil]; omega, (mem_cons' oa1 (fun _ h => by cases h))⟩
  have q5 := ob0.1
  refine tB (tA Zdt (by decide)) (fun x3 h4 => ?_)
  have lh4 : x3.length = b0.length + 1 := by rw [h4, List.length_append]; rfl
  exact tR ⟨(SzL.app (k := 16) h4 lo ob0.2 q2.2), cl⟩
def Zyl : Zfi → Prop
 | .L0 E0 v6 v7 v8 => (Zan E0) ∧ ((SzL 16 SzN) v6) ∧ ((SzL 16 SzT) v7) ∧ (0 ≤ v8) ∧ (v7.length ≤ 3 + v8.toNat) ∧ (v8 ≤ 6) ∧ (v6.length = 3) ∧ (0 ≤ E0.Tap ∧ E0.Tap ≤ 2 ∧ 0 ≤ E0.Power.Kind ∧ E0.Power.Kind ≤ 3 ∧ 0 ≤ E0.Tough.Kind ∧ E0.Tough.Kind ≤ 3 ∧ 0 ≤ E0.Value.Kind ∧ E0.Value.Kind ≤ 3)
 | .L1 E0 v6 v7 v9 => (Zan E0) ∧ ((SzL 16 SzN) v6) ∧ ((SzL 16 SzT) v7) ∧ (0 ≤ v9) ∧ (v7.length ≤ 9 + v9.toNat) ∧ (v9 ≤ 6) ∧ (v6.length = 3) ∧ (0 ≤ E0.Tap ∧ E0.Tap ≤ 2 ∧ 0 ≤ E0.Power.Kind ∧ E0.Power.Kind ≤ 3 ∧ 0 ≤ E0.Tough.Kind ∧ E0.Tough.Kind ≤ 3 ∧ 0 ≤ E0.Value.Kind ∧ E0.Value.Kind ≤ 3)
 | .L2 E0 v6 v7 v10 => (Zan E0) ∧ ((SzL 16 SzN) v6) ∧ ((SzL 16 SzT) v7) ∧ (0 ≤ v10) ∧ (v7.length ≤ 15 + v10.toNat) ∧ (v10 ≤ 5) ∧ (v6.length = 3) ∧ (0 ≤ E0.Tap ∧ E0.Tap ≤ 2 ∧ 0 ≤ E0.Power.Kind ∧ E0.Power.Kind ≤ 3 ∧ 0 ≤ E0.Tough.Kind ∧ E0.Tough.Kind ≤ 3 ∧ 0 ≤ E0.Value.Kind ∧ E0.Value.Kind ≤ 3)
 | .L3 E0 v6 v7 v11 => (Zan E0) ∧ ((SzL 16 SzN) v6) ∧ ((SzL 16 SzT) v7) ∧ (0 ≤ v11) ∧ (v7.length ≤ 20 + v11.toNat) ∧ (v11 ≤ 5) ∧ (v6.length = 3) ∧ (0 ≤ E0.Tap ∧ E0.Tap ≤ 2 ∧ 0 ≤ E0.Power.Kind ∧ E0.Power.Kind ≤ 3 ∧ 0 ≤ E0.Tough.Kind ∧ E0.Tough.Kind ≤ 3 ∧ 0 ≤ E0.Value.Kind ∧ E0.Value.Kind ≤ 3)
 | .L4 E0 v6 v7 => (Zan E0) ∧ ((SzL 16 SzN) v6) ∧ ((SzL 16 SzT) v7) ∧ (v7.length ≤ 26) ∧ (v6.length = 3) ∧ (0 ≤ E0.Tap ∧ E0.Tap ≤ 2 ∧ 0 ≤ E0.Power.Kind ∧ E0.Power.Kind ≤ 3 ∧ 0 ≤ E0.Tough.Kind ∧ E0.Tough.Kind ≤ 3 ∧ 0 ≤ E0.Value.Kind ∧ E0.Value.Kind ≤ 3)
 | .L5 E0 v6 v7 v12 => (Zan E0) ∧ ((SzL 16 SzN) v6) ∧ ((SzL 16 SzT) v7) ∧ (0 ≤ v12) ∧ (v7.length ≤ 26 + v12.toNat) ∧ (v12 ≤ 17) ∧ (v6.length = 3) ∧ (0 ≤ E0.Tap ∧ E0.Tap ≤ 2 ∧ 0 ≤ E0.Power.Kind ∧ E0.Power.Kind ≤ 3 ∧ 0 ≤ E0.Tough.Kind ∧ E0.Tough.Kind ≤ 3 ∧ 0 ≤ E0.Value.Kind ∧ E0.Value.Kind ≤ 3)
def Zgo : Zfi → M6
 | .L0 E0 v6 v7 v8 => (9, (6 - v8).toNat, 1000000, 0, 0, 0)
 | .L1 E0 v6 v7 v9 => (7, (6 - v9).toNat, 1000000, 0, 0, 0)
 | .L2 E0 v6 v7 v10 => (5, (5 - v10).toNat, 1000000, 0, 0, 0)
 | .L3 E0 v6 v7 v11 => (3, (5 - v11).toNat, 1000000, 0, 0, 0)
 | .L4 E0 v6 v7 => (2, 0, 0, 0, 0, 0)
 | .L5 E0 v6 v7 v12 => (1, (17 - v12).toNat, 1000000, 0, 0, 0)
theorem Zqg (E0 : Ze) (v6 : (List (List UInt8))) (v7 : (List (List UInt8))) (h : Zyl (.L4 E0 v6 v7)) : Tot (Zmg E0 v6 v7).den (Nx Zyl Zgo (2, 0, 0, 0, 0, 0) (fun r => (r.length ≤ 144115188075855872))) := by
 obtain ⟨O0, ov6, ov7, i0, i1, i2⟩ := h
 have lb_v6 := ov6.1
 have lb_v7 := ov7.1
 dsimp only [Zmg, LT.den]
 exact tL ⟨O0, ov6, ov7, cl, cl, cl, cl, cl⟩ Zn3
theorem Zaxo (a0 : Ze) (oa0 : Zan a0) : Tot (Zagt a0) (fun r => (r.length ≤ 144115188075855872)) := by
 unfold Zagt
 refine tX (Inv := Zyl) (μ := Zgo) (m := (1000000, 0, 0, 0, 0, 0)) ?_ ?_
 ·dsimp only [Zakh, LT.den]
  refine tB (Zdv a0 oa0) (fun x1 h2 => ?_)
  have eh2_0 := h2.1
  have eh2_1 := h2.2
  refine tO (fun h3 => ?_) (fun h3 => ?_)
  ·exact tR cl
  ·have h3_0 := eh2_0 h3
   refine tB (Zac7) (fun x4 h5 => ?_)
   have eh5_1 := h5.2
   refine tB (Zahx) (fun x6 h7 => ?_)
   have eh7_1 := h7.2
   refine tB (Zac8) (fun x8 h9 => ?_)
   have eh9_1 := h9.2
   refine tB (Zahy) (fun x10 h11 => ?_)
   have eh11_1 := h11.2
   refine tB (tI (by omega) (by omega)) (fun x12 h13 => ?_)
   have oh13 : SzN x12 := h5.1.2 x12 h13.1
   refine tB (Zei ([] : (List (List UInt8))) x12 SzL.nil (SzN.t oh13) cl) (fun x14 h15 => ?_)
   have eh15_1 := h15.2
   try simp only [List.length_nil, List.length_cons, Nat.zero_add] at eh15_1
   refine tB (tI (by omega) (by omega)) (fun x16 h17 => ?_)
   have oh17 : SzN x16 := h7.1.2 x16 h17.1
   refine tB (Zei x14 x16 h15.1 (SzN.t oh17) cl) (fun x18 h19 => ?_)
   have eh19_1 := h19.2
   refine tB (tI (by omega) (by omega)) (fun x20 h21 => ?_)
   have oh21 : SzN x20 := h9.1.2 x20 h21.1
   refine tB (Zei x18 x20 h19.1 (SzN.t oh21) cl) (fun x22 h23 => ?_)
   have eh23_1 := h23.2
   exact tL ⟨oa0, h11.1, h23.1, cl, cl, cl, cl, cl⟩ Zn3
 ·intro s hs
  cases s with
  | L0 E0 v6 v7 v8 =>
   obtain ⟨O0, ov6, ov7, cv8, i0, i1, i2, i3⟩ := hs
   have lb_v6 := ov6.1
   have lb_v7 := ov7.1
   show Tot (Z04 E0 v6 v7 v8).den _
   dsimp only [Z04, LT.den, Zgo]
   refine tD (fun h1 => ?_) (fun h1 => ?_)
   ·refine tB (Zm3 E0.Types v8 cl) (fun x2 h3 => ?_)
    refine tF (fun h4 => ?_) (fun h4 => ?_)
    ·refine tB (Zyk v8 cl) (fun x5 h6 => ?_)
     have eh6_1 := h6.2
     have q7 : (SzL 16 SzT) ([x5] : (List (List UInt8))) := ⟨by simp only [List.length_cons, List.length_nil]; omega, (mem_cons' h6.1 (fun _ h => by cases h))⟩
     have q10 := ov7.1
     refine tB (tA Zdt (by decide)) (fun x8 h9 => ?_)
     have lh9 : x8.length = v7.length + 1 := by rw [h9, List.length_append]; rfl
     refine qw (v8 + 1) fun q11 q12 => ?_
     exact tL ⟨O0, ov6, (SzL.app (k := 16) h9 lo ov7.2 q7.2), cl, cl, cl, cl, cl⟩ Zn3
    ·refine qw (v8 + 1) fun q13 q14 => ?_
     exact tL ⟨O0, ov6, ov7, cl, cl, cl, cl, cl⟩ Zn3
   ·exact tL ⟨O0, ov6, ov7, cl, cl, cl, cl, cl⟩ Zn3
  | L1 E0 v6 v7 v9 =>
   obtain ⟨O0, ov6, ov7, cv9, i0, i1, i2, i3⟩ := hs
   have lb_v6 := ov6.1
   have lb_v7 := ov7.1
   show Tot (Z05 E0 v6 v7 v9).den _
   dsimp only [Z05, LT.den, Zgo]
   refine tD (fun h1 => ?_) (fun h1 => ?_)
   ·refine tB (Zm3 E0.NotTypes v9 cl) (fun x2 h3 => ?_)
    refine tF (fun h4 => ?_) (fun h4 => ?_)
    ·refine tB (Zyk v9 cl) (fun x5 h6 => ?_)
     have eh6_1 := h6.2
     have q7 : x5.length ≤ 562949953421312 := h6.1
     refine tB (tK Zcz) (fun x8 h9 => ?_)
     have q10 : (SzL 16 SzT) ([(([110, 111, 110, 45] : List UInt8) ++ x5)] : (List (List UInt8))) := ⟨by simp only [List.length_cons, List.length_nil]; omega, (mem_cons' Zn1 (fun _ h => by cases h))⟩
     have q13 := ov7.1
     refine tB (tA Zdt (by decide)) (fun x11 h12 => ?_)
     have lh12 : x11.length = v7.length + 1 := by rw [h12, List.length_append]; rfl
     refine qw (v9 + 1) fun q14 q15 => ?_
     exact tL ⟨O0, ov6, (SzL.app (k := 16) h12 lo ov7.2 q10.2), cl, cl, cl, cl, cl⟩ Zn3
    ·refine qw (v9 + 1) fun q16 q17 => ?_
     exact tL ⟨O0, ov6, ov7, cl, cl, cl, cl, cl⟩ Zn3
   ·exact tL ⟨O0, ov6, ov7, cl, cl, cl, cl, cl⟩ Zn3
  | L2 E0 v6 v7 v10 =>
   obtain ⟨O0, ov6, ov7, cv10, i0, i1, i2, i3⟩ := hs
   have lb_v6 := ov6.1
   have lb_v7 := ov7.1
   show Tot (Z06 E0 v6 v7 v10).den _
   dsimp only [Z06, LT.den, Zgo]
   refine tD (fun h1 => ?_) (fun h1 => ?_)
   ·refine tB (Zm3 E0.Colors v10 cl) (fun x2 h3 => ?_)
    refine tF (fun h4 => ?_) (fun h4 => ?_)
    ·refine tB (Zqe v10) (fun x5 h6 => ?_)
     have q7 : (SzL 16 SzN) ([x5] : (List (List UInt8))) := ⟨by simp only [List.length_cons, List.length_nil]; omega, (mem_cons' h6 (fun _ h => by cases h))⟩
     have q10 := ov7.1
     refine tB (tA Zdt (by decide)) (fun x8 h9 => ?_)
     have lh9 : x8.length = v7.length + 1 := by rw [h9, List.length_append]; rfl
     refine qw (v10 + 1) fun q11 q12 => ?_
     exact tL ⟨O0, ov6, (SzL.app (k := 16) h9 lo ov7.2 (SzL.nt q7).2), cl, cl, cl, cl, cl⟩ Zn3
    ·refine qw (v10 + 1) fun q13 q14 => ?_
     exact tL ⟨O0, ov6, ov7, cl, cl, cl, cl, cl⟩ Zn3
   ·exact tL ⟨O0, ov6, ov7, cl, cl, cl, cl, cl⟩ Zn3
  | L3 E0 v6 v7 v11 =>
   obtain ⟨O0, ov6, ov7, cv11, i0, i1, i2, i3⟩ := hs
   have lb_v6 := ov6.1
   have lb_v7 := ov7.1
   show Tot (Z07 E0 v6 v7 v11).den _
   dsimp only [Z07, LT.den, Zgo]
   refine tD (fun h1 => ?_) (fun h1 => ?_)
   ·refine tB (Zm3 E0.NotColors v11 cl) (fun x2 h3 => ?_)
    refine tF (fun h4 => ?_) (fun h4 => ?_)
    ·refine tB (Zqe v11) (fun x5 h6 => ?_)
     have q7 : x5.length ≤ 100 := h6
     refine tB (tK Zcz) (fun x8 h9 => ?_)
     have q10 : (SzL 16 SzT) ([(([110, 111, 110, 45] : List UInt8) ++ x5)] : (List (List UInt8))) := ⟨by simp only [List.length_cons, List.length_nil]; omega, (mem_cons' Zn1 (fun _ h => by cases h))⟩
     have q13 := ov7.1
     refine tB (tA Zdt (by decide)) (fun x11 h12 => ?_)
     have lh12 : x11.length = v7.length + 1 := by rw [h12, List.length_append]; rfl
     refine qw (v11 + 1) fun q14 q15 => ?_
     exact tL ⟨O0, ov6, (SzL.app (k := 16) h12 lo ov7.2 q10.2), cl, cl, cl, cl, cl⟩ Zn3
    ·refine qw (v11 + 1) fun q16 q17 => ?_
     exact tL ⟨O0, ov6, ov7, cl, cl, cl, cl, cl⟩ Zn3
   ·refine tO (fun h18 => ?_) (fun h18 => ?_)
    ·have q19 : E0.Sub.length ≤ 281474976710656 := O0
     refine tB (tK Zcz) (fun x20 h21 => ?_)
     have q22 : (SzL 16 SzT) ([(([115, 117, 98, 58] : List UInt8) ++ E0.Sub)] : (List (List UInt8))) := ⟨by simp only [List.length_cons, List.length_nil]; omega, (mem_cons' Zn1 (fun _ h => by cases h))⟩
     have q25 := ov7.1
     refine tB (tA Zdt (by decide)) (fun x23 h24 => ?_)
     have lh24 : x23.length = v7.length + 1 := by rw [h24, List.length_append]; rfl
     exact tJ (Zqg E0 v6 x23 ⟨O0, ov6, (SzL.app (k := 16) h24 lo ov7.2 q22.2), cl, cl, cl⟩)
    ·exact tJ (Zqg E0 v6 v7 ⟨O0, ov6, ov7, cl, cl, cl⟩)
  | L4 E0 v6 v7 => exact Zqg E0 v6 v7 hs
  | L5 E0 v6 v7 v12 =>
   obtain ⟨O0, ov6, ov7, cv12, i0, i1, i2, i3⟩ := hs
   have lb_v6 := ov6.1
   have lb_v7 := ov7.1
   show Tot (Z08 E0 v6 v7 v12).den _
   dsimp only [Z08, LT.den, Zgo]
   refine tD (fun h1 => ?_) (fun h1 => ?_)
   ·refine tB (Zm3 E0.Keys v12 cl) (fun x2 h3 => ?_)
    refine tF (fun h4 => ?_) (fun h4 => ?_)
    ·refine tB (Zyj v12) (fun x5 h6 => ?_)
     have q7 : x5.length ≤ 100 := h6
     refine tB (tK Zcz) (fun x8 h9 => ?_)
     have q10 : (SzL 16 SzT) ([(([119, 105, 116, 104, 58] : List UInt8) ++ x5)] : (List (List UInt8))) := ⟨by simp only [List.length_cons, List.length_nil]; omega, (mem_cons' Zn1 (fun _ h => by cases h))⟩
     have q13 := ov7.1
     refine tB (tA Zdt (by decide)) (fun x11 h12 => ?_)
     have lh12 : x11.length = v7.length + 1 := by rw [h12, List.length_append]; rfl
     refine qw (v12 + 1) fun q14 q15 => ?_
     exact tL ⟨O0, ov6, (SzL.app (k := 16) h12 lo ov7.2 q10.2), cl, cl, cl, cl, cl⟩ Zn3
    ·refine qw (v12 + 1) fun q16 q17 => ?_
     exact tL ⟨O0, ov6, ov7, cl, cl, cl, cl, cl⟩ Zn3
   ·refine tB (tI (by omega) (by omega)) (fun x18 h19 => ?_)
    have oh19 : SzN x18 := ov6.2 x18 h19.1
    refine tB (Zei v7 x18 ov7 (SzN.t oh19) cl) (fun x20 h21 => ?_)
    have eh21_1 := h21.2
    refine tB (Zl4 ([112, 111, 119, 101, 114] : List UInt8) E0.Power Zam cl cl) (fun x22 h23 => ?_)
    refine tB (Zei x20 x22 h21.1 h23 cl) (fun x24 h25 => ?_)
    have eh25_1 := h25.2
    refine tB (Zl4 ([116, 111, 117, 103, 104] : List UInt8) E0.Tough Zam cl cl) (fun x26 h27 => ?_)
    refine tB (Zei x24 x26 h25.1 h27 cl) (fun x28 h29 => ?_)
    have eh29_1 := h29.2
    refine tB (Zl4 ([118, 97, 108, 117, 101] : List UInt8) E0.Value Zam cl cl) (fun x30 h31 => ?_)
    refine tB (Zei x28 x30 h29.1 h31 cl) (fun x32 h33 => ?_)
    have eh33_1 := h33.2
    have q34 := h33.1.1
    refine tE (fun h35 => ?_) (fun h35 => ?_)
    ·exact tR cl
    ·refine tB (Zaxn x32 ([32] : List UInt8) h33.1 Zam cl) (fun x36 h37 => ?_)
     have eh37_0 := h37
     exact tR cl
theorem Zabu (a0 : Zr) (oa0 : Zat a0) : Tot (Zagu a0) (fun r => (r.length ≤ 288230376151711744)) := by
 unfold Zagu
 refine tZ ?_
 dsimp only [Zakj, LT.den]
 refine tB (Z56 a0 oa0) (fun x1 h2 => ?_)
 refine tO (fun h3 => ?_) (fun h3 => ?_)
 ·exact tR cl
 ·refine tE (fun h4 => ?_) (fun h4 => ?_)
  ·exact tR cl
  ·refine tE (fun h5 => ?_) (fun h5 => ?_)
   ·refine tB (Zl3 a0.N) (fun x6 h7 => ?_)
    have eh7_1 := h7.2
    have q8 : x6.length ≤ 562949953421312 := h7.1
    refine tB (tK Zcz) (fun x9 h10 => ?_)
    exact tR cl
   ·refine tE (fun h11 => ?_) (fun h11 => ?_)
    ·refine tB (Zl3 a0.N) (fun x12 h13 => ?_)
     have eh13_1 := h13.2
     have q14 : x12.length ≤ 562949953421312 := h13.1
     refine tB (tK Zcz) (fun x15 h16 => ?_)
     exact tR cl
    ·refine tE (fun h17 => ?_) (fun h17 => ?_)
     ·have q18 : a0.Sub.length ≤ 281474976710656 := oa0.1
      refine tB (tK Zcz) (fun x19 h20 => ?_)
      exact tR cl
     ·refine tE (fun h21 => ?_) (fun h21 => ?_)
      ·have q22 : a0.Sub.length ≤ 281474976710656 := oa0.1
       refine tB (tK Zcz) (fun x23 h24 => ?_)
       exact tR cl
      ·refine tE (fun h25 => ?_) (fun h25 => ?_)
       ·refine tB (Zabs a0.N) (fun x26 h27 => ?_)
        have q28 : x26.length ≤ 562949953421312 := h27
        refine tB (tK Zcz) (fun x29 h30 => ?_)
        exact tR cl
       ·refine tE (fun h31 => ?_) (fun h31 => ?_)
        ·refine tB (Zabs a0.N) (fun x32 h33 => ?_)
         have q34 : x32.length ≤ 562949953421312 := h33
         refine tB (tK Zcz) (fun x35 h36 => ?_)
         exact tR cl
        ·refine tE (fun h37 => ?_) (fun h37 => ?_)
         ·refine tB (Zabt a0.N) (fun x38 h39 => ?_)
          have q40 : x38.length ≤ 562949953421312 := h39
          refine tB (tK Zcz) (fun x41 h42 => ?_)
          exact tR cl
         ·refine tE (fun h43 => ?_) (fun h43 => ?_)
          ·refine tB (Zabt a0.N) (fun x44 h45 => ?_)
           have q46 : x44.length ≤ 562949953421312 := h45
           refine tB (tK Zcz) (fun x47 h48 => ?_)
           exact tR cl
          ·refine tE (fun h49 => ?_) (fun h49 => ?_)
           ·exact tR cl
           ·refine tE (fun h50 => ?_) (fun h50 => ?_)
            ·refine tB (Zaxo a0.Filter oa0.2) (fun x51 h52 => ?_)
             have eh52_0 := h52
             refine tB (tK Zcz) (fun x53 h54 => ?_)
             refine tB (tK Zcz) (fun x55 h56 => ?_)
             exact tR cl
            ·refine tE (fun h57 => ?_) (fun h57 => ?_)
             ·refine tB (Zip a0.N) (fun x58 h59 => ?_)
              have q60 : x58.length ≤ 100 := h59
              refine tB (tK Zcz) (fun x61 h62 => ?_)
              refine tB (tK Zcz) (fun x63 h64 => ?_)
              refine tB (Zip a0.M) (fun x65 h66 => ?_)
              have q67 : x65.length ≤ 100 := h66
              refine tB (tK Zcz) (fun x68 h69 => ?_)
              exact tR cl
             ·refine tE (fun h70 => ?_) (fun h70 => ?_)
              ·refine tB (Zip a0.N) (fun x71 h72 => ?_)
               have q73 : x71.length ≤ 100 := h72
               refine tB (tK Zcz) (fun x74 h75 => ?_)
               refine tB (tK Zcz) (fun x76 h77 => ?_)
               refine tB (Zip a0.M) (fun x78 h79 => ?_)
               have q80 : x78.length ≤ 100 := h79
               refine tB (tK Zcz) (fun x81 h82 => ?_)
               exact tR cl
              ·exact tR cl
def Zah0 : Zie → Prop
 | .L0 v0 v3 v4 => ((SzL 176 Zat) v0) ∧ (0 ≤ v4) ∧ (v3.length ≤ 576460752303423488 * v4.toNat) ∧ (v0.length ≤ 6) ∧ (v4 ≤ v0.length)
def Z0g : Zie → M6
 | .L0 v0 v3 v4 => (1, ((v0.length : Int) - v4).toNat, 1000000, 0, 0, 0)
theorem Zn4 (a0 : (List Zr)) (oa0 : (SzL 176 Zat) a0) : Tot (Zwt a0) (fun r => (r.length ≤ 4611686018427387904)) := by
 unfold Zwt
 refine tX (Inv := Zah0) (μ := Z0g) (m := (1000000, 0, 0, 0, 0, 0)) ?_ ?_
 ·have lb_a0 := oa0.1
  dsimp only [Z24, LT.den]
  have q1 := oa0.1
  refine tE (fun h2 => ?_) (fun h2 => ?_)
  ·exact tR cl
  ·refine tD (fun h3 => ?_) (fun h3 => ?_)
   ·exact tR cl
   ·exact tL ⟨oa0, cl, cl, cl, cl⟩ tk60
 ·intro s hs
  cases s with
  | L0 v0 v3 v4 =>
   obtain ⟨ov0, cv4, i0, i1, i2⟩ := hs
   have lb_v0 := ov0.1
   show Tot (Zpc v0 v3 v4).den _
   dsimp only [Zpc, LT.den]
   have q1 := ov0.1
   refine tD (fun h2 => ?_) (fun h2 => ?_)
   ·refine tB (tI (by omega) (by omega)) (fun x3 h4 => ?_)
    have oh4 : Zat x3 := ov0.2 x3 h4.1
    refine tB (Z56 x3 oh4) (fun x5 h6 => ?_)
    refine tO (fun h7 => ?_) (fun h7 => ?_)
    ·exact tR cl
    ·refine tD (fun h8 => ?_) (fun h8 => ?_)
     ·refine tB (tK Zcz) (fun x9 h10 => ?_)
      refine tB (Zabu x3 oh4) (fun x11 h12 => ?_)
      have eh12_0 := h12
      refine tB (tK Zcz) (fun x13 h14 => ?_)
      refine qw (v4 + 1) fun q15 q16 => ?_
      exact tL ⟨ov0, cl, cl, cl, cl⟩ tk60
     ·refine tB (Zabu x3 oh4) (fun x17 h18 => ?_)
      have eh18_0 := h18
      refine tB (tK Zcz) (fun x19 h20 => ?_)
      refine qw (v4 + 1) fun q21 q22 => ?_
      exact tL ⟨ov0, cl, cl, cl, cl⟩ tk60
   ·exact tR cl
theorem Zasf (a0 : Zfq) : Tot (Z89 a0) (fun r => True) := by
 unfold Z89
 refine tZ ?_
 dsimp only [Zadv, LT.den]
 refine tB (Zqc a0.Mana) (fun x1 h2 => ?_)
 have eh2_0 := h2.1
 have eh2_1 := h2.2
 refine tF (fun h3 => ?_) (fun h3 => ?_)
 ·have h3_0 := eh2_0 h3
  have h3_1 := eh2_1 h3
  refine tE (fun h4 => ?_) (fun h4 => ?_)
  ·refine tD (fun h5 => ?_) (fun h5 => ?_)
   ·exact tR trivial
   ·exact tR trivial
  ·exact tR trivial
 ·exact tR trivial
theorem Zabv (a0 : Int) : Tot (Zagv a0) (fun r => (SzN r)) := by
 unfold Zagv
 refine tZ ?_
 dsimp only [Zakl, LT.den]
 refine tE (fun h1 => ?_) (fun h1 => ?_)
 ·exact tR Zam
 ·refine tE (fun h2 => ?_) (fun h2 => ?_)
  ·exact tR Zam
  ·refine tE (fun h3 => ?_) (fun h3 => ?_)
   ·exact tR Zam
   ·refine tE (fun h4 => ?_) (fun h4 => ?_)
    ·exact tR Zam
    ·refine tE (fun h5 => ?_) (fun h5 => ?_)
     ·exact tR Zam
     ·refine tE (fun h6 => ?_) (fun h6 => ?_)
      ·exact tR Zam
      ·refine tE (fun h7 => ?_) (fun h7 => ?_)
       ·exact tR Zam
       ·refine tE (fun h8 => ?_) (fun h8 => ?_)
        ·exact tR Zam
        ·refine tE (fun h9 => ?_) (fun h9 => ?_)
         ·exact tR Zam
         ·refine tE (fun h10 => ?_) (fun h10 => ?_)
          ·exact tR Zam
          ·refine tE (fun h11 => ?_) (fun h11 => ?_)
           ·exact tR Zam
           ·refine tE (fun h12 => ?_) (fun h12 => ?_)
            ·exact tR Zam
            ·refine tE (fun h13 => ?_) (fun h13 => ?_)
             ·exact tR Zam
             ·refine tE (fun h14 => ?_) (fun h14 => ?_)
              ·exact tR Zam
              ·exact tR (SzN.nil)
theorem Z33 (a0 : Int) : Tot (Z44 a0) (fun r => True) := by
 unfold Z44
 refine tZ ?_
 dsimp only [Z9a, LT.den]
 refine tE (fun h1 => ?_) (fun h1 => ?_)
 ·exact tR trivial
 ·refine tE (fun h2 => ?_) (fun h2 => ?_)
  ·exact tR trivial
  ·refine tE (fun h3 => ?_) (fun h3 => ?_)
   ·exact tR trivial
   ·refine tE (fun h4 => ?_) (fun h4 => ?_)
    ·exact tR trivial
    ·refine tE (fun h5 => ?_) (fun h5 => ?_)
     ·exact tR trivial
     ·exact tR trivial
theorem Zac9 (a0 : Int) : Tot (Zt9 a0) (fun r => True) := by
 unfold Zt9
 refine tZ ?_
 dsimp only [Zzv, LT.den]
 refine tB (Zabv a0) (fun x1 h2 => ?_)
 refine tO (fun h3 => ?_) (fun h3 => ?_)
 ·refine tB (Z33 a0) (fun x4 h5 => ?_)
  refine tO (fun h6 => ?_) (fun h6 => ?_)
  ·exact tR trivial
  ·exact tR trivial
 ·exact tR trivial
def Z58 : Zwu → Prop
 | .L0 E0 => (Zlm E0) ∧ True
def Zarp : Zwu → M6
 | .L0 E0 => (0, 0, 0, 0, 0, 0)
theorem Zux (E0 : Zcb) (h : Z58 (.L0 E0)) : Tot (Zs5 E0).den (Nx Z58 Zarp (0, 0, 0, 0, 0, 0) (fun r => True)) := by
 obtain ⟨O0, _⟩ := h
 dsimp only [Zs5, LT.den]
 refine tB (Zac9 E0.When) (fun x1 h2 => ?_)
 refine tO (fun h3 => ?_) (fun h3 => ?_)
 ·exact tR trivial
 ·refine tE (fun h4 => ?_) (fun h4 => ?_)
  ·refine tB (Zdv E0.Filter O0) (fun x5 h6 => ?_)
   have eh6_0 := h6.1
   have eh6_1 := h6.2
   refine tF (fun h7 => ?_) (fun h7 => ?_)
   ·have h7_0 := eh6_0 h7
    exact tR trivial
   ·exact tR trivial
  ·refine tB (Zdv E0.Filter O0) (fun x8 h9 => ?_)
   have eh9_0 := h9.1
   have eh9_1 := h9.2
   refine tF (fun h10 => ?_) (fun h10 => ?_)
   ·have h10_0 := eh9_0 h10
    exact tR trivial
   ·exact tR trivial
theorem Za2o (a0 : Zcb) (oa0 : Zlm a0) : Tot (Zavk a0) (fun r => True) := by
 unfold Zavk
 refine tX (Inv := Z58) (μ := Zarp) (m := (1000000, 0, 0, 0, 0, 0)) ?_ ?_
 ·dsimp only [Zavi, LT.den]
  refine tB (Zabv a0.When) (fun x1 h2 => ?_)
  refine tF (fun h3 => ?_) (fun h3 => ?_)
  ·exact tR trivial
  ·refine tD (fun h4 => ?_) (fun h4 => ?_)
   ·exact tR trivial
   ·refine tD (fun h5 => ?_) (fun h5 => ?_)
    ·exact tR trivial
    ·refine tB (Z33 a0.When) (fun x6 h7 => ?_)
     refine tO (fun h8 => ?_) (fun h8 => ?_)
     ·refine tN (fun h9 => ?_) (fun h9 => ?_)
      ·exact tR trivial
      ·exact tJ (Zux a0 ⟨oa0, trivial⟩)
     ·exact tJ (Zux a0 ⟨oa0, trivial⟩)
 ·intro s hs
  cases s with
  | L0 E0 => exact Zux E0 hs
theorem Zuy (a0 : Ze) (oa0 : Zan a0) : Tot (Z9c a0) (fun r => True) := by
 unfold Z9c
 refine tZ ?_
 dsimp only [Zady, LT.den]
 refine tB (Zdv a0 oa0) (fun x1 h2 => ?_)
 have eh2_0 := h2.1
 have eh2_1 := h2.2
 refine tF (fun h3 => ?_) (fun h3 => ?_)
 ·have h3_0 := eh2_0 h3
  exact tR trivial
 ·exact tR trivial
theorem Zasg (a0 : Zaz) (oa0 : Zdu a0) : Tot (Z9d a0) (fun r => True) := by
 unfold Z9d
 refine tZ ?_
 dsimp only [Zad0, LT.den]
 refine tN (fun h1 => ?_) (fun h1 => ?_)
 ·exact tR trivial
 ·refine tB (Zuy a0.Filter oa0) (fun x2 h3 => ?_)
  refine tO (fun h4 => ?_) (fun h4 => ?_)
  ·exact tR trivial
  ·refine tE (fun h5 => ?_) (fun h5 => ?_)
   ·refine tE (fun h6 => ?_) (fun h6 => ?_)
    ·refine tE (fun h7 => ?_) (fun h7 => ?_)
     ·refine tE (fun h8 => ?_) (fun h8 => ?_)
      ·exact tR trivial
      ·refine tE (fun h9 => ?_) (fun h9 => ?_)
       ·exact tR trivial
       ·exact tR trivial
     ·exact tR trivial
    ·exact tR trivial
   ·refine tE (fun h10 => ?_) (fun h10 => ?_)
    ·refine tE (fun h11 => ?_) (fun h11 => ?_)
     ·refine tE (fun h12 => ?_) (fun h12 => ?_)
      ·exact tR trivial
      ·exact tR trivial
     ·exact tR trivial
    ·refine tE (fun h13 => ?_) (fun h13 => ?_)
     ·refine tE (fun h14 => ?_) (fun h14 => ?_)
      ·refine tD (fun h15 => ?_) (fun h15 => ?_)
       ·refine tD (fun h16 => ?_) (fun h16 => ?_)
        ·refine tD (fun h17 => ?_) (fun h17 => ?_)
         ·exact tR trivial
         ·exact tR trivial
        ·exact tR trivial
       ·exact tR trivial
      ·exact tR trivial
     ·exact tR trivial
theorem Zash (a0 : Zaz) (oa0 : Zdu a0) : Tot (Z9e a0) (fun r => True) := by
 unfold Z9e
 refine tZ ?_
 dsimp only [Zad2, LT.den]
 refine tN (fun h1 => ?_) (fun h1 => ?_)
 ·exact tR trivial
 ·refine tN (fun h2 => ?_) (fun h2 => ?_)
  ·exact tR trivial
  ·refine tE (fun h3 => ?_) (fun h3 => ?_)
   ·refine tD (fun h4 => ?_) (fun h4 => ?_)
    ·exact tR trivial
    ·exact tR trivial
   ·refine tE (fun h5 => ?_) (fun h5 => ?_)
    ·refine tD (fun h6 => ?_) (fun h6 => ?_)
     ·exact tR trivial
     ·exact tR trivial
    ·exact tR trivial
def Zlo : Znu → Prop
 | .L0 E0 v3 v4 => (Zdu E0) ∧ True
 | .L1 E0 v3 => (Zdu E0) ∧ True
 | .L2 E0 v3 v4 v109 => (Zdu E0) ∧ True
def Z0h : Znu → M6
 | .L0 E0 v3 v4 => (0, 0, 0, 0, 0, 0)
 | .L1 E0 v3 => (0, 0, 0, 0, 0, 0)
 | .L2 E0 v3 v4 v109 => (0, 0, 0, 0, 0, 0)
theorem Znd (E0 : Zaz) (v3 : Bool) (v4 : Bool) (v109 : Bool) (h : (Zdu E0) ∧ True) : Tot (Zoc E0 v3 v4 v109).den (Nx Zlo Z0h (0, 0, 0, 0, 0, 0) (fun r => True)) := by
 obtain ⟨O0, _⟩ := h
 dsimp only [Zoc, LT.den]
 refine tF (fun h1 => ?_) (fun h1 => ?_)
 ·refine tF (fun h2 => ?_) (fun h2 => ?_)
  ·refine tD (fun h3 => ?_) (fun h3 => ?_)
   ·refine tD (fun h4 => ?_) (fun h4 => ?_)
    ·exact tR trivial
    ·exact tR trivial
   ·exact tR trivial
  ·exact tR trivial
 ·exact tR trivial
theorem Zjw (E0 : Zaz) (v3 : Bool) (h : Zlo (.L1 E0 v3)) : Tot (Zku E0 v3).den (Nx Zlo Z0h (0, 0, 0, 0, 0, 0) (fun r => True)) := by
 obtain ⟨O0, _⟩ := h
 dsimp only [Zku, LT.den]
 refine tE (fun h1 => ?_) (fun h1 => ?_)
 ·refine tB (Zuy E0.Filter O0) (fun x2 h3 => ?_)
  refine tF (fun h4 => ?_) (fun h4 => ?_)
  ·exact tR trivial
  ·refine tE (fun h5 => ?_) (fun h5 => ?_)
   ·exact tR trivial
   ·refine tE (fun h6 => ?_) (fun h6 => ?_)
    ·exact tR trivial
    ·exact tR trivial
 ·refine tE (fun h7 => ?_) (fun h7 => ?_)
  ·exact tR trivial
  ·refine tE (fun h8 => ?_) (fun h8 => ?_)
   ·exact tR trivial
   ·exact tR trivial
theorem Zne (E0 : Zaz) (v3 : Bool) (v4 : Bool) (h : Zlo (.L0 E0 v3 v4)) : Tot (Zod E0 v3 v4).den (Nx Zlo Z0h (0, 0, 0, 0, 0, 0) (fun r => True)) := by
 obtain ⟨O0, _⟩ := h
 dsimp only [Zod, LT.den]
 refine tE (fun h1 => ?_) (fun h1 => ?_)
 ·refine tN (fun h2 => ?_) (fun h2 => ?_)
  ·refine tN (fun h3 => ?_) (fun h3 => ?_)
   ·refine tN (fun h4 => ?_) (fun h4 => ?_)
    ·refine tN (fun h5 => ?_) (fun h5 => ?_)
     ·exact tR trivial
     ·exact tJ (Zjw E0 v3 ⟨O0, trivial⟩)
    ·exact tJ (Zjw E0 v3 ⟨O0, trivial⟩)
   ·exact tJ (Zjw E0 v3 ⟨O0, trivial⟩)
  ·exact tJ (Zjw E0 v3 ⟨O0, trivial⟩)
 ·refine tE (fun h6 => ?_) (fun h6 => ?_)
  ·refine tF (fun h7 => ?_) (fun h7 => ?_)
   ·refine tE (fun h8 => ?_) (fun h8 => ?_)
    ·refine tB (Zuy E0.Filter O0) (fun x9 h10 => ?_)
     exact tR trivial
    ·exact tR trivial
   ·exact tR trivial
  ·refine tE (fun h11 => ?_) (fun h11 => ?_)
   ·refine tE (fun h12 => ?_) (fun h12 => ?_)
    ·refine tD (fun h13 => ?_) (fun h13 => ?_)
     ·refine tD (fun h14 => ?_) (fun h14 => ?_)
      ·exact tR trivial
      ·exact tR trivial
     ·exact tR trivial
    ·refine tE (fun h15 => ?_) (fun h15 => ?_)
     ·refine tD (fun h16 => ?_) (fun h16 => ?_)
      ·refine tD (fun h17 => ?_) (fun h17 => ?_)
       ·exact tR trivial
       ·exact tR trivial
      ·exact tR trivial
     ·exact tR trivial
   ·refine tE (fun h18 => ?_) (fun h18 => ?_)
    ·exact tJ (Znd E0 v3 v4 (E0.On == 4) ⟨O0, trivial⟩)
    ·refine tE (fun h19 => ?_) (fun h19 => ?_)
     ·exact tJ (Znd E0 v3 v4 (E0.On == 5) ⟨O0, trivial⟩)
     ·exact tJ (Znd E0 v3 v4 (E0.On == 10) ⟨O0, trivial⟩)
theorem Za2p (a0 : Zaz) (oa0 : Zdu a0) : Tot (Zavp a0) (fun r => True) := by
 unfold Zavp
 refine tX (Inv := Zlo) (μ := Z0h) (m := (1000000, 0, 0, 0, 0, 0)) ?_ ?_
 ·dsimp only [Zavn, LT.den]
  refine tE (fun h1 => ?_) (fun h1 => ?_)
  ·refine tB (Zasg a0 oa0) (fun x2 h3 => ?_)
   exact tR trivial
  ·refine tB (Zash a0 oa0) (fun x4 h5 => ?_)
   refine tO (fun h6 => ?_) (fun h6 => ?_)
   ·exact tR trivial
   ·refine tE (fun h7 => ?_) (fun h7 => ?_)
    ·exact tJ (Zne a0 (Zau (Zn a0.Filter) (Zn (⟨0, 0, 0, 0, 0, 0, 0, ([] : List UInt8), 0, 0, (⟨0, 0⟩ : Zd), (⟨0, 0⟩ : Zd), (⟨0, 0⟩ : Zd)⟩ : Ze))) true ⟨oa0, trivial⟩)
    ·refine tE (fun h8 => ?_) (fun h8 => ?_)
     ·exact tJ (Zne a0 (Zau (Zn a0.Filter) (Zn (⟨0, 0, 0, 0, 0, 0, 0, ([] : List UInt8), 0, 0, (⟨0, 0⟩ : Zd), (⟨0, 0⟩ : Zd), (⟨0, 0⟩ : Zd)⟩ : Ze))) true ⟨oa0, trivial⟩)
     ·exact tJ (Zne a0 (Zau (Zn a0.Filter) (Zn (⟨0, 0, 0, 0, 0, 0, 0, ([] : List UInt8), 0, 0, (⟨0, 0⟩ : Zd), (⟨0, 0⟩ : Zd), (⟨0, 0⟩ : Zd)⟩ : Ze))) (a0.Do == 8) ⟨oa0, trivial⟩)
 ·intro s hs
  cases s with
  | L0 E0 v3 v4 => exact Zne E0 v3 v4 hs
  | L1 E0 v3 => exact Zjw E0 v3 hs
  | L2 E0 v3 v4 v109 => exact Znd E0 v3 v4 v109 hs
theorem Zaxp (a0 : Zcy) (oa0 : Zgn a0) : Tot (Zagx a0) (fun r => True) := by
 unfold Zagx
 refine tZ ?_
 dsimp only [Zakn, LT.den]
 refine tO (fun h1 => ?_) (fun h1 => ?_)
 ·refine tF (fun h2 => ?_) (fun h2 => ?_)
  ·exact tR trivial
  ·exact tR trivial
 ·refine tB (Zdv a0.Filter oa0) (fun x3 h4 => ?_)
  have eh4_0 := h4.1
  have eh4_1 := h4.2
  refine tF (fun h5 => ?_) (fun h5 => ?_)
  ·have h5_0 := eh4_0 h5
   refine tE (fun h6 => ?_) (fun h6 => ?_)
   ·exact tR trivial
   ·refine tE (fun h7 => ?_) (fun h7 => ?_)
    ·exact tR trivial
    ·exact tR trivial
  ·exact tR trivial
def Zasi : Zmh → Prop
 | .L0 v0 v3 => ((SzL 144 Zgn) v0) ∧ (0 ≤ v3)
def Zym : Zmh → M6
 | .L0 v0 v3 => (1, ((v0.length : Int) - v3).toNat, 1000000, 0, 0, 0)
theorem Zasj (a0 : (List Zcy)) (oa0 : (SzL 144 Zgn) a0) : Tot (Z9f a0) (fun r => True) := by
 unfold Z9f
 refine tX (Inv := Zasi) (μ := Zym) (m := (1000000, 0, 0, 0, 0, 0)) ?_ ?_
 ·have lb_a0 := oa0.1
  dsimp only [Zad4, LT.den]
  exact tL ⟨oa0, cl⟩ (by unfold Zym lt6; dsimp only; omega)
 ·intro s hs
  cases s with
  | L0 v0 v3 =>
   obtain ⟨ov0, cv3⟩ := hs
   have lb_v0 := ov0.1
   show Tot (Zww v0 v3).den _
   dsimp only [Zww, LT.den]
   have q1 := ov0.1
   refine tD (fun h2 => ?_) (fun h2 => ?_)
   ·refine tB (tI (by omega) (by omega)) (fun x3 h4 => ?_)
    have oh4 : Zgn x3 := ov0.2 x3 h4.1
    refine tB (Zaxp x3 oh4) (fun x5 h6 => ?_)
    refine tO (fun h7 => ?_) (fun h7 => ?_)
    ·exact tR trivial
    ·refine qw (v3 + 1) fun q8 q9 => ?_
     exact tL ⟨ov0, cl⟩ (by unfold Zym lt6; dsimp only; omega)
   ·exact tR trivial
theorem Zaxq (a0 : Int) : Tot (Zagy a0) (fun r => (SzN r)) := by
 unfold Zagy
 refine tZ ?_
 dsimp only [Zakp, LT.den]
 refine tD (fun h1 => ?_) (fun h1 => ?_)
 ·exact tR (SzN.nil)
 ·refine tD (fun h2 => ?_) (fun h2 => ?_)
  ·exact tR (SzN.nil)
  ·have q3 : (SzL 16 SzN) ([([100, 97, 109, 97, 103, 101] : List UInt8), ([100, 101, 115, 116, 114, 111, 121] : List UInt8), ([109, 111, 118, 101] : List UInt8), ([100, 114, 97, 119] : List UInt8), ([100, 105, 115, 99, 97, 114, 100] : List UInt8), ([103, 97, 105, 110] : List UInt8), ([108, 111, 115, 101] : List UInt8), ([116, 97, 112] : List UInt8), ([117, 110, 116, 97, 112] : List UInt8), ([112, 117, 116] : List UInt8), ([116, 97, 107, 101] : List UInt8), ([99, 114, 101, 97, 116, 101] : List UInt8), ([109, 111, 100] : List UInt8), ([109, 97, 110, 97] : List UInt8), ([99, 111, 117, 110, 116, 101, 114] : List UInt8), ([99, 111, 112, 121] : List UInt8), ([98, 101, 99, 111, 109, 101] : List UInt8), ([115, 97, 99, 114, 105, 102, 105, 99, 101] : List UInt8), ([109, 105, 108, 108] : List UInt8), ([115, 99, 114, 121] : List UInt8), ([115, 101, 97, 114, 99, 104] : List UInt8), ([115, 104, 105, 101, 108, 100] : List UInt8), ([116, 117, 114, 110] : List UInt8), ([119, 105, 110] : List UInt8), ([100, 101, 102, 101, 97, 116] : List UInt8), ([118, 101, 110, 111, 109] : List UInt8)] : (List (List UInt8))) := ⟨by simp only [List.length_cons, List.length_nil]; omega, (mem_cons' Zam (mem_cons' Zam (mem_cons' Zam (mem_cons' Zam (mem_cons' Zam (mem_cons' Zam (mem_cons' Zam (mem_cons' Zam (mem_cons' Zam (mem_cons' Zam (mem_cons' Zam (mem_cons' Zam (mem_cons' Zam (mem_cons' Zam (mem_cons' Zam (mem_cons' Zam (mem_cons' Zam (mem_cons' Zam (mem_cons' Zam (mem_cons' Zam (mem_cons' Zam (mem_cons' Zam (mem_cons' Zam (mem_cons' Zam (mem_cons' Zam (mem_cons' Zam (fun _ h => by cases h)))))))))))))))))))))))))))⟩
   have lq3 : ([([100, 97, 109, 97, 103, 101] : List UInt8), ([100, 101, 115, 116, 114, 111, 121] : List UInt8), ([109, 111, 118, 101] : List UInt8), ([100, 114, 97, 119] : List UInt8), ([100, 105, 115, 99, 97, 114, 100] : List UInt8), ([103, 97, 105, 110] : List UInt8), ([108, 111, 115, 101] : List UInt8), ([116, 97, 112] : List UInt8), ([117, 110, 116, 97, 112] : List UInt8), ([112, 117, 116] : List UInt8), ([116, 97, 107, 101] : List UInt8), ([99, 114, 101, 97, 116, 101] : List UInt8), ([109, 111, 100] : List UInt8), ([109, 97, 110, 97] : List UInt8), ([99, 111, 117, 110, 116, 101, 114] : List UInt8), ([99, 111, 112, 121] : List UInt8), ([98, 101, 99, 111, 109, 101] : List UInt8), ([115, 97, 99, 114, 105, 102, 105, 99, 101] : List UInt8), ([109, 105, 108, 108] : List UInt8), ([115, 99, 114, 121] : List UInt8), ([115, 101, 97, 114, 99, 104] : List UInt8), ([115, 104, 105, 101, 108, 100] : List UInt8), ([116, 117, 114, 110] : List UInt8), ([119, 105, 110] : List UInt8), ([100, 101, 102, 101, 97, 116] : List UInt8), ([118, 101, 110, 111, 109] : List UInt8)] : (List (List UInt8))).length = 26 := rfl
   refine qw (a0 - 1) fun q4 q5 => ?_
   refine tB (tI (by omega) (by omega)) (fun x6 h7 => ?_)
   have oh7 : SzN x6 := q3.2 x6 h7.1
   exact tR oh7
def Zyn : Zlj → Prop
 | .L0 v3 v4 => True
 | .L1 v3 v14 => True
def Z2f : Zlj → M6
 | .L0 v3 v4 => (0, 0, 0, 0, 0, 0)
 | .L1 v3 v14 => (0, 0, 0, 0, 0, 0)
theorem Zqh (v3 : Int) (v14 : Bool) (h : True) : Tot (Zmi v3 v14).den (Nx Zyn Z2f (0, 0, 0, 0, 0, 0) (fun r => (SzN r))) := by
 dsimp only [Zmi, LT.den]
 refine tF (fun h1 => ?_) (fun h1 => ?_)
 ·exact tR Zam
 ·refine tE (fun h2 => ?_) (fun h2 => ?_)
  ·exact tR Zam
  ·refine tE (fun h3 => ?_) (fun h3 => ?_)
   ·exact tR Zam
   ·refine tE (fun h4 => ?_) (fun h4 => ?_)
    ·exact tR Zam
    ·refine tE (fun h5 => ?_) (fun h5 => ?_)
     ·exact tR Zam
     ·refine tE (fun h6 => ?_) (fun h6 => ?_)
      ·exact tR Zam
      ·refine tE (fun h7 => ?_) (fun h7 => ?_)
       ·exact tR Zam
       ·refine tE (fun h8 => ?_) (fun h8 => ?_)
        ·exact tR (SzN.nil)
        ·refine tE (fun h9 => ?_) (fun h9 => ?_)
         ·exact tR (SzN.nil)
         ·exact tR Zam
theorem Zd3 (v3 : Int) (v4 : Bool) (h : True) : Tot (Zeq v3 v4).den (Nx Zyn Z2f (0, 0, 0, 0, 0, 0) (fun r => (SzN r))) := by
 dsimp only [Zeq, LT.den]
 refine tF (fun h1 => ?_) (fun h1 => ?_)
 ·exact tR Zam
 ·refine tE (fun h2 => ?_) (fun h2 => ?_)
  ·exact tR Zam
  ·refine tE (fun h3 => ?_) (fun h3 => ?_)
   ·exact tJ (Zqh v3 (v3 == 10) trivial)
   ·exact tJ (Zqh v3 (v3 == 11) trivial)
theorem Zaxr (a0 : Int) : Tot (Zagz a0) (fun r => (SzN r)) := by
 unfold Zagz
 refine tX (Inv := Zyn) (μ := Z2f) (m := (1000000, 0, 0, 0, 0, 0)) ?_ ?_
 ·dsimp only [Zakr, LT.den]
  refine tE (fun h1 => ?_) (fun h1 => ?_)
  ·exact tJ (Zd3 a0 (a0 == 2) trivial)
  ·refine tE (fun h2 => ?_) (fun h2 => ?_)
   ·exact tJ (Zd3 a0 (a0 == 8) trivial)
   ·refine tE (fun h3 => ?_) (fun h3 => ?_)
    ·exact tJ (Zd3 a0 (a0 == 9) trivial)
    ·refine tE (fun h4 => ?_) (fun h4 => ?_)
     ·exact tJ (Zd3 a0 (a0 == 15) trivial)
     ·refine tE (fun h5 => ?_) (fun h5 => ?_)
      ·exact tJ (Zd3 a0 (a0 == 16) trivial)
      ·refine tE (fun h6 => ?_) (fun h6 => ?_)
       ·exact tJ (Zd3 a0 (a0 == 17) trivial)
       ·exact tJ (Zd3 a0 (a0 == 25) trivial)
 ·intro s hs
  cases s with
  | L0 v3 v4 => exact Zd3 v3 v4 hs
  | L1 v3 v14 => exact Zqh v3 v14 hs
def Zaxs : Zpe → Prop
 | .L0 v1 v5 v6 => (SzT v5) ∧ (0 ≤ v6)
def Z2g : Zpe → M6
 | .L0 v1 v5 v6 => (1, ((v5.length : Int) - v6).toNat, 1000000, 0, 0, 0)
theorem Zfs (a0 : Int) (a1 : Int) : Tot (Zag0 a0 a1) (fun r => True) := by
 unfold Zag0
 refine tX (Inv := Zaxs) (μ := Z2g) (m := (1000000, 0, 0, 0, 0, 0)) ?_ ?_
 ·dsimp only [Zakt, LT.den]
  refine tB (Zaxr a0) (fun x1 h2 => ?_)
  exact tL ⟨(SzN.t h2), cl⟩ (by unfold Z2g lt6; dsimp only; omega)
 ·intro s hs
  cases s with
  | L0 v1 v5 v6 =>
   obtain ⟨ov5, cv6⟩ := hs
   have lb_v5 : v5.length ≤ 562949953421312 := ov5
   show Tot (Z09 v1 v5 v6).den _
   dsimp only [Z09, LT.den]
   have q1 : v5.length ≤ 562949953421312 := ov5
   refine tD (fun h2 => ?_) (fun h2 => ?_)
   ·refine tB (tI (by omega) (by omega)) (fun x3 h4 => ?_)
    refine tE (fun h5 => ?_) (fun h5 => ?_)
    ·exact tR trivial
    ·refine qw (v6 + 1) fun q6 q7 => ?_
     exact tL ⟨ov5, cl⟩ (by unfold Z2g lt6; dsimp only; omega)
   ·exact tR trivial
theorem Zah1 (a0 : Int) : Tot (Zwx a0) (fun r => True) := by
 unfold Zwx
 refine tZ ?_
 dsimp only [Z26, LT.den]
 refine tE (fun h1 => ?_) (fun h1 => ?_)
 ·exact tR trivial
 ·exact tR trivial
def Zqi : Zqy → Prop
 | .L0 v1 E0 => (Zed E0) ∧ True
 | .L1 E0 => (Zed E0) ∧ True
def Zabw : Zqy → M6
 | .L0 v1 E0 => (0, 0, 0, 0, 0, 0)
 | .L1 E0 => (0, 0, 0, 0, 0, 0)
theorem Zuz (E0 : Zak) (h : Zqi (.L1 E0)) : Tot (Zs6 E0).den (Nx Zqi Zabw (0, 0, 0, 0, 0, 0) (fun r => True)) := by
 obtain ⟨O0, _⟩ := h
 dsimp only [Zs6, LT.den]
 refine tE (fun h1 => ?_) (fun h1 => ?_)
 ·refine tB (Zdv E0.Filter O0) (fun x2 h3 => ?_)
  have eh3_0 := h3.1
  have eh3_1 := h3.2
  exact tR trivial
 ·exact tR trivial
theorem Zu0 (v1 : Int) (E0 : Zak) (h : Zqi (.L0 v1 E0)) : Tot (Zs7 v1 E0).den (Nx Zqi Zabw (0, 0, 0, 0, 0, 0) (fun r => True)) := by
 obtain ⟨O0, _⟩ := h
 dsimp only [Zs7, LT.den]
 refine tD (fun h1 => ?_) (fun h1 => ?_)
 ·exact tR trivial
 ·refine tD (fun h2 => ?_) (fun h2 => ?_)
  ·exact tR trivial
  ·refine tB (Zah1 E0.Kind) (fun x3 h4 => ?_)
   refine tF (fun h5 => ?_) (fun h5 => ?_)
   ·refine tD (fun h6 => ?_) (fun h6 => ?_)
    ·exact tR trivial
    ·refine tD (fun h7 => ?_) (fun h7 => ?_)
     ·exact tR trivial
     ·exact tJ (Zuz E0 ⟨O0, trivial⟩)
   ·refine tN (fun h8 => ?_) (fun h8 => ?_)
    ·exact tR trivial
    ·exact tJ (Zuz E0 ⟨O0, trivial⟩)
theorem Za2q (a0 : Zak) (a1 : Int) (oa0 : Zed a0) : Tot (Zavt a0 a1) (fun r => True) := by
 unfold Zavt
 refine tX (Inv := Zqi) (μ := Zabw) (m := (1000000, 0, 0, 0, 0, 0)) ?_ ?_
 ·dsimp only [Zavr, LT.den]
  refine tD (fun h1 => ?_) (fun h1 => ?_)
  ·exact tJ (Zu0 4 a0 ⟨oa0, trivial⟩)
  ·exact tJ (Zu0 a1 a0 ⟨oa0, trivial⟩)
 ·intro s hs
  cases s with
  | L0 v1 E0 => exact Zu0 v1 E0 hs
  | L1 E0 => exact Zuz E0 hs
theorem Zabx (a0 : Int) : Tot (Zag1 a0) (fun r => (SzT r) ∧ (r = [] ↔ ¬ (0 ≤ a0 ∧ a0 ≤ 2))) := by
 unfold Zag1
 refine tZ ?_
 dsimp only [Zakw, LT.den]
 refine tE (fun h1 => ?_) (fun h1 => ?_)
 ·exact tR ⟨Zn1, tk15⟩
 ·refine tE (fun h2 => ?_) (fun h2 => ?_)
  ·exact tR ⟨Zn1, tk15⟩
  ·refine tE (fun h3 => ?_) (fun h3 => ?_)
   ·exact tR ⟨Zn1, tk15⟩
   ·exact tR ⟨(SzT.nil), tk15⟩
theorem Z59 (a0 : Zw) (oa0 : Zc8 a0) : Tot (Zavw a0) (fun r => (r = amV a0)) := by
 unfold Zavw
 refine tZ ?_
 dsimp only [Zavu, LT.den]
 refine tE (fun h1 => ?_) (fun h1 => ?_)
 ·refine tD (fun h2 => ?_) (fun h2 => ?_)
  ·exact tR Ze5
  ·refine tD (fun h3 => ?_) (fun h3 => ?_)
   ·exact tR Ze5
   ·refine tD (fun h4 => ?_) (fun h4 => ?_)
    ·refine tD (fun h5 => ?_) (fun h5 => ?_)
     ·exact tR Ze5
     ·exact tR Ze5
    ·exact tR Ze5
 ·refine tE (fun h6 => ?_) (fun h6 => ?_)
  ·refine tD (fun h7 => ?_) (fun h7 => ?_)
   ·exact tR Ze5
   ·refine tD (fun h8 => ?_) (fun h8 => ?_)
    ·exact tR Ze5
    ·refine tB (Zdv a0.Filter oa0) (fun x9 h10 => ?_)
     have eh10_0 := h10.1
     have eh10_1 := h10.2
     refine tO (fun h11 => ?_) (fun h11 => ?_)
     ·exact tR Ze5
     ·have h11_0 := eh10_0 h11
      refine tD (fun h12 => ?_) (fun h12 => ?_)
      ·refine tD (fun h13 => ?_) (fun h13 => ?_)
       ·exact tR Ze5
       ·exact tR Ze5
      ·exact tR Ze5
  ·refine tE (fun h14 => ?_) (fun h14 => ?_)
   ·refine tB (Zabx a0.Counter) (fun x15 h16 => ?_)
    have eh16_1 := h16.2
    refine tF (fun h17 => ?_) (fun h17 => ?_)
    ·exact tR Ze5
    ·refine tD (fun h18 => ?_) (fun h18 => ?_)
     ·refine tD (fun h19 => ?_) (fun h19 => ?_)
      ·exact tR Ze5
      ·exact tR Ze5
     ·exact tR Ze5
   ·refine tD (fun h20 => ?_) (fun h20 => ?_)
    ·refine tD (fun h21 => ?_) (fun h21 => ?_)
     ·exact tR Ze5
     ·exact tR Ze5
    ·exact tR Ze5
theorem Zaxt (a0 : (List Zr)) (oa0 : (SzL 176 Zat) a0) : Tot (Zag2 a0) (fun r => True) := by
 unfold Zag2
 refine tZ ?_
 have lb_a0 := oa0.1
 dsimp only [Zaky, LT.den]
 refine tB (Zn4 a0 oa0) (fun x1 h2 => ?_)
 have eh2_0 := h2
 exact tR trivial
def Zaxu : Zpf → Prop
 | .L0 E0 E1 E2 v4 => (0 ≤ v4) ∧ True
def Z2h : Zpf → M6
 | .L0 E0 E1 E2 v4 => (1, (5 - v4).toNat, 1000000, 0, 0, 0)
theorem Zaxv (a0 : (A6 Int)) : Tot (Zag3 a0) (fun r => True) := by
 unfold Zag3
 refine tX (Inv := Zaxu) (μ := Z2h) (m := (1000000, 0, 0, 0, 0, 0)) ?_ ?_
 ·dsimp only [Zak0, LT.den]
  refine tB (tI (by omega) (by have e : (A6.list a0).length = 6 := rfl; omega)) (fun x1 h2 => ?_)
  exact tL ⟨cl, trivial⟩ (by unfold Z2h lt6; dsimp only; omega)
 ·intro s hs
  cases s with
  | L0 E0 E1 E2 v4 =>
   obtain ⟨cv4, _⟩ := hs
   show Tot (Z1a E0 E1 E2 v4).den _
   dsimp only [Z1a, LT.den]
   refine tD (fun h1 => ?_) (fun h1 => ?_)
   ·refine qw (v4 + 1) fun q2 q3 => ?_
    refine tB (tI (by omega) tk56) (fun x4 h5 => ?_)
    refine tB (tI (by omega) (by have e : (A5.list E2.Color).length = 5 := rfl; omega)) (fun x6 h7 => ?_)
    refine tB (Tot.setA5 (by omega) (by omega)) (fun x8 h9 => ?_)
    exact tL ⟨cl, trivial⟩ (by unfold Z2h lt6; dsimp only; omega)
   ·exact tR trivial
def Zaxw : Zi3 → Prop
 | .L0 E0 v3 v4 => (0 ≤ v4) ∧ (E0.X ≤ 2) ∧ (∀ n, n ∈ A5.list E0.Color → n ≤ 9) ∧ (v3.length ≤ v4.toNat) ∧ (v4 ≤ 2)
 | .L1 E0 v3 v5 => (0 ≤ v5) ∧ (v3.length ≤ 200 + 200 * v5.toNat) ∧ (∀ n, n ∈ A5.list E0.Color → n ≤ 9) ∧ (v5 ≤ 5)
 | .L2 E0 v3 v5 v6 => (0 ≤ v5) ∧ (0 ≤ v6) ∧ (v5 < 5) ∧ (v3.length ≤ 200 + 200 * v5.toNat + v6.toNat) ∧ (∀ n, n ∈ A5.list E0.Color → n ≤ 9) ∧ (v5 < 5) ∧ (v6 ≤ 9)
def Zafx : Zi3 → M6
 | .L0 E0 v3 v4 => (3, (E0.X - v4).toNat, 1000000, 0, 0, 0)
 | .L1 E0 v3 v5 => (1, (5 - v5).toNat, 1000000, 0, 0, 0)
 | .L2 E0 v3 v5 v6 => (1, (5 - v5).toNat, 1, (9 - v6).toNat, 1000000, 0)
theorem Zaxx (a0 : Zp) : Tot (Zag4 a0) (fun r => (SzT r)) := by
 unfold Zag4
 refine tX (Inv := Zaxw) (μ := Zafx) (m := (1000000, 0, 0, 0, 0, 0)) ?_ ?_
 ·dsimp only [Zak2, LT.den]
  refine tB (Zqc a0) (fun x1 h2 => ?_)
  have eh2_0 := h2.1
  have eh2_1 := h2.2
  refine tO (fun h3 => ?_) (fun h3 => ?_)
  ·exact tR (SzT.nil)
  ·have h3_0 := eh2_0 h3
   have h3_1 := eh2_1 h3
   exact tL ⟨cl, cl, cl, cl, cl⟩ tk94
 ·intro s hs
  cases s with
  | L0 E0 v3 v4 =>
   obtain ⟨cv4, i0, i1, i2, i3⟩ := hs
   show Tot (Z1b E0 v3 v4).den _
   dsimp only [Z1b, LT.den]
   refine tD (fun h1 => ?_) (fun h1 => ?_)
   ·refine tB (tK Zcz) (fun x2 h3 => ?_)
    refine qw (v4 + 1) fun q4 q5 => ?_
    exact tL ⟨cl, cl, cl, cl, cl⟩ tk94
   ·refine tN (fun h6 => ?_) (fun h6 => ?_)
    ·refine tB (Zip E0.Generic) (fun x7 h8 => ?_)
     have q9 : x7.length ≤ 100 := h8
     refine tB (tK Zcz) (fun x10 h11 => ?_)
     exact tL ⟨cl, cl, cl, cl⟩ tk94
    ·exact tL ⟨cl, cl, cl, cl⟩ tk94
  | L1 E0 v3 v5 =>
   obtain ⟨cv5, i0, i1, i2⟩ := hs
   show Tot (Z1c E0 v3 v5).den _
   dsimp only [Z1c, LT.den]
   refine tD (fun h1 => ?_) (fun h1 => ?_)
   ·exact tL ⟨cl, cl, cl, cl, cl, cl, cl⟩ tk94
   ·refine tF (fun h2 => ?_) (fun h2 => ?_)
    ·exact tR Zn1
    ·exact tR Zn1
  | L2 E0 v3 v5 v6 =>
   obtain ⟨cv5, cv6, bd2, i0, i1, i2, i3⟩ := hs
   show Tot (Z1d E0 v3 v5 v6).den _
   dsimp only [Z1d, LT.den]
   refine tB (tI (by omega) tk53) (fun x1 h2 => ?_)
   have ph2 := i1 x1 h2.1
   refine tD (fun h3 => ?_) (fun h3 => ?_)
   ·refine qw (v5 + 1) fun q4 q5 => ?_
    refine tB (Tot.slice (by omega) (by omega) Zn2) (fun x6 h7 => ?_)
    have lh7 := h7.1
    refine tB (tK Zcz) (fun x8 h9 => ?_)
    refine qw (v6 + 1) fun q10 q11 => ?_
    exact tL ⟨cl, cl, cl, cl, cl, cl, cl⟩ tk94
   ·refine qw (v5 + 1) fun q12 q13 => ?_
    exact tL ⟨cl, cl, cl, cl⟩ tk94
theorem Zah2 (a0 : (A6 Int)) : Tot (Zwy a0) (fun r => (SzT r)) := by
 unfold Zwy
 refine tZ ?_
 dsimp only [Z28, LT.den]
 refine tB (Zaxv a0) (fun x1 h2 => ?_)
 refine tB (Zaxx x1) (fun x3 h4 => ?_)
 exact tR h4
theorem Zapw (a0 : Int) (a1 : Ze) (oa1 : Zan a1) : Tot (Z45 a0 a1) (fun r => True) := by
 unfold Z45
 refine tZ ?_
 dsimp only [Z9h, LT.den]
 refine tE (fun h1 => ?_) (fun h1 => ?_)
 ·refine tB (Zdv a1 oa1) (fun x2 h3 => ?_)
  have eh3_0 := h3.1
  have eh3_1 := h3.2
  refine tF (fun h4 => ?_) (fun h4 => ?_)
  ·have h4_0 := eh3_0 h4
   exact tR trivial
  ·exact tR trivial
 ·refine tB (Zdv a1 oa1) (fun x5 h6 => ?_)
  have eh6_0 := h6.1
  have eh6_1 := h6.2
  refine tF (fun h7 => ?_) (fun h7 => ?_)
  ·have h7_0 := eh6_0 h7
   exact tR trivial
  ·exact tR trivial
def Zew : Zf2 → Prop
 | .L0 E0 v5 => (Zao E0) ∧ True
 | .L1 E0 v5 v6 => (Zao E0) ∧ True
 | .L2 E0 v5 v6 v7 => (Zao E0) ∧ True
 | .L3 E0 v5 v6 v7 v8 => (Zao E0) ∧ True
 | .L4 E0 v5 v6 v7 v8 v9 => (Zao E0) ∧ True
 | .L5 E0 v5 v6 v7 v8 v9 v10 => (Zao E0) ∧ True
 | .L6 E0 v5 v6 v7 v8 v9 v10 v11 => (Zao E0) ∧ True
 | .L7 v5 v6 v7 v8 v9 v10 v11 v12 => True
def Zhw : Zf2 → M6
 | .L0 E0 v5 => (0, 0, 0, 0, 0, 0)
 | .L1 E0 v5 v6 => (0, 0, 0, 0, 0, 0)
 | .L2 E0 v5 v6 v7 => (0, 0, 0, 0, 0, 0)
 | .L3 E0 v5 v6 v7 v8 => (0, 0, 0, 0, 0, 0)
 | .L4 E0 v5 v6 v7 v8 v9 => (0, 0, 0, 0, 0, 0)
 | .L5 E0 v5 v6 v7 v8 v9 v10 => (0, 0, 0, 0, 0, 0)
 | .L6 E0 v5 v6 v7 v8 v9 v10 v11 => (0, 0, 0, 0, 0, 0)
 | .L7 v5 v6 v7 v8 v9 v10 v11 v12 => (0, 0, 0, 0, 0, 0)
theorem Zu1 (v5 : Bool) (v6 : Bool) (v7 : Bool) (v8 : Bool) (v9 : Bool) (v10 : Bool) (v11 : Bool) (v12 : Bool) (h : True) : Tot (Zs8 v5 v6 v7 v8 v9 v10 v11 v12).den (Nx Zew Zhw (0, 0, 0, 0, 0, 0) (fun r => True)) := by
 dsimp only [Zs8, LT.den]
 refine tF (fun h1 => ?_) (fun h1 => ?_)
 ·refine tF (fun h2 => ?_) (fun h2 => ?_)
  ·refine tF (fun h3 => ?_) (fun h3 => ?_)
   ·refine tF (fun h4 => ?_) (fun h4 => ?_)
    ·refine tF (fun h5 => ?_) (fun h5 => ?_)
     ·refine tF (fun h6 => ?_) (fun h6 => ?_)
      ·refine tF (fun h7 => ?_) (fun h7 => ?_)
       ·exact tR trivial
       ·exact tR trivial
      ·exact tR trivial
     ·exact tR trivial
    ·exact tR trivial
   ·exact tR trivial
  ·exact tR trivial
 ·exact tR trivial
theorem Znf (E0 : Z0) (v5 : Bool) (v6 : Bool) (v7 : Bool) (v8 : Bool) (v9 : Bool) (v10 : Bool) (v11 : Bool) (h : (Zao E0) ∧ True) : Tot (Zoe E0 v5 v6 v7 v8 v9 v10 v11).den (Nx Zew Zhw (0, 0, 0, 0, 0, 0) (fun r => True)) := by
 obtain ⟨O0, _⟩ := h
 dsimp only [Zoe, LT.den]
 refine tB (Zfs E0.Op 102) (fun x1 h2 => ?_)
 refine tF (fun h3 => ?_) (fun h3 => ?_)
 ·refine tB (Zapw E0.Op E0.Filter O0.2.2.2.1) (fun x4 h5 => ?_)
  exact tJ (Zu1 v5 v6 v7 v8 v9 v10 v11 x4 trivial)
 ·exact tJ (Zu1 v5 v6 v7 v8 v9 v10 v11 (Zau (Zn E0.Filter) (Zn (⟨0, 0, 0, 0, 0, 0, 0, ([] : List UInt8), 0, 0, (⟨0, 0⟩ : Zd), (⟨0, 0⟩ : Zd), (⟨0, 0⟩ : Zd)⟩ : Ze))) trivial)
theorem Zu2 (E0 : Z0) (v5 : Bool) (v6 : Bool) (v7 : Bool) (v8 : Bool) (v9 : Bool) (v10 : Bool) (h : (Zao E0) ∧ True) : Tot (Zs9 E0 v5 v6 v7 v8 v9 v10).den (Nx Zew Zhw (0, 0, 0, 0, 0, 0) (fun r => True)) := by
 obtain ⟨O0, _⟩ := h
 dsimp only [Zs9, LT.den]
 refine tB (Zfs E0.Op 112) (fun x1 h2 => ?_)
 refine tF (fun h3 => ?_) (fun h3 => ?_)
 ·refine tO (fun h4 => ?_) (fun h4 => ?_)
  ·refine tB (Zah2 E0.Pool) (fun x5 h6 => ?_)
   exact tJ (Znf E0 v5 v6 v7 v8 v9 v10 (!(x5 == ([] : List UInt8))) ⟨O0, trivial⟩)
  ·exact tJ (Znf E0 v5 v6 v7 v8 v9 v10 false ⟨O0, trivial⟩)
 ·exact tJ (Znf E0 v5 v6 v7 v8 v9 v10 (Zau ((cA6 (cI .i64)) E0.Pool) ((cA6 (cI .i64)) (⟨0, 0, 0, 0, 0, 0⟩ : (A6 Int)))) ⟨O0, trivial⟩)
theorem Zu3 (E0 : Z0) (v5 : Bool) (v6 : Bool) (v7 : Bool) (v8 : Bool) (v9 : Bool) (h : (Zao E0) ∧ True) : Tot (Zta E0 v5 v6 v7 v8 v9).den (Nx Zew Zhw (0, 0, 0, 0, 0, 0) (fun r => True)) := by
 obtain ⟨O0, _⟩ := h
 dsimp only [Zta, LT.den]
 have q1 := O0.2.2.2.2.1
 refine tB (Zfs E0.Op 109) (fun x2 h3 => ?_)
 refine tF (fun h4 => ?_) (fun h4 => ?_)
 ·refine tB (Zaxt E0.Mods O0.2.2.2.2) (fun x5 h6 => ?_)
  exact tJ (Zu2 E0 v5 v6 v7 v8 v9 x5 ⟨O0, trivial⟩)
 ·exact tJ (Zu2 E0 v5 v6 v7 v8 v9 ((E0.Mods.length : Int) == 0) ⟨O0, trivial⟩)
theorem Zu4 (E0 : Z0) (v5 : Bool) (v6 : Bool) (v7 : Bool) (v8 : Bool) (h : (Zao E0) ∧ True) : Tot (Ztb E0 v5 v6 v7 v8).den (Nx Zew Zhw (0, 0, 0, 0, 0, 0) (fun r => True)) := by
 obtain ⟨O0, _⟩ := h
 dsimp only [Ztb, LT.den]
 refine tB (Zfs E0.Op 97) (fun x1 h2 => ?_)
 refine tF (fun h3 => ?_) (fun h3 => ?_)
 ·refine tB (Z59 E0.Amount O0.2.1) (fun x4 h5 => ?_)
  have eh5_0 := h5
  exact tJ (Zu3 E0 v5 v6 v7 v8 x4 ⟨O0, trivial⟩)
 ·exact tJ (Zu3 E0 v5 v6 v7 v8 (Zau (Zaf E0.Amount) (Zaf (⟨0, 0, 0, (⟨0, 0, 0, 0, 0, 0, 0, ([] : List UInt8), 0, 0, (⟨0, 0⟩ : Zd), (⟨0, 0⟩ : Zd), (⟨0, 0⟩ : Zd)⟩ : Ze)⟩ : Zw))) ⟨O0, trivial⟩)
theorem Zng (E0 : Z0) (v5 : Bool) (v6 : Bool) (v7 : Bool) (h : (Zao E0) ∧ True) : Tot (Zof E0 v5 v6 v7).den (Nx Zew Zhw (0, 0, 0, 0, 0, 0) (fun r => True)) := by
 obtain ⟨O0, _⟩ := h
 dsimp only [Zof, LT.den]
 refine tB (Zfs E0.Op 99) (fun x1 h2 => ?_)
 refine tF (fun h3 => ?_) (fun h3 => ?_)
 ·refine tB (Z53 E0.Card (SzS.t O0.2.2.1)) (fun x4 h5 => ?_)
  exact tJ (Zu4 E0 v5 v6 v7 x4 ⟨O0, trivial⟩)
 ·exact tJ (Zu4 E0 v5 v6 v7 (E0.Card == ([] : List UInt8)) ⟨O0, trivial⟩)
theorem Zjx (E0 : Z0) (v5 : Bool) (v6 : Bool) (h : Zew (.L1 E0 v5 v6)) : Tot (Zkv E0 v5 v6).den (Nx Zew Zhw (0, 0, 0, 0, 0, 0) (fun r => True)) := by
 obtain ⟨O0, _⟩ := h
 dsimp only [Zkv, LT.den]
 refine tE (fun h1 => ?_) (fun h1 => ?_)
 ·exact tJ (Zng E0 v5 v6 true ⟨O0, trivial⟩)
 ·refine tB (Zfs E0.Op 107) (fun x2 h3 => ?_)
  refine tF (fun h4 => ?_) (fun h4 => ?_)
  ·refine tB (Zabx E0.Counter) (fun x5 h6 => ?_)
   have eh6_1 := h6.2
   exact tJ (Zng E0 v5 v6 (!(x5 == ([] : List UInt8))) ⟨O0, trivial⟩)
  ·exact tJ (Zng E0 v5 v6 false ⟨O0, trivial⟩)
theorem Zu5 (E0 : Z0) (v5 : Bool) (h : Zew (.L0 E0 v5)) : Tot (Ztc E0 v5).den (Nx Zew Zhw (0, 0, 0, 0, 0, 0) (fun r => True)) := by
 obtain ⟨O0, _⟩ := h
 dsimp only [Ztc, LT.den]
 refine tE (fun h1 => ?_) (fun h1 => ?_)
 ·exact tJ (Zjx E0 v5 true ⟨O0, trivial⟩)
 ·refine tB (Zfs E0.Op 122) (fun x2 h3 => ?_)
  refine tF (fun h4 => ?_) (fun h4 => ?_)
  ·refine tD (fun h5 => ?_) (fun h5 => ?_)
   ·exact tJ (Zjx E0 v5 (decide (E0.Zone ≤ 4)) ⟨O0, trivial⟩)
   ·exact tJ (Zjx E0 v5 false ⟨O0, trivial⟩)
  ·exact tJ (Zjx E0 v5 false ⟨O0, trivial⟩)
theorem Za2r (a0 : Z0) (a1 : Int) (oa0 : Zao a0) : Tot (Zavz a0 a1) (fun r => True) := by
 unfold Zavz
 refine tX (Inv := Zew) (μ := Zhw) (m := (1000000, 0, 0, 0, 0, 0)) ?_ ?_
 ·dsimp only [Zavx, LT.den]
  refine tB (Zaxq a0.Op) (fun x1 h2 => ?_)
  refine tF (fun h3 => ?_) (fun h3 => ?_)
  ·exact tR trivial
  ·refine tB (Zfs a0.Op 114) (fun x4 h5 => ?_)
   refine tF (fun h6 => ?_) (fun h6 => ?_)
   ·refine tB (Za2q a0.Ref a1 oa0.1) (fun x7 h8 => ?_)
    exact tJ (Zu5 a0 x7 ⟨oa0, trivial⟩)
   ·exact tJ (Zu5 a0 (Zau (Zbg a0.Ref) (Zbg (⟨0, 0, (⟨0, 0, 0, 0, 0, 0, 0, ([] : List UInt8), 0, 0, (⟨0, 0⟩ : Zd), (⟨0, 0⟩ : Zd), (⟨0, 0⟩ : Zd)⟩ : Ze)⟩ : Zak))) ⟨oa0, trivial⟩)
 ·intro s hs
  cases s with
  | L0 E0 v5 => exact Zu5 E0 v5 hs
  | L1 E0 v5 v6 => exact Zjx E0 v5 v6 hs
  | L2 E0 v5 v6 v7 => exact Zng E0 v5 v6 v7 hs
  | L3 E0 v5 v6 v7 v8 => exact Zu4 E0 v5 v6 v7 v8 hs
  | L4 E0 v5 v6 v7 v8 v9 => exact Zu3 E0 v5 v6 v7 v8 v9 hs
  | L5 E0 v5 v6 v7 v8 v9 v10 => exact Zu2 E0 v5 v6 v7 v8 v9 v10 hs
  | L6 E0 v5 v6 v7 v8 v9 v10 v11 => exact Znf E0 v5 v6 v7 v8 v9 v10 v11 hs
  | L7 v5 v6 v7 v8 v9 v10 v11 v12 => exact Zu1 v5 v6 v7 v8 v9 v10 v11 v12 hs
def Zamp : Zje → Prop
 | .L0 v0 v1 v5 => ((SzL 560 Zao) v0) ∧ (0 ≤ v5)
def Zrv : Zje → M6
 | .L0 v0 v1 v5 => (1, ((v0.length : Int) - v5).toNat, 1000000, 0, 0, 0)
theorem Zamq (a0 : (List Z0)) (a1 : Int) (oa0 : (SzL 560 Zao) a0) : Tot (Z1e a0 a1) (fun r => True) := by
 unfold Z1e
 refine tX (Inv := Zamp) (μ := Zrv) (m := (1000000, 0, 0, 0, 0, 0)) ?_ ?_
 ·have lb_a0 := oa0.1
  dsimp only [Z6o, LT.den]
  exact tL ⟨oa0, cl⟩ (by unfold Zrv lt6; dsimp only; omega)
 ·intro s hs
  cases s with
  | L0 v0 v1 v5 =>
   obtain ⟨ov0, cv5⟩ := hs
   have lb_v0 := ov0.1
   show Tot (Zqz v0 v1 v5).den _
   dsimp only [Zqz, LT.den]
   have q1 := ov0.1
   refine tD (fun h2 => ?_) (fun h2 => ?_)
   ·refine tB (tI (by omega) (by omega)) (fun x3 h4 => ?_)
    have oh4 : Zao x3 := ov0.2 x3 h4.1
    refine tB (Za2r x3 v1 oh4) (fun x5 h6 => ?_)
    refine tO (fun h7 => ?_) (fun h7 => ?_)
    ·exact tR trivial
    ·refine qw (v5 + 1) fun q8 q9 => ?_
     exact tL ⟨ov0, cl⟩ (by unfold Zrv lt6; dsimp only; omega)
   ·refine tD (fun h10 => ?_) (fun h10 => ?_)
    ·exact tR trivial
    ·exact tR trivial
def Zex : Zi4 → Prop
 | .L0 E0 v3 => (Zav E0) ∧ True
 | .L1 E0 v3 => (Zav E0) ∧ True
 | .L2 E0 v3 => (Zav E0) ∧ True
 | .L3 E0 v3 => (Zav E0) ∧ True
 | .L4 E0 v3 => (Zav E0) ∧ True
def Zoq : Zi4 → M6
 | .L0 E0 v3 => (0, 0, 0, 0, 0, 0)
 | .L1 E0 v3 => (0, 0, 0, 0, 0, 0)
 | .L2 E0 v3 => (0, 0, 0, 0, 0, 0)
 | .L3 E0 v3 => (0, 0, 0, 0, 0, 0)
 | .L4 E0 v3 => (0, 0, 0, 0, 0, 0)
theorem Zu6 (E0 : Zk) (v3 : Bool) (h : Zex (.L4 E0 v3)) : Tot (Ztd E0 v3).den (Nx Zex Zoq (0, 0, 0, 0, 0, 0) (fun r => True)) := by
 obtain ⟨O0, _⟩ := h
 dsimp only [Ztd, LT.den]
 refine tF (fun h1 => ?_) (fun h1 => ?_)
 ·refine tB (Zasj E0.Specs O0.2.2.2.1) (fun x2 h3 => ?_)
  refine tF (fun h4 => ?_) (fun h4 => ?_)
  ·have q5 := O0.2.2.2.1.1
   refine tB (Zamq E0.Effects (E0.Specs.length : Int) O0.2.2.2.2.1) (fun x6 h7 => ?_)
   exact tR trivial
  ·exact tR trivial
 ·have q8 := O0.2.2.2.1.1
  refine tE (fun h9 => ?_) (fun h9 => ?_)
  ·have q10 := O0.2.2.2.2.1.1
   exact tR trivial
  ·exact tR trivial
theorem Zu7 (E0 : Zk) (v3 : Bool) (h : Zex (.L3 E0 v3)) : Tot (Zte E0 v3).den (Nx Zex Zoq (0, 0, 0, 0, 0, 0) (fun r => True)) := by
 obtain ⟨O0, _⟩ := h
 dsimp only [Zte, LT.den]
 refine tE (fun h1 => ?_) (fun h1 => ?_)
 ·refine tB (Za2p E0.Replace O0.2.2.2.2.2) (fun x2 h3 => ?_)
  refine tO (fun h4 => ?_) (fun h4 => ?_)
  ·exact tR trivial
  ·exact tJ (Zu6 E0 v3 ⟨O0, trivial⟩)
 ·refine tO (fun h5 => ?_) (fun h5 => ?_)
  ·exact tR trivial
  ·exact tJ (Zu6 E0 v3 ⟨O0, trivial⟩)
theorem Zu8 (E0 : Zk) (v3 : Bool) (h : Zex (.L2 E0 v3)) : Tot (Ztf E0 v3).den (Nx Zex Zoq (0, 0, 0, 0, 0, 0) (fun r => True)) := by
 obtain ⟨O0, _⟩ := h
 dsimp only [Ztf, LT.den]
 refine tE (fun h1 => ?_) (fun h1 => ?_)
 ·refine tB (Za2o E0.Trigger O0.2.2.1) (fun x2 h3 => ?_)
  refine tO (fun h4 => ?_) (fun h4 => ?_)
  ·exact tR trivial
  ·exact tJ (Zu7 E0 v3 ⟨O0, trivial⟩)
 ·refine tO (fun h5 => ?_) (fun h5 => ?_)
  ·exact tR trivial
  ·refine tF (fun h6 => ?_) (fun h6 => ?_)
   ·exact tR trivial
   ·exact tJ (Zu7 E0 v3 ⟨O0, trivial⟩)
theorem Zu9 (E0 : Zk) (v3 : Bool) (h : Zex (.L1 E0 v3)) : Tot (Ztg E0 v3).den (Nx Zex Zoq (0, 0, 0, 0, 0, 0) (fun r => True)) := by
 obtain ⟨O0, _⟩ := h
 dsimp only [Ztg, LT.den]
 refine tE (fun h1 => ?_) (fun h1 => ?_)
 ·refine tB (Zasf E0.Price) (fun x2 h3 => ?_)
  refine tO (fun h4 => ?_) (fun h4 => ?_)
  ·exact tR trivial
  ·exact tJ (Zu8 E0 v3 ⟨O0, trivial⟩)
 ·refine tO (fun h5 => ?_) (fun h5 => ?_)
  ·exact tR trivial
  ·refine tF (fun h6 => ?_) (fun h6 => ?_)
   ·exact tR trivial
   ·exact tJ (Zu8 E0 v3 ⟨O0, trivial⟩)
theorem Znh (E0 : Zk) (v3 : Bool) (h : Zex (.L0 E0 v3)) : Tot (Zog E0 v3).den (Nx Zex Zoq (0, 0, 0, 0, 0, 0) (fun r => True)) := by
 obtain ⟨O0, _⟩ := h
 dsimp only [Zog, LT.den]
 refine tE (fun h1 => ?_) (fun h1 => ?_)
 ·refine tB (Zdv E0.Filter O0.1) (fun x2 h3 => ?_)
  have eh3_0 := h3.1
  have eh3_1 := h3.2
  refine tO (fun h4 => ?_) (fun h4 => ?_)
  ·exact tR trivial
  ·have h4_0 := eh3_0 h4
   refine tN (fun h5 => ?_) (fun h5 => ?_)
   ·exact tR trivial
   ·refine tB (Zn4 E0.Mods O0.2.1) (fun x6 h7 => ?_)
    have eh7_0 := h7
    refine tF (fun h8 => ?_) (fun h8 => ?_)
    ·exact tR trivial
    ·exact tJ (Zu9 E0 v3 ⟨O0, trivial⟩)
 ·refine tO (fun h9 => ?_) (fun h9 => ?_)
  ·exact tR trivial
  ·have q10 := O0.2.1.1
   refine tD (fun h11 => ?_) (fun h11 => ?_)
   ·exact tR trivial
   ·exact tJ (Zu9 E0 v3 ⟨O0, trivial⟩)
theorem Zv1 (a0 : Zk) (oa0 : Zav a0) : Tot (Zav2 a0) (fun r => True) := by
 unfold Zav2
 refine tX (Inv := Zex) (μ := Zoq) (m := (1000000, 0, 0, 0, 0, 0)) ?_ ?_
 ·dsimp only [Zav0, LT.den]
  refine tD (fun h1 => ?_) (fun h1 => ?_)
  ·exact tR trivial
  ·refine tD (fun h2 => ?_) (fun h2 => ?_)
   ·exact tR trivial
   ·refine tE (fun h3 => ?_) (fun h3 => ?_)
    ·exact tJ (Znh a0 true ⟨oa0, trivial⟩)
    ·refine tE (fun h4 => ?_) (fun h4 => ?_)
     ·exact tJ (Znh a0 true ⟨oa0, trivial⟩)
     ·exact tJ (Znh a0 (a0.Kind == 4) ⟨oa0, trivial⟩)
 ·intro s hs
  cases s with
  | L0 E0 v3 => exact Znh E0 v3 hs
  | L1 E0 v3 => exact Zu9 E0 v3 hs
  | L2 E0 v3 => exact Zu8 E0 v3 hs
  | L3 E0 v3 => exact Zu7 E0 v3 hs
  | L4 E0 v3 => exact Zu6 E0 v3 hs
theorem Zaxy (a0 : Zl) (oa0 : Zad a0) : Tot (Zag5 a0) (fun r => True) := by
 unfold Zag5
 refine tZ ?_
 dsimp only [Zak5, LT.den]
 refine tE (fun h1 => ?_) (fun h1 => ?_)
 ·exact tR trivial
 ·exact tR trivial
def Z6a (a0 : Zl) : Zq0 → Prop
 | .L0 E0 => (E0 = a0) ∧ (Zad E0) ∧ (E0.Abilities.length ≤ 8)
 | .L1 E0 v3 v4 => (E0 = a0) ∧ (Zad E0) ∧ (0 ≤ v4) ∧ (E0.Abilities.length ≤ 8)
def Z0i : Zq0 → M6
 | .L0 E0 => (2, 0, 0, 0, 0, 0)
 | .L1 E0 v3 v4 => (1, ((E0.Abilities.length : Int) - v4).toNat, 1000000, 0, 0, 0)
theorem Zva (a0 : Zl) (E0 : Zl) (h : (Z6a a0) (.L0 E0)) : Tot (Zth E0).den (Nx (Z6a a0) Z0i (2, 0, 0, 0, 0, 0) (fun r => (r = true → a0.Abilities.length ≤ 8))) := by
 obtain ⟨al0, O0, i0⟩ := h
 subst al0
 dsimp only [Zth, LT.den]
 exact tL ⟨rfl, O0, cl, cl⟩ Za2j
theorem Za2s (a0 : Zl) (oa0 : Zad a0) : Tot (Zav5 a0) (fun r => (r = true → a0.Abilities.length ≤ 8)) := by
 unfold Zav5
 refine tX (Inv := (Z6a a0)) (μ := Z0i) (m := (1000000, 0, 0, 0, 0, 0)) ?_ ?_
 ·dsimp only [Zav3, LT.den]
  refine tB (Z53 a0.Name (SzS.t oa0.1)) (fun x1 h2 => ?_)
  refine tO (fun h3 => ?_) (fun h3 => ?_)
  ·exact tR Zhc
  ·refine tB (Zqc a0.Cost) (fun x4 h5 => ?_)
   have eh5_0 := h5.1
   have eh5_1 := h5.2
   refine tO (fun h6 => ?_) (fun h6 => ?_)
   ·exact tR Zhc
   ·have h6_0 := eh5_0 h6
    have h6_1 := eh5_1 h6
    refine tB (Za2m a0.Line oa0.2.1) (fun x7 h8 => ?_)
    refine tO (fun h9 => ?_) (fun h9 => ?_)
    ·exact tR Zhc
    ·refine tB (Zamo a0.Keys) (fun x10 h11 => ?_)
     refine tO (fun h12 => ?_) (fun h12 => ?_)
     ·exact tR Zhc
     ·refine tD (fun h13 => ?_) (fun h13 => ?_)
      ·exact tR Zhc
      ·refine tD (fun h14 => ?_) (fun h14 => ?_)
       ·exact tR Zhc
       ·refine tD (fun h15 => ?_) (fun h15 => ?_)
        ·exact tR Zhc
        ·refine tD (fun h16 => ?_) (fun h16 => ?_)
         ·exact tR Zhc
         ·refine tD (fun h17 => ?_) (fun h17 => ?_)
          ·exact tR Zhc
          ·refine tD (fun h18 => ?_) (fun h18 => ?_)
           ·exact tR Zhc
           ·refine tB (Zahw a0 oa0) (fun x19 h20 => ?_)
            refine tO (fun h21 => ?_) (fun h21 => ?_)
            ·refine tN (fun h22 => ?_) (fun h22 => ?_)
             ·exact tR Zhc
             ·refine tN (fun h23 => ?_) (fun h23 => ?_)
              ·exact tR Zhc
              ·have q24 := oa0.2.2.1
               refine tD (fun h25 => ?_) (fun h25 => ?_)
               ·exact tR Zhc
               ·exact tJ (Zva a0 a0 ⟨rfl, oa0, cl⟩)
            ·have q26 := oa0.2.2.1
             refine tD (fun h27 => ?_) (fun h27 => ?_)
             ·exact tR Zhc
             ·exact tJ (Zva a0 a0 ⟨rfl, oa0, cl⟩)
 ·intro s hs
  cases s with
  | L0 E0 => exact Zva a0 E0 hs
  | L1 E0 v3 v4 =>
   obtain ⟨al0, O0, cv4, i0⟩ := hs
   subst al0
   show Tot (Z9j E0 v3 v4).den _
   dsimp only [Z9j, LT.den, Z0i]
   have q1 := O0.2.2.1
   refine tD (fun h2 => ?_) (fun h2 => ?_)
   ·refine tB (tI (by omega) (by omega)) (fun x3 h4 => ?_)
    have oh4 : Zav x3 := O0.2.2.2 x3 h4.1
    refine tB (Zv1 x3 oh4) (fun x5 h6 => ?_)
    refine tO (fun h7 => ?_) (fun h7 => ?_)
    ·exact tR Zhc
    ·refine tE (fun h8 => ?_) (fun h8 => ?_)
     ·refine qw (v3 + 1) fun q9 q10 => ?_
      refine qw (v4 + 1) fun q11 q12 => ?_
      exact tL ⟨rfl, O0, cl, cl⟩ Za2j
     ·refine qw (v4 + 1) fun q13 q14 => ?_
      exact tL ⟨rfl, O0, cl, cl⟩ Za2j
   ·refine tB (Zaxy E0 O0) (fun x15 h16 => ?_)
    refine tF (fun h17 => ?_) (fun h17 => ?_)
    ·refine tO (fun h18 => ?_) (fun h18 => ?_)
     ·refine tE (fun h19 => ?_) (fun h19 => ?_)
      ·refine tE (fun h20 => ?_) (fun h20 => ?_)
       ·exact tR Zhc
       ·exact tR Zhc
      ·exact tR Zhc
     ·exact tR Zhc
    ·refine tE (fun h21 => ?_) (fun h21 => ?_)
     ·refine tO (fun h22 => ?_) (fun h22 => ?_)
      ·refine tE (fun h23 => ?_) (fun h23 => ?_)
       ·exact tR Zhc
       ·exact tR Zhc
      ·exact tR Zhc
     ·exact tR Zhc
def Zaxz : Zpg → Prop
 | .L0 v0 v1 v5 => ((SzL 176 Zad) v0) ∧ (SzT v1) ∧ (0 ≤ v5)
def Z2i : Zpg → M6
 | .L0 v0 v1 v5 => (1, ((v0.length : Int) - v5).toNat, 1000000, 0, 0, 0)
theorem Zax0 (a0 : (List Zl)) (a1 : (List UInt8)) (oa0 : (SzL 176 Zad) a0) (oa1 : SzT a1) : Tot (Zag6 a0 a1) (fun r => True) := by
 unfold Zag6
 refine tX (Inv := Zaxz) (μ := Z2i) (m := (1000000, 0, 0, 0, 0, 0)) ?_ ?_
 ·have lb_a0 := oa0.1
  have lb_a1 : a1.length ≤ 562949953421312 := oa1
  dsimp only [Zak7, LT.den]
  exact tL ⟨oa0, oa1, cl⟩ (by unfold Z2i lt6; dsimp only; omega)
 ·intro s hs
  cases s with
  | L0 v0 v1 v5 =>
   obtain ⟨ov0, ov1, cv5⟩ := hs
   have lb_v0 := ov0.1
   have lb_v1 : v1.length ≤ 562949953421312 := ov1
   show Tot (Z1f v0 v1 v5).den _
   dsimp only [Z1f, LT.den]
   have q1 := ov0.1
   refine tD (fun h2 => ?_) (fun h2 => ?_)
   ·refine tB (tI (by omega) (by omega)) (fun x3 h4 => ?_)
    have oh4 : Zad x3 := ov0.2 x3 h4.1
    refine tF (fun h5 => ?_) (fun h5 => ?_)
    ·exact tR trivial
    ·refine qw (v5 + 1) fun q6 q7 => ?_
     exact tL ⟨ov0, ov1, cl⟩ (by unfold Z2i lt6; dsimp only; omega)
   ·exact tR trivial
def Zask : Zmj → Prop
 | .L0 v0 v1 v5 => ((SzL 176 Zad) v0) ∧ (SzT v1) ∧ (0 ≤ v5)
def Zaby : Zmj → M6
 | .L0 v0 v1 v5 => (1, ((v0.length : Int) - v5).toNat, 1000000, 0, 0, 0)
theorem Zasl (a0 : (List Zl)) (a1 : (List UInt8)) (oa0 : (SzL 176 Zad) a0) (oa1 : SzT a1) : Tot (Z9k a0 a1) (fun r => True) := by
 unfold Z9k
 refine tX (Inv := Zask) (μ := Zaby) (m := (1000000, 0, 0, 0, 0, 0)) ?_ ?_
 ·have lb_a0 := oa0.1
  have lb_a1 : a1.length ≤ 562949953421312 := oa1
  dsimp only [Zad7, LT.den]
  exact tL ⟨oa0, oa1, cl⟩ tk85
 ·intro s hs
  cases s with
  | L0 v0 v1 v5 =>
   obtain ⟨ov0, ov1, cv5⟩ := hs
   have lb_v0 := ov0.1
   have lb_v1 : v1.length ≤ 562949953421312 := ov1
   show Tot (Zwz v0 v1 v5).den _
   dsimp only [Zwz, LT.den]
   have q1 := ov0.1
   refine tD (fun h2 => ?_) (fun h2 => ?_)
   ·refine tB (tI (by omega) (by omega)) (fun x3 h4 => ?_)
    have oh4 : Zad x3 := ov0.2 x3 h4.1
    refine tF (fun h5 => ?_) (fun h5 => ?_)
    ·refine tF (fun h6 => ?_) (fun h6 => ?_)
     ·exact tR trivial
     ·refine qw (v5 + 1) fun q7 q8 => ?_
      exact tL ⟨ov0, ov1, cl⟩ tk85
    ·refine qw (v5 + 1) fun q9 q10 => ?_
     exact tL ⟨ov0, ov1, cl⟩ tk85
   ·exact tR trivial
def Zamr : Zhp → Prop
 | .L0 v0 E0 v5 => ((SzL 176 Zad) v0) ∧ (Zad E0) ∧ (0 ≤ v5)
 | .L1 v0 E0 v5 v6 => ((SzL 176 Zad) v0) ∧ (Zad E0) ∧ (0 ≤ v5) ∧ (0 ≤ v6) ∧ (v5 < (E0.Abilities.length : Int)) ∧ (v5 < (E0.Abilities.length : Int))
def Z34 : Zhp → M6
 | .L0 v0 E0 v5 => (1, ((E0.Abilities.length : Int) - v5).toNat, 1000000, 0, 0, 0)
 | .L1 v0 E0 v5 v6 => (1, ((E0.Abilities.length : Int) - v5).toNat, 1, ((((E0.Abilities[v5.toNat]?).map fun x => x.Effects.length).getD 0 : Nat) - v6).toNat, 1000000, 0)
theorem Zams (a0 : (List Zl)) (a1 : Zl) (oa0 : (SzL 176 Zad) a0) (oa1 : Zad a1) : Tot (Z1g a0 a1) (fun r => True) := by
 unfold Z1g
 refine tX (Inv := Zamr) (μ := Z34) (m := (1000000, 0, 0, 0, 0, 0)) ?_ ?_
 ·have lb_a0 := oa0.1
  dsimp only [Z6q, LT.den]
  exact tL ⟨oa0, oa1, cl⟩ tk66
 ·intro s hs
  cases s with
  | L0 v0 E0 v5 =>
   obtain ⟨ov0, O0, cv5⟩ := hs
   have lb_v0 := ov0.1
   show Tot (Zq1 v0 E0 v5).den _
   dsimp only [Zq1, LT.den]
   have q1 := O0.2.2.1
   refine tD (fun h2 => ?_) (fun h2 => ?_)
   ·exact tL ⟨ov0, O0, cl, cl, cl, cl⟩ tk66
   ·exact tR trivial
  | L1 v0 E0 v5 v6 =>
   obtain ⟨ov0, O0, cv5, cv6, bd4, i0⟩ := hs
   have lb_v0 := ov0.1
   show Tot (Zq2 v0 E0 v5 v6).den _
   dsimp only [Zq2, LT.den]
   have lx_0 : E0.Abilities.length * 640 ≤ 140737488351232 := O0.2.2.1
   refine tB (tI (by omega) (by omega)) (fun x1 h2 => ?_)
   have oh2 : Zav x1 := O0.2.2.2 x1 h2.1
   have mh2 : ((E0.Abilities[v5.toNat]?).map fun x => x.Effects.length).getD 0 = x1.Effects.length := by rw [h2.2]; rfl
   have q3 := oh2.2.2.2.2.1.1
   refine tD (fun h4 => ?_) (fun h4 => ?_)
   ·refine tB (tI (by omega) (by omega)) (fun x5 h6 => ?_)
    have oh6 : Zao x5 := oh2.2.2.2.2.1.2 x5 h6.1
    refine tE (fun h7 => ?_) (fun h7 => ?_)
    ·refine tB (Zasl v0 x5.Card ov0 (SzS.t oh6.2.2.1)) (fun x8 h9 => ?_)
     refine tO (fun h10 => ?_) (fun h10 => ?_)
     ·exact tR trivial
     ·refine qw (v6 + 1) fun q11 q12 => ?_
      exact tL ⟨ov0, O0, cl, cl, cl, cl⟩ tk66
    ·refine qw (v6 + 1) fun q13 q14 => ?_
     exact tL ⟨ov0, O0, cl, cl, cl, cl⟩ tk66
   ·refine qw (v5 + 1) fun q15 q16 => ?_
    exact tL ⟨ov0, O0, cl⟩ tk66
def Zasm (a0 : (List Zl)) : Zmk → Prop
 | .L0 v0 v4 => (v0 = a0) ∧ ((SzL 176 Zad) v0) ∧ (0 ≤ v4) ∧ (∀ (k : Nat) c, (k : Int) < v4 → v0[k]? = some c → c.Abilities.length ≤ 8)
def Zyo : Zmk → M6
 | .L0 v0 v4 => (1, ((v0.length : Int) - v4).toNat, 1000000, 0, 0, 0)
theorem Zasn (a0 : (List Zl)) (oa0 : (SzL 176 Zad) a0) : Tot (Z9l a0) (fun r => (r.2 = 0 → ∀ c, c ∈ a0 → c.Abilities.length ≤ 8)) := by
 unfold Z9l
 refine tX (Inv := (Zasm a0)) (μ := Zyo) (m := (1000000, 0, 0, 0, 0, 0)) ?_ ?_
 ·have lb_a0 := oa0.1
  dsimp only [Zad9, LT.den]
  have q1 := oa0.1
  refine tD (fun h2 => ?_) (fun h2 => ?_)
  ·exact tR tk20
  ·exact tL ⟨rfl, oa0, cl, tk13⟩ (by unfold Zyo lt6; dsimp only; omega)
 ·intro s hs
  cases s with
  | L0 v0 v4 =>
   obtain ⟨al0, ov0, cv4, i0⟩ := hs
   have lb_v0 := ov0.1
   subst al0
   show Tot (Zw0 v0 v4).den _
   dsimp only [Zw0, LT.den]
   have q1 := ov0.1
   refine tD (fun h2 => ?_) (fun h2 => ?_)
   ·refine tB (tI (by omega) (by omega)) (fun x3 h4 => ?_)
    have oh4 : Zad x3 := ov0.2 x3 h4.1
    have mh4 := h4.2
    refine tB (Za2s x3 oh4) (fun x5 h6 => ?_)
    have eh6_0 := h6
    refine tO (fun h7 => ?_) (fun h7 => ?_)
    ·exact tR tk20
    ·have h7_0 := eh6_0 h7
     refine tB (Zax0 v0 x3.Name ov0 (SzS.t oh4.1)) (fun x8 h9 => ?_)
     refine tD (fun h10 => ?_) (fun h10 => ?_)
     ·exact tR tk20
     ·refine tB (Zams v0 x3 ov0 oh4) (fun x11 h12 => ?_)
      refine tO (fun h13 => ?_) (fun h13 => ?_)
      ·exact tR tk20
      ·refine qw (v4 + 1) fun q14 q15 => ?_
       exact tL ⟨rfl, ov0, cl, tk13⟩ (by unfold Zyo lt6; dsimp only; omega)
   ·exact tR tk20
theorem Zdf (a0 : Int) (a1 : Int) (a2 : Int) : Tot (Zawa a0 a1 a2) (fun r => (r = true ↔ (a1 ≤ a0 ∧ a0 ≤ a2))) := by
 unfold Zawa
 refine tZ ?_
 dsimp only [Zav8, LT.den]
 refine tD (fun h1 => ?_) (fun h1 => ?_)
 ·exact tR (by grind)
 ·exact tR (by grind)
def Zaso : Zml → Prop
 | .L0 E0 v3 => (0 ≤ v3) ∧ True
def Zyp : Zml → M6
 | .L0 E0 v3 => (1, (6 - v3).toNat, 1000000, 0, 0, 0)
theorem Zasp (a0 : (A6 Int)) : Tot (Z9m a0) (fun r => True) := by
 unfold Z9m
 refine tX (Inv := Zaso) (μ := Zyp) (m := (1000000, 0, 0, 0, 0, 0)) ?_ ?_
 ·dsimp only [Zaeb, LT.den]
  exact tL ⟨cl, trivial⟩ (by unfold Zyp lt6; dsimp only; omega)
 ·intro s hs
  cases s with
  | L0 E0 v3 =>
   obtain ⟨cv3, _⟩ := hs
   show Tot (Zw1 E0 v3).den _
   dsimp only [Zw1, LT.den]
   refine tD (fun h1 => ?_) (fun h1 => ?_)
   ·refine tB (tI (by omega) tk56) (fun x2 h3 => ?_)
    refine tD (fun h4 => ?_) (fun h4 => ?_)
    ·exact tR trivial
    ·refine tB (tI (by omega) tk56) (fun x5 h6 => ?_)
     refine tD (fun h7 => ?_) (fun h7 => ?_)
     ·exact tR trivial
     ·refine qw (v3 + 1) fun q8 q9 => ?_
      exact tL ⟨cl, trivial⟩ (by unfold Zyp lt6; dsimp only; omega)
   ·exact tR trivial
def Zasq (a0 : Zb) (a1 : Int) : Zmm → Prop
 | .L0 v1 E0 v5 => (E0 = a0) ∧ (v1 = a1) ∧ (Zq E0) ∧ (0 ≤ v5) ∧ (Z5v E0.Objects v1 v5)
def Zyq : Zmm → M6
 | .L0 v1 E0 v5 => (1, ((E0.Objects.length : Int) - v5).toNat, 1000000, 0, 0, 0)
theorem Zasr (a0 : Zb) (a1 : Int) (oa0 : Zq a0) : Tot (Z9n a0 a1) (fun r => (r < (a0.Objects.length : Int)) ∧ (r = ixO a0.Objects a1)) := by
 unfold Z9n
 refine tX (Inv := (Zasq a0 a1)) (μ := Zyq) (m := (1000000, 0, 0, 0, 0, 0)) ?_ ?_
 ·dsimp only [Zaed, LT.den]
  exact tL ⟨rfl, rfl, oa0, cl, tk22⟩ (by unfold Zyq lt6; dsimp only; omega)
 ·intro s hs
  cases s with
  | L0 v1 E0 v5 =>
   obtain ⟨al0, al1, O0, cv5, i0⟩ := hs
   subst al0
   subst al1
   show Tot (Zw2 v1 E0 v5).den _
   dsimp only [Zw2, LT.den]
   have q1 := O0.2.1.1
   refine tD (fun h2 => ?_) (fun h2 => ?_)
   ·refine tB (tI (by omega) (by omega)) (fun x3 h4 => ?_)
    have mh4 := h4.2
    refine tE (fun h5 => ?_) (fun h5 => ?_)
    ·exact tR ⟨cl, tk16⟩
    ·refine qw (v5 + 1) fun q6 q7 => ?_
     exact tL ⟨rfl, rfl, O0, cl, tk22⟩ (by unfold Zyq lt6; dsimp only; omega)
   ·exact tR ⟨cl, tk16⟩
theorem Zabz (a0 : Zb) (a1 : Int) (oa0 : Zq a0) : Tot (Zag7 a0 a1) (fun r => (r = fdV a0.Objects a1)) := by
 unfold Zag7
 refine tZ ?_
 dsimp only [Zak9, LT.den]
 refine tB (Zasr a0 a1 oa0) (fun x1 h2 => ?_)
 have eh2_0 := h2.1
 have eh2_1 := h2.2
 have lh2 := Zabj a0.Objects a1
 refine tD (fun h3 => ?_) (fun h3 => ?_)
 ·exact tR tk27
 ·refine tB (tI (by omega) (by omega)) (fun x4 h5 => ?_)
  have mh5 := h5.2
  exact tR tk27
theorem Z35 (a0 : Zb) (a1 : Int) (oa0 : Zq a0) : Tot (Z46 a0 a1) (fun r => True) := by
 unfold Z46
 refine tZ ?_
 dsimp only [Z9o, LT.den]
 refine tB (Zabz a0 a1 oa0) (fun x1 h2 => ?_)
 have eh2_0 := h2
 exact tR trivial
def Zass : Zmn → Prop
 | .L0 v0 v1 v5 v6 => ((SzL 8 (fun _ => True)) v0) ∧ (0 ≤ v6)
def Zab0 : Zmn → M6
 | .L0 v0 v1 v5 v6 => (1, ((v0.length : Int) - v6).toNat, 1000000, 0, 0, 0)
theorem Zvb (a0 : (List Int)) (a1 : Int) (oa0 : (SzL 8 (fun _ => True)) a0) : Tot (Z9q a0 a1) (fun r => True) := by
 unfold Z9q
 refine tX (Inv := Zass) (μ := Zab0) (m := (1000000, 0, 0, 0, 0, 0)) ?_ ?_
 ·have lb_a0 := oa0.1
  dsimp only [Zaeg, LT.den]
  exact tL ⟨oa0, cl⟩ tk86
 ·intro s hs
  cases s with
  | L0 v0 v1 v5 v6 =>
   obtain ⟨ov0, cv6⟩ := hs
   have lb_v0 := ov0.1
   show Tot (Zw3 v0 v1 v5 v6).den _
   dsimp only [Zw3, LT.den]
   have q1 := ov0.1
   refine tD (fun h2 => ?_) (fun h2 => ?_)
   ·refine tB (tI (by omega) (by omega)) (fun x3 h4 => ?_)
    refine tE (fun h5 => ?_) (fun h5 => ?_)
    ·refine qw (v5 + 1) fun q6 q7 => ?_
     refine qw (v6 + 1) fun q8 q9 => ?_
     exact tL ⟨ov0, cl⟩ tk86
    ·refine qw (v6 + 1) fun q10 q11 => ?_
     exact tL ⟨ov0, cl⟩ tk86
   ·exact tR trivial
def Zax1 : Zph → Prop
 | .L0 v1 v2 v3 E0 v9 => ((SzL 8 (fun _ => True)) v1) ∧ (Zq E0) ∧ (0 ≤ v9)
def Zafy : Zph → M6
 | .L0 v1 v2 v3 E0 v9 => (1, ((v1.length : Int) - v9).toNat, 1000000, 0, 0, 0)
theorem Zk8 (a0 : Zb) (a1 : (List Int)) (a2 : Int) (a3 : Int) (oa0 : Zq a0) (oa1 : (SzL 8 (fun _ => True)) a1) : Tot (Zag8 a0 a1 a2 a3) (fun r => True) := by
 unfold Zag8
 refine tX (Inv := Zax1) (μ := Zafy) (m := (1000000, 0, 0, 0, 0, 0)) ?_ ?_
 ·have lb_a1 := oa1.1
  dsimp only [Zalb, LT.den]
  exact tL ⟨oa1, oa0, cl⟩ tk95
 ·intro s hs
  cases s with
  | L0 v1 v2 v3 E0 v9 =>
   obtain ⟨ov1, O0, cv9⟩ := hs
   have lb_v1 := ov1.1
   show Tot (Z1h v1 v2 v3 E0 v9).den _
   dsimp only [Z1h, LT.den]
   have q1 := ov1.1
   refine tD (fun h2 => ?_) (fun h2 => ?_)
   ·refine tB (tI (by omega) (by omega)) (fun x3 h4 => ?_)
    refine tB (Z35 E0 x3 O0) (fun x5 h6 => ?_)
    refine tO (fun h7 => ?_) (fun h7 => ?_)
    ·exact tR trivial
    ·refine tN (fun h8 => ?_) (fun h8 => ?_)
     ·exact tR trivial
     ·refine tD (fun h9 => ?_) (fun h9 => ?_)
      ·refine tN (fun h10 => ?_) (fun h10 => ?_)
       ·exact tR trivial
       ·refine tB (Zvb v1 x3 ov1) (fun x11 h12 => ?_)
        refine tN (fun h13 => ?_) (fun h13 => ?_)
        ·exact tR trivial
        ·refine qw (v9 + 1) fun q14 q15 => ?_
         exact tL ⟨ov1, O0, cl⟩ tk95
      ·refine tB (Zvb v1 x3 ov1) (fun x16 h17 => ?_)
       refine tN (fun h18 => ?_) (fun h18 => ?_)
       ·exact tR trivial
       ·refine qw (v9 + 1) fun q19 q20 => ?_
        exact tL ⟨ov1, O0, cl⟩ tk95
   ·exact tR trivial
def Zamt : Zjf → Prop
 | .L0 E0 v3 => (Zq E0) ∧ (0 ≤ v3)
def Zrw : Zjf → M6
 | .L0 E0 v3 => (1, ((E0.Players.length : Int) - v3).toNat, 1000000, 0, 0, 0)
theorem Zamu (a0 : Zb) (oa0 : Zq a0) : Tot (Z1i a0) (fun r => True) := by
 unfold Z1i
 refine tX (Inv := Zamt) (μ := Zrw) (m := (1000000, 0, 0, 0, 0, 0)) ?_ ?_
 ·dsimp only [Z6t, LT.den]
  have q1 := oa0.1.1
  refine tB (Zdf (a0.Players.length : Int) 2 4) (fun x2 h3 => ?_)
  have eh3_0 := h3
  refine tO (fun h4 => ?_) (fun h4 => ?_)
  ·exact tR trivial
  ·exact tL ⟨oa0, cl⟩ (by unfold Zrw lt6; dsimp only; omega)
 ·intro s hs
  cases s with
  | L0 E0 v3 =>
   obtain ⟨O0, cv3⟩ := hs
   show Tot (Zq3 E0 v3).den _
   dsimp only [Zq3, LT.den]
   have q1 := O0.1.1
   refine tD (fun h2 => ?_) (fun h2 => ?_)
   ·refine tB (tI (by omega) (by omega)) (fun x3 h4 => ?_)
    have oh4 : Zbs x3 := O0.1.2 x3 h4.1
    refine tB (Zdf x3.Life (-1000000) 1000000) (fun x5 h6 => ?_)
    have eh6_0 := h6
    refine tO (fun h7 => ?_) (fun h7 => ?_)
    ·exact tR trivial
    ·refine tB (Zdf x3.Venom 0 1000000) (fun x8 h9 => ?_)
     have eh9_0 := h9
     refine tO (fun h10 => ?_) (fun h10 => ?_)
     ·exact tR trivial
     ·refine tB (Zdf x3.Lands 0 1000000) (fun x11 h12 => ?_)
      have eh12_0 := h12
      refine tO (fun h13 => ?_) (fun h13 => ?_)
      ·exact tR trivial
      ·refine tB (Zasp x3.Pool) (fun x14 h15 => ?_)
       refine tO (fun h16 => ?_) (fun h16 => ?_)
       ·exact tR trivial
       ·refine tB (Zk8 E0 x3.Library 2 v3 O0 oh4.1) (fun x17 h18 => ?_)
        refine tO (fun h19 => ?_) (fun h19 => ?_)
        ·exact tR trivial
        ·refine tB (Zk8 E0 x3.Hand 1 v3 O0 oh4.2.1) (fun x20 h21 => ?_)
         refine tO (fun h22 => ?_) (fun h22 => ?_)
         ·exact tR trivial
         ·refine tB (Zk8 E0 x3.Graveyard 3 v3 O0 oh4.2.2) (fun x23 h24 => ?_)
          refine tO (fun h25 => ?_) (fun h25 => ?_)
          ·exact tR trivial
          ·refine qw (v3 + 1) fun q26 q27 => ?_
           exact tL ⟨O0, cl⟩ (by unfold Zrw lt6; dsimp only; omega)
   ·refine tB (Zk8 E0 E0.Battlefield 0 (-1) O0 O0.2.2.1) (fun x28 h29 => ?_)
    refine tF (fun h30 => ?_) (fun h30 => ?_)
    ·refine tB (Zk8 E0 E0.Exile 4 (-1) O0 O0.2.2.2.1) (fun x31 h32 => ?_)
     exact tR trivial
    ·exact tR trivial
theorem Zfd (a0 : Zb) (a1 : Int) (oa0 : Zq a0) : Tot (Z47 a0 a1) (fun r => (r = true ↔ (0 ≤ a1 ∧ a1 < (a0.Players.length : Int)))) := by
 unfold Z47
 refine tZ ?_
 dsimp only [Z9r, LT.den]
 have q1 := oa0.1.1
 refine qw ((a0.Players.length : Int) - 1) fun q2 q3 => ?_
 refine tB (Zdf a1 0 (IntKind.wrap .i64 ((a0.Players.length : Int) - 1))) (fun x4 h5 => ?_)
 have eh5_0 := h5
 exact tR (by grind)
def Za2t : Zw5 → Prop
 | .L0 E0 v3 => (0 ≤ v3) ∧ True
def Zab1 : Zw5 → M6
 | .L0 E0 v3 => (1, (3 - v3).toNat, 1000000, 0, 0, 0)
theorem Za2u (a0 : (A3 Int)) : Tot (Zawf a0) (fun r => True) := by
 unfold Zawf
 refine tX (Inv := Za2t) (μ := Zab1) (m := (1000000, 0, 0, 0, 0, 0)) ?_ ?_
 ·dsimp only [Zawd, LT.den]
  exact tL ⟨cl, trivial⟩ (by unfold Zab1 lt6; dsimp only; omega)
 ·intro s hs
  cases s with
  | L0 E0 v3 =>
   obtain ⟨cv3, _⟩ := hs
   show Tot (Z9t E0 v3).den _
   dsimp only [Z9t, LT.den]
   refine tD (fun h1 => ?_) (fun h1 => ?_)
   ·refine tB (tI (by omega) (by have e : (A3.list E0).length = 3 := rfl; omega)) (fun x2 h3 => ?_)
    refine tD (fun h4 => ?_) (fun h4 => ?_)
    ·exact tR trivial
    ·refine tB (tI (by omega) (by have e : (A3.list E0).length = 3 := rfl; omega)) (fun x5 h6 => ?_)
     refine tD (fun h7 => ?_) (fun h7 => ?_)
     ·exact tR trivial
     ·refine qw (v3 + 1) fun q8 q9 => ?_
      exact tL ⟨cl, trivial⟩ (by unfold Zab1 lt6; dsimp only; omega)
   ·exact tR trivial
theorem Zax2 (a0 : Zf) : Tot (Zag9 a0) (fun r => True) := by
 unfold Zag9
 refine tZ ?_
 dsimp only [Zald, LT.den]
 exact tR trivial
theorem Zast (a0 : Zf) : Tot (Z9u a0) (fun r => True) := by
 unfold Z9u
 refine tZ ?_
 dsimp only [Zaei, LT.den]
 exact tR trivial
theorem Za2v (a0 : Zf) (a1 : Int) (a2 : Int) : Tot (Zawj a0 a1 a2) (fun r => True) := by
 unfold Zawj
 refine tZ ?_
 dsimp only [Zawh, LT.den]
 refine tD (fun h1 => ?_) (fun h1 => ?_)
 ·exact tR trivial
 ·refine tD (fun h2 => ?_) (fun h2 => ?_)
  ·exact tR trivial
  ·refine tD (fun h3 => ?_) (fun h3 => ?_)
   ·exact tR trivial
   ·refine tD (fun h4 => ?_) (fun h4 => ?_)
    ·exact tR trivial
    ·refine tD (fun h5 => ?_) (fun h5 => ?_)
     ·exact tR trivial
     ·refine tD (fun h6 => ?_) (fun h6 => ?_)
      ·exact tR trivial
      ·refine tD (fun h7 => ?_) (fun h7 => ?_)
       ·exact tR trivial
       ·refine tD (fun h8 => ?_) (fun h8 => ?_)
        ·exact tR trivial
        ·refine tD (fun h9 => ?_) (fun h9 => ?_)
         ·exact tR trivial
         ·refine tD (fun h10 => ?_) (fun h10 => ?_)
          ·exact tR trivial
          ·refine tD (fun h11 => ?_) (fun h11 => ?_)
           ·exact tR trivial
           ·refine tD (fun h12 => ?_) (fun h12 => ?_)
            ·exact tR trivial
            ·refine tD (fun h13 => ?_) (fun h13 => ?_)
             ·exact tR trivial
             ·refine tD (fun h14 => ?_) (fun h14 => ?_)
              ·exact tR trivial
              ·refine tD (fun h15 => ?_) (fun h15 => ?_)
               ·exact tR trivial
               ·refine tD (fun h16 => ?_) (fun h16 => ?_)
                ·exact tR trivial
                ·refine tD (fun h17 => ?_) (fun h17 => ?_)
                 ·exact tR trivial
                 ·refine tB (Za2u a0.Counters) (fun x18 h19 => ?_)
                  refine tO (fun h20 => ?_) (fun h20 => ?_)
                  ·exact tR trivial
                  ·refine tD (fun h21 => ?_) (fun h21 => ?_)
                   ·exact tR trivial
                   ·refine tD (fun h22 => ?_) (fun h22 => ?_)
                    ·exact tR trivial
                    ·refine tD (fun h23 => ?_) (fun h23 => ?_)
                     ·exact tR trivial
                     ·refine tD (fun h24 => ?_) (fun h24 => ?_)
                      ·exact tR trivial
                      ·refine tE (fun h25 => ?_) (fun h25 => ?_)
                       ·exact tR trivial
                       ·refine tB (Zax2 a0) (fun x26 h27 => ?_)
                        refine tF (fun h28 => ?_) (fun h28 => ?_)
                        ·refine tB (Zast a0) (fun x29 h30 => ?_)
                         refine tF (fun h31 => ?_) (fun h31 => ?_)
                         ·refine tO (fun h32 => ?_) (fun h32 => ?_)
                          ·refine tO (fun h33 => ?_) (fun h33 => ?_)
                           ·exact tR trivial
                           ·exact tR trivial
                          ·exact tR trivial
                         ·exact tR trivial
                        ·exact tR trivial
def Zapx : Zkw → Prop
 | .L0 v1 E0 v5 v6 => (Zq E0) ∧ (0 ≤ v6)
def Z7v : Zkw → M6
 | .L0 v1 E0 v5 v6 => (1, ((E0.Stack.length : Int) - v6).toNat, 1000000, 0, 0, 0)
theorem Zapy (a0 : Zb) (a1 : Int) (oa0 : Zq a0) : Tot (Z48 a0 a1) (fun r => True) := by
 unfold Z48
 refine tX (Inv := Zapx) (μ := Z7v) (m := (1000000, 0, 0, 0, 0, 0)) ?_ ?_
 ·dsimp only [Z9v, LT.den]
  exact tL ⟨oa0, cl⟩ tk76
 ·intro s hs
  cases s with
  | L0 v1 E0 v5 v6 =>
   obtain ⟨O0, cv6⟩ := hs
   show Tot (Zua v1 E0 v5 v6).den _
   dsimp only [Zua, LT.den]
   have q1 := O0.2.2.2.2.1.1
   refine tD (fun h2 => ?_) (fun h2 => ?_)
   ·refine tB (tI (by omega) (by omega)) (fun x3 h4 => ?_)
    have oh4 : Zh1 x3 := O0.2.2.2.2.1.2 x3 h4.1
    refine tE (fun h5 => ?_) (fun h5 => ?_)
    ·refine tE (fun h6 => ?_) (fun h6 => ?_)
     ·refine qw (v5 + 1) fun q7 q8 => ?_
      refine qw (v6 + 1) fun q9 q10 => ?_
      exact tL ⟨O0, cl⟩ tk76
     ·refine qw (v6 + 1) fun q11 q12 => ?_
      exact tL ⟨O0, cl⟩ tk76
    ·refine qw (v6 + 1) fun q13 q14 => ?_
     exact tL ⟨O0, cl⟩ tk76
   ·exact tR trivial
theorem Zk9 (a0 : (List Int)) (oa0 : (SzL 8 (fun _ => True)) a0) : Tot (Zaha a0) (fun r => ((SzL 8 (fun _ => True)) r)) := by
 unfold Zaha
 refine tZ ?_
 have lb_a0 := oa0.1
 dsimp only [Zalf, LT.den]
 have q3 := oa0.1
 refine tB (tA Zn2 (by decide)) (fun x1 h2 => ?_)
 have lh2 : x1.length = ([] : (List Int)).length + a0.length := by rw [h2, List.length_append]
 try simp only [List.length_cons, List.length_nil, Nat.zero_add] at lh2
 exact tR ⟨lo, fun _ _ => trivial⟩
theorem Zax3 (a0 : Zb) (a1 : Int) (a2 : Int) (oa0 : Zq a0) : Tot (Z49 a0 a1 a2) (fun r => ((SzL 8 (fun _ => True)) r)) := by
 unfold Z49
 refine tZ ?_
 dsimp only [Zalh, LT.den]
 refine tE (fun h1 => ?_) (fun h1 => ?_)
 ·refine tB (Zk9 a0.Battlefield oa0.2.2.1) (fun x2 h3 => ?_)
  exact tR h3
 ·refine tE (fun h4 => ?_) (fun h4 => ?_)
  ·refine tB (Zk9 a0.Exile oa0.2.2.2.1) (fun x5 h6 => ?_)
   exact tR h6
  ·refine tD (fun h7 => ?_) (fun h7 => ?_)
   ·exact tR SzL.nil
   ·have q8 := oa0.1.1
    refine tD (fun h9 => ?_) (fun h9 => ?_)
    ·exact tR SzL.nil
    ·refine tE (fun h10 => ?_) (fun h10 => ?_)
     ·refine tB (tI (by omega) (by omega)) (fun x11 h12 => ?_)
      have oh12 : Zbs x11 := oa0.1.2 x11 h12.1
      refine tB (Zk9 x11.Hand oh12.2.1) (fun x13 h14 => ?_)
      exact tR h14
     ·refine tE (fun h15 => ?_) (fun h15 => ?_)
      ·refine tB (tI (by omega) (by omega)) (fun x16 h17 => ?_)
       have oh17 : Zbs x16 := oa0.1.2 x16 h17.1
       refine tB (Zk9 x16.Library oh17.1) (fun x18 h19 => ?_)
       exact tR h19
      ·refine tE (fun h20 => ?_) (fun h20 => ?_)
       ·refine tB (tI (by omega) (by omega)) (fun x21 h22 => ?_)
        have oh22 : Zbs x21 := oa0.1.2 x21 h22.1
        refine tB (Zk9 x21.Graveyard oh22.2.2) (fun x23 h24 => ?_)
        exact tR h24
       ·exact tR SzL.nil
theorem Z36 (a0 : Zb) (a1 : Zf) (oa0 : Zq a0) : Tot (Z5a a0 a1) (fun r => True) := by
 unfold Z5a
 refine tZ ?_
 dsimp only [Z9x, LT.den]
 refine tE (fun h1 => ?_) (fun h1 => ?_)
 ·refine tB (Zapy a0 a1.Id oa0) (fun x2 h3 => ?_)
  exact tR trivial
 ·refine tB (Zax3 a0 a1.Zone a1.Owner oa0) (fun x4 h5 => ?_)
  refine tB (Zvb x4 a1.Id h5) (fun x6 h7 => ?_)
  exact tR trivial
def Zamv : Zjg → Prop
 | .L0 v0 E0 v5 => ((SzL 176 Zad) v0) ∧ (Zq E0) ∧ (0 ≤ v5)
def Z37 : Zjg → M6
 | .L0 v0 E0 v5 => (1, ((E0.Objects.length : Int) - v5).toNat, 1000000, 0, 0, 0)
theorem Zkf (a0 : (List Zl)) (a1 : Zb) (oa0 : (SzL 176 Zad) a0) (oa1 : Zq a1) : Tot (Z1j a0 a1) (fun r => True) := by
 unfold Z1j
 refine tX (Inv := Zamv) (μ := Z37) (m := (1000000, 0, 0, 0, 0, 0)) ?_ ?_
 ·have lb_a0 := oa0.1
  dsimp only [Z6w, LT.den]
  have q1 := oa1.2.1.1
  refine tD (fun h2 => ?_) (fun h2 => ?_)
  ·exact tR trivial
  ·exact tL ⟨oa0, oa1, cl⟩ tk67
 ·intro s hs
  cases s with
  | L0 v0 E0 v5 =>
   obtain ⟨ov0, O0, cv5⟩ := hs
   have lb_v0 := ov0.1
   show Tot (Zq4 v0 E0 v5).den _
   dsimp only [Zq4, LT.den]
   have q1 := O0.2.1.1
   refine tD (fun h2 => ?_) (fun h2 => ?_)
   ·refine tB (tI (by omega) (by omega)) (fun x3 h4 => ?_)
    have q5 := ov0.1
    have q6 := O0.1.1
    refine tB (Za2v x3 (v0.length : Int) (E0.Players.length : Int)) (fun x7 h8 => ?_)
    refine tO (fun h9 => ?_) (fun h9 => ?_)
    ·exact tR trivial
    ·refine tD (fun h10 => ?_) (fun h10 => ?_)
     ·exact tR trivial
     ·refine tD (fun h11 => ?_) (fun h11 => ?_)
      ·exact tR trivial
      ·refine tD (fun h12 => ?_) (fun h12 => ?_)
       ·refine qw (v5 - 1) fun q13 q14 => ?_
        refine tB (tI (by omega) (by omega)) (fun x15 h16 => ?_)
        refine tD (fun h17 => ?_) (fun h17 => ?_)
        ·exact tR trivial
        ·refine tB (Z36 E0 x3 O0) (fun x18 h19 => ?_)
         refine tO (fun h20 => ?_) (fun h20 => ?_)
         ·exact tR trivial
         ·refine qw (v5 + 1) fun q21 q22 => ?_
          exact tL ⟨ov0, O0, cl⟩ tk67
       ·refine tB (Z36 E0 x3 O0) (fun x23 h24 => ?_)
        refine tO (fun h25 => ?_) (fun h25 => ?_)
        ·exact tR trivial
        ·refine qw (v5 + 1) fun q26 q27 => ?_
         exact tL ⟨ov0, O0, cl⟩ tk67
   ·exact tR trivial
def Zah3 : Zif → Prop
 | .L0 v0 v1 v5 => ((SzL 176 Zat) v0) ∧ ((SzL 176 Zat) v1) ∧ (0 ≤ v5) ∧ (v0.length = v1.length)
def Zqj : Zif → M6
 | .L0 v0 v1 v5 => (1, ((v0.length : Int) - v5).toNat, 1000000, 0, 0, 0)
theorem Zyr (a0 : (List Zr)) (a1 : (List Zr)) (oa0 : (SzL 176 Zat) a0) (oa1 : (SzL 176 Zat) a1) : Tot (Zw6 a0 a1) (fun r => True) := by
 unfold Zw6
 refine tX (Inv := Zah3) (μ := Zqj) (m := (1000000, 0, 0, 0, 0, 0)) ?_ ?_
 ·have lb_a0 := oa0.1
  have lb_a1 := oa1.1
  dsimp only [Z3a, LT.den]
  have q1 := oa0.1
  have q2 := oa1.1
  refine tN (fun h3 => ?_) (fun h3 => ?_)
  ·exact tR trivial
  ·exact tL ⟨oa0, oa1, cl, cl⟩ (by unfold Zqj lt6; dsimp only; omega)
 ·intro s hs
  cases s with
  | L0 v0 v1 v5 =>
   obtain ⟨ov0, ov1, cv5, i0⟩ := hs
   have lb_v0 := ov0.1
   have lb_v1 := ov1.1
   show Tot (Zpi v0 v1 v5).den _
   dsimp only [Zpi, LT.den]
   have q1 := ov0.1
   refine tD (fun h2 => ?_) (fun h2 => ?_)
   ·refine tB (tI (by omega) (by omega)) (fun x3 h4 => ?_)
    have oh4 : Zat x3 := ov0.2 x3 h4.1
    refine tB (tI (by omega) (by omega)) (fun x5 h6 => ?_)
    have oh6 : Zat x5 := ov1.2 x5 h6.1
    refine tO (fun h7 => ?_) (fun h7 => ?_)
    ·exact tR trivial
    ·refine qw (v5 + 1) fun q8 q9 => ?_
     exact tL ⟨ov0, ov1, cl, cl⟩ (by unfold Zqj lt6; dsimp only; omega)
   ·exact tR trivial
theorem Zax4 (a0 : Z0) (a1 : Z0) (oa0 : Zao a0) (oa1 : Zao a1) : Tot (Zahb a0 a1) (fun r => True) := by
 unfold Zahb
 refine tZ ?_
 dsimp only [Zalj, LT.den]
 refine tE (fun h1 => ?_) (fun h1 => ?_)
 ·refine tF (fun h2 => ?_) (fun h2 => ?_)
  ·refine tF (fun h3 => ?_) (fun h3 => ?_)
   ·refine tE (fun h4 => ?_) (fun h4 => ?_)
    ·refine tE (fun h5 => ?_) (fun h5 => ?_)
     ·refine tF (fun h6 => ?_) (fun h6 => ?_)
      ·refine tF (fun h7 => ?_) (fun h7 => ?_)
       ·refine tF (fun h8 => ?_) (fun h8 => ?_)
        ·refine tB (Zyr a0.Mods a1.Mods oa0.2.2.2.2 oa1.2.2.2.2) (fun x9 h10 => ?_)
         exact tR trivial
        ·exact tR trivial
       ·exact tR trivial
      ·exact tR trivial
     ·exact tR trivial
    ·exact tR trivial
   ·exact tR trivial
  ·exact tR trivial
 ·exact tR trivial
def Zah4 : Zig → Prop
 | .L0 v0 v1 v5 => ((SzL 560 Zao) v0) ∧ ((SzL 560 Zao) v1) ∧ (0 ≤ v5) ∧ (v0.length = v1.length)
def Zqk : Zig → M6
 | .L0 v0 v1 v5 => (1, ((v0.length : Int) - v5).toNat, 1000000, 0, 0, 0)
theorem Zah5 (a0 : (List Z0)) (a1 : (List Z0)) (oa0 : (SzL 560 Zao) a0) (oa1 : (SzL 560 Zao) a1) : Tot (Zw7 a0 a1) (fun r => True) := by
 unfold Zw7
 refine tX (Inv := Zah4) (μ := Zqk) (m := (1000000, 0, 0, 0, 0, 0)) ?_ ?_
 ·have lb_a0 := oa0.1
  have lb_a1 := oa1.1
  dsimp only [Z3c, LT.den]
  have q1 := oa0.1
  have q2 := oa1.1
  refine tN (fun h3 => ?_) (fun h3 => ?_)
  ·exact tR trivial
  ·exact tL ⟨oa0, oa1, cl, cl⟩ (by unfold Zqk lt6; dsimp only; omega)
 ·intro s hs
  cases s with
  | L0 v0 v1 v5 =>
   obtain ⟨ov0, ov1, cv5, i0⟩ := hs
   have lb_v0 := ov0.1
   have lb_v1 := ov1.1
   show Tot (Zpj v0 v1 v5).den _
   dsimp only [Zpj, LT.den]
   have q1 := ov0.1
   refine tD (fun h2 => ?_) (fun h2 => ?_)
   ·refine tB (tI (by omega) (by omega)) (fun x3 h4 => ?_)
    have oh4 : Zao x3 := ov0.2 x3 h4.1
    refine tB (tI (by omega) (by omega)) (fun x5 h6 => ?_)
    have oh6 : Zao x5 := ov1.2 x5 h6.1
    refine tB (Zax4 x3 x5 oh4 oh6) (fun x7 h8 => ?_)
    refine tO (fun h9 => ?_) (fun h9 => ?_)
    ·exact tR trivial
    ·refine qw (v5 + 1) fun q10 q11 => ?_
     exact tL ⟨ov0, ov1, cl, cl⟩ (by unfold Zqk lt6; dsimp only; omega)
   ·exact tR trivial
def Zax5 : Zpk → Prop
 | .L0 E0 E1 v5 => (Zav E0) ∧ (Zav E1) ∧ (0 ≤ v5) ∧ (E0.Specs.length = E1.Specs.length)
def Z2j : Zpk → M6
 | .L0 E0 E1 v5 => (1, ((E0.Specs.length : Int) - v5).toNat, 1000000, 0, 0, 0)
theorem Zax6 (a0 : Zk) (a1 : Zk) (oa0 : Zav a0) (oa1 : Zav a1) : Tot (Zahc a0 a1) (fun r => True) := by
 unfold Zahc
 refine tX (Inv := Zax5) (μ := Z2j) (m := (1000000, 0, 0, 0, 0, 0)) ?_ ?_
 ·dsimp only [Zalm, LT.den]
  have q1 := oa0.2.2.2.1.1
  have q2 := oa1.2.2.2.1.1
  refine tN (fun h3 => ?_) (fun h3 => ?_)
  ·exact tR trivial
  ·exact tL ⟨oa0, oa1, cl, cl⟩ (by unfold Z2j lt6; dsimp only; omega)
 ·intro s hs
  cases s with
  | L0 E0 E1 v5 =>
   obtain ⟨O0, O1, cv5, i0⟩ := hs
   show Tot (Z1k E0 E1 v5).den _
   dsimp only [Z1k, LT.den]
   have q1 := O0.2.2.2.1.1
   refine tD (fun h2 => ?_) (fun h2 => ?_)
   ·refine tB (tI (by omega) (by omega)) (fun x3 h4 => ?_)
    have oh4 : Zgn x3 := O0.2.2.2.1.2 x3 h4.1
    refine tB (tI (by omega) (by omega)) (fun x5 h6 => ?_)
    have oh6 : Zgn x5 := O1.2.2.2.1.2 x5 h6.1
    refine tO (fun h7 => ?_) (fun h7 => ?_)
    ·exact tR trivial
    ·refine qw (v5 + 1) fun q8 q9 => ?_
     exact tL ⟨O0, O1, cl, cl⟩ (by unfold Z2j lt6; dsimp only; omega)
   ·refine tE (fun h10 => ?_) (fun h10 => ?_)
    ·refine tF (fun h11 => ?_) (fun h11 => ?_)
     ·refine tB (Zyr E0.Mods E1.Mods O0.2.1 O1.2.1) (fun x12 h13 => ?_)
      refine tF (fun h14 => ?_) (fun h14 => ?_)
      ·refine tF (fun h15 => ?_) (fun h15 => ?_)
       ·refine tF (fun h16 => ?_) (fun h16 => ?_)
        ·refine tF (fun h17 => ?_) (fun h17 => ?_)
         ·refine tF (fun h18 => ?_) (fun h18 => ?_)
          ·refine tB (Zah5 E0.Effects E1.Effects O0.2.2.2.2.1 O1.2.2.2.2.1) (fun x19 h20 => ?_)
           refine tF (fun h21 => ?_) (fun h21 => ?_)
           ·exact tR trivial
           ·exact tR trivial
          ·exact tR trivial
         ·exact tR trivial
        ·exact tR trivial
       ·exact tR trivial
      ·exact tR trivial
     ·exact tR trivial
    ·exact tR trivial
theorem Zax7 (a0 : Zb) (a1 : Zeg) (oa0 : Zq a0) (oa1 : Zh1 a1) : Tot (Zahd a0 a1) (fun r => True) := by
 unfold Zahd
 refine tZ ?_
 dsimp only [Zalo, LT.den]
 refine qw (a0.NextId - 1) fun q1 q2 => ?_
 refine tB (Zdf a1.Id 1 (IntKind.wrap .i64 (a0.NextId - 1))) (fun x3 h4 => ?_)
 have eh4_0 := h4
 refine tO (fun h5 => ?_) (fun h5 => ?_)
 ·exact tR trivial
 ·refine tB (Zdf a1.X 0 1000000) (fun x6 h7 => ?_)
  have eh7_0 := h7
  refine tO (fun h8 => ?_) (fun h8 => ?_)
  ·exact tR trivial
  ·have q9 := oa1.2.1
   refine tD (fun h10 => ?_) (fun h10 => ?_)
   ·exact tR trivial
   ·refine tB (Zfd a0 a1.Control oa0) (fun x11 h12 => ?_)
    have eh12_0 := h12
    refine tO (fun h13 => ?_) (fun h13 => ?_)
    ·exact tR trivial
    ·refine tB (Z35 a0 a1.Id oa0) (fun x14 h15 => ?_)
     refine tE (fun h16 => ?_) (fun h16 => ?_)
     ·refine tB (Zax6 a1.Ability (⟨0, (⟨0, 0, 0, 0, 0, 0, 0, ([] : List UInt8), 0, 0, (⟨0, 0⟩ : Zd), (⟨0, 0⟩ : Zd), (⟨0, 0⟩ : Zd)⟩ : Ze), ([] : (List Zr)), (⟨(⟨0, 0, (⟨0, 0, 0, 0, 0⟩ : (A5 Int))⟩ : Zp), false, false, 0⟩ : Zfq), false, (⟨0, 0, (⟨0, 0, 0, 0, 0, 0, 0, ([] : List UInt8), 0, 0, (⟨0, 0⟩ : Zd), (⟨0, 0⟩ : Zd), (⟨0, 0⟩ : Zd)⟩ : Ze)⟩ : Zcb), false, ([] : (List Zcy)), ([] : (List Z0)), (⟨0, 0, (⟨0, 0, 0, 0, 0, 0, 0, ([] : List UInt8), 0, 0, (⟨0, 0⟩ : Zd), (⟨0, 0⟩ : Zd), (⟨0, 0⟩ : Zd)⟩ : Ze), 0, 0, 0, 0⟩ : Zaz)⟩ : Zk) oa1.1 ⟨(SzS.nil), SzL.nil, (SzS.nil), SzL.nil, SzL.nil, (SzS.nil)⟩) (fun x17 h18 => ?_)
      refine tE (fun h19 => ?_) (fun h19 => ?_)
      ·refine tF (fun h20 => ?_) (fun h20 => ?_)
       ·refine tE (fun h21 => ?_) (fun h21 => ?_)
        ·refine tF (fun h22 => ?_) (fun h22 => ?_)
         ·exact tR trivial
         ·refine tB (Zv1 a1.Ability oa1.1) (fun x23 h24 => ?_)
          exact tR trivial
        ·exact tR trivial
       ·exact tR trivial
      ·exact tR trivial
     ·refine tE (fun h25 => ?_) (fun h25 => ?_)
      ·refine tO (fun h26 => ?_) (fun h26 => ?_)
       ·refine tB (Zv1 a1.Ability oa1.1) (fun x27 h28 => ?_)
        exact tR trivial
       ·exact tR trivial
      ·exact tR trivial
def Za2w : Zw8 → Prop
 | .L0 v0 v3 => ((SzL 8 (fun _ => True)) v0) ∧ (0 ≤ v3) ∧ (1 ≤ v3)
def Zab2 : Zw8 → M6
 | .L0 v0 v3 => (1, ((v0.length : Int) - v3).toNat, 1000000, 0, 0, 0)
theorem Za2x (a0 : (List Int)) (oa0 : (SzL 8 (fun _ => True)) a0) : Tot (Zawn a0) (fun r => True) := by
 unfold Zawn
 refine tX (Inv := Za2w) (μ := Zab2) (m := (1000000, 0, 0, 0, 0, 0)) ?_ ?_
 ·have lb_a0 := oa0.1
  dsimp only [Zawl, LT.den]
  exact tL ⟨oa0, cl, cl⟩ (by unfold Zab2 lt6; dsimp only; omega)
 ·intro s hs
  cases s with
  | L0 v0 v3 =>
   obtain ⟨ov0, cv3, i0⟩ := hs
   have lb_v0 := ov0.1
   show Tot (Z9z v0 v3).den _
   dsimp only [Z9z, LT.den]
   have q1 := ov0.1
   refine tD (fun h2 => ?_) (fun h2 => ?_)
   ·refine qw (v3 - 1) fun q3 q4 => ?_
    refine tB (tI (by omega) (by omega)) (fun x5 h6 => ?_)
    refine tB (tI (by omega) (by omega)) (fun x7 h8 => ?_)
    refine tD (fun h9 => ?_) (fun h9 => ?_)
    ·exact tR trivial
    ·refine qw (v3 + 1) fun q10 q11 => ?_
     exact tL ⟨ov0, cl, cl⟩ (by unfold Zab2 lt6; dsimp only; omega)
   ·exact tR trivial
def Zasu : Zgm → Prop
 | .L0 E0 v3 => (Zq E0) ∧ (0 ≤ v3)
 | .L1 E0 v3 v4 => (Zq E0) ∧ (0 ≤ v4) ∧ (0 ≤ v3) ∧ (v3 < (E0.Stack.length : Int))
 | .L2 E0 v5 => (Zq E0) ∧ (0 ≤ v5)
 | .L3 E0 v7 => (Zq E0) ∧ (0 ≤ v7)
def Zab3 : Zgm → M6
 | .L0 E0 v3 => (5, ((E0.Stack.length : Int) - v3).toNat, 1000000, 0, 0, 0)
 | .L1 E0 v3 v4 => (5, ((E0.Stack.length : Int) - v3).toNat, 1, (v3 - v4).toNat, 1000000, 0)
 | .L2 E0 v5 => (3, ((E0.Waiting.length : Int) - v5).toNat, 1000000, 0, 0, 0)
 | .L3 E0 v7 => (1, ((E0.Conts.length : Int) - v7).toNat, 1000000, 0, 0, 0)
theorem Zni (a0 : Zb) (oa0 : Zq a0) : Tot (Z90 a0) (fun r => True) := by
 unfold Z90
 refine tX (Inv := Zasu) (μ := Zab3) (m := (1000000, 0, 0, 0, 0, 0)) ?_ ?_
 ·dsimp only [Zaek, LT.den]
  have q1 := oa0.2.2.2.2.1.1
  refine tD (fun h2 => ?_) (fun h2 => ?_)
  ·exact tR trivial
  ·have q3 := oa0.2.2.2.2.2.1.1
   refine tD (fun h4 => ?_) (fun h4 => ?_)
   ·exact tR trivial
   ·have q5 := oa0.2.2.2.2.2.2.1.1
    refine tD (fun h6 => ?_) (fun h6 => ?_)
    ·exact tR trivial
    ·exact tL ⟨oa0, cl⟩ tk87
 ·intro s hs
  cases s with
  | L0 E0 v3 =>
   obtain ⟨O0, cv3⟩ := hs
   show Tot (Zw9 E0 v3).den _
   dsimp only [Zw9, LT.den]
   have q1 := O0.2.2.2.2.1.1
   refine tD (fun h2 => ?_) (fun h2 => ?_)
   ·refine tB (tI (by omega) (by omega)) (fun x3 h4 => ?_)
    have oh4 : Zh1 x3 := O0.2.2.2.2.1.2 x3 h4.1
    refine tB (Zax7 E0 x3 O0 oh4) (fun x5 h6 => ?_)
    refine tO (fun h7 => ?_) (fun h7 => ?_)
    ·exact tR trivial
    ·exact tL ⟨O0, cl, cl, cl⟩ tk87
   ·exact tL ⟨O0, cl⟩ tk87
  | L1 E0 v3 v4 =>
   obtain ⟨O0, cv4, cv3, bd3⟩ := hs
   show Tot (Zxa E0 v3 v4).den _
   dsimp only [Zxa, LT.den]
   have lx_0 : E0.Stack.length * 824 ≤ 140737488351232 := O0.2.2.2.2.1.1
   refine tD (fun h1 => ?_) (fun h1 => ?_)
   ·refine tB (tI (by omega) (by omega)) (fun x2 h3 => ?_)
    have oh3 : Zh1 x2 := O0.2.2.2.2.1.2 x2 h3.1
    refine tB (tI (by omega) (by omega)) (fun x4 h5 => ?_)
    have oh5 : Zh1 x4 := O0.2.2.2.2.1.2 x4 h5.1
    refine tE (fun h6 => ?_) (fun h6 => ?_)
    ·exact tR trivial
    ·refine qw (v4 + 1) fun q7 q8 => ?_
     exact tL ⟨O0, cl, cl, cl⟩ tk87
   ·refine qw (v3 + 1) fun q9 q10 => ?_
    exact tL ⟨O0, cl⟩ tk87
  | L2 E0 v5 =>
   obtain ⟨O0, cv5⟩ := hs
   show Tot (Zxb E0 v5).den _
   dsimp only [Zxb, LT.den]
   have q1 := O0.2.2.2.2.2.1.1
   refine tD (fun h2 => ?_) (fun h2 => ?_)
   ·refine tB (tI (by omega) (by omega)) (fun x3 h4 => ?_)
    have oh4 : Zru x3 := O0.2.2.2.2.2.1.2 x3 h4.1
    refine tB (Zfd E0 x3.Control O0) (fun x5 h6 => ?_)
    have eh6_0 := h6
    refine tO (fun h7 => ?_) (fun h7 => ?_)
    ·exact tR trivial
    ·refine tN (fun h8 => ?_) (fun h8 => ?_)
     ·exact tR trivial
     ·refine tB (Zv1 x3.Ability oh4) (fun x9 h10 => ?_)
      refine tO (fun h11 => ?_) (fun h11 => ?_)
      ·exact tR trivial
      ·refine qw (v5 + 1) fun q12 q13 => ?_
       exact tL ⟨O0, cl⟩ tk87
   ·exact tL ⟨O0, cl⟩ tk87
  | L3 E0 v7 =>
   obtain ⟨O0, cv7⟩ := hs
   show Tot (Zxc E0 v7).den _
   dsimp only [Zxc, LT.den]
   have q1 := O0.2.2.2.2.2.2.1.1
   refine tD (fun h2 => ?_) (fun h2 => ?_)
   ·refine tB (tI (by omega) (by omega)) (fun x3 h4 => ?_)
    have oh4 : Zsh x3 := O0.2.2.2.2.2.2.1.2 x3 h4.1
    refine tB (Zfd E0 x3.Control O0) (fun x5 h6 => ?_)
    have eh6_0 := h6
    refine tO (fun h7 => ?_) (fun h7 => ?_)
    ·exact tR trivial
    ·refine tD (fun h8 => ?_) (fun h8 => ?_)
     ·exact tR trivial
     ·refine tB (Zdf x3.Until 1 2) (fun x9 h10 => ?_)
      have eh10_0 := h10
      refine tO (fun h11 => ?_) (fun h11 => ?_)
      ·exact tR trivial
      ·refine tB (Za2x x3.Objects oh4.1) (fun x12 h13 => ?_)
       refine tO (fun h14 => ?_) (fun h14 => ?_)
       ·exact tR trivial
       ·refine tB (Zn4 x3.Mods oh4.2) (fun x15 h16 => ?_)
        have eh16_0 := h16
        refine tF (fun h17 => ?_) (fun h17 => ?_)
        ·exact tR trivial
        ·refine qw (v7 + 1) fun q18 q19 => ?_
         exact tL ⟨O0, cl⟩ tk87
   ·exact tR trivial
end Go.PW
