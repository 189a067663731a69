import Derived.Test.YtnoofnejcoadfaaGreatDoorQE
import Derived.Test.YtnoofnejcoadfaaGreatDoorPwYc
import Derived.Test.YtnoofnejcoadfaaGreatDoorQDc
import Derived.Test.YtnoofnejcoadfaaGreatDoorQS
set_option linter.all false
set_option maxRecDepth 100000
namespace Go.PW
theorem tk0 {p : Prop} (h : p := by first | (rw [← ‹v5 = Zdq _›] at *; first | exact Za5c (by assumption) (by assumption) (by assumption) (by assumption) (by grind) (by omega) | exact Za3e (by assumption) (by assumption) (by assumption) (by grind) (by omega)) | (rw [← Zamy (by assumption) (by grind)]; exact (List.append_nil _).symm)) : p := h
theorem tk1 {p : Prop} (h : p := by first | assumption | (intro x hx hd; rfl) | (intro x hx hd; exact absurd hd (Za82 (v := v7) (w := v9) (by assumption) (by assumption) (by assumption) (by assumption) (by assumption) (by assumption) (by assumption) (by assumption) (by assumption) (by assumption) (by assumption) hx)) | grind) : p := h
theorem tk2 {p : Prop} (h : p := by first | rfl | (rw [← ‹v5 = Zdq _›] at *; first | exact Zabx (by assumption) (by assumption) (by assumption) (by assumption) (by grind) (by omega) | exact Z4b (by assumption) (by assumption) (by assumption) (by grind) (by omega) | exact Za7d (by assumption) (by grind))) : p := h
theorem tk3 {p : Prop} (h : p := by first | exact Za4v (by assumption) (by assumption) (by omega) | exact Za6w (v := v0) (i := v5) (j := v6) (by assumption) (by grind) (by assumption) (by grind) (by omega) (by omega) | exact Za6x (j := v6) (by assumption) (by assumption) (by grind) (by omega)) : p := h
theorem tk4 {p : Prop} (h : p := by first | rfl | (rw [← ‹v19 = Zdq a0.Players›] at *; first | exact Zabx (by assumption) (by assumption) (by assumption) (by assumption) (by grind) (by omega) | exact Z4b (by assumption) (by assumption) (by assumption) (by grind) (by omega))) : p := h
theorem tk5 {p : Prop} (h : p := by first | rfl | exact Za5a (by assumption) (by assumption) (by assumption) (by assumption) (by first | assumption | grind) (by omega) | exact Za3d (by assumption) (by assumption) (by assumption) (by first | assumption | grind) (by omega)) : p := h
theorem tk6 {p : Prop} (h : p := by first | rfl | exact Zabx (by assumption) (by assumption) (by assumption) (by assumption) (by grind) (by omega) | exact Z4b (by assumption) (by assumption) (by assumption) (by first | grind | exact Z49 (by omega)) (by omega)) : p := h
theorem tk8 {p : Prop} (h : p := by first | rfl | (exact Zabx (by assumption) (by assumption) (by assumption) (by assumption) (by grind) (by omega)) | (exact Z4b (by assumption) (by assumption) (by assumption) (by grind) (by omega))) : p := h
theorem tk9 {p : Prop} (h : p := by first | (intro k x hk; omega) | (intro k x hk hx hd; by_cases hkk : (k : Int) < v7; (have := i6 k x hkk hx hd; grind); (have hke : k = v7.toNat := by omega); subst hke; have := i7 x hx hd; grind)) : p := h
theorem tk10 {p : Prop} (h : p := by first | rfl | (rw [Zatf (v := v9) (by assumption) (by assumption) (by grind) (by omega)]; assumption) | (rw [Zamx (v := v9) (by assumption) (by assumption) (by grind) (by omega)]; omega)) : p := h
theorem tk11 {p : Prop} (h : p := by first | assumption | exact List.nodup_nil | (refine ‹_ = v6 ++ _› ▸ Zk1 (by assumption) (by grind)) | (rw [‹_ = List.filter _ v6›]; exact List.Nodup.filter _ (by assumption)) | grind) : p := h
theorem tk12 {p : Prop} (h : p := by first | exact Za7a (by assumption) (by assumption) | exact Za7b (by assumption) (by assumption) (by assumption) | exact Za8f (by assumption) (by assumption) (by assumption)) : p := h
theorem tk13 {p : Prop} (h : p := by first | (intro k c hk; omega) | (intro k c hk hc; rcases Zu6 (v := v4) (by assumption) (by omega) hk hc (by assumption) with h | h; (exact i0 k c h hc); (rw [h]; assumption))) : p := h
theorem tk14 {p : Prop} (h : p := by first | exact Za8a (by assumption) (by assumption) | exact Za78 (v := v0) (i := v5) (j := v6) (by assumption) (by assumption) (by assumption) (by omega) (by omega)) : p := h
theorem tk15 {p : Prop} (h : p := by first | (refine ⟨fun _ => by omega, fun _ => rfl⟩) | (have w := ‹_ ∈ A3.list _›; simp only [A3.list, List.mem_cons, List.not_mem_nil, or_false] at w; grind) | grind) : p := h
theorem tk16 {p : Prop} (h : p := by first | exact Za67 (by assumption) (by assumption) (by assumption) (by first | assumption | grind) | exact Za49 (by assumption) (by omega)) : p := h
theorem tk17 {p : Prop} (h : p := by first | (intro k x hk; omega) | (intro k x hk hx; rcases Zu6 (v := v5) (by assumption) (by grind) hk hx (by assumption) with h | h <;> grind)) : p := h
theorem tk18 {p : Prop} (h : p := by first | (intro k x hk; omega) | (intro k x hk hx; rcases Zu6 (v := v4) (by assumption) (by grind) hk hx (by assumption) with h | h <;> grind)) : p := h
theorem tk19 {p : Prop} (h : p := by first | assumption | (intro y hy; exact absurd hy List.not_mem_nil) | exact Za4w (by assumption) (by assumption) (by assumption) | grind) : p := h
theorem tk20 {p : Prop} (h : p := by first | (intro hr; exact absurd hr (by decide)) | (intro _ c hc; obtain ⟨k, hk⟩ := List.mem_iff_getElem?.1 hc; exact i0 k c (by grind) hk)) : p := h
theorem tk21 {p : Prop} (h : p := by first | (intro k hk; omega) | exact Za3f (by assumption) (by assumption) (by assumption) (by assumption) (by assumption) (by omega)) : p := h
theorem tk22 {p : Prop} (h : p := by first | exact Za8c | exact Za3a (by assumption) (by assumption) (by assumption) (by first | assumption | grind) (by omega)) : p := h
theorem Zt3 {p : Prop} (h : p := by first | (intro hr; exact absurd hr (by decide)) | (intro _; exact ⟨by assumption, by assumption, by assumption, by grind⟩)) : p := h
theorem tk24 {p : Prop} (h : p := by first | exact Za79 (by assumption) (by assumption) (by assumption) (by grind) | exact Za6y (by assumption) (by omega)) : p := h
theorem tk25 {p : Prop} (h : p := by first | (intro k x hk; omega) | exact Zatg (by assumption) (by assumption) (by assumption) (by assumption) (by omega)) : p := h
theorem tk27 {p : Prop} (h : p := by first | exact Za8g (by assumption) (by assumption) | exact Za7c (by assumption) (by assumption) (by assumption)) : p := h
theorem tk28 {p : Prop} (h : p := by first | (intro k x hk; omega) | exact Zatg (by assumption) (by assumption) (by assumption) (by grind) (by omega)) : p := h
theorem tk29 {p : Prop} (h : p := by first | exact Zay0 (by assumption) | exact Zay1 (by assumption) | exact Za3c (by assumption) (by assumption)) : p := h
theorem tk31 {p : Prop} (h : p := by first | exact RB_0 (by assumption) (by omega) | exact Za75 (by assumption) (by assumption) (by omega) (by grind)) : p := h
theorem Zaj {p : Prop} (h : p := by unfold SzN; first | omega | (simp only [List.length_append, List.length_cons, List.length_nil]; omega)) : p := h
theorem Znf {p : Prop} (h : p := by unfold SzT; first | omega | (simp only [List.length_append, List.length_cons, List.length_nil]; omega)) : p := h
theorem tk36 {p : Prop} (h : p := by intro m hm; simp only [List.mem_cons, List.not_mem_nil, or_false] at hm; subst hm; exact Za73 _) : p := h
theorem Zcu {p : Prop} (h : p := by first | (simp only [List.length_append, List.length_cons, List.length_nil]; omega) | omega) : p := h
theorem tk39 {p : Prop} (h : p := by unfold Zce lt6; dsimp only; omega) : p := h
theorem tk40 {p : Prop} (h : p := by first | (intro x hx; exact absurd hx List.not_mem_nil) | (intro x hx; have := i9 x; grind)) : p := h
theorem tk41 {p : Prop} (h : p := by first | (rw [Z49 (by omega)]; rfl) | (rw [Zabz (by assumption) (by omega)]; simp)) : p := h
theorem tk42 {p : Prop} (h : p := by unfold Zcm lt6; dsimp only; omega) : p := h
theorem tk43 {p : Prop} (h : p := by first | exact Za68 (by omega) | exact Za8e (by assumption) (by omega) (by omega)) : p := h
theorem tk44 {p : Prop} (h : p := by unfold Zcx lt6; dsimp only; omega) : p := h
theorem tk45 {p : Prop} (h : p := by unfold Zcy lt6; dsimp only; omega) : p := h
theorem tk46 {p : Prop} (h : p := by unfold Zdh lt6; dsimp only; omega) : p := h
theorem tk47 {p : Prop} (h : p := by unfold Zdi lt6; dsimp only; omega) : p := h
theorem Zlj {p : Prop} (h : p := by first | omega | (simp only [List.length_cons, List.length_nil]; omega)) : p := h
theorem Zg1 {p : Prop} (h : p := by first | (intro hr; exact absurd hr (by decide)) | (intro _; omega)) : p := h
theorem tk50 {p : Prop} (h : p := by first | (intro x hx; exact absurd hx List.not_mem_nil) | grind) : p := h
theorem Ze0 {p : Prop} (h : p := by obtain ⟨k1, k2, k3, k4⟩ := a0; unfold amV; grind [Za84, usV]) : p := h
theorem tk52 {p : Prop} (h : p := by first | omega | exact shl_ne' (by omega) (by omega) | decide) : p := h
theorem tk53 {p : Prop} (h : p := by have e : (A5.list E0.Color).length = 5 := rfl; omega) : p := h
theorem tk55 {p : Prop} (h : p := by first | assumption | (left; constructor <;> omega) | grind) : p := h
theorem tk56 {p : Prop} (h : p := by have e : (A6.list E0).length = 6 := rfl; omega) : p := h
theorem Zc5 {p : Prop} (h : p := by simp only [List.length_cons, List.length_nil]; omega) : p := h
theorem tk60 {p : Prop} (h : p := by unfold Zzt lt6; dsimp only; omega) : p := h
theorem tk61 {p : Prop} (h : p := by unfold Zzw lt6; dsimp only; omega) : p := h
theorem tk62 {p : Prop} (h : p := by unfold Zj2 lt6; dsimp only; omega) : p := h
theorem tk63 {p : Prop} (h : p := by unfold Zp1 lt6; dsimp only; omega) : p := h
theorem tk64 {p : Prop} (h : p := by unfold Zzy lt6; dsimp only; omega) : p := h
theorem tk65 {p : Prop} (h : p := by first | assumption | (exfalso; omega) | grind) : p := h
theorem tk66 {p : Prop} (h : p := by unfold Z3g lt6; dsimp only; omega) : p := h
theorem tk67 {p : Prop} (h : p := by unfold Z3j lt6; dsimp only; omega) : p := h
theorem tk68 {p : Prop} (h : p := by unfold Z3m lt6; dsimp only; omega) : p := h
theorem Z5b {p : Prop} (h : p := by unfold Z3q lt6; dsimp only; omega) : p := h
theorem tk70 {p : Prop} (h : p := by unfold Z3r lt6; dsimp only; omega) : p := h
theorem tk71 {p : Prop} (h : p := by unfold Z3s lt6; dsimp only; omega) : p := h
theorem Z5c {p : Prop} (h : p := by unfold Z3t lt6; dsimp only; omega) : p := h
theorem tk73 {p : Prop} (h : p := by unfold Z3u lt6; dsimp only; omega) : p := h
theorem tk75 {p : Prop} (h : p := by unfold Z61 lt6; dsimp only; omega) : p := h
theorem tk76 {p : Prop} (h : p := by unfold Z62 lt6; dsimp only; omega) : p := h
theorem tk77 {p : Prop} (h : p := by unfold Z64 lt6; dsimp only; omega) : p := h
theorem tk78 {p : Prop} (h : p := by unfold Z65 lt6; dsimp only; omega) : p := h
theorem tk79 {p : Prop} (h : p := by unfold Z68 lt6; dsimp only; omega) : p := h
theorem tk80 {p : Prop} (h : p := by unfold Z7a lt6; dsimp only; omega) : p := h
theorem tk81 {p : Prop} (h : p := by unfold Z7b lt6; dsimp only; omega) : p := h
theorem tk82 {p : Prop} (h : p := by unfold Z7c lt6; dsimp only; omega) : p := h
theorem tk84 {p : Prop} (h : p := by unfold Zaaz lt6; dsimp only; omega) : p := h
theorem tk85 {p : Prop} (h : p := by unfold Zaa6 lt6; dsimp only; omega) : p := h
theorem tk86 {p : Prop} (h : p := by unfold Zaa7 lt6; dsimp only; omega) : p := h
theorem tk87 {p : Prop} (h : p := by unfold Zaba lt6; dsimp only; omega) : p := h
theorem tk88 {p : Prop} (h : p := by unfold Zabd lt6; dsimp only; omega) : p := h
theorem tk89 {p : Prop} (h : p := by unfold Zabe lt6; dsimp only; omega) : p := h
theorem tk90 {p : Prop} (h : p := by unfold Zaew lt6; dsimp only; omega) : p := h
theorem tk91 {p : Prop} (h : p := by unfold Zaex lt6; dsimp only; omega) : p := h
theorem tk92 {p : Prop} (h : p := by unfold Zaey lt6; dsimp only; omega) : p := h
theorem Zng {p : Prop} (h : p := by unfold Zgc lt6; dsimp only; omega) : p := h
theorem tk94 {p : Prop} (h : p := by unfold Zaez lt6; dsimp only; omega) : p := h
theorem tk95 {p : Prop} (h : p := by unfold Zae0 lt6; dsimp only; omega) : p := h
theorem tk96 {p : Prop} (h : p := by unfold Zae4 lt6; dsimp only; omega) : p := h
theorem tk97 {p : Prop} (h : p := by unfold Zae5 lt6; dsimp only; omega) : p := h
theorem tk99 {p : Prop} (h : p := by unfold Zzq lt6; dsimp only; omega) : p := h
theorem Za04 {p : Prop} (h : p := by unfold Zap2 lt6; dsimp only; omega) : p := h
theorem Za05 {p : Prop} (h : p := by unfold Zzv lt6; dsimp only; omega) : p := h
theorem Zar9 {p : Prop} (h : p := by grind [List.mem_iff_getElem?]) : p := h
theorem Zau {p : Prop} (h : p := by first | assumption | grind) : p := h
theorem Zrt {p : Prop} (h : p := by unfold raV cnV; grind) : p := h
theorem Ziw {p : Prop} (h : p := by first | omega | grind) : p := h
theorem Zpm {p : Prop} (h : p := by unfold plV tlV; grind) : p := h
theorem Zasa {p : Prop} (h : p := by rw [h2]; kernel_rfl) : p := h
theorem Zfd {p : Prop} (h : p := by intro hr; cases hr) : p := h
theorem Zvc {p : Prop} (h : p := by unfold tlV; grind) : p := h
theorem Z5d {p : Prop} (h : p := by unfold obV; grind) : p := h
abbrev Zc9 (x : Zs) : Prop := (SzL 16 SzT) x.Subs
theorem Zany {x : Zs} (h : Z1k x) : Zc9 x := (Zdu h.2.2 (fun _ h => Za74 h))
abbrev Zak (x : Ze) : Prop := SzS x.Sub
theorem Zdg {x : Ze} (h : Zdk x) : Zak x := (Zail h.2.2.2.2.2.2.2.1)
abbrev Zar (x : Zr) : Prop := SzS x.Sub ∧ Zak x.Filter
theorem Zt4 {x : Zr} (h : Zpk x) : Zar x := ⟨(Zail h.2.2.2.1), (Zdg h.2.2.2.2)⟩
abbrev Zk6 (x : Zb6) : Prop := Zak x.Filter
theorem Zab6 {x : Zb6} (h : Zq1 x) : Zk6 x := (Zdg h.2.2)
abbrev Zgb (x : Zcs) : Prop := Zak x.Filter
theorem Zanz {x : Zcs} (h : Z1l x) : Zgb x := (Zdg h.2.2)
abbrev Zd9 (x : Zal) : Prop := Zak x.Filter
theorem Z6z {x : Zal} (h : Zvb x) : Zd9 x := (Zdg h.2.2)
abbrev Zea (x : Z3) : Prop := Zak x.Filter
theorem Zxt {x : Z3} (h : Zms x) : Zea x := (Zdg h.2.2.2)
abbrev Zan (x : Zz) : Prop := Zd9 x.Ref ∧ Zea x.Amount ∧ SzS x.Card ∧ Zak x.Filter ∧ (SzL 176 Zar) x.Mods
theorem Zagv {x : Zz} (h : Zt0 x) : Zan x := ⟨(Z6z h.2.1), (Zxt h.2.2.1), (Zail h.2.2.2.2.2.1), (Zdg h.2.2.2.2.2.2.1), (Zdu h.2.2.2.2.2.2.2.2 (fun _ h => (Zt4 h)))⟩
abbrev Zdr (x : Zay) : Prop := Zak x.Filter
theorem Zab7 {x : Zay} (h : Zq2 x) : Zdr x := (Zdg h.2.2.1)
abbrev Zat (x : Zj) : Prop := Zak x.Filter ∧ (SzL 176 Zar) x.Mods ∧ Zk6 x.Trigger ∧ (SzL 144 Zgb) x.Specs ∧ (SzL 560 Zan) x.Effects ∧ Zdr x.Replace
theorem Zlk {x : Zj} (h : Zie x) : Zat x := ⟨(Zdg h.2.1), (Zdu h.2.2.1 (fun _ h => (Zt4 h))), (Zab6 h.2.2.2.2.2.1), (Zdu h.2.2.2.2.2.2.2.1 (fun _ h => (Zanz h))), (Zdu h.2.2.2.2.2.2.2.2.1 (fun _ h => (Zagv h))), (Zab7 h.2.2.2.2.2.2.2.2.2)⟩
abbrev Zaf (x : Zn) : Prop := SzS x.Name ∧ Zc9 x.Line ∧ (SzL 640 Zat) x.Abilities
theorem Zan0 {x : Zn} (h : Zaes x) : Zaf x := ⟨(Zail h.1), (Zany h.2.2.2.2.1), (Zdu h.2.2.2.2.2.2.2.2 (fun _ h => (Zlk h)))⟩
abbrev Zbv (x : Zam) : Prop := (SzL 8 (fun _ => True)) x.Library ∧ (SzL 8 (fun _ => True)) x.Hand ∧ (SzL 8 (fun _ => True)) x.Graveyard
theorem Zagw {x : Zam} (h : Zt1 x) : Zbv x := ⟨(Zdu h.2.2.2.2.2.2.1 (fun _ _ => trivial)), (Zdu h.2.2.2.2.2.2.2.1 (fun _ _ => trivial)), (Zdu h.2.2.2.2.2.2.2.2 (fun _ _ => trivial))⟩
abbrev Zhs (x : Zee) : Prop := Zat x.Ability ∧ (SzL 16 (fun _ => True)) x.Targets
theorem Zan1 {x : Zee} (h : Z1m x) : Zhs x := ⟨(Zlk h.2.2.2.2.2.2.1), (Zdu h.2.2.2.2.2.2.2.1 (fun _ _ => trivial))⟩
abbrev Zq6 (x : Zd4) : Prop := Zat x.Ability
theorem Zab8 {x : Zd4} (h : Zq3 x) : Zq6 x := (Zlk h.2.2.1)
abbrev Zru (x : Zgo) : Prop := (SzL 8 (fun _ => True)) x.Objects ∧ (SzL 176 Zar) x.Mods
theorem Zan2 {x : Zgo} (h : Z1n x) : Zru x := ⟨(Zdu h.2.2.2.2.1 (fun _ _ => trivial)), (Zdu h.2.2.2.2.2 (fun _ h => (Zt4 h)))⟩
abbrev Zq (x : Zb) : Prop := (SzL 152 Zbv) x.Players ∧ (SzL 128 (fun _ => True)) x.Objects ∧ (SzL 8 (fun _ => True)) x.Battlefield ∧ (SzL 8 (fun _ => True)) x.Exile ∧ (SzL 824 Zhs) x.Stack ∧ (SzL 768 Zq6) x.Waiting ∧ (SzL 80 Zru) x.Conts ∧ (SzL 8 (fun _ => True)) x.Extra
theorem Zalf {x : Zb} (h : Zaan x) : Zq x := ⟨(Zdu h.1 (fun _ h => (Zagw h))), (Zdu h.2.1 (fun _ _ => trivial)), (Zdu h.2.2.1 (fun _ _ => trivial)), (Zdu h.2.2.2.1 (fun _ _ => trivial)), (Zdu h.2.2.2.2.1 (fun _ h => (Zan1 h))), (Zdu h.2.2.2.2.2.1 (fun _ h => (Zab8 h))), (Zdu h.2.2.2.2.2.2.1 (fun _ h => (Zan2 h))), (Zdu h.2.2.2.2.2.2.2.2.2.2.2.2.2.2.2.2.1 (fun _ _ => trivial))⟩
abbrev Zcv (x : Zy) : Prop := (SzL 16 (fun _ => True)) x.Targets
theorem Zab9 {x : Zy} (h : Zq4 x) : Zcv x := (Zdu h.2.2.2.1 (fun _ _ => trivial))
abbrev Zml (x : Zco) : Prop := Zcv x.Ctx ∧ Zea x.Amount ∧ Zd9 x.Ref
theorem Zvd {x : Zco} (h : Zmj x) : Zml x := ⟨(Zab9 h.1), (Zxt h.2.1), (Z6z h.2.2)⟩
abbrev Zv (x : Za) : Prop := SzS x.Name ∧ Zc9 x.Line ∧ (SzL 640 Zat) x.Abilities
abbrev Z7 (x : Zl) : Prop := (SzL 8 (fun _ => True)) x.Objects ∧ Zak x.Filter ∧ (SzL 176 Zar) x.Mods
abbrev Zw (x : Zc) : Prop := Zq x.S ∧ (SzL 176 Zv) x.All ∧ (SzL 224 Z7) x.L ∧ (SzL 1 (fun _ => True)) x.Begun ∧ (SzL 24 (SzL 8 (fun _ => True))) x.Sets ∧ (SzL 1 (fun _ => True)) x.Blank
theorem Zaeu (a0 : Int) : Tot (Z12 a0) (fun r => True) := by
 unfold Z12
 refine tZ ?_
 dsimp only [Z74, LT.den]
 refine tD (fun h1 => ?_) (fun h1 => ?_)
 ·exact tR trivial
 ·exact tR trivial
def Z5e : Ziq → Prop
 | .L0 v0 v3 => (SzT v0) ∧ (0 ≤ v3)
 | .L1 v0 v3 => (SzT v0) ∧ (0 ≤ v3) ∧ (v3 < (v0.length : Int)) ∧ (0 ≤ v3) ∧ (v3 < v0.length)
def Zzq : Ziq → M6
 | .L0 v0 v3 => (1, ((v0.length : Int) - v3).toNat, 1000000, 0, 0, 0)
 | .L1 v0 v3 => (1, ((v0.length : Int) - v3).toNat, 0, 0, 0, 0)
theorem Zjj (v0 : (List UInt8)) (v3 : Int) (h : Z5e (.L1 v0 v3)) : Tot (Zhk v0 v3).den (Nx Z5e Zzq (1, ((v0.length : Int) - v3).toNat, 0, 0, 0, 0) (fun r => True)) := by
 obtain ⟨ov0, cv3, bd2, i0, i1⟩ := h
 have lb_v0 : v0.length ≤ 562949953421312 := ov0
 dsimp only [Zhk, LT.den]
 refine tD (fun h1 => ?_) (fun h1 => ?_)
 ·refine tB (tI (by omega) (by omega)) (fun x2 h3 => ?_)
  refine tE (fun h4 => ?_) (fun h4 => ?_)
  ·refine qw (v3 - 1) fun q5 q6 => ?_
   refine tB (tI (by omega) (by omega)) (fun x7 h8 => ?_)
   refine tE (fun h9 => ?_) (fun h9 => ?_)
   ·exact tR trivial
   ·refine qw (v3 + 1) fun q10 q11 => ?_
    exact tL ⟨ov0, cl⟩ tk99
  ·refine qw (v3 + 1) fun q12 q13 => ?_
   exact tL ⟨ov0, cl⟩ tk99
 ·refine qw (v3 + 1) fun q14 q15 => ?_
  exact tL ⟨ov0, cl⟩ tk99
theorem Z5f (a0 : (List UInt8)) (oa0 : SzT a0) : Tot (Z75 a0) (fun r => True) := by
 unfold Z75
 refine tX (Inv := Z5e) (μ := Zzq) (m := (1000000, 0, 0, 0, 0, 0)) ?_ ?_
 ·have lb_a0 : a0.length ≤ 562949953421312 := oa0
  dsimp only [Zafg, LT.den]
  have q1 : a0.length ≤ 562949953421312 := oa0
  refine tD (fun h2 => ?_) (fun h2 => ?_)
  ·exact tR trivial
  ·refine tD (fun h3 => ?_) (fun h3 => ?_)
   ·exact tR trivial
   ·refine tB (tI (by omega) (by omega)) (fun x4 h5 => ?_)
    refine tB (Zaeu (UInt8.toNat x4 : Int)) (fun x6 h7 => ?_)
    refine tO (fun h8 => ?_) (fun h8 => ?_)
    ·exact tR trivial
    ·refine qw ((a0.length : Int) - 1) fun q9 q10 => ?_
     refine tB (tI (by omega) (by omega)) (fun x11 h12 => ?_)
     refine tE (fun h13 => ?_) (fun h13 => ?_)
     ·exact tR trivial
     ·exact tL ⟨oa0, cl⟩ tk99
 ·intro s hs
  cases s with
  | L0 v0 v3 =>
   obtain ⟨ov0, cv3⟩ := hs
   have lb_v0 : v0.length ≤ 562949953421312 := ov0
   show Tot (Zkb v0 v3).den _
   dsimp only [Zkb, LT.den, Zzq]
   have q1 : v0.length ≤ 562949953421312 := ov0
   refine tD (fun h2 => ?_) (fun h2 => ?_)
   ·refine tB (tI (by omega) (by omega)) (fun x3 h4 => ?_)
    refine tB (Zaeu (UInt8.toNat x3 : Int)) (fun x5 h6 => ?_)
    refine tO (fun h7 => ?_) (fun h7 => ?_)
    ·refine tB (tI (by omega) (by omega)) (fun x8 h9 => ?_)
     refine tD (fun h10 => ?_) (fun h10 => ?_)
     ·refine tB (tI (by omega) (by omega)) (fun x11 h12 => ?_)
      refine tN (fun h13 => ?_) (fun h13 => ?_)
      ·exact tR trivial
      ·exact tJ (Zjj v0 v3 ⟨ov0, cl, cl, cl, cl⟩)
     ·refine tB (tI (by omega) (by omega)) (fun x14 h15 => ?_)
      refine tD (fun h16 => ?_) (fun h16 => ?_)
      ·refine tB (tI (by omega) (by omega)) (fun x17 h18 => ?_)
       refine tN (fun h19 => ?_) (fun h19 => ?_)
       ·exact tR trivial
       ·exact tJ (Zjj v0 v3 ⟨ov0, cl, cl, cl, cl⟩)
      ·exact tJ (Zjj v0 v3 ⟨ov0, cl, cl, cl, cl⟩)
    ·exact tJ (Zjj v0 v3 ⟨ov0, cl, cl, cl, cl⟩)
   ·exact tR trivial
  | L1 v0 v3 => exact Zjj v0 v3 hs
def Zxu (n m : Int) : Bool := decide (n ≥ 0) && decide (n ≤ m)
def Zalg (c : Zp) : Bool := Zxu c.Generic 99 && (Zxu c.X 2 && c.Color.list.all fun n => Zxu n 9)
theorem Za06 (c : Zp) : Z13 c = some (Zalg c) := by
 unfold Z13 LF.run; dsimp only [Zafh, LT.den]
 have hl : Zb5 Zhp.step (.L0 c 0) = some (c.Color.list.all fun n => Zxu n 9) := by
  have := Zvt (st := fun i => Zir.L0 c (i : Int)) (step := Zhp.step) (bad := false) c.Color.list (fun n => Zxu n 9) (fun i x hx => by
   have hi := (List.getElem?_eq_some_iff.1 hx).1
   have hi : i < 5 := hi
   show (Zkc _ _).den = _
   dsimp only [Zkc, LT.den]
   rw [decide_eq_true (by omega), Zgn hx, Zfi (by omega) (by omega)]
   simp only [cond_true, Option.bind_some]
   unfold Zxu
   by_cases h1 : x < 0
   ·rw [decide_eq_true h1, decide_eq_false (show ¬ x ≥ 0 by omega)]; rfl
   ·rw [decide_eq_false h1, decide_eq_true (show x ≥ 0 by omega)]
    by_cases h2 : x > 9
    ·rw [decide_eq_true h2, decide_eq_false (show ¬ x ≤ 9 by omega)]; rfl
    ·rw [decide_eq_false h2, decide_eq_true (show x ≤ 9 by omega)]; rfl)
  rw [show (Zir.L0 c 0) = .L0 c ((0 : Nat) : Int) from rfl, this]
  have he : Zb5 Zhp.step (.L0 c ((c.Color.list.length : Nat) : Int)) = some true := by
   refine Zci ?_
   show (Zkc c 5).den = _
   rfl
  rw [he]
  cases c.Color.list.all fun n => Zxu n 9 <;> rfl
 refine (Zbh fun _ => Zbh fun _ => Zbh fun _ => Zbh fun _ => (show Option.bind (some (Sum.inl (Zir.L0 c 0))) (Zep Zhp.step) = some (c.Color.list.all fun n => Zxu n 9) from hl)).trans ?_
 congr 1
 unfold Zalg Zxu
 rw [Bool.eq_iff_iff]
 simp only [Bool.and_eq_true, Bool.not_eq_true', decide_eq_false_iff_not, decide_eq_true_eq, ge_iff_le, gt_iff_lt, Int.not_lt]
 constructor
 ·rintro ⟨h1, h2, h3, h4, h5⟩; exact ⟨⟨h1, h2⟩, ⟨h3, h4⟩, h5⟩
 ·rintro ⟨⟨h1, h2⟩, ⟨h3, h4⟩, h5⟩; exact ⟨h1, h2, h3, h4, h5⟩
theorem Zpn (a0 : Zp) : Tot (Z13 a0) (fun r => (r = true → a0.X ≤ 2) ∧ (r = true → ∀ n, n ∈ A5.list a0.Color → n ≤ 9)) := by
 refine ⟨_, Za06 a0, fun h => ?_, fun h n hn => ?_⟩
 ·simp only [Zalg, Zxu, Bool.and_eq_true, decide_eq_true_eq] at h
  exact h.2.1.2
 ·simp only [Zalg, Zxu, Bool.and_eq_true, decide_eq_true_eq, List.all_eq_true] at h
  exact (h.2.2 n hn).2
theorem Zaay : Tot (Zh1) (fun r => ((SzL 16 SzN) r) ∧ (r.length = 2)) := by
 unfold Zh1
 refine tZ ?_
 dsimp only [Zvw, LT.den]
 have q1 : (SzL 16 SzN) ([([98, 97, 115, 105, 99] : List UInt8), ([117, 110, 105, 113, 117, 101] : List UInt8)] : (List (List UInt8))) := ⟨by simp only [List.length_cons, List.length_nil]; omega, (mem_cons' Zaj (mem_cons' Zaj (fun _ h => by cases h)))⟩
 have lq1 : ([([98, 97, 115, 105, 99] : List UInt8), ([117, 110, 105, 113, 117, 101] : List UInt8)] : (List (List UInt8))).length = 2 := rfl
 exact tR ⟨q1, cl⟩
def Zaqq : Zlu → Prop
 | .L0 v0 v1 v5 => ((SzL 16 SzT) v0) ∧ (SzT v1) ∧ (0 ≤ v5)
def Zxv : Zlu → M6
 | .L0 v0 v1 v5 => (1, ((v0.length : Int) - v5).toNat, 1000000, 0, 0, 0)
theorem Zt5 (a0 : (List (List UInt8))) (a1 : (List UInt8)) (oa0 : (SzL 16 SzT) a0) (oa1 : SzT a1) : Tot (Zr8 a0 a1) (fun r => True) := by
 unfold Zr8
 refine tX (Inv := Zaqq) (μ := Zxv) (m := (1000000, 0, 0, 0, 0, 0)) ?_ ?_
 ·have lb_a0 := oa0.1
  have lb_a1 : a1.length ≤ 562949953421312 := oa1
  dsimp only [Zz9, LT.den]
  exact tL ⟨oa0, oa1, cl⟩ (by unfold Zxv lt6; dsimp only; omega)
 ·intro s hs
  cases s with
  | L0 v0 v1 v5 =>
   obtain ⟨ov0, ov1, cv5⟩ := hs
   have lb_v0 := ov0.1
   have lb_v1 : v1.length ≤ 562949953421312 := ov1
   show Tot (Zgp v0 v1 v5).den _
   dsimp only [Zgp, LT.den]
   have q1 := ov0.1
   refine tD (fun h2 => ?_) (fun h2 => ?_)
   ·refine tB (tI (by omega) (by omega)) (fun x3 h4 => ?_)
    have oh4 : SzT x3 := ov0.2 x3 h4.1
    refine tF (fun h5 => ?_) (fun h5 => ?_)
    ·exact tR trivial
    ·refine qw (v5 + 1) fun q6 q7 => ?_
     exact tL ⟨ov0, ov1, cl⟩ (by unfold Zxv lt6; dsimp only; omega)
   ·exact tR trivial
theorem Zuy : Tot (Zi1) (fun r => ((SzL 16 SzN) r) ∧ (r.length = 6)) := by
 unfold Zi1
 refine tZ ?_
 dsimp only [Zyu, LT.den]
 have q1 : (SzL 16 SzN) ([([99, 114, 101, 97, 116, 117, 114, 101] : List UInt8), ([105, 110, 115, 116, 97, 110, 116] : List UInt8), ([114, 105, 116, 117, 97, 108] : List UInt8), ([114, 101, 108, 105, 99] : List UInt8), ([99, 104, 97, 114, 109] : List UInt8), ([108, 97, 110, 100] : List UInt8)] : (List (List UInt8))) := ⟨by simp only [List.length_cons, List.length_nil]; omega, (mem_cons' Zaj (mem_cons' Zaj (mem_cons' Zaj (mem_cons' Zaj (mem_cons' Zaj (mem_cons' Zaj (fun _ h => by cases h)))))))⟩
 have lq1 : ([([99, 114, 101, 97, 116, 117, 114, 101] : List UInt8), ([105, 110, 115, 116, 97, 110, 116] : List UInt8), ([114, 105, 116, 117, 97, 108] : List UInt8), ([114, 101, 108, 105, 99] : List UInt8), ([99, 104, 97, 114, 109] : List UInt8), ([108, 97, 110, 100] : List UInt8)] : (List (List UInt8))).length = 6 := rfl
 exact tR ⟨q1, cl⟩
theorem Zmu (a0 : (List UInt8)) (oa0 : SzT a0) : Tot (Zr9 a0) (fun r => True) := by
 unfold Zr9
 refine tZ ?_
 have lb_a0 : a0.length ≤ 562949953421312 := oa0
 dsimp only [Z0b, LT.den]
 refine tB (Z5f a0 oa0) (fun x1 h2 => ?_)
 refine tF (fun h3 => ?_) (fun h3 => ?_)
 ·refine tB (Zaay) (fun x4 h5 => ?_)
  have eh5_1 := h5.2
  refine tB (Zt5 x4 a0 (SzL.nt h5.1) oa0) (fun x6 h7 => ?_)
  refine tD (fun h8 => ?_) (fun h8 => ?_)
  ·refine tB (Zuy) (fun x9 h10 => ?_)
   have eh10_1 := h10.2
   refine tB (Zt5 x9 a0 (SzL.nt h10.1) oa0) (fun x11 h12 => ?_)
   exact tR trivial
  ·exact tR trivial
 ·exact tR trivial
def Zax5 : Zsa → Prop
 | .L0 v0 v1 v5 => (0 ≤ v5) ∧ (v1 ≤ 100)
def Z5g : Zsa → M6
 | .L0 v0 v1 v5 => (1, (v1 - v5).toNat, 1000000, 0, 0, 0)
theorem Z1p (a0 : Int) (a1 : Int) (h0 : a1 ≤ 100) : Tot (Zamz a0 a1) (fun r => True) := by
 unfold Zamz
 refine tX (Inv := Zax5) (μ := Z5g) (m := (1000000, 0, 0, 0, 0, 0)) ?_ ?_
 ·dsimp only [Zao7, LT.den]
  exact tL ⟨cl, cl⟩ (by unfold Z5g lt6; dsimp only; omega)
 ·intro s hs
  cases s with
  | L0 v0 v1 v5 =>
   obtain ⟨cv5, i0⟩ := hs
   show Tot (Z4d v0 v1 v5).den _
   dsimp only [Z4d, LT.den]
   refine tD (fun h1 => ?_) (fun h1 => ?_)
   ·refine qw (v5 + 1) fun q2 q3 => ?_
    exact tL ⟨cl, cl⟩ (by unfold Z5g lt6; dsimp only; omega)
   ·exact tR trivial
def Za07 : Zv0 → Prop
 | .L0 E0 v3 => (Zc9 E0) ∧ (0 ≤ v3)
def Zap2 : Zv0 → M6
 | .L0 E0 v3 => (1, ((E0.Subs.length : Int) - v3).toNat, 1000000, 0, 0, 0)
theorem Za08 (a0 : Zs) (oa0 : Zc9 a0) : Tot (Zatn a0) (fun r => True) := by
 unfold Zatn
 refine tX (Inv := Za07) (μ := Zap2) (m := (1000000, 0, 0, 0, 0, 0)) ?_ ?_
 ·dsimp only [Zatl, LT.den]
  refine tD (fun h1 => ?_) (fun h1 => ?_)
  ·exact tR trivial
  ·refine tD (fun h2 => ?_) (fun h2 => ?_)
   ·exact tR trivial
   ·refine tD (fun h3 => ?_) (fun h3 => ?_)
    ·exact tR trivial
    ·refine tD (fun h4 => ?_) (fun h4 => ?_)
     ·exact tR trivial
     ·have q5 := oa0.1
      refine tD (fun h6 => ?_) (fun h6 => ?_)
      ·exact tR trivial
      ·exact tL ⟨oa0, cl⟩ Za04
 ·intro s hs
  cases s with
  | L0 E0 v3 =>
   obtain ⟨O0, cv3⟩ := hs
   show Tot (Z78 E0 v3).den _
   dsimp only [Z78, LT.den]
   have q1 := O0.1
   refine tD (fun h2 => ?_) (fun h2 => ?_)
   ·refine tB (tI (by omega) (by omega)) (fun x3 h4 => ?_)
    have oh4 : SzT x3 := O0.2 x3 h4.1
    refine tB (Zmu x3 oh4) (fun x5 h6 => ?_)
    refine tO (fun h7 => ?_) (fun h7 => ?_)
    ·exact tR trivial
    ·refine tD (fun h8 => ?_) (fun h8 => ?_)
     ·refine qw (v3 - 1) fun q9 q10 => ?_
      refine tB (tI (by omega) (by omega)) (fun x11 h12 => ?_)
      have oh12 : SzT x11 := O0.2 x11 h12.1
      refine tO (fun h13 => ?_) (fun h13 => ?_)
      ·exact tR trivial
      ·refine qw (v3 + 1) fun q14 q15 => ?_
       exact tL ⟨O0, cl⟩ Za04
     ·refine qw (v3 + 1) fun q16 q17 => ?_
      exact tL ⟨O0, cl⟩ Za04
   ·refine tE (fun h18 => ?_) (fun h18 => ?_)
    ·exact tR trivial
    ·refine tE (fun h19 => ?_) (fun h19 => ?_)
     ·exact tR trivial
     ·refine tB (Z1p E0.Types 1 cl) (fun x20 h21 => ?_)
      refine tO (fun h22 => ?_) (fun h22 => ?_)
      ·refine tB (Z1p E0.Types 2 cl) (fun x23 h24 => ?_)
       exact tR trivial
      ·exact tR trivial
theorem Zalh (a0 : Int) : Tot (Zatq a0) (fun r => True) := by
 unfold Zatq
 refine tZ ?_
 dsimp only [Zato, LT.den]
 refine tD (fun h1 => ?_) (fun h1 => ?_)
 ·exact tR trivial
 ·exact tR trivial
theorem Zagx (a0 : Zn) (oa0 : Zaf a0) : Tot (Zv1 a0) (fun r => True) := by
 unfold Zv1
 refine tZ ?_
 dsimp only [Z14, LT.den]
 exact tR trivial
def Zaqr : Zlv → Prop
 | .L0 v0 v1 v7 => (0 ≤ v7) ∧ True
def Zaaz : Zlv → M6
 | .L0 v0 v1 v7 => (1, (6 - v7).toNat, 1000000, 0, 0, 0)
theorem Z60 (a0 : Int) (a1 : Int) (a2 : Int) : Tot (Zsb a0 a1 a2) (fun r => True) := by
 unfold Zsb
 refine tX (Inv := Zaqr) (μ := Zaaz) (m := (1000000, 0, 0, 0, 0, 0)) ?_ ?_
 ·dsimp only [Z0c, LT.den]
  refine tD (fun h1 => ?_) (fun h1 => ?_)
  ·exact tR trivial
  ·refine tD (fun h2 => ?_) (fun h2 => ?_)
   ·exact tR trivial
   ·refine tD (fun h3 => ?_) (fun h3 => ?_)
    ·exact tR trivial
    ·refine tD (fun h4 => ?_) (fun h4 => ?_)
     ·exact tR trivial
     ·exact tL ⟨cl, trivial⟩ tk84
 ·intro s hs
  cases s with
  | L0 v0 v1 v7 =>
   obtain ⟨cv7, _⟩ := hs
   show Tot (Zgq v0 v1 v7).den _
   dsimp only [Zgq, LT.den]
   refine tD (fun h1 => ?_) (fun h1 => ?_)
   ·refine tE (fun h2 => ?_) (fun h2 => ?_)
    ·refine tE (fun h3 => ?_) (fun h3 => ?_)
     ·exact tR trivial
     ·refine qw (v7 + 1) fun q4 q5 => ?_
      exact tL ⟨cl, trivial⟩ tk84
    ·refine qw (v7 + 1) fun q6 q7 => ?_
     exact tL ⟨cl, trivial⟩ tk84
   ·exact tR trivial
theorem Zt6 (a0 : Zd) : Tot (Zsc a0) (fun r => (r = true → 0 ≤ a0.Kind ∧ a0.Kind ≤ 3)) := by
 unfold Zsc
 refine tZ ?_
 dsimp only [Z0d, LT.den]
 refine tD (fun h1 => ?_) (fun h1 => ?_)
 ·exact tR Zfd
 ·refine tD (fun h2 => ?_) (fun h2 => ?_)
  ·exact tR Zfd
  ·refine tD (fun h3 => ?_) (fun h3 => ?_)
   ·exact tR Zfd
   ·refine tD (fun h4 => ?_) (fun h4 => ?_)
    ·exact tR Zfd
    ·refine tN (fun h5 => ?_) (fun h5 => ?_)
     ·exact tR (by intro hr; first | omega | (cases hr; done))
     ·exact tR (by intro hr; first | omega | (cases hr; done))
abbrev Zaev (a0 : Ze) (r : Bool) : Prop := (r = true → 0 ≤ a0.Zone ∧ a0.Zone ≤ 5 ∧ 0 ≤ a0.Who ∧ a0.Who ≤ 2 ∧ 0 ≤ a0.Self ∧ a0.Self ≤ 2 ∧ 0 ≤ a0.Tap ∧ a0.Tap ≤ 2 ∧ 0 ≤ a0.Power.Kind ∧ a0.Power.Kind ≤ 3 ∧ 0 ≤ a0.Tough.Kind ∧ a0.Tough.Kind ≤ 3 ∧ 0 ≤ a0.Value.Kind ∧ a0.Value.Kind ≤ 3)
def Z5h (a0 : Ze) : Zv3 → Prop
 | .L0 E0 => (E0 = a0) ∧ (Zak E0) ∧ (0 ≤ E0.Zone ∧ E0.Zone ≤ 5 ∧ 0 ≤ E0.Who ∧ E0.Who ≤ 2 ∧ 0 ≤ E0.Self ∧ E0.Self ≤ 2 ∧ 0 ≤ E0.Tap ∧ E0.Tap ≤ 2)
def Zap3 : Zv3 → M6
 | .L0 E0 => (0, 0, 0, 0, 0, 0)
theorem Zt7 (a0 : Ze) (E0 : Ze) (h : (Z5h a0) (.L0 E0)) : Tot (Zkd E0).den (Nx (Z5h a0) Zap3 (0, 0, 0, 0, 0, 0) (Zaev a0)) := by
 obtain ⟨al0, O0, i0⟩ := h
 subst al0
 dsimp only [Zkd, LT.den]
 refine tB (Zt6 E0.Power) (fun x1 h2 => ?_)
 have eh2_0 := h2
 refine tF (fun h3 => ?_) (fun h3 => ?_)
 ·have h3_0 := eh2_0 h3
  refine tB (Zt6 E0.Tough) (fun x4 h5 => ?_)
  have eh5_0 := h5
  refine tF (fun h6 => ?_) (fun h6 => ?_)
  ·have h6_0 := eh5_0 h6
   refine tB (Zt6 E0.Value) (fun x7 h8 => ?_)
   have eh8_0 := h8
   exact tR (by intro hr; have := eh8_0 hr; first | omega | (cases hr; done))
  ·exact tR Zfd
 ·exact tR Zfd
theorem Zax6 (a0 : Ze) (oa0 : Zak a0) : Tot (Z16 a0) (Zaev a0) := by
 unfold Z16
 refine tX (Inv := (Z5h a0)) (μ := Zap3) (m := (1000000, 0, 0, 0, 0, 0)) ?_ ?_
 ·dsimp only [Zafi, LT.den]
  refine tD (fun h1 => ?_) (fun h1 => ?_)
  ·exact tR Zfd
  ·refine tD (fun h2 => ?_) (fun h2 => ?_)
   ·exact tR Zfd
   ·refine tD (fun h3 => ?_) (fun h3 => ?_)
    ·exact tR Zfd
    ·refine tD (fun h4 => ?_) (fun h4 => ?_)
     ·exact tR Zfd
     ·refine tD (fun h5 => ?_) (fun h5 => ?_)
      ·exact tR Zfd
      ·refine tD (fun h6 => ?_) (fun h6 => ?_)
       ·exact tR Zfd
       ·refine tD (fun h7 => ?_) (fun h7 => ?_)
        ·exact tR Zfd
        ·refine tD (fun h8 => ?_) (fun h8 => ?_)
         ·exact tR Zfd
         ·refine tB (Z60 a0.Types a0.NotTypes 63) (fun x9 h10 => ?_)
          refine tO (fun h11 => ?_) (fun h11 => ?_)
          ·exact tR Zfd
          ·refine tB (Z60 a0.Colors a0.NotColors 31) (fun x12 h13 => ?_)
           refine tO (fun h14 => ?_) (fun h14 => ?_)
           ·exact tR Zfd
           ·refine tO (fun h15 => ?_) (fun h15 => ?_)
            ·refine tB (Zmu a0.Sub (SzS.t oa0)) (fun x16 h17 => ?_)
             refine tO (fun h18 => ?_) (fun h18 => ?_)
             ·exact tR Zfd
             ·refine tD (fun h19 => ?_) (fun h19 => ?_)
              ·exact tR Zfd
              ·refine tD (fun h20 => ?_) (fun h20 => ?_)
               ·exact tR Zfd
               ·exact tJ (Zt7 a0 a0 ⟨rfl, oa0, cl⟩)
            ·refine tD (fun h21 => ?_) (fun h21 => ?_)
             ·exact tR Zfd
             ·refine tD (fun h22 => ?_) (fun h22 => ?_)
              ·exact tR Zfd
              ·exact tJ (Zt7 a0 a0 ⟨rfl, oa0, cl⟩)
 ·intro s hs
  cases s with
  | L0 E0 => exact Zt7 a0 E0 hs
theorem Zeb (a0 : Ze) (oa0 : Zak a0) : Tot (Z16 a0) (fun r => (r = true → 0 ≤ a0.Zone ∧ a0.Zone ≤ 5 ∧ 0 ≤ a0.Who ∧ a0.Who ≤ 2 ∧ 0 ≤ a0.Self ∧ a0.Self ≤ 2 ∧ 0 ≤ a0.Tap ∧ a0.Tap ≤ 2 ∧ 0 ≤ a0.Power.Kind ∧ a0.Power.Kind ≤ 3 ∧ 0 ≤ a0.Tough.Kind ∧ a0.Tough.Kind ≤ 3 ∧ 0 ≤ a0.Value.Kind ∧ a0.Value.Kind ≤ 3) ∧ (r = filV a0)) := (Tot.we (Zax6 a0 oa0)).mono fun r h => ⟨h.1, Option.some.inj (h.2.symm.trans (Zapy a0))⟩
def Zkr : Zk2 → Prop
 | .L0 E0 E1 v7 v8 => (Zar E0) ∧ (Zar E1)
 | .L1 E0 E1 v7 v16 => (Zar E0) ∧ (Zar E1)
def Z1q : Zk2 → M6
 | .L0 E0 E1 v7 v8 => (0, 0, 0, 0, 0, 0)
 | .L1 E0 E1 v7 v16 => (0, 0, 0, 0, 0, 0)
theorem Zpo (E0 : Zr) (E1 : Zr) (v7 : Int) (v16 : Bool) (h : Zkr (.L1 E0 E1 v7 v16)) : Tot (Zlx E0 E1 v7 v16).den (Nx Zkr Z1q (0, 0, 0, 0, 0, 0) (fun r => (Zar r))) := by
 obtain ⟨O0, O1⟩ := h
 dsimp only [Zlx, LT.den]
 refine tF (fun h1 => ?_) (fun h1 => ?_)
 ·exact tR ⟨(SzS.nil), O0.2⟩
 ·refine tE (fun h2 => ?_) (fun h2 => ?_)
  ·exact tR ⟨O0.1, (SzS.nil)⟩
  ·refine tE (fun h3 => ?_) (fun h3 => ?_)
   ·exact tR ⟨O0.1, O0.2⟩
   ·refine tE (fun h4 => ?_) (fun h4 => ?_)
    ·exact tR ⟨O0.1, O0.2⟩
    ·exact tR O0
theorem Zer (E0 : Zr) (E1 : Zr) (v7 : Int) (v8 : Bool) (h : Zkr (.L0 E0 E1 v7 v8)) : Tot (Zfa E0 E1 v7 v8).den (Nx Zkr Z1q (0, 0, 0, 0, 0, 0) (fun r => (Zar r))) := by
 obtain ⟨O0, O1⟩ := h
 dsimp only [Zfa, LT.den]
 refine tF (fun h1 => ?_) (fun h1 => ?_)
 ·exact tR ⟨O0.1, O0.2⟩
 ·refine tE (fun h2 => ?_) (fun h2 => ?_)
  ·exact tJ (Zpo E0 E1 v7 (v7 == 4) ⟨O0, O1⟩)
  ·exact tJ (Zpo E0 E1 v7 (v7 == 5) ⟨O0, O1⟩)
theorem Zav1 (a0 : Zr) (oa0 : Zar a0) : Tot (Zafk a0) (fun r => (Zar r)) := by
 unfold Zafk
 refine tX (Inv := Zkr) (μ := Z1q) (m := (1000000, 0, 0, 0, 0, 0)) ?_ ?_
 ·dsimp only [Zair, LT.den]
  refine tE (fun h1 => ?_) (fun h1 => ?_)
  ·exact tJ (Zer (⟨0, a0.N, a0.M, a0.Sub, a0.Filter⟩ : Zr) (⟨0, 0, 0, ([] : List UInt8), (⟨0, 0, 0, 0, 0, 0, 0, ([] : List UInt8), 0, 0, (⟨0, 0⟩ : Zd), (⟨0, 0⟩ : Zd), (⟨0, 0⟩ : Zd)⟩ : Ze)⟩ : Zr) a0.Kind (a0.Kind == 2) ⟨⟨oa0.1, oa0.2⟩, ⟨(SzS.nil), (SzS.nil)⟩⟩)
  ·refine tE (fun h2 => ?_) (fun h2 => ?_)
   ·exact tJ (Zer (⟨0, a0.N, a0.M, a0.Sub, a0.Filter⟩ : Zr) (⟨0, 0, 0, ([] : List UInt8), (⟨0, 0, 0, 0, 0, 0, 0, ([] : List UInt8), 0, 0, (⟨0, 0⟩ : Zd), (⟨0, 0⟩ : Zd), (⟨0, 0⟩ : Zd)⟩ : Ze)⟩ : Zr) a0.Kind (a0.Kind == 3) ⟨⟨oa0.1, oa0.2⟩, ⟨(SzS.nil), (SzS.nil)⟩⟩)
   ·refine tE (fun h3 => ?_) (fun h3 => ?_)
    ·exact tJ (Zer (⟨0, a0.N, a0.M, a0.Sub, a0.Filter⟩ : Zr) (⟨0, 0, 0, ([] : List UInt8), (⟨0, 0, 0, 0, 0, 0, 0, ([] : List UInt8), 0, 0, (⟨0, 0⟩ : Zd), (⟨0, 0⟩ : Zd), (⟨0, 0⟩ : Zd)⟩ : Ze)⟩ : Zr) a0.Kind (a0.Kind == 6) ⟨⟨oa0.1, oa0.2⟩, ⟨(SzS.nil), (SzS.nil)⟩⟩)
    ·refine tE (fun h4 => ?_) (fun h4 => ?_)
     ·exact tJ (Zer (⟨0, a0.N, a0.M, a0.Sub, a0.Filter⟩ : Zr) (⟨0, 0, 0, ([] : List UInt8), (⟨0, 0, 0, 0, 0, 0, 0, ([] : List UInt8), 0, 0, (⟨0, 0⟩ : Zd), (⟨0, 0⟩ : Zd), (⟨0, 0⟩ : Zd)⟩ : Ze)⟩ : Zr) a0.Kind (a0.Kind == 7) ⟨⟨oa0.1, oa0.2⟩, ⟨(SzS.nil), (SzS.nil)⟩⟩)
     ·refine tE (fun h5 => ?_) (fun h5 => ?_)
      ·exact tJ (Zer (⟨0, a0.N, a0.M, a0.Sub, a0.Filter⟩ : Zr) (⟨0, 0, 0, ([] : List UInt8), (⟨0, 0, 0, 0, 0, 0, 0, ([] : List UInt8), 0, 0, (⟨0, 0⟩ : Zd), (⟨0, 0⟩ : Zd), (⟨0, 0⟩ : Zd)⟩ : Ze)⟩ : Zr) a0.Kind (a0.Kind == 8) ⟨⟨oa0.1, oa0.2⟩, ⟨(SzS.nil), (SzS.nil)⟩⟩)
      ·exact tJ (Zer (⟨0, a0.N, a0.M, a0.Sub, a0.Filter⟩ : Zr) (⟨0, 0, 0, ([] : List UInt8), (⟨0, 0, 0, 0, 0, 0, 0, ([] : List UInt8), 0, 0, (⟨0, 0⟩ : Zd), (⟨0, 0⟩ : Zd), (⟨0, 0⟩ : Zd)⟩ : Ze)⟩ : Zr) a0.Kind (a0.Kind == 9) ⟨⟨oa0.1, oa0.2⟩, ⟨(SzS.nil), (SzS.nil)⟩⟩)
 ·intro s hs
  cases s with
  | L0 E0 E1 v7 v8 => exact Zer E0 E1 v7 v8 hs
  | L1 E0 E1 v7 v16 => exact Zpo E0 E1 v7 v16 hs
theorem Zaqs (a0 : Int) : Tot (Z8a a0) (fun r => True) := by
 unfold Z8a
 refine tZ ?_
 dsimp only [Zacp, LT.den]
 refine tD (fun h1 => ?_) (fun h1 => ?_)
 ·refine tD (fun h2 => ?_) (fun h2 => ?_)
  ·exact tR trivial
  ·exact tR trivial
 ·exact tR trivial
def Zve : Zm7 → Prop
 | .L0 E0 v18 v19 => (Zar E0) ∧ True
 | .L1 E0 v18 v25 => (Zar E0) ∧ True
 | .L2 E0 v18 v51 => (Zar E0) ∧ True
def Zzr : Zm7 → M6
 | .L0 E0 v18 v19 => (0, 0, 0, 0, 0, 0)
 | .L1 E0 v18 v25 => (0, 0, 0, 0, 0, 0)
 | .L2 E0 v18 v51 => (0, 0, 0, 0, 0, 0)
theorem Zt8 (E0 : Zr) (v18 : Int) (v51 : Bool) (h : (Zar E0) ∧ True) : Tot (Zsd E0 v18 v51).den (Nx Zve Zzr (0, 0, 0, 0, 0, 0) (fun r => True)) := by
 obtain ⟨O0, _⟩ := h
 dsimp only [Zsd, LT.den]
 refine tF (fun h1 => ?_) (fun h1 => ?_)
 ·refine tD (fun h2 => ?_) (fun h2 => ?_)
  ·exact tR trivial
  ·exact tR trivial
 ·refine tE (fun h3 => ?_) (fun h3 => ?_)
  ·refine tB (Zeb E0.Filter O0.2) (fun x4 h5 => ?_)
   have eh5_0 := h5.1
   have eh5_1 := h5.2
   exact tR trivial
  ·refine tE (fun h6 => ?_) (fun h6 => ?_)
   ·refine tD (fun h7 => ?_) (fun h7 => ?_)
    ·refine tD (fun h8 => ?_) (fun h8 => ?_)
     ·refine tD (fun h9 => ?_) (fun h9 => ?_)
      ·exact tR trivial
      ·exact tR trivial
     ·exact tR trivial
    ·exact tR trivial
   ·refine tE (fun h10 => ?_) (fun h10 => ?_)
    ·refine tD (fun h11 => ?_) (fun h11 => ?_)
     ·refine tD (fun h12 => ?_) (fun h12 => ?_)
      ·refine tD (fun h13 => ?_) (fun h13 => ?_)
       ·exact tR trivial
       ·exact tR trivial
      ·exact tR trivial
     ·exact tR trivial
    ·exact tR trivial
theorem Zt9 (E0 : Zr) (v18 : Int) (v25 : Bool) (h : (Zar E0) ∧ True) : Tot (Zse E0 v18 v25).den (Nx Zve Zzr (0, 0, 0, 0, 0, 0) (fun r => True)) := by
 obtain ⟨O0, _⟩ := h
 dsimp only [Zse, LT.den]
 refine tF (fun h1 => ?_) (fun h1 => ?_)
 ·refine tB (Zmu E0.Sub (SzS.t O0.1)) (fun x2 h3 => ?_)
  exact tR trivial
 ·refine tE (fun h4 => ?_) (fun h4 => ?_)
  ·refine tD (fun h5 => ?_) (fun h5 => ?_)
   ·exact tR trivial
   ·exact tR trivial
  ·refine tE (fun h6 => ?_) (fun h6 => ?_)
   ·refine tD (fun h7 => ?_) (fun h7 => ?_)
    ·exact tR trivial
    ·exact tR trivial
   ·refine tE (fun h8 => ?_) (fun h8 => ?_)
    ·exact tJ (Zt8 E0 v18 (v18 == 8) ⟨O0, trivial⟩)
    ·exact tJ (Zt8 E0 v18 (v18 == 9) ⟨O0, trivial⟩)
theorem Zua (E0 : Zr) (v18 : Int) (v19 : Bool) (h : (Zar E0) ∧ True) : Tot (Zsf E0 v18 v19).den (Nx Zve Zzr (0, 0, 0, 0, 0, 0) (fun r => True)) := by
 obtain ⟨O0, _⟩ := h
 dsimp only [Zsf, LT.den]
 refine tF (fun h1 => ?_) (fun h1 => ?_)
 ·refine tB (Zaqs E0.N) (fun x2 h3 => ?_)
  exact tR trivial
 ·refine tE (fun h4 => ?_) (fun h4 => ?_)
  ·exact tJ (Zt9 E0 v18 (v18 == 4) ⟨O0, trivial⟩)
  ·exact tJ (Zt9 E0 v18 (v18 == 5) ⟨O0, trivial⟩)
theorem Z5i (a0 : Zr) (oa0 : Zar a0) : Tot (Zatu a0) (fun r => True) := by
 unfold Zatu
 refine tX (Inv := Zve) (μ := Zzr) (m := (1000000, 0, 0, 0, 0, 0)) ?_ ?_
 ·dsimp only [Zats, LT.den]
  refine tD (fun h1 => ?_) (fun h1 => ?_)
  ·exact tR trivial
  ·refine tD (fun h2 => ?_) (fun h2 => ?_)
   ·exact tR trivial
   ·refine tB (Zav1 a0 oa0) (fun x3 h4 => ?_)
    refine tO (fun h5 => ?_) (fun h5 => ?_)
    ·exact tR trivial
    ·refine tE (fun h6 => ?_) (fun h6 => ?_)
     ·exact tJ (Zua a0 a0.Kind (a0.Kind == 2) ⟨oa0, trivial⟩)
     ·exact tJ (Zua a0 a0.Kind (a0.Kind == 3) ⟨oa0, trivial⟩)
 ·intro s hs
  cases s with
  | L0 E0 v18 v19 => exact Zua E0 v18 v19 hs
  | L1 E0 v18 v25 => exact Zt9 E0 v18 v25 hs
  | L2 E0 v18 v51 => exact Zt8 E0 v18 v51 hs
def Zan3 : Zke → Prop
 | .L0 v0 v1 v2 v7 v8 => ((SzL 16 SzN) v0) ∧ (SzN v2) ∧ (0 ≤ v8) ∧ (v7.length ≤ 200 * v8.toNat) ∧ (v0.length ≤ 100) ∧ (v8 ≤ v0.length)
def Z61 : Zke → M6
 | .L0 v0 v1 v2 v7 v8 => (1, ((v0.length : Int) - v8).toNat, 1000000, 0, 0, 0)
theorem Zan4 (a0 : (List (List UInt8))) (a1 : Int) (a2 : (List UInt8)) (oa0 : (SzL 16 SzN) a0) (oa2 : SzN a2) (h0 : a0.length ≤ 100) : Tot (Z4f a0 a1 a2) (fun r => (SzT r) ∧ (r.length ≤ 20000)) := by
 unfold Z4f
 refine tX (Inv := Zan3) (μ := Z61) (m := (1000000, 0, 0, 0, 0, 0)) ?_ ?_
 ·have lb_a0 := oa0.1
  have lb_a2 : a2.length ≤ 100 := oa2
  dsimp only [Z8c, LT.den]
  exact tL ⟨oa0, oa2, cl, cl, cl, cl⟩ tk75
 ·intro s hs
  cases s with
  | L0 v0 v1 v2 v7 v8 =>
   obtain ⟨ov0, ov2, cv8, i0, i1, i2⟩ := hs
   have lb_v0 := ov0.1
   have lb_v2 : v2.length ≤ 100 := ov2
   show Tot (Ztf v0 v1 v2 v7 v8).den _
   dsimp only [Ztf, LT.den]
   have q1 := (SzL.nt ov0).1
   refine tD (fun h2 => ?_) (fun h2 => ?_)
   ·refine tB (Z1p v1 v8 cl) (fun x3 h4 => ?_)
    refine tF (fun h5 => ?_) (fun h5 => ?_)
    ·refine tO (fun h6 => ?_) (fun h6 => ?_)
     ·have q7 : v2.length ≤ 100 := ov2
      refine tB (tK Zcu) (fun x8 h9 => ?_)
      refine tB (tI (by omega) (by omega)) (fun x10 h11 => ?_)
      have oh11 : SzN x10 := ov0.2 x10 h11.1
      have q12 : x10.length ≤ 100 := oh11
      refine tB (tK Zcu) (fun x13 h14 => ?_)
      refine qw (v8 + 1) fun q15 q16 => ?_
      exact tL ⟨ov0, ov2, cl, cl, cl, cl⟩ tk75
     ·refine tB (tI (by omega) (by omega)) (fun x17 h18 => ?_)
      have oh18 : SzN x17 := ov0.2 x17 h18.1
      have q19 : x17.length ≤ 100 := oh18
      refine tB (tK Zcu) (fun x20 h21 => ?_)
      refine qw (v8 + 1) fun q22 q23 => ?_
      exact tL ⟨ov0, ov2, cl, cl, cl, cl⟩ tk75
    ·refine qw (v8 + 1) fun q24 q25 => ?_
     exact tL ⟨ov0, ov2, cl, cl, cl, cl⟩ tk75
   ·exact tR ⟨Znf, cl⟩
theorem Zll (a0 : Int) : Tot (Ztg a0) (fun r => (SzT r) ∧ (r.length ≤ 20000)) := by
 unfold Ztg
 refine tZ ?_
 dsimp only [Zyw, LT.den]
 refine tD (fun h1 => ?_) (fun h1 => ?_)
 ·exact tR ⟨(SzT.nil), cl⟩
 ·refine tD (fun h2 => ?_) (fun h2 => ?_)
  ·exact tR ⟨(SzT.nil), cl⟩
  ·refine tB (Zuy) (fun x3 h4 => ?_)
   have eh4_1 := h4.2
   refine tB (Zan4 x3 a0 ([43] : List UInt8) h4.1 Zaj cl) (fun x5 h6 => ?_)
   have eh6_1 := h6.2
   exact tR ⟨h6.1, cl⟩
theorem Za09 (a0 : Int) : Tot (Zatx a0) (fun r => True) := by
 unfold Zatx
 refine tZ ?_
 dsimp only [Zatv, LT.den]
 refine tD (fun h1 => ?_) (fun h1 => ?_)
 ·exact tR trivial
 ·exact tR trivial
theorem Zpp (a0 : Int) : Tot (Zafl a0) (fun r => (SzN r)) := by
 unfold Zafl
 refine tZ ?_
 dsimp only [Zait, LT.den]
 refine tE (fun h1 => ?_) (fun h1 => ?_)
 ·exact tR Zaj
 ·refine tE (fun h2 => ?_) (fun h2 => ?_)
  ·exact tR Zaj
  ·refine tE (fun h3 => ?_) (fun h3 => ?_)
   ·exact tR Zaj
   ·refine tE (fun h4 => ?_) (fun h4 => ?_)
    ·exact tR Zaj
    ·refine tE (fun h5 => ?_) (fun h5 => ?_)
     ·exact tR Zaj
     ·exact tR (SzN.nil)
def Zav2 : Zoh → Prop
 | .L0 v0 v3 v4 => (0 ≤ v4) ∧ (v3.length ≤ 200 * v4.toNat) ∧ (v4 ≤ 5)
def Zaew : Zoh → M6
 | .L0 v0 v3 v4 => (1, (5 - v4).toNat, 1000000, 0, 0, 0)
theorem Zaa0 (a0 : Int) : Tot (Zafm a0) (fun r => (SzT r)) := by
 unfold Zafm
 refine tX (Inv := Zav2) (μ := Zaew) (m := (1000000, 0, 0, 0, 0, 0)) ?_ ?_
 ·dsimp only [Zaiv, LT.den]
  refine tB (Za09 a0) (fun x1 h2 => ?_)
  refine tO (fun h3 => ?_) (fun h3 => ?_)
  ·exact tR (SzT.nil)
  ·refine tE (fun h4 => ?_) (fun h4 => ?_)
   ·exact tR Znf
   ·exact tL ⟨cl, cl, cl⟩ tk90
 ·intro s hs
  cases s with
  | L0 v0 v3 v4 =>
   obtain ⟨cv4, i0, i1⟩ := hs
   show Tot (Z0e v0 v3 v4).den _
   dsimp only [Z0e, LT.den]
   refine tD (fun h1 => ?_) (fun h1 => ?_)
   ·refine tB (tK tk52) (fun x2 h3 => ?_)
    refine tB (tK tk52) (fun x4 h5 => ?_)
    refine tE (fun h6 => ?_) (fun h6 => ?_)
    ·refine tO (fun h7 => ?_) (fun h7 => ?_)
     ·refine tB (tK Zcu) (fun x8 h9 => ?_)
      refine tB (Zpp v4) (fun x10 h11 => ?_)
      have q12 : x10.length ≤ 100 := h11
      refine tB (tK Zcu) (fun x13 h14 => ?_)
      refine qw (v4 + 1) fun q15 q16 => ?_
      exact tL ⟨cl, cl, cl⟩ tk90
     ·refine tB (Zpp v4) (fun x17 h18 => ?_)
      have q19 : x17.length ≤ 100 := h18
      refine tB (tK Zcu) (fun x20 h21 => ?_)
      refine qw (v4 + 1) fun q22 q23 => ?_
      exact tL ⟨cl, cl, cl⟩ tk90
    ·refine qw (v4 + 1) fun q24 q25 => ?_
     exact tL ⟨cl, cl, cl⟩ tk90
   ·exact tR Znf
theorem Zaqt : Tot (Zyy) (fun r => ((SzL 16 SzN) r) ∧ (r.length = 17)) := by
 unfold Zyy
 refine tZ ?_
 dsimp only [Zacs, LT.den]
 have q1 : (SzL 16 SzN) ([([102, 108, 121, 105, 110, 103] : List UInt8), ([114, 101, 97, 99, 104] : List UInt8), ([104, 97, 115, 116, 101] : List UInt8), ([118, 105, 103, 105, 108, 97, 110, 116] : List UInt8), ([116, 114, 97, 109, 112, 108, 101] : List UInt8), ([102, 105, 114, 115, 116, 45, 115, 116, 114, 105, 107, 101] : List UInt8), ([100, 111, 117, 98, 108, 101, 45, 115, 116, 114, 105, 107, 101] : List UInt8), ([100, 101, 97, 100, 108, 121] : List UInt8), ([108, 105, 102, 101, 108, 105, 110, 107] : List UInt8), ([109, 101, 110, 97, 99, 101] : List UInt8), ([100, 101, 102, 101, 110, 100, 101, 114] : List UInt8), ([119, 97, 114, 100, 101, 100] : List UInt8), ([115, 116, 117, 114, 100, 121] : List UInt8), ([101, 108, 117, 115, 105, 118, 101] : List UInt8), ([110, 111, 45, 97, 116, 116, 97, 99, 107] : List UInt8), ([110, 111, 45, 98, 108, 111, 99, 107] : List UInt8), ([109, 117, 115, 116, 45, 97, 116, 116, 97, 99, 107] : List UInt8)] : (List (List UInt8))) := ⟨by simp only [List.length_cons, List.length_nil]; omega, (mem_cons' Zaj (mem_cons' Zaj (mem_cons' Zaj (mem_cons' Zaj (mem_cons' Zaj (mem_cons' Zaj (mem_cons' Zaj (mem_cons' Zaj (mem_cons' Zaj (mem_cons' Zaj (mem_cons' Zaj (mem_cons' Zaj (mem_cons' Zaj (mem_cons' Zaj (mem_cons' Zaj (mem_cons' Zaj (mem_cons' Zaj (fun _ h => by cases h))))))))))))))))))⟩
 have lq1 : ([([102, 108, 121, 105, 110, 103] : List UInt8), ([114, 101, 97, 99, 104] : List UInt8), ([104, 97, 115, 116, 101] : List UInt8), ([118, 105, 103, 105, 108, 97, 110, 116] : List UInt8), ([116, 114, 97, 109, 112, 108, 101] : List UInt8), ([102, 105, 114, 115, 116, 45, 115, 116, 114, 105, 107, 101] : List UInt8), ([100, 111, 117, 98, 108, 101, 45, 115, 116, 114, 105, 107, 101] : List UInt8), ([100, 101, 97, 100, 108, 121] : List UInt8), ([108, 105, 102, 101, 108, 105, 110, 107] : List UInt8), ([109, 101, 110, 97, 99, 101] : List UInt8), ([100, 101, 102, 101, 110, 100, 101, 114] : List UInt8), ([119, 97, 114, 100, 101, 100] : List UInt8), ([115, 116, 117, 114, 100, 121] : List UInt8), ([101, 108, 117, 115, 105, 118, 101] : List UInt8), ([110, 111, 45, 97, 116, 116, 97, 99, 107] : List UInt8), ([110, 111, 45, 98, 108, 111, 99, 107] : List UInt8), ([109, 117, 115, 116, 45, 97, 116, 116, 97, 99, 107] : List UInt8)] : (List (List UInt8))).length = 17 := rfl
 exact tR ⟨q1, cl⟩
theorem Zxw (a0 : Int) : Tot (Zafn a0) (fun r => (SzN r)) := by
 unfold Zafn
 refine tZ ?_
 dsimp only [Zaix, LT.den]
 refine tD (fun h1 => ?_) (fun h1 => ?_)
 ·exact tR (SzN.nil)
 ·refine tD (fun h2 => ?_) (fun h2 => ?_)
  ·exact tR (SzN.nil)
  ·refine tB (Zaqt) (fun x3 h4 => ?_)
   have eh4_1 := h4.2
   refine tB (tI (by omega) (by omega)) (fun x5 h6 => ?_)
   have oh6 : SzN x5 := h4.1.2 x5 h6.1
   exact tR oh6
def Zav3 : Zoi → Prop
 | .L0 v0 v3 v4 => (0 ≤ v4) ∧ (v3.length ≤ 200 * v4.toNat) ∧ (v4 ≤ 17)
def Zaex : Zoi → M6
 | .L0 v0 v3 v4 => (1, (17 - v4).toNat, 1000000, 0, 0, 0)
theorem Zaa1 (a0 : Int) : Tot (Zafo a0) (fun r => (SzT r)) := by
 unfold Zafo
 refine tX (Inv := Zav3) (μ := Zaex) (m := (1000000, 0, 0, 0, 0, 0)) ?_ ?_
 ·dsimp only [Zaiz, LT.den]
  refine tB (Zalh a0) (fun x1 h2 => ?_)
  refine tO (fun h3 => ?_) (fun h3 => ?_)
  ·exact tR (SzT.nil)
  ·exact tL ⟨cl, cl, cl⟩ tk91
 ·intro s hs
  cases s with
  | L0 v0 v3 v4 =>
   obtain ⟨cv4, i0, i1⟩ := hs
   show Tot (Z0g v0 v3 v4).den _
   dsimp only [Z0g, LT.den]
   refine tD (fun h1 => ?_) (fun h1 => ?_)
   ·refine tE (fun h2 => ?_) (fun h2 => ?_)
    ·refine tO (fun h3 => ?_) (fun h3 => ?_)
     ·refine tB (tK Zcu) (fun x4 h5 => ?_)
      refine tB (Zxw v4) (fun x6 h7 => ?_)
      have q8 : x6.length ≤ 100 := h7
      refine tB (tK Zcu) (fun x9 h10 => ?_)
      refine qw (v4 + 1) fun q11 q12 => ?_
      exact tL ⟨cl, cl, cl⟩ tk91
     ·refine tB (Zxw v4) (fun x13 h14 => ?_)
      have q15 : x13.length ≤ 100 := h14
      refine tB (tK Zcu) (fun x16 h17 => ?_)
      refine qw (v4 + 1) fun q18 q19 => ?_
      exact tL ⟨cl, cl, cl⟩ tk91
    ·refine qw (v4 + 1) fun q20 q21 => ?_
     exact tL ⟨cl, cl, cl⟩ tk91
   ·refine tF (fun h22 => ?_) (fun h22 => ?_)
    ·exact tR Znf
    ·exact tR Znf
theorem Zaca : Tot (Zmo) (fun r => ((SzL 16 SzN) r) ∧ (r.length = 6)) := by
 unfold Zmo
 refine tZ ?_
 dsimp only [Zyz, LT.den]
 have q1 : (SzL 16 SzN) ([([] : List UInt8), ([105, 110, 45, 104, 97, 110, 100] : List UInt8), ([105, 110, 45, 108, 105, 98, 114, 97, 114, 121] : List UInt8), ([105, 110, 45, 103, 114, 97, 118, 101, 121, 97, 114, 100] : List UInt8), ([105, 110, 45, 101, 120, 105, 108, 101] : List UInt8), ([111, 110, 45, 115, 116, 97, 99, 107] : List UInt8)] : (List (List UInt8))) := ⟨by simp only [List.length_cons, List.length_nil]; omega, (mem_cons' (SzN.nil) (mem_cons' Zaj (mem_cons' Zaj (mem_cons' Zaj (mem_cons' Zaj (mem_cons' Zaj (fun _ h => by cases h)))))))⟩
 have lq1 : ([([] : List UInt8), ([105, 110, 45, 104, 97, 110, 100] : List UInt8), ([105, 110, 45, 108, 105, 98, 114, 97, 114, 121] : List UInt8), ([105, 110, 45, 103, 114, 97, 118, 101, 121, 97, 114, 100] : List UInt8), ([105, 110, 45, 101, 120, 105, 108, 101] : List UInt8), ([111, 110, 45, 115, 116, 97, 99, 107] : List UInt8)] : (List (List UInt8))).length = 6 := rfl
 exact tR ⟨q1, cl⟩
theorem Zagy : Tot (Zoj) (fun r => ((SzL 16 SzN) r) ∧ (r.length = 3)) := by
 unfold Zoj
 refine tZ ?_
 dsimp only [Z17, LT.den]
 have q1 : (SzL 16 SzN) ([([] : List UInt8), ([121, 111, 117, 114, 115] : List UInt8), ([116, 104, 101, 105, 114, 115] : List UInt8)] : (List (List UInt8))) := ⟨by simp only [List.length_cons, List.length_nil]; omega, (mem_cons' (SzN.nil) (mem_cons' Zaj (mem_cons' Zaj (fun _ h => by cases h))))⟩
 have lq1 : ([([] : List UInt8), ([121, 111, 117, 114, 115] : List UInt8), ([116, 104, 101, 105, 114, 115] : List UInt8)] : (List (List UInt8))).length = 3 := rfl
 exact tR ⟨q1, cl⟩
theorem Zacb : Tot (Zmp) (fun r => ((SzL 16 SzN) r) ∧ (r.length = 3)) := by
 unfold Zmp
 refine tZ ?_
 dsimp only [Zy1, LT.den]
 have q1 : (SzL 16 SzN) ([([] : List UInt8), ([115, 101, 108, 102] : List UInt8), ([111, 116, 104, 101, 114] : List UInt8)] : (List (List UInt8))) := ⟨by simp only [List.length_cons, List.length_nil]; omega, (mem_cons' (SzN.nil) (mem_cons' Zaj (mem_cons' Zaj (fun _ h => by cases h))))⟩
 have lq1 : ([([] : List UInt8), ([115, 101, 108, 102] : List UInt8), ([111, 116, 104, 101, 114] : List UInt8)] : (List (List UInt8))).length = 3 := rfl
 exact tR ⟨q1, cl⟩
theorem Zagz : Tot (Zok) (fun r => ((SzL 16 SzN) r) ∧ (r.length = 3)) := by
 unfold Zok
 refine tZ ?_
 dsimp only [Z19, LT.den]
 have q1 : (SzL 16 SzN) ([([] : List UInt8), ([116, 97, 112, 112, 101, 100] : List UInt8), ([117, 110, 116, 97, 112, 112, 101, 100] : List UInt8)] : (List (List UInt8))) := ⟨by simp only [List.length_cons, List.length_nil]; omega, (mem_cons' (SzN.nil) (mem_cons' Zaj (mem_cons' Zaj (fun _ h => by cases h))))⟩
 have lq1 : ([([] : List UInt8), ([116, 97, 112, 112, 101, 100] : List UInt8), ([117, 110, 116, 97, 112, 112, 101, 100] : List UInt8)] : (List (List UInt8))).length = 3 := rfl
 exact tR ⟨q1, cl⟩
def Zax7 : Zsg → Prop
 | .L0 v0 v1 v5 => (0 ≤ v5) ∧ (v1 ≤ 100)
def Z5j : Zsg → M6
 | .L0 v0 v1 v5 => (1, (v1 - v5).toNat, 1000000, 0, 0, 0)
theorem Zmm (a0 : Int) (a1 : Int) (h0 : a1 ≤ 100) : Tot (Zam0 a0 a1) (fun r => True) := by
 unfold Zam0
 refine tX (Inv := Zax7) (μ := Z5j) (m := (1000000, 0, 0, 0, 0, 0)) ?_ ?_
 ·dsimp only [Zapa, LT.den]
  exact tL ⟨cl, cl⟩ (by unfold Z5j lt6; dsimp only; omega)
 ·intro s hs
  cases s with
  | L0 v0 v1 v5 =>
   obtain ⟨cv5, i0⟩ := hs
   show Tot (Z4g v0 v1 v5).den _
   dsimp only [Z4g, LT.den]
   refine tD (fun h1 => ?_) (fun h1 => ?_)
   ·refine qw (v5 + 1) fun q2 q3 => ?_
    exact tL ⟨cl, cl⟩ (by unfold Z5j lt6; dsimp only; omega)
   ·exact tR trivial
def Zag0 : Zh2 → Prop
 | .L0 v0 v3 v4 => (0 ≤ v4) ∧ (v0 ≤ 100)
def Zpq : Zh2 → M6
 | .L0 v0 v3 v4 => (1, (v0 - v4).toNat, 1000000, 0, 0, 0)
theorem Zxx (a0 : Int) (h0 : a0 ≤ 100) : Tot (Zv4 a0) (fun r => (SzT r) ∧ (r.length ≤ 20000)) := by
 unfold Zv4
 refine tX (Inv := Zag0) (μ := Zpq) (m := (1000000, 0, 0, 0, 0, 0)) ?_ ?_
 ·dsimp only [Z2b, LT.den]
  exact tL ⟨cl, cl⟩ (by unfold Zpq lt6; dsimp only; omega)
 ·intro s hs
  cases s with
  | L0 v0 v3 v4 =>
   obtain ⟨cv4, i0⟩ := hs
   show Tot (Zom v0 v3 v4).den _
   dsimp only [Zom, LT.den]
   refine tD (fun h1 => ?_) (fun h1 => ?_)
   ·refine qw (v3 * 2) fun q2 q3 => ?_
    refine qw (v4 + 1) fun q4 q5 => ?_
    exact tL ⟨cl, cl⟩ (by unfold Zpq lt6; dsimp only; omega)
   ·refine tB (Zll v3) (fun x6 h7 => ?_)
    have eh7_1 := h7.2
    exact tR ⟨h7.1, cl⟩
theorem Zaqu : Tot (Zy4) (fun r => ((SzL 16 SzN) r) ∧ (r.length = 4)) := by
 unfold Zy4
 refine tZ ?_
 dsimp only [Zacv, LT.den]
 have q1 : (SzL 16 SzN) ([([] : List UInt8), ([62, 61] : List UInt8), ([60, 61] : List UInt8), ([61] : List UInt8)] : (List (List UInt8))) := ⟨by simp only [List.length_cons, List.length_nil]; omega, (mem_cons' (SzN.nil) (mem_cons' Zaj (mem_cons' Zaj (mem_cons' Zaj (fun _ h => by cases h)))))⟩
 have lq1 : ([([] : List UInt8), ([62, 61] : List UInt8), ([60, 61] : List UInt8), ([61] : List UInt8)] : (List (List UInt8))).length = 4 := rfl
 exact tR ⟨q1, cl⟩
theorem Za6a {n : Int} (h0 : 0 ≤ n) (h1 : n < 18446744073709551616) : Zka .u64 n 10 = n / 10 := by
 unfold Zka
 rw [Int.tdiv_eq_ediv_of_nonneg h0]
 have h2 : 0 ≤ n / 10 := by omega
 have h3 : n / 10 < 18446744073709551616 := by omega
 simp only [IntKind.wrap, IntKind.bits, IntKind.signed, Bool.false_and, Bool.false_eq_true, if_false]
 exact Int.emod_eq_of_lt h2 h3
theorem Zzs : ∀ (k : Nat) (n : Int) (s : List UInt8), k ≤ 20 → 0 ≤ n → n < 10 ^ k → n < 18446744073709551616 → s.length + k ≤ 40 → Tot (Zb5 Zon.step (.L0 n s)) fun r => SzN r ∧ r.length ≤ 40
 | 0, n, s, _, h0, h1, _, hs => by
  have : n = 0 := by omega
  subst this
  refine Tot.stop (r := s) ?_ ⟨show s.length ≤ 100 by omega, by omega⟩
  show (Zfs _ _).den = _
  dsimp only [Zfs, LT.den]
  rfl
 | k + 1, n, s, hk, h0, h1, h2, hs => by
  by_cases hn : n > 0
  ·obtain ⟨d, hd, hl⟩ := Tot.str (xs := [IntKind.wrap .u8 (IntKind.wrap .u64 (48 + (Int.tmod n 10)))]) (by simp) tk36
   simp only [List.length_cons, List.length_nil] at hl
   have e : Zon.step (.L0 n s) = some (.inl (.L0 (n / 10) (d ++ s))) := by
    show (Zfs _ _).den = _
    dsimp only [Zfs, LT.den]
    rw [decide_eq_true hn, cond_true, hd, Option.bind_some, decide_eq_true (show d.length + s.length ≤ 9223372036854775807 by omega), Za6a h0 h2]
    rfl
   obtain ⟨r, hr, hp⟩ := Zzs k (n / 10) (d ++ s) (by omega) (by omega) (by
    rw [Int.pow_succ] at h1
    have : n / 10 < 10 ^ k := Int.ediv_lt_of_lt_mul (by decide) h1
    exact this) (by omega) (by rw [List.length_append]; omega)
   exact ⟨r, by rw [Ze3 e]; exact hr, hp⟩
  ·refine Tot.stop (r := s) ?_ ⟨show s.length ≤ 100 by omega, by omega⟩
   show (Zfs _ _).den = _
   dsimp only [Zfs, LT.den]
   rw [decide_eq_false hn]; rfl
theorem Z3e (a0 : Int) (h0 : 0 ≤ a0) (h1 : a0 < 18446744073709551616) : Tot (Z4h a0) (fun r => (SzN r) ∧ (r.length ≤ 40)) := by
 unfold Z4h LF.run; dsimp only [Z8e, LT.den]
 obtain ⟨d, hd, hl⟩ := Tot.str (xs := [IntKind.wrap .u8 (IntKind.wrap .u64 (48 + (Int.tmod a0 10)))]) (by simp) tk36
 simp only [List.length_cons, List.length_nil] at hl
 rw [hd, Option.bind_some, Option.bind_some, Zho, Za6a h0 h1]
 exact Zzs 20 (a0 / 10) d (by omega) (by omega) (by omega) (by omega) (by omega)
theorem Zif (a0 : Int) : Tot (Zaft a0) (fun r => (SzN r)) := by
 unfold Zaft
 refine tZ ?_
 dsimp only [Zai3, LT.den]
 refine tD (fun h1 => ?_) (fun h1 => ?_)
 ·have q2 : 0 ≤ IntKind.wrap .u64 a0 ∧ IntKind.wrap .u64 a0 < 18446744073709551616 := Zamv _
  have q3 : 0 ≤ IntKind.wrap .u64 (0 - (IntKind.wrap .u64 a0)) ∧ IntKind.wrap .u64 (0 - (IntKind.wrap .u64 a0)) < 18446744073709551616 := Zamv _
  refine tB (Z3e (IntKind.wrap .u64 (0 - (IntKind.wrap .u64 a0))) cl cl) (fun x4 h5 => ?_)
  have eh5_1 := h5.2
  have q6 : x4.length ≤ 100 := h5.1
  refine tB (tK Zcu) (fun x7 h8 => ?_)
  exact tR Zaj
 ·have q9 : 0 ≤ IntKind.wrap .u64 a0 ∧ IntKind.wrap .u64 a0 < 18446744073709551616 := Zamv _
  refine tB (Z3e (IntKind.wrap .u64 a0) cl cl) (fun x10 h11 => ?_)
  have eh11_1 := h11.2
  exact tR h11.1
theorem Zlm (a0 : (List UInt8)) (a1 : Zd) (oa0 : SzN a0) (h0 : 0 ≤ a1.Kind) (h1 : a1.Kind ≤ 3) : Tot (Zth a0 a1) (fun r => (SzT r)) := by
 unfold Zth
 refine tZ ?_
 have lb_a0 : a0.length ≤ 100 := oa0
 dsimp only [Zy5, LT.den]
 refine tE (fun h1 => ?_) (fun h1 => ?_)
 ·exact tR (SzT.nil)
 ·refine tB (Zaqu) (fun x2 h3 => ?_)
  have eh3_1 := h3.2
  refine tB (tI (by omega) (by omega)) (fun x4 h5 => ?_)
  have oh5 : SzN x4 := h3.1.2 x4 h5.1
  have q6 : a0.length ≤ 100 := oa0
  have q7 : x4.length ≤ 100 := oh5
  refine tB (tK Zcu) (fun x8 h9 => ?_)
  refine tB (Zif a1.N) (fun x10 h11 => ?_)
  have q12 : x10.length ≤ 100 := h11
  refine tB (tK Zcu) (fun x13 h14 => ?_)
  exact tR Znf
def Zav4 : Zoo → Prop
 | .L0 v0 v1 v5 v6 => ((SzL 16 SzT) v0) ∧ (SzN v1) ∧ (0 ≤ v6) ∧ (v5.length ≤ 1125899906842624 * v6.toNat) ∧ (v0.length ≤ 100) ∧ (v6 ≤ v0.length)
def Zaey : Zoo → M6
 | .L0 v0 v1 v5 v6 => (1, ((v0.length : Int) - v6).toNat, 1000000, 0, 0, 0)
theorem Zav5 (a0 : (List (List UInt8))) (a1 : (List UInt8)) (oa0 : (SzL 16 SzT) a0) (oa1 : SzN a1) (h0 : a0.length ≤ 100) : Tot (Zafu a0 a1) (fun r => (r.length ≤ 144115188075855872)) := by
 unfold Zafu
 refine tX (Inv := Zav4) (μ := Zaey) (m := (1000000, 0, 0, 0, 0, 0)) ?_ ?_
 ·have lb_a0 := oa0.1
  have lb_a1 : a1.length ≤ 100 := oa1
  dsimp only [Zai5, LT.den]
  exact tL ⟨oa0, oa1, cl, cl, cl, cl⟩ tk92
 ·intro s hs
  cases s with
  | L0 v0 v1 v5 v6 =>
   obtain ⟨ov0, ov1, cv6, i0, i1, i2⟩ := hs
   have lb_v0 := ov0.1
   have lb_v1 : v1.length ≤ 100 := ov1
   show Tot (Z0h v0 v1 v5 v6).den _
   dsimp only [Z0h, LT.den]
   have q1 := ov0.1
   refine tD (fun h2 => ?_) (fun h2 => ?_)
   ·refine tD (fun h3 => ?_) (fun h3 => ?_)
    ·have q4 : v1.length ≤ 100 := ov1
     refine tB (tK Zcu) (fun x5 h6 => ?_)
     refine tB (tI (by omega) (by omega)) (fun x7 h8 => ?_)
     have oh8 : SzT x7 := ov0.2 x7 h8.1
     have q9 : x7.length ≤ 562949953421312 := oh8
     refine tB (tK Zcu) (fun x10 h11 => ?_)
     refine qw (v6 + 1) fun q12 q13 => ?_
     exact tL ⟨ov0, ov1, cl, cl, cl, cl⟩ tk92
    ·refine tB (tI (by omega) (by omega)) (fun x14 h15 => ?_)
     have oh15 : SzT x14 := ov0.2 x14 h15.1
     have q16 : x14.length ≤ 562949953421312 := oh15
     refine tB (tK Zcu) (fun x17 h18 => ?_)
     refine qw (v6 + 1) fun q19 q20 => ?_
     exact tL ⟨ov0, ov1, cl, cl, cl, cl⟩ tk92
   ·exact tR cl
theorem Zeg (b0 : (List (List UInt8))) (a1 : (List UInt8)) (ob0 : (SzL 16 SzT) b0) (oa1 : SzT a1) (h0 : b0.length ≤ 1000) : Tot (Zv6 b0 a1) (fun r => ((SzL 16 SzT) r) ∧ (r.length ≤ b0.length + 1)) := by
 unfold Zv6
 refine tZ ?_
 have lb_b0 := ob0.1
 have lb_a1 : a1.length ≤ 562949953421312 := oa1
 dsimp only [Z2d, LT.den]
 refine tF (fun h1 => ?_) (fun h1 => ?_)
 ·exact tR ⟨ob0, cl⟩
 ·have q2 : (SzL 16 SzT) ([a1] : (List (List UInt8))) := ⟨by simp only [List.length_cons, List.length_nil]; omega, (mem_cons' oa1 (fun _ h => by cases h))⟩
  have q5 := ob0.1
  refine tB (tA Zc5 (by decide)) (fun x3 h4 => ?_)
  have lh4 : x3.length = b0.length + 1 := by rw [h4, List.length_append]; rfl
  exact tR ⟨(SzL.app (k := 16) h4 lo ob0.2 q2.2), cl⟩
def Zxy : Zfb → Prop
 | .L0 E0 v6 v7 v8 => (Zak E0) ∧ ((SzL 16 SzN) v6) ∧ ((SzL 16 SzT) v7) ∧ (0 ≤ v8) ∧ (v7.length ≤ 3 + v8.toNat) ∧ (v8 ≤ 6) ∧ (v6.length = 3) ∧ (0 ≤ E0.Tap ∧ E0.Tap ≤ 2 ∧ 0 ≤ E0.Power.Kind ∧ E0.Power.Kind ≤ 3 ∧ 0 ≤ E0.Tough.Kind ∧ E0.Tough.Kind ≤ 3 ∧ 0 ≤ E0.Value.Kind ∧ E0.Value.Kind ≤ 3)
 | .L1 E0 v6 v7 v9 => (Zak E0) ∧ ((SzL 16 SzN) v6) ∧ ((SzL 16 SzT) v7) ∧ (0 ≤ v9) ∧ (v7.length ≤ 9 + v9.toNat) ∧ (v9 ≤ 6) ∧ (v6.length = 3) ∧ (0 ≤ E0.Tap ∧ E0.Tap ≤ 2 ∧ 0 ≤ E0.Power.Kind ∧ E0.Power.Kind ≤ 3 ∧ 0 ≤ E0.Tough.Kind ∧ E0.Tough.Kind ≤ 3 ∧ 0 ≤ E0.Value.Kind ∧ E0.Value.Kind ≤ 3)
 | .L2 E0 v6 v7 v10 => (Zak E0) ∧ ((SzL 16 SzN) v6) ∧ ((SzL 16 SzT) v7) ∧ (0 ≤ v10) ∧ (v7.length ≤ 15 + v10.toNat) ∧ (v10 ≤ 5) ∧ (v6.length = 3) ∧ (0 ≤ E0.Tap ∧ E0.Tap ≤ 2 ∧ 0 ≤ E0.Power.Kind ∧ E0.Power.Kind ≤ 3 ∧ 0 ≤ E0.Tough.Kind ∧ E0.Tough.Kind ≤ 3 ∧ 0 ≤ E0.Value.Kind ∧ E0.Value.Kind ≤ 3)
 | .L3 E0 v6 v7 v11 => (Zak E0) ∧ ((SzL 16 SzN) v6) ∧ ((SzL 16 SzT) v7) ∧ (0 ≤ v11) ∧ (v7.length ≤ 20 + v11.toNat) ∧ (v11 ≤ 5) ∧ (v6.length = 3) ∧ (0 ≤ E0.Tap ∧ E0.Tap ≤ 2 ∧ 0 ≤ E0.Power.Kind ∧ E0.Power.Kind ≤ 3 ∧ 0 ≤ E0.Tough.Kind ∧ E0.Tough.Kind ≤ 3 ∧ 0 ≤ E0.Value.Kind ∧ E0.Value.Kind ≤ 3)
 | .L4 E0 v6 v7 => (Zak E0) ∧ ((SzL 16 SzN) v6) ∧ ((SzL 16 SzT) v7) ∧ (v7.length ≤ 26) ∧ (v6.length = 3) ∧ (0 ≤ E0.Tap ∧ E0.Tap ≤ 2 ∧ 0 ≤ E0.Power.Kind ∧ E0.Power.Kind ≤ 3 ∧ 0 ≤ E0.Tough.Kind ∧ E0.Tough.Kind ≤ 3 ∧ 0 ≤ E0.Value.Kind ∧ E0.Value.Kind ≤ 3)
 | .L5 E0 v6 v7 v12 => (Zak E0) ∧ ((SzL 16 SzN) v6) ∧ ((SzL 16 SzT) v7) ∧ (0 ≤ v12) ∧ (v7.length ≤ 26 + v12.toNat) ∧ (v12 ≤ 17) ∧ (v6.length = 3) ∧ (0 ≤ E0.Tap ∧ E0.Tap ≤ 2 ∧ 0 ≤ E0.Power.Kind ∧ E0.Power.Kind ≤ 3 ∧ 0 ≤ E0.Tough.Kind ∧ E0.Tough.Kind ≤ 3 ∧ 0 ≤ E0.Value.Kind ∧ E0.Value.Kind ≤ 3)
def Zgc : Zfb → M6
 | .L0 E0 v6 v7 v8 => (9, (6 - v8).toNat, 1000000, 0, 0, 0)
 | .L1 E0 v6 v7 v9 => (7, (6 - v9).toNat, 1000000, 0, 0, 0)
 | .L2 E0 v6 v7 v10 => (5, (5 - v10).toNat, 1000000, 0, 0, 0)
 | .L3 E0 v6 v7 v11 => (3, (5 - v11).toNat, 1000000, 0, 0, 0)
 | .L4 E0 v6 v7 => (2, 0, 0, 0, 0, 0)
 | .L5 E0 v6 v7 v12 => (1, (17 - v12).toNat, 1000000, 0, 0, 0)
theorem Zpr (E0 : Ze) (v6 : (List (List UInt8))) (v7 : (List (List UInt8))) (h : Zxy (.L4 E0 v6 v7)) : Tot (Zly E0 v6 v7).den (Nx Zxy Zgc (2, 0, 0, 0, 0, 0) (fun r => (r.length ≤ 144115188075855872))) := by
 obtain ⟨O0, ov6, ov7, i0, i1, i2⟩ := h
 have lb_v6 := ov6.1
 have lb_v7 := ov7.1
 dsimp only [Zly, LT.den]
 exact tL ⟨O0, ov6, ov7, cl, cl, cl, cl, cl⟩ Zng
theorem Zav6 (a0 : Ze) (oa0 : Zak a0) : Tot (Zafv a0) (fun r => (r.length ≤ 144115188075855872)) := by
 unfold Zafv
 refine tX (Inv := Zxy) (μ := Zgc) (m := (1000000, 0, 0, 0, 0, 0)) ?_ ?_
 ·dsimp only [Zai7, LT.den]
  refine tB (Zeb a0 oa0) (fun x1 h2 => ?_)
  have eh2_0 := h2.1
  have eh2_1 := h2.2
  refine tO (fun h3 => ?_) (fun h3 => ?_)
  ·exact tR cl
  ·have h3_0 := eh2_0 h3
   refine tB (Zaca) (fun x4 h5 => ?_)
   have eh5_1 := h5.2
   refine tB (Zagy) (fun x6 h7 => ?_)
   have eh7_1 := h7.2
   refine tB (Zacb) (fun x8 h9 => ?_)
   have eh9_1 := h9.2
   refine tB (Zagz) (fun x10 h11 => ?_)
   have eh11_1 := h11.2
   refine tB (tI (by omega) (by omega)) (fun x12 h13 => ?_)
   have oh13 : SzN x12 := h5.1.2 x12 h13.1
   refine tB (Zeg ([] : (List (List UInt8))) x12 SzL.nil (SzN.t oh13) cl) (fun x14 h15 => ?_)
   have eh15_1 := h15.2
   try simp only [List.length_nil, List.length_cons, Nat.zero_add] at eh15_1
   refine tB (tI (by omega) (by omega)) (fun x16 h17 => ?_)
   have oh17 : SzN x16 := h7.1.2 x16 h17.1
   refine tB (Zeg x14 x16 h15.1 (SzN.t oh17) cl) (fun x18 h19 => ?_)
   have eh19_1 := h19.2
   refine tB (tI (by omega) (by omega)) (fun x20 h21 => ?_)
   have oh21 : SzN x20 := h9.1.2 x20 h21.1
   refine tB (Zeg x18 x20 h19.1 (SzN.t oh21) cl) (fun x22 h23 => ?_)
   have eh23_1 := h23.2
   exact tL ⟨oa0, h11.1, h23.1, cl, cl, cl, cl, cl⟩ Zng
 ·intro s hs
  cases s with
  | L0 E0 v6 v7 v8 =>
   obtain ⟨O0, ov6, ov7, cv8, i0, i1, i2, i3⟩ := hs
   have lb_v6 := ov6.1
   have lb_v7 := ov7.1
   show Tot (Z0i E0 v6 v7 v8).den _
   dsimp only [Z0i, LT.den, Zgc]
   refine tD (fun h1 => ?_) (fun h1 => ?_)
   ·refine tB (Zmm E0.Types v8 cl) (fun x2 h3 => ?_)
    refine tF (fun h4 => ?_) (fun h4 => ?_)
    ·refine tB (Zxx v8 cl) (fun x5 h6 => ?_)
     have eh6_1 := h6.2
     have q7 : (SzL 16 SzT) ([x5] : (List (List UInt8))) := ⟨by simp only [List.length_cons, List.length_nil]; omega, (mem_cons' h6.1 (fun _ h => by cases h))⟩
     have q10 := ov7.1
     refine tB (tA Zc5 (by decide)) (fun x8 h9 => ?_)
     have lh9 : x8.length = v7.length + 1 := by rw [h9, List.length_append]; rfl
     refine qw (v8 + 1) fun q11 q12 => ?_
     exact tL ⟨O0, ov6, (SzL.app (k := 16) h9 lo ov7.2 q7.2), cl, cl, cl, cl, cl⟩ Zng
    ·refine qw (v8 + 1) fun q13 q14 => ?_
     exact tL ⟨O0, ov6, ov7, cl, cl, cl, cl, cl⟩ Zng
   ·exact tL ⟨O0, ov6, ov7, cl, cl, cl, cl, cl⟩ Zng
  | L1 E0 v6 v7 v9 =>
   obtain ⟨O0, ov6, ov7, cv9, i0, i1, i2, i3⟩ := hs
   have lb_v6 := ov6.1
   have lb_v7 := ov7.1
   show Tot (Z0j E0 v6 v7 v9).den _
   dsimp only [Z0j, LT.den, Zgc]
   refine tD (fun h1 => ?_) (fun h1 => ?_)
   ·refine tB (Zmm E0.NotTypes v9 cl) (fun x2 h3 => ?_)
    refine tF (fun h4 => ?_) (fun h4 => ?_)
    ·refine tB (Zxx v9 cl) (fun x5 h6 => ?_)
     have eh6_1 := h6.2
     have q7 : x5.length ≤ 562949953421312 := h6.1
     refine tB (tK Zcu) (fun x8 h9 => ?_)
     have q10 : (SzL 16 SzT) ([(([110, 111, 110, 45] : List UInt8) ++ x5)] : (List (List UInt8))) := ⟨by simp only [List.length_cons, List.length_nil]; omega, (mem_cons' Znf (fun _ h => by cases h))⟩
     have q13 := ov7.1
     refine tB (tA Zc5 (by decide)) (fun x11 h12 => ?_)
     have lh12 : x11.length = v7.length + 1 := by rw [h12, List.length_append]; rfl
     refine qw (v9 + 1) fun q14 q15 => ?_
     exact tL ⟨O0, ov6, (SzL.app (k := 16) h12 lo ov7.2 q10.2), cl, cl, cl, cl, cl⟩ Zng
    ·refine qw (v9 + 1) fun q16 q17 => ?_
     exact tL ⟨O0, ov6, ov7, cl, cl, cl, cl, cl⟩ Zng
   ·exact tL ⟨O0, ov6, ov7, cl, cl, cl, cl, cl⟩ Zng
  | L2 E0 v6 v7 v10 =>
   obtain ⟨O0, ov6, ov7, cv10, i0, i1, i2, i3⟩ := hs
   have lb_v6 := ov6.1
   have lb_v7 := ov7.1
   show Tot (Z0k E0 v6 v7 v10).den _
   dsimp only [Z0k, LT.den, Zgc]
   refine tD (fun h1 => ?_) (fun h1 => ?_)
   ·refine tB (Zmm E0.Colors v10 cl) (fun x2 h3 => ?_)
    refine tF (fun h4 => ?_) (fun h4 => ?_)
    ·refine tB (Zpp v10) (fun x5 h6 => ?_)
     have q7 : (SzL 16 SzN) ([x5] : (List (List UInt8))) := ⟨by simp only [List.length_cons, List.length_nil]; omega, (mem_cons' h6 (fun _ h => by cases h))⟩
     have q10 := ov7.1
     refine tB (tA Zc5 (by decide)) (fun x8 h9 => ?_)
     have lh9 : x8.length = v7.length + 1 := by rw [h9, List.length_append]; rfl
     refine qw (v10 + 1) fun q11 q12 => ?_
     exact tL ⟨O0, ov6, (SzL.app (k := 16) h9 lo ov7.2 (SzL.nt q7).2), cl, cl, cl, cl, cl⟩ Zng
    ·refine qw (v10 + 1) fun q13 q14 => ?_
     exact tL ⟨O0, ov6, ov7, cl, cl, cl, cl, cl⟩ Zng
   ·exact tL ⟨O0, ov6, ov7, cl, cl, cl, cl, cl⟩ Zng
  | L3 E0 v6 v7 v11 =>
   obtain ⟨O0, ov6, ov7, cv11, i0, i1, i2, i3⟩ := hs
   have lb_v6 := ov6.1
   have lb_v7 := ov7.1
   show Tot (Z0l E0 v6 v7 v11).den _
   dsimp only [Z0l, LT.den, Zgc]
   refine tD (fun h1 => ?_) (fun h1 => ?_)
   ·refine tB (Zmm E0.NotColors v11 cl) (fun x2 h3 => ?_)
    refine tF (fun h4 => ?_) (fun h4 => ?_)
    ·refine tB (Zpp v11) (fun x5 h6 => ?_)
     have q7 : x5.length ≤ 100 := h6
     refine tB (tK Zcu) (fun x8 h9 => ?_)
     have q10 : (SzL 16 SzT) ([(([110, 111, 110, 45] : List UInt8) ++ x5)] : (List (List UInt8))) := ⟨by simp only [List.length_cons, List.length_nil]; omega, (mem_cons' Znf (fun _ h => by cases h))⟩
     have q13 := ov7.1
     refine tB (tA Zc5 (by decide)) (fun x11 h12 => ?_)
     have lh12 : x11.length = v7.length + 1 := by rw [h12, List.length_append]; rfl
     refine qw (v11 + 1) fun q14 q15 => ?_
     exact tL ⟨O0, ov6, (SzL.app (k := 16) h12 lo ov7.2 q10.2), cl, cl, cl, cl, cl⟩ Zng
    ·refine qw (v11 + 1) fun q16 q17 => ?_
     exact tL ⟨O0, ov6, ov7, cl, cl, cl, cl, cl⟩ Zng
   ·refine tO (fun h18 => ?_) (fun h18 => ?_)
    ·have q19 : E0.Sub.length ≤ 281474976710656 := O0
     refine tB (tK Zcu) (fun x20 h21 => ?_)
     have q22 : (SzL 16 SzT) ([(([115, 117, 98, 58] : List UInt8) ++ E0.Sub)] : (List (List UInt8))) := ⟨by simp only [List.length_cons, List.length_nil]; omega, (mem_cons' Znf (fun _ h => by cases h))⟩
     have q25 := ov7.1
     refine tB (tA Zc5 (by decide)) (fun x23 h24 => ?_)
     have lh24 : x23.length = v7.length + 1 := by rw [h24, List.length_append]; rfl
     exact tJ (Zpr E0 v6 x23 ⟨O0, ov6, (SzL.app (k := 16) h24 lo ov7.2 q22.2), cl, cl, cl⟩)
    ·exact tJ (Zpr E0 v6 v7 ⟨O0, ov6, ov7, cl, cl, cl⟩)
  | L4 E0 v6 v7 => exact Zpr E0 v6 v7 hs
  | L5 E0 v6 v7 v12 =>
   obtain ⟨O0, ov6, ov7, cv12, i0, i1, i2, i3⟩ := hs
   have lb_v6 := ov6.1
   have lb_v7 := ov7.1
   show Tot (Z0m E0 v6 v7 v12).den _
   dsimp only [Z0m, LT.den, Zgc]
   refine tD (fun h1 => ?_) (fun h1 => ?_)
   ·refine tB (Zmm E0.Keys v12 cl) (fun x2 h3 => ?_)
    refine tF (fun h4 => ?_) (fun h4 => ?_)
    ·refine tB (Zxw v12) (fun x5 h6 => ?_)
     have q7 : x5.length ≤ 100 := h6
     refine tB (tK Zcu) (fun x8 h9 => ?_)
     have q10 : (SzL 16 SzT) ([(([119, 105, 116, 104, 58] : List UInt8) ++ x5)] : (List (List UInt8))) := ⟨by simp only [List.length_cons, List.length_nil]; omega, (mem_cons' Znf (fun _ h => by cases h))⟩
     have q13 := ov7.1
     refine tB (tA Zc5 (by decide)) (fun x11 h12 => ?_)
     have lh12 : x11.length = v7.length + 1 := by rw [h12, List.length_append]; rfl
     refine qw (v12 + 1) fun q14 q15 => ?_
     exact tL ⟨O0, ov6, (SzL.app (k := 16) h12 lo ov7.2 q10.2), cl, cl, cl, cl, cl⟩ Zng
    ·refine qw (v12 + 1) fun q16 q17 => ?_
     exact tL ⟨O0, ov6, ov7, cl, cl, cl, cl, cl⟩ Zng
   ·refine tB (tI (by omega) (by omega)) (fun x18 h19 => ?_)
    have oh19 : SzN x18 := ov6.2 x18 h19.1
    refine tB (Zeg v7 x18 ov7 (SzN.t oh19) cl) (fun x20 h21 => ?_)
    have eh21_1 := h21.2
    refine tB (Zlm ([112, 111, 119, 101, 114] : List UInt8) E0.Power Zaj cl cl) (fun x22 h23 => ?_)
    refine tB (Zeg x20 x22 h21.1 h23 cl) (fun x24 h25 => ?_)
    have eh25_1 := h25.2
    refine tB (Zlm ([116, 111, 117, 103, 104] : List UInt8) E0.Tough Zaj cl cl) (fun x26 h27 => ?_)
    refine tB (Zeg x24 x26 h25.1 h27 cl) (fun x28 h29 => ?_)
    have eh29_1 := h29.2
    refine tB (Zlm ([118, 97, 108, 117, 101] : List UInt8) E0.Value Zaj cl cl) (fun x30 h31 => ?_)
    refine tB (Zeg x28 x30 h29.1 h31 cl) (fun x32 h33 => ?_)
    have eh33_1 := h33.2
    have q34 := h33.1.1
    refine tE (fun h35 => ?_) (fun h35 => ?_)
    ·exact tR cl
    ·refine tB (Zav5 x32 ([32] : List UInt8) h33.1 Zaj cl) (fun x36 h37 => ?_)
     have eh37_0 := h37
     exact tR cl
theorem Zaa2 (a0 : Zr) (oa0 : Zar a0) : Tot (Zafw a0) (fun r => (r.length ≤ 288230376151711744)) := by
 unfold Zafw
 refine tZ ?_
 dsimp only [Zai9, LT.den]
 refine tB (Z5i a0 oa0) (fun x1 h2 => ?_)
 refine tO (fun h3 => ?_) (fun h3 => ?_)
 ·exact tR cl
 ·refine tE (fun h4 => ?_) (fun h4 => ?_)
  ·exact tR cl
  ·refine tE (fun h5 => ?_) (fun h5 => ?_)
   ·refine tB (Zll a0.N) (fun x6 h7 => ?_)
    have eh7_1 := h7.2
    have q8 : x6.length ≤ 562949953421312 := h7.1
    refine tB (tK Zcu) (fun x9 h10 => ?_)
    exact tR cl
   ·refine tE (fun h11 => ?_) (fun h11 => ?_)
    ·refine tB (Zll a0.N) (fun x12 h13 => ?_)
     have eh13_1 := h13.2
     have q14 : x12.length ≤ 562949953421312 := h13.1
     refine tB (tK Zcu) (fun x15 h16 => ?_)
     exact tR cl
    ·refine tE (fun h17 => ?_) (fun h17 => ?_)
     ·have q18 : a0.Sub.length ≤ 281474976710656 := oa0.1
      refine tB (tK Zcu) (fun x19 h20 => ?_)
      exact tR cl
     ·refine tE (fun h21 => ?_) (fun h21 => ?_)
      ·have q22 : a0.Sub.length ≤ 281474976710656 := oa0.1
       refine tB (tK Zcu) (fun x23 h24 => ?_)
       exact tR cl
      ·refine tE (fun h25 => ?_) (fun h25 => ?_)
       ·refine tB (Zaa0 a0.N) (fun x26 h27 => ?_)
        have q28 : x26.length ≤ 562949953421312 := h27
        refine tB (tK Zcu) (fun x29 h30 => ?_)
        exact tR cl
       ·refine tE (fun h31 => ?_) (fun h31 => ?_)
        ·refine tB (Zaa0 a0.N) (fun x32 h33 => ?_)
         have q34 : x32.length ≤ 562949953421312 := h33
         refine tB (tK Zcu) (fun x35 h36 => ?_)
         exact tR cl
        ·refine tE (fun h37 => ?_) (fun h37 => ?_)
         ·refine tB (Zaa1 a0.N) (fun x38 h39 => ?_)
          have q40 : x38.length ≤ 562949953421312 := h39
          refine tB (tK Zcu) (fun x41 h42 => ?_)
          exact tR cl
         ·refine tE (fun h43 => ?_) (fun h43 => ?_)
          ·refine tB (Zaa1 a0.N) (fun x44 h45 => ?_)
           have q46 : x44.length ≤ 562949953421312 := h45
           refine tB (tK Zcu) (fun x47 h48 => ?_)
           exact tR cl
          ·refine tE (fun h49 => ?_) (fun h49 => ?_)
           ·exact tR cl
           ·refine tE (fun h50 => ?_) (fun h50 => ?_)
            ·refine tB (Zav6 a0.Filter oa0.2) (fun x51 h52 => ?_)
             have eh52_0 := h52
             refine tB (tK Zcu) (fun x53 h54 => ?_)
             refine tB (tK Zcu) (fun x55 h56 => ?_)
             exact tR cl
            ·refine tE (fun h57 => ?_) (fun h57 => ?_)
             ·refine tB (Zif a0.N) (fun x58 h59 => ?_)
              have q60 : x58.length ≤ 100 := h59
              refine tB (tK Zcu) (fun x61 h62 => ?_)
              refine tB (tK Zcu) (fun x63 h64 => ?_)
              refine tB (Zif a0.M) (fun x65 h66 => ?_)
              have q67 : x65.length ≤ 100 := h66
              refine tB (tK Zcu) (fun x68 h69 => ?_)
              exact tR cl
             ·refine tE (fun h70 => ?_) (fun h70 => ?_)
              ·refine tB (Zif a0.N) (fun x71 h72 => ?_)
               have q73 : x71.length ≤ 100 := h72
               refine tB (tK Zcu) (fun x74 h75 => ?_)
               refine tB (tK Zcu) (fun x76 h77 => ?_)
               refine tB (Zif a0.M) (fun x78 h79 => ?_)
               have q80 : x78.length ≤ 100 := h79
               refine tB (tK Zcu) (fun x81 h82 => ?_)
               exact tR cl
              ·exact tR cl
def Zag1 : Zh3 → Prop
 | .L0 v0 v3 v4 => ((SzL 176 Zar) v0) ∧ (0 ≤ v4) ∧ (v3.length ≤ 576460752303423488 * v4.toNat) ∧ (v0.length ≤ 6) ∧ (v4 ≤ v0.length)
def Zzt : Zh3 → M6
 | .L0 v0 v3 v4 => (1, ((v0.length : Int) - v4).toNat, 1000000, 0, 0, 0)
theorem Znh (a0 : (List Zr)) (oa0 : (SzL 176 Zar) a0) : Tot (Zv7 a0) (fun r => (r.length ≤ 4611686018427387904)) := by
 unfold Zv7
 refine tX (Inv := Zag1) (μ := Zzt) (m := (1000000, 0, 0, 0, 0, 0)) ?_ ?_
 ·have lb_a0 := oa0.1
  dsimp only [Z2f, LT.den]
  have q1 := oa0.1
  refine tE (fun h2 => ?_) (fun h2 => ?_)
  ·exact tR cl
  ·refine tD (fun h3 => ?_) (fun h3 => ?_)
   ·exact tR cl
   ·exact tL ⟨oa0, cl, cl, cl, cl⟩ tk60
 ·intro s hs
  cases s with
  | L0 v0 v3 v4 =>
   obtain ⟨ov0, cv4, i0, i1, i2⟩ := hs
   have lb_v0 := ov0.1
   show Tot (Zop v0 v3 v4).den _
   dsimp only [Zop, LT.den]
   have q1 := ov0.1
   refine tD (fun h2 => ?_) (fun h2 => ?_)
   ·refine tB (tI (by omega) (by omega)) (fun x3 h4 => ?_)
    have oh4 : Zar x3 := ov0.2 x3 h4.1
    refine tB (Z5i x3 oh4) (fun x5 h6 => ?_)
    refine tO (fun h7 => ?_) (fun h7 => ?_)
    ·exact tR cl
    ·refine tD (fun h8 => ?_) (fun h8 => ?_)
     ·refine tB (tK Zcu) (fun x9 h10 => ?_)
      refine tB (Zaa2 x3 oh4) (fun x11 h12 => ?_)
      have eh12_0 := h12
      refine tB (tK Zcu) (fun x13 h14 => ?_)
      refine qw (v4 + 1) fun q15 q16 => ?_
      exact tL ⟨ov0, cl, cl, cl, cl⟩ tk60
     ·refine tB (Zaa2 x3 oh4) (fun x17 h18 => ?_)
      have eh18_0 := h18
      refine tB (tK Zcu) (fun x19 h20 => ?_)
      refine qw (v4 + 1) fun q21 q22 => ?_
      exact tL ⟨ov0, cl, cl, cl, cl⟩ tk60
   ·exact tR cl
theorem Zaqv (a0 : Zfj) : Tot (Z8f a0) (fun r => True) := by
 unfold Z8f
 refine tZ ?_
 dsimp only [Zacy, LT.den]
 refine tB (Zpn a0.Mana) (fun x1 h2 => ?_)
 have eh2_0 := h2.1
 have eh2_1 := h2.2
 refine tF (fun h3 => ?_) (fun h3 => ?_)
 ·have h3_0 := eh2_0 h3
  have h3_1 := eh2_1 h3
  refine tE (fun h4 => ?_) (fun h4 => ?_)
  ·refine tD (fun h5 => ?_) (fun h5 => ?_)
   ·exact tR trivial
   ·exact tR trivial
  ·exact tR trivial
 ·exact tR trivial
theorem Zaa3 (a0 : Int) : Tot (Zafx a0) (fun r => (SzN r)) := by
 unfold Zafx
 refine tZ ?_
 dsimp only [Zajb, LT.den]
 refine tE (fun h1 => ?_) (fun h1 => ?_)
 ·exact tR Zaj
 ·refine tE (fun h2 => ?_) (fun h2 => ?_)
  ·exact tR Zaj
  ·refine tE (fun h3 => ?_) (fun h3 => ?_)
   ·exact tR Zaj
   ·refine tE (fun h4 => ?_) (fun h4 => ?_)
    ·exact tR Zaj
    ·refine tE (fun h5 => ?_) (fun h5 => ?_)
     ·exact tR Zaj
     ·refine tE (fun h6 => ?_) (fun h6 => ?_)
      ·exact tR Zaj
      ·refine tE (fun h7 => ?_) (fun h7 => ?_)
       ·exact tR Zaj
       ·refine tE (fun h8 => ?_) (fun h8 => ?_)
        ·exact tR Zaj
        ·refine tE (fun h9 => ?_) (fun h9 => ?_)
         ·exact tR Zaj
         ·refine tE (fun h10 => ?_) (fun h10 => ?_)
          ·exact tR Zaj
          ·refine tE (fun h11 => ?_) (fun h11 => ?_)
           ·exact tR Zaj
           ·refine tE (fun h12 => ?_) (fun h12 => ?_)
            ·exact tR Zaj
            ·refine tE (fun h13 => ?_) (fun h13 => ?_)
             ·exact tR Zaj
             ·refine tE (fun h14 => ?_) (fun h14 => ?_)
              ·exact tR Zaj
              ·exact tR (SzN.nil)
theorem Z3f (a0 : Int) : Tot (Z4i a0) (fun r => True) := by
 unfold Z4i
 refine tZ ?_
 dsimp only [Z8g, LT.den]
 refine tE (fun h1 => ?_) (fun h1 => ?_)
 ·exact tR trivial
 ·refine tE (fun h2 => ?_) (fun h2 => ?_)
  ·exact tR trivial
  ·refine tE (fun h3 => ?_) (fun h3 => ?_)
   ·exact tR trivial
   ·refine tE (fun h4 => ?_) (fun h4 => ?_)
    ·exact tR trivial
    ·refine tE (fun h5 => ?_) (fun h5 => ?_)
     ·exact tR trivial
     ·exact tR trivial
theorem Zacc (a0 : Int) : Tot (Zti a0) (fun r => True) := by
 unfold Zti
 refine tZ ?_
 dsimp only [Zy7, LT.den]
 refine tB (Zaa3 a0) (fun x1 h2 => ?_)
 refine tO (fun h3 => ?_) (fun h3 => ?_)
 ·refine tB (Z3f a0) (fun x4 h5 => ?_)
  refine tO (fun h6 => ?_) (fun h6 => ?_)
  ·exact tR trivial
  ·exact tR trivial
 ·exact tR trivial
def Z5k : Zv8 → Prop
 | .L0 E0 => (Zk6 E0) ∧ True
def Zap4 : Zv8 → M6
 | .L0 E0 => (0, 0, 0, 0, 0, 0)
theorem Zub (E0 : Zb6) (h : Z5k (.L0 E0)) : Tot (Zsh E0).den (Nx Z5k Zap4 (0, 0, 0, 0, 0, 0) (fun r => True)) := by
 obtain ⟨O0, _⟩ := h
 dsimp only [Zsh, LT.den]
 refine tB (Zacc E0.When) (fun x1 h2 => ?_)
 refine tO (fun h3 => ?_) (fun h3 => ?_)
 ·exact tR trivial
 ·refine tE (fun h4 => ?_) (fun h4 => ?_)
  ·refine tB (Zeb E0.Filter O0) (fun x5 h6 => ?_)
   have eh6_0 := h6.1
   have eh6_1 := h6.2
   refine tF (fun h7 => ?_) (fun h7 => ?_)
   ·have h7_0 := eh6_0 h7
    exact tR trivial
   ·exact tR trivial
  ·refine tB (Zeb E0.Filter O0) (fun x8 h9 => ?_)
   have eh9_0 := h9.1
   have eh9_1 := h9.2
   refine tF (fun h10 => ?_) (fun h10 => ?_)
   ·have h10_0 := eh9_0 h10
    exact tR trivial
   ·exact tR trivial
theorem Za1a (a0 : Zb6) (oa0 : Zk6 a0) : Tot (Zat3 a0) (fun r => True) := by
 unfold Zat3
 refine tX (Inv := Z5k) (μ := Zap4) (m := (1000000, 0, 0, 0, 0, 0)) ?_ ?_
 ·dsimp only [Zat1, LT.den]
  refine tB (Zaa3 a0.When) (fun x1 h2 => ?_)
  refine tF (fun h3 => ?_) (fun h3 => ?_)
  ·exact tR trivial
  ·refine tD (fun h4 => ?_) (fun h4 => ?_)
   ·exact tR trivial
   ·refine tD (fun h5 => ?_) (fun h5 => ?_)
    ·exact tR trivial
    ·refine tB (Z3f a0.When) (fun x6 h7 => ?_)
     refine tO (fun h8 => ?_) (fun h8 => ?_)
     ·refine tN (fun h9 => ?_) (fun h9 => ?_)
      ·exact tR trivial
      ·exact tJ (Zub a0 ⟨oa0, trivial⟩)
     ·exact tJ (Zub a0 ⟨oa0, trivial⟩)
 ·intro s hs
  cases s with
  | L0 E0 => exact Zub E0 hs
theorem Zuc (a0 : Ze) (oa0 : Zak a0) : Tot (Z8i a0) (fun r => True) := by
 unfold Z8i
 refine tZ ?_
 dsimp only [Zac1, LT.den]
 refine tB (Zeb a0 oa0) (fun x1 h2 => ?_)
 have eh2_0 := h2.1
 have eh2_1 := h2.2
 refine tF (fun h3 => ?_) (fun h3 => ?_)
 ·have h3_0 := eh2_0 h3
  exact tR trivial
 ·exact tR trivial
theorem Zaqw (a0 : Zay) (oa0 : Zdr a0) : Tot (Z8j a0) (fun r => True) := by
 unfold Z8j
 refine tZ ?_
 dsimp only [Zac3, LT.den]
 refine tN (fun h1 => ?_) (fun h1 => ?_)
 ·exact tR trivial
 ·refine tB (Zuc a0.Filter oa0) (fun x2 h3 => ?_)
  refine tO (fun h4 => ?_) (fun h4 => ?_)
  ·exact tR trivial
  ·refine tE (fun h5 => ?_) (fun h5 => ?_)
   ·refine tE (fun h6 => ?_) (fun h6 => ?_)
    ·refine tE (fun h7 => ?_) (fun h7 => ?_)
     ·refine tE (fun h8 => ?_) (fun h8 => ?_)
      ·exact tR trivial
      ·refine tE (fun h9 => ?_) (fun h9 => ?_)
       ·exact tR trivial
       ·exact tR trivial
     ·exact tR trivial
    ·exact tR trivial
   ·refine tE (fun h10 => ?_) (fun h10 => ?_)
    ·refine tE (fun h11 => ?_) (fun h11 => ?_)
     ·refine tE (fun h12 => ?_) (fun h12 => ?_)
      ·exact tR trivial
      ·exact tR trivial
     ·exact tR trivial
    ·refine tE (fun h13 => ?_) (fun h13 => ?_)
     ·refine tE (fun h14 => ?_) (fun h14 => ?_)
      ·refine tD (fun h15 => ?_) (fun h15 => ?_)
       ·refine tD (fun h16 => ?_) (fun h16 => ?_)
        ·refine tD (fun h17 => ?_) (fun h17 => ?_)
         ·exact tR trivial
         ·exact tR trivial
        ·exact tR trivial
       ·exact tR trivial
      ·exact tR trivial
     ·exact tR trivial
theorem Zaqx (a0 : Zay) (oa0 : Zdr a0) : Tot (Z8k a0) (fun r => True) := by
 unfold Z8k
 refine tZ ?_
 dsimp only [Zac5, LT.den]
 refine tN (fun h1 => ?_) (fun h1 => ?_)
 ·exact tR trivial
 ·refine tN (fun h2 => ?_) (fun h2 => ?_)
  ·exact tR trivial
  ·refine tE (fun h3 => ?_) (fun h3 => ?_)
   ·refine tD (fun h4 => ?_) (fun h4 => ?_)
    ·exact tR trivial
    ·exact tR trivial
   ·refine tE (fun h5 => ?_) (fun h5 => ?_)
    ·refine tD (fun h6 => ?_) (fun h6 => ?_)
     ·exact tR trivial
     ·exact tR trivial
    ·exact tR trivial
def Zk7 : Zna → Prop
 | .L0 E0 v3 v4 => (Zdr E0) ∧ True
 | .L1 E0 v3 => (Zdr E0) ∧ True
 | .L2 E0 v3 v4 v109 => (Zdr E0) ∧ True
def Zzu : Zna → M6
 | .L0 E0 v3 v4 => (0, 0, 0, 0, 0, 0)
 | .L1 E0 v3 => (0, 0, 0, 0, 0, 0)
 | .L2 E0 v3 v4 v109 => (0, 0, 0, 0, 0, 0)
theorem Zmv (E0 : Zay) (v3 : Bool) (v4 : Bool) (v109 : Bool) (h : (Zdr E0) ∧ True) : Tot (Znp E0 v3 v4 v109).den (Nx Zk7 Zzu (0, 0, 0, 0, 0, 0) (fun r => True)) := by
 obtain ⟨O0, _⟩ := h
 dsimp only [Znp, LT.den]
 refine tF (fun h1 => ?_) (fun h1 => ?_)
 ·refine tF (fun h2 => ?_) (fun h2 => ?_)
  ·refine tD (fun h3 => ?_) (fun h3 => ?_)
   ·refine tD (fun h4 => ?_) (fun h4 => ?_)
    ·exact tR trivial
    ·exact tR trivial
   ·exact tR trivial
  ·exact tR trivial
 ·exact tR trivial
theorem Zjk (E0 : Zay) (v3 : Bool) (h : Zk7 (.L1 E0 v3)) : Tot (Zkf E0 v3).den (Nx Zk7 Zzu (0, 0, 0, 0, 0, 0) (fun r => True)) := by
 obtain ⟨O0, _⟩ := h
 dsimp only [Zkf, LT.den]
 refine tE (fun h1 => ?_) (fun h1 => ?_)
 ·refine tB (Zuc E0.Filter O0) (fun x2 h3 => ?_)
  refine tF (fun h4 => ?_) (fun h4 => ?_)
  ·exact tR trivial
  ·refine tE (fun h5 => ?_) (fun h5 => ?_)
   ·exact tR trivial
   ·refine tE (fun h6 => ?_) (fun h6 => ?_)
    ·exact tR trivial
    ·exact tR trivial
 ·refine tE (fun h7 => ?_) (fun h7 => ?_)
  ·exact tR trivial
  ·refine tE (fun h8 => ?_) (fun h8 => ?_)
   ·exact tR trivial
   ·exact tR trivial
theorem Zmw (E0 : Zay) (v3 : Bool) (v4 : Bool) (h : Zk7 (.L0 E0 v3 v4)) : Tot (Znq E0 v3 v4).den (Nx Zk7 Zzu (0, 0, 0, 0, 0, 0) (fun r => True)) := by
 obtain ⟨O0, _⟩ := h
 dsimp only [Znq, LT.den]
 refine tE (fun h1 => ?_) (fun h1 => ?_)
 ·refine tN (fun h2 => ?_) (fun h2 => ?_)
  ·refine tN (fun h3 => ?_) (fun h3 => ?_)
   ·refine tN (fun h4 => ?_) (fun h4 => ?_)
    ·refine tN (fun h5 => ?_) (fun h5 => ?_)
     ·exact tR trivial
     ·exact tJ (Zjk E0 v3 ⟨O0, trivial⟩)
    ·exact tJ (Zjk E0 v3 ⟨O0, trivial⟩)
   ·exact tJ (Zjk E0 v3 ⟨O0, trivial⟩)
  ·exact tJ (Zjk E0 v3 ⟨O0, trivial⟩)
 ·refine tE (fun h6 => ?_) (fun h6 => ?_)
  ·refine tF (fun h7 => ?_) (fun h7 => ?_)
   ·refine tE (fun h8 => ?_) (fun h8 => ?_)
    ·refine tB (Zuc E0.Filter O0) (fun x9 h10 => ?_)
     exact tR trivial
    ·exact tR trivial
   ·exact tR trivial
  ·refine tE (fun h11 => ?_) (fun h11 => ?_)
   ·refine tE (fun h12 => ?_) (fun h12 => ?_)
    ·refine tD (fun h13 => ?_) (fun h13 => ?_)
     ·refine tD (fun h14 => ?_) (fun h14 => ?_)
      ·exact tR trivial
      ·exact tR trivial
     ·exact tR trivial
    ·refine tE (fun h15 => ?_) (fun h15 => ?_)
     ·refine tD (fun h16 => ?_) (fun h16 => ?_)
      ·refine tD (fun h17 => ?_) (fun h17 => ?_)
       ·exact tR trivial
       ·exact tR trivial
      ·exact tR trivial
     ·exact tR trivial
   ·refine tE (fun h18 => ?_) (fun h18 => ?_)
    ·exact tJ (Zmv E0 v3 v4 (E0.On == 4) ⟨O0, trivial⟩)
    ·refine tE (fun h19 => ?_) (fun h19 => ?_)
     ·exact tJ (Zmv E0 v3 v4 (E0.On == 5) ⟨O0, trivial⟩)
     ·exact tJ (Zmv E0 v3 v4 (E0.On == 10) ⟨O0, trivial⟩)
theorem Za1b (a0 : Zay) (oa0 : Zdr a0) : Tot (Zat8 a0) (fun r => True) := by
 unfold Zat8
 refine tX (Inv := Zk7) (μ := Zzu) (m := (1000000, 0, 0, 0, 0, 0)) ?_ ?_
 ·dsimp only [Zat6, LT.den]
  refine tE (fun h1 => ?_) (fun h1 => ?_)
  ·refine tB (Zaqw a0 oa0) (fun x2 h3 => ?_)
   exact tR trivial
  ·refine tB (Zaqx a0 oa0) (fun x4 h5 => ?_)
   refine tO (fun h6 => ?_) (fun h6 => ?_)
   ·exact tR trivial
   ·refine tE (fun h7 => ?_) (fun h7 => ?_)
    ·exact tJ (Zmw a0 (Zas (Zm a0.Filter) (Zm (⟨0, 0, 0, 0, 0, 0, 0, ([] : List UInt8), 0, 0, (⟨0, 0⟩ : Zd), (⟨0, 0⟩ : Zd), (⟨0, 0⟩ : Zd)⟩ : Ze))) true ⟨oa0, trivial⟩)
    ·refine tE (fun h8 => ?_) (fun h8 => ?_)
     ·exact tJ (Zmw a0 (Zas (Zm a0.Filter) (Zm (⟨0, 0, 0, 0, 0, 0, 0, ([] : List UInt8), 0, 0, (⟨0, 0⟩ : Zd), (⟨0, 0⟩ : Zd), (⟨0, 0⟩ : Zd)⟩ : Ze))) true ⟨oa0, trivial⟩)
     ·exact tJ (Zmw a0 (Zas (Zm a0.Filter) (Zm (⟨0, 0, 0, 0, 0, 0, 0, ([] : List UInt8), 0, 0, (⟨0, 0⟩ : Zd), (⟨0, 0⟩ : Zd), (⟨0, 0⟩ : Zd)⟩ : Ze))) (a0.Do == 8) ⟨oa0, trivial⟩)
 ·intro s hs
  cases s with
  | L0 E0 v3 v4 => exact Zmw E0 v3 v4 hs
  | L1 E0 v3 => exact Zjk E0 v3 hs
  | L2 E0 v3 v4 v109 => exact Zmv E0 v3 v4 v109 hs
theorem Zav7 (a0 : Zcs) (oa0 : Zgb a0) : Tot (Zafz a0) (fun r => True) := by
 unfold Zafz
 refine tZ ?_
 dsimp only [Zajd, LT.den]
 refine tO (fun h1 => ?_) (fun h1 => ?_)
 ·refine tF (fun h2 => ?_) (fun h2 => ?_)
  ·exact tR trivial
  ·exact tR trivial
 ·refine tB (Zeb a0.Filter oa0) (fun x3 h4 => ?_)
  have eh4_0 := h4.1
  have eh4_1 := h4.2
  refine tF (fun h5 => ?_) (fun h5 => ?_)
  ·have h5_0 := eh4_0 h5
   refine tE (fun h6 => ?_) (fun h6 => ?_)
   ·exact tR trivial
   ·refine tE (fun h7 => ?_) (fun h7 => ?_)
    ·exact tR trivial
    ·exact tR trivial
  ·exact tR trivial
def Zaqy : Zlz → Prop
 | .L0 v0 v3 => ((SzL 144 Zgb) v0) ∧ (0 ≤ v3)
def Zxz : Zlz → M6
 | .L0 v0 v3 => (1, ((v0.length : Int) - v3).toNat, 1000000, 0, 0, 0)
theorem Zaqz (a0 : (List Zcs)) (oa0 : (SzL 144 Zgb) a0) : Tot (Z8l a0) (fun r => True) := by
 unfold Z8l
 refine tX (Inv := Zaqy) (μ := Zxz) (m := (1000000, 0, 0, 0, 0, 0)) ?_ ?_
 ·have lb_a0 := oa0.1
  dsimp only [Zac7, LT.den]
  exact tL ⟨oa0, cl⟩ (by unfold Zxz lt6; dsimp only; omega)
 ·intro s hs
  cases s with
  | L0 v0 v3 =>
   obtain ⟨ov0, cv3⟩ := hs
   have lb_v0 := ov0.1
   show Tot (Zwa v0 v3).den _
   dsimp only [Zwa, LT.den]
   have q1 := ov0.1
   refine tD (fun h2 => ?_) (fun h2 => ?_)
   ·refine tB (tI (by omega) (by omega)) (fun x3 h4 => ?_)
    have oh4 : Zgb x3 := ov0.2 x3 h4.1
    refine tB (Zav7 x3 oh4) (fun x5 h6 => ?_)
    refine tO (fun h7 => ?_) (fun h7 => ?_)
    ·exact tR trivial
    ·refine qw (v3 + 1) fun q8 q9 => ?_
     exact tL ⟨ov0, cl⟩ (by unfold Zxz lt6; dsimp only; omega)
   ·exact tR trivial
theorem Zav8 (a0 : Int) : Tot (Zaf0 a0) (fun r => (SzN r)) := by
 unfold Zaf0
 refine tZ ?_
 dsimp only [Zajf, LT.den]
 refine tD (fun h1 => ?_) (fun h1 => ?_)
 ·exact tR (SzN.nil)
 ·refine tD (fun h2 => ?_) (fun h2 => ?_)
  ·exact tR (SzN.nil)
  ·have q3 : (SzL 16 SzN) ([([100, 97, 109, 97, 103, 101] : List UInt8), ([100, 101, 115, 116, 114, 111, 121] : List UInt8), ([109, 111, 118, 101] : List UInt8), ([100, 114, 97, 119] : List UInt8), ([100, 105, 115, 99, 97, 114, 100] : List UInt8), ([103, 97, 105, 110] : List UInt8), ([108, 111, 115, 101] : List UInt8), ([116, 97, 112] : List UInt8), ([117, 110, 116, 97, 112] : List UInt8), ([112, 117, 116] : List UInt8), ([116, 97, 107, 101] : List UInt8), ([99, 114, 101, 97, 116, 101] : List UInt8), ([109, 111, 100] : List UInt8), ([109, 97, 110, 97] : List UInt8), ([99, 111, 117, 110, 116, 101, 114] : List UInt8), ([99, 111, 112, 121] : List UInt8), ([98, 101, 99, 111, 109, 101] : List UInt8), ([115, 97, 99, 114, 105, 102, 105, 99, 101] : List UInt8), ([109, 105, 108, 108] : List UInt8), ([115, 99, 114, 121] : List UInt8), ([115, 101, 97, 114, 99, 104] : List UInt8), ([115, 104, 105, 101, 108, 100] : List UInt8), ([116, 117, 114, 110] : List UInt8), ([119, 105, 110] : List UInt8), ([100, 101, 102, 101, 97, 116] : List UInt8), ([118, 101, 110, 111, 109] : List UInt8)] : (List (List UInt8))) := ⟨by simp only [List.length_cons, List.length_nil]; omega, (mem_cons' Zaj (mem_cons' Zaj (mem_cons' Zaj (mem_cons' Zaj (mem_cons' Zaj (mem_cons' Zaj (mem_cons' Zaj (mem_cons' Zaj (mem_cons' Zaj (mem_cons' Zaj (mem_cons' Zaj (mem_cons' Zaj (mem_cons' Zaj (mem_cons' Zaj (mem_cons' Zaj (mem_cons' Zaj (mem_cons' Zaj (mem_cons' Zaj (mem_cons' Zaj (mem_cons' Zaj (mem_cons' Zaj (mem_cons' Zaj (mem_cons' Zaj (mem_cons' Zaj (mem_cons' Zaj (mem_cons' Zaj (fun _ h => by cases h)))))))))))))))))))))))))))⟩
   have lq3 : ([([100, 97, 109, 97, 103, 101] : List UInt8), ([100, 101, 115, 116, 114, 111, 121] : List UInt8), ([109, 111, 118, 101] : List UInt8), ([100, 114, 97, 119] : List UInt8), ([100, 105, 115, 99, 97, 114, 100] : List UInt8), ([103, 97, 105, 110] : List UInt8), ([108, 111, 115, 101] : List UInt8), ([116, 97, 112] : List UInt8), ([117, 110, 116, 97, 112] : List UInt8), ([112, 117, 116] : List UInt8), ([116, 97, 107, 101] : List UInt8), ([99, 114, 101, 97, 116, 101] : List UInt8), ([109, 111, 100] : List UInt8), ([109, 97, 110, 97] : List UInt8), ([99, 111, 117, 110, 116, 101, 114] : List UInt8), ([99, 111, 112, 121] : List UInt8), ([98, 101, 99, 111, 109, 101] : List UInt8), ([115, 97, 99, 114, 105, 102, 105, 99, 101] : List UInt8), ([109, 105, 108, 108] : List UInt8), ([115, 99, 114, 121] : List UInt8), ([115, 101, 97, 114, 99, 104] : List UInt8), ([115, 104, 105, 101, 108, 100] : List UInt8), ([116, 117, 114, 110] : List UInt8), ([119, 105, 110] : List UInt8), ([100, 101, 102, 101, 97, 116] : List UInt8), ([118, 101, 110, 111, 109] : List UInt8)] : (List (List UInt8))).length = 26 := rfl
   refine qw (a0 - 1) fun q4 q5 => ?_
   refine tB (tI (by omega) (by omega)) (fun x6 h7 => ?_)
   have oh7 : SzN x6 := q3.2 x6 h7.1
   exact tR oh7
def Zx0 : Zk3 → Prop
 | .L0 v3 v4 => True
 | .L1 v3 v14 => True
def Z1r : Zk3 → M6
 | .L0 v3 v4 => (0, 0, 0, 0, 0, 0)
 | .L1 v3 v14 => (0, 0, 0, 0, 0, 0)
theorem Zps (v3 : Int) (v14 : Bool) (h : True) : Tot (Zl0 v3 v14).den (Nx Zx0 Z1r (0, 0, 0, 0, 0, 0) (fun r => (SzN r))) := by
 dsimp only [Zl0, LT.den]
 refine tF (fun h1 => ?_) (fun h1 => ?_)
 ·exact tR Zaj
 ·refine tE (fun h2 => ?_) (fun h2 => ?_)
  ·exact tR Zaj
  ·refine tE (fun h3 => ?_) (fun h3 => ?_)
   ·exact tR Zaj
   ·refine tE (fun h4 => ?_) (fun h4 => ?_)
    ·exact tR Zaj
    ·refine tE (fun h5 => ?_) (fun h5 => ?_)
     ·exact tR Zaj
     ·refine tE (fun h6 => ?_) (fun h6 => ?_)
      ·exact tR Zaj
      ·refine tE (fun h7 => ?_) (fun h7 => ?_)
       ·exact tR Zaj
       ·refine tE (fun h8 => ?_) (fun h8 => ?_)
        ·exact tR (SzN.nil)
        ·refine tE (fun h9 => ?_) (fun h9 => ?_)
         ·exact tR (SzN.nil)
         ·exact tR Zaj
theorem Zdz (v3 : Int) (v4 : Bool) (h : True) : Tot (Zen v3 v4).den (Nx Zx0 Z1r (0, 0, 0, 0, 0, 0) (fun r => (SzN r))) := by
 dsimp only [Zen, LT.den]
 refine tF (fun h1 => ?_) (fun h1 => ?_)
 ·exact tR Zaj
 ·refine tE (fun h2 => ?_) (fun h2 => ?_)
  ·exact tR Zaj
  ·refine tE (fun h3 => ?_) (fun h3 => ?_)
   ·exact tJ (Zps v3 (v3 == 10) trivial)
   ·exact tJ (Zps v3 (v3 == 11) trivial)
theorem Zav9 (a0 : Int) : Tot (Zaf1 a0) (fun r => (SzN r)) := by
 unfold Zaf1
 refine tX (Inv := Zx0) (μ := Z1r) (m := (1000000, 0, 0, 0, 0, 0)) ?_ ?_
 ·dsimp only [Zajh, LT.den]
  refine tE (fun h1 => ?_) (fun h1 => ?_)
  ·exact tJ (Zdz a0 (a0 == 2) trivial)
  ·refine tE (fun h2 => ?_) (fun h2 => ?_)
   ·exact tJ (Zdz a0 (a0 == 8) trivial)
   ·refine tE (fun h3 => ?_) (fun h3 => ?_)
    ·exact tJ (Zdz a0 (a0 == 9) trivial)
    ·refine tE (fun h4 => ?_) (fun h4 => ?_)
     ·exact tJ (Zdz a0 (a0 == 15) trivial)
     ·refine tE (fun h5 => ?_) (fun h5 => ?_)
      ·exact tJ (Zdz a0 (a0 == 16) trivial)
      ·refine tE (fun h6 => ?_) (fun h6 => ?_)
       ·exact tJ (Zdz a0 (a0 == 17) trivial)
       ·exact tJ (Zdz a0 (a0 == 25) trivial)
 ·intro s hs
  cases s with
  | L0 v3 v4 => exact Zdz v3 v4 hs
  | L1 v3 v14 => exact Zps v3 v14 hs
def Zawa : Zor → Prop
 | .L0 v1 v5 v6 => (SzT v5) ∧ (0 ≤ v6)
def Z1s : Zor → M6
 | .L0 v1 v5 v6 => (1, ((v5.length : Int) - v6).toNat, 1000000, 0, 0, 0)
theorem Zfk (a0 : Int) (a1 : Int) : Tot (Zaf2 a0 a1) (fun r => True) := by
 unfold Zaf2
 refine tX (Inv := Zawa) (μ := Z1s) (m := (1000000, 0, 0, 0, 0, 0)) ?_ ?_
 ·dsimp only [Zajj, LT.den]
  refine tB (Zav9 a0) (fun x1 h2 => ?_)
  exact tL ⟨(SzN.t h2), cl⟩ (by unfold Z1s lt6; dsimp only; omega)
 ·intro s hs
  cases s with
  | L0 v1 v5 v6 =>
   obtain ⟨ov5, cv6⟩ := hs
   have lb_v5 : v5.length ≤ 562949953421312 := ov5
   show Tot (Z0n v1 v5 v6).den _
   dsimp only [Z0n, LT.den]
   have q1 : v5.length ≤ 562949953421312 := ov5
   refine tD (fun h2 => ?_) (fun h2 => ?_)
   ·refine tB (tI (by omega) (by omega)) (fun x3 h4 => ?_)
    refine tE (fun h5 => ?_) (fun h5 => ?_)
    ·exact tR trivial
    ·refine qw (v6 + 1) fun q6 q7 => ?_
     exact tL ⟨ov5, cl⟩ (by unfold Z1s lt6; dsimp only; omega)
   ·exact tR trivial
theorem Zag2 (a0 : Int) : Tot (Zwb a0) (fun r => True) := by
 unfold Zwb
 refine tZ ?_
 dsimp only [Z2h, LT.den]
 refine tE (fun h1 => ?_) (fun h1 => ?_)
 ·exact tR trivial
 ·exact tR trivial
def Zpt : Zqb → Prop
 | .L0 v1 E0 => (Zd9 E0) ∧ True
 | .L1 E0 => (Zd9 E0) ∧ True
def Zaa4 : Zqb → M6
 | .L0 v1 E0 => (0, 0, 0, 0, 0, 0)
 | .L1 E0 => (0, 0, 0, 0, 0, 0)
theorem Zud (E0 : Zal) (h : Zpt (.L1 E0)) : Tot (Zsi E0).den (Nx Zpt Zaa4 (0, 0, 0, 0, 0, 0) (fun r => True)) := by
 obtain ⟨O0, _⟩ := h
 dsimp only [Zsi, LT.den]
 refine tE (fun h1 => ?_) (fun h1 => ?_)
 ·refine tB (Zeb E0.Filter O0) (fun x2 h3 => ?_)
  have eh3_0 := h3.1
  have eh3_1 := h3.2
  exact tR trivial
 ·exact tR trivial
theorem Zue (v1 : Int) (E0 : Zal) (h : Zpt (.L0 v1 E0)) : Tot (Zsj v1 E0).den (Nx Zpt Zaa4 (0, 0, 0, 0, 0, 0) (fun r => True)) := by
 obtain ⟨O0, _⟩ := h
 dsimp only [Zsj, LT.den]
 refine tD (fun h1 => ?_) (fun h1 => ?_)
 ·exact tR trivial
 ·refine tD (fun h2 => ?_) (fun h2 => ?_)
  ·exact tR trivial
  ·refine tB (Zag2 E0.Kind) (fun x3 h4 => ?_)
   refine tF (fun h5 => ?_) (fun h5 => ?_)
   ·refine tD (fun h6 => ?_) (fun h6 => ?_)
    ·exact tR trivial
    ·refine tD (fun h7 => ?_) (fun h7 => ?_)
     ·exact tR trivial
     ·exact tJ (Zud E0 ⟨O0, trivial⟩)
   ·refine tN (fun h8 => ?_) (fun h8 => ?_)
    ·exact tR trivial
    ·exact tJ (Zud E0 ⟨O0, trivial⟩)
theorem Za1c (a0 : Zal) (a1 : Int) (oa0 : Zd9 a0) : Tot (Zauc a0 a1) (fun r => True) := by
 unfold Zauc
 refine tX (Inv := Zpt) (μ := Zaa4) (m := (1000000, 0, 0, 0, 0, 0)) ?_ ?_
 ·dsimp only [Zaua, LT.den]
  refine tD (fun h1 => ?_) (fun h1 => ?_)
  ·exact tJ (Zue 4 a0 ⟨oa0, trivial⟩)
  ·exact tJ (Zue a1 a0 ⟨oa0, trivial⟩)
 ·intro s hs
  cases s with
  | L0 v1 E0 => exact Zue v1 E0 hs
  | L1 E0 => exact Zud E0 hs
theorem Zaa5 (a0 : Int) : Tot (Zaf3 a0) (fun r => (SzT r) ∧ (r = [] ↔ ¬ (0 ≤ a0 ∧ a0 ≤ 2))) := by
 unfold Zaf3
 refine tZ ?_
 dsimp only [Zajm, LT.den]
 refine tE (fun h1 => ?_) (fun h1 => ?_)
 ·exact tR ⟨Znf, tk15⟩
 ·refine tE (fun h2 => ?_) (fun h2 => ?_)
  ·exact tR ⟨Znf, tk15⟩
  ·refine tE (fun h3 => ?_) (fun h3 => ?_)
   ·exact tR ⟨Znf, tk15⟩
   ·exact tR ⟨(SzT.nil), tk15⟩
theorem Za1d (a0 : Z3) (oa0 : Zea a0) : Tot (Zauf a0) (fun r => (r = amV a0)) := by
 unfold Zauf
 refine tZ ?_
 dsimp only [Zaud, LT.den]
 refine tE (fun h1 => ?_) (fun h1 => ?_)
 ·refine tD (fun h2 => ?_) (fun h2 => ?_)
  ·exact tR Ze0
  ·refine tD (fun h3 => ?_) (fun h3 => ?_)
   ·exact tR Ze0
   ·refine tD (fun h4 => ?_) (fun h4 => ?_)
    ·refine tD (fun h5 => ?_) (fun h5 => ?_)
     ·exact tR Ze0
     ·exact tR Ze0
    ·exact tR Ze0
 ·refine tE (fun h6 => ?_) (fun h6 => ?_)
  ·refine tD (fun h7 => ?_) (fun h7 => ?_)
   ·exact tR Ze0
   ·refine tD (fun h8 => ?_) (fun h8 => ?_)
    ·exact tR Ze0
    ·refine tB (Zeb a0.Filter oa0) (fun x9 h10 => ?_)
     have eh10_0 := h10.1
     have eh10_1 := h10.2
     refine tO (fun h11 => ?_) (fun h11 => ?_)
     ·exact tR Ze0
     ·have h11_0 := eh10_0 h11
      refine tD (fun h12 => ?_) (fun h12 => ?_)
      ·refine tD (fun h13 => ?_) (fun h13 => ?_)
       ·exact tR Ze0
       ·exact tR Ze0
      ·exact tR Ze0
  ·refine tE (fun h14 => ?_) (fun h14 => ?_)
   ·refine tB (Zaa5 a0.Counter) (fun x15 h16 => ?_)
    have eh16_1 := h16.2
    refine tF (fun h17 => ?_) (fun h17 => ?_)
    ·exact tR Ze0
    ·refine tD (fun h18 => ?_) (fun h18 => ?_)
     ·refine tD (fun h19 => ?_) (fun h19 => ?_)
      ·exact tR Ze0
      ·exact tR Ze0
     ·exact tR Ze0
   ·refine tD (fun h20 => ?_) (fun h20 => ?_)
    ·refine tD (fun h21 => ?_) (fun h21 => ?_)
     ·exact tR Ze0
     ·exact tR Ze0
    ·exact tR Ze0
theorem Zawb (a0 : (List Zr)) (oa0 : (SzL 176 Zar) a0) : Tot (Zaf4 a0) (fun r => True) := by
 unfold Zaf4
 refine tZ ?_
 have lb_a0 := oa0.1
 dsimp only [Zajo, LT.den]
 refine tB (Znh a0 oa0) (fun x1 h2 => ?_)
 have eh2_0 := h2
 exact tR trivial
def Zawc : Zos → Prop
 | .L0 E0 E1 E2 v4 => (0 ≤ v4) ∧ True
def Z1t : Zos → M6
 | .L0 E0 E1 E2 v4 => (1, (5 - v4).toNat, 1000000, 0, 0, 0)
theorem Zawd (a0 : (A6 Int)) : Tot (Zaf5 a0) (fun r => True) := by
 unfold Zaf5
 refine tX (Inv := Zawc) (μ := Z1t) (m := (1000000, 0, 0, 0, 0, 0)) ?_ ?_
 ·dsimp only [Zajq, LT.den]
  refine tB (tI (by omega) (by have e : (A6.list a0).length = 6 := rfl; omega)) (fun x1 h2 => ?_)
  exact tL ⟨cl, trivial⟩ (by unfold Z1t lt6; dsimp only; omega)
 ·intro s hs
  cases s with
  | L0 E0 E1 E2 v4 =>
   obtain ⟨cv4, _⟩ := hs
   show Tot (Z0o E0 E1 E2 v4).den _
   dsimp only [Z0o, LT.den]
   refine tD (fun h1 => ?_) (fun h1 => ?_)
   ·refine qw (v4 + 1) fun q2 q3 => ?_
    refine tB (tI (by omega) tk56) (fun x4 h5 => ?_)
    refine tB (tI (by omega) (by have e : (A5.list E2.Color).length = 5 := rfl; omega)) (fun x6 h7 => ?_)
    refine tB (Tot.setA5 (by omega) (by omega)) (fun x8 h9 => ?_)
    exact tL ⟨cl, trivial⟩ (by unfold Z1t lt6; dsimp only; omega)
   ·exact tR trivial
def Zawe : Zis → Prop
 | .L0 E0 v3 v4 => (0 ≤ v4) ∧ (E0.X ≤ 2) ∧ (∀ n, n ∈ A5.list E0.Color → n ≤ 9) ∧ (v3.length ≤ v4.toNat) ∧ (v4 ≤ 2)
 | .L1 E0 v3 v5 => (0 ≤ v5) ∧ (v3.length ≤ 200 + 200 * v5.toNat) ∧ (∀ n, n ∈ A5.list E0.Color → n ≤ 9) ∧ (v5 ≤ 5)
 | .L2 E0 v3 v5 v6 => (0 ≤ v5) ∧ (0 ≤ v6) ∧ (v5 < 5) ∧ (v3.length ≤ 200 + 200 * v5.toNat + v6.toNat) ∧ (∀ n, n ∈ A5.list E0.Color → n ≤ 9) ∧ (v5 < 5) ∧ (v6 ≤ 9)
def Zaez : Zis → M6
 | .L0 E0 v3 v4 => (3, (E0.X - v4).toNat, 1000000, 0, 0, 0)
 | .L1 E0 v3 v5 => (1, (5 - v5).toNat, 1000000, 0, 0, 0)
 | .L2 E0 v3 v5 v6 => (1, (5 - v5).toNat, 1, (9 - v6).toNat, 1000000, 0)
theorem Zawf (a0 : Zp) : Tot (Zaf6 a0) (fun r => (SzT r)) := by
 unfold Zaf6
 refine tX (Inv := Zawe) (μ := Zaez) (m := (1000000, 0, 0, 0, 0, 0)) ?_ ?_
 ·dsimp only [Zajs, LT.den]
  refine tB (Zpn a0) (fun x1 h2 => ?_)
  have eh2_0 := h2.1
  have eh2_1 := h2.2
  refine tO (fun h3 => ?_) (fun h3 => ?_)
  ·exact tR (SzT.nil)
  ·have h3_0 := eh2_0 h3
   have h3_1 := eh2_1 h3
   exact tL ⟨cl, cl, cl, cl, cl⟩ tk94
 ·intro s hs
  cases s with
  | L0 E0 v3 v4 =>
   obtain ⟨cv4, i0, i1, i2, i3⟩ := hs
   show Tot (Z0p E0 v3 v4).den _
   dsimp only [Z0p, LT.den]
   refine tD (fun h1 => ?_) (fun h1 => ?_)
   ·refine tB (tK Zcu) (fun x2 h3 => ?_)
    refine qw (v4 + 1) fun q4 q5 => ?_
    exact tL ⟨cl, cl, cl, cl, cl⟩ tk94
   ·refine tN (fun h6 => ?_) (fun h6 => ?_)
    ·refine tB (Zif E0.Generic) (fun x7 h8 => ?_)
     have q9 : x7.length ≤ 100 := h8
     refine tB (tK Zcu) (fun x10 h11 => ?_)
     exact tL ⟨cl, cl, cl, cl⟩ tk94
    ·exact tL ⟨cl, cl, cl, cl⟩ tk94
  | L1 E0 v3 v5 =>
   obtain ⟨cv5, i0, i1, i2⟩ := hs
   show Tot (Z0q E0 v3 v5).den _
   dsimp only [Z0q, LT.den]
   refine tD (fun h1 => ?_) (fun h1 => ?_)
   ·exact tL ⟨cl, cl, cl, cl, cl, cl, cl⟩ tk94
   ·refine tF (fun h2 => ?_) (fun h2 => ?_)
    ·exact tR Znf
    ·exact tR Znf
  | L2 E0 v3 v5 v6 =>
   obtain ⟨cv5, cv6, bd2, i0, i1, i2, i3⟩ := hs
   show Tot (Z0r E0 v3 v5 v6).den _
   dsimp only [Z0r, LT.den]
   refine tB (tI (by omega) tk53) (fun x1 h2 => ?_)
   have ph2 := i1 x1 h2.1
   refine tD (fun h3 => ?_) (fun h3 => ?_)
   ·refine qw (v5 + 1) fun q4 q5 => ?_
    refine tB (Tot.slice (by omega) (by omega) Zlj) (fun x6 h7 => ?_)
    have lh7 := h7.1
    refine tB (tK Zcu) (fun x8 h9 => ?_)
    refine qw (v6 + 1) fun q10 q11 => ?_
    exact tL ⟨cl, cl, cl, cl, cl, cl, cl⟩ tk94
   ·refine qw (v5 + 1) fun q12 q13 => ?_
    exact tL ⟨cl, cl, cl, cl⟩ tk94
theorem Zag3 (a0 : (A6 Int)) : Tot (Zwc a0) (fun r => (SzT r)) := by
 unfold Zwc
 refine tZ ?_
 dsimp only [Z2j, LT.den]
 refine tB (Zawd a0) (fun x1 h2 => ?_)
 refine tB (Zawf x1) (fun x3 h4 => ?_)
 exact tR h4
theorem Zan5 (a0 : Int) (a1 : Ze) (oa1 : Zak a1) : Tot (Z4j a0 a1) (fun r => True) := by
 unfold Z4j
 refine tZ ?_
 dsimp only [Z8m, LT.den]
 refine tE (fun h1 => ?_) (fun h1 => ?_)
 ·refine tB (Zeb a1 oa1) (fun x2 h3 => ?_)
  have eh3_0 := h3.1
  have eh3_1 := h3.2
  refine tF (fun h4 => ?_) (fun h4 => ?_)
  ·have h4_0 := eh3_0 h4
   exact tR trivial
  ·exact tR trivial
 ·refine tB (Zeb a1 oa1) (fun x5 h6 => ?_)
  have eh6_0 := h6.1
  have eh6_1 := h6.2
  refine tF (fun h7 => ?_) (fun h7 => ?_)
  ·have h7_0 := eh6_0 h7
   exact tR trivial
  ·exact tR trivial
def Zes : Zft → Prop
 | .L0 E0 v5 => (Zan E0) ∧ True
 | .L1 E0 v5 v6 => (Zan E0) ∧ True
 | .L2 E0 v5 v6 v7 => (Zan E0) ∧ True
 | .L3 E0 v5 v6 v7 v8 => (Zan E0) ∧ True
 | .L4 E0 v5 v6 v7 v8 v9 => (Zan E0) ∧ True
 | .L5 E0 v5 v6 v7 v8 v9 v10 => (Zan E0) ∧ True
 | .L6 E0 v5 v6 v7 v8 v9 v10 v11 => (Zan E0) ∧ True
 | .L7 v5 v6 v7 v8 v9 v10 v11 v12 => True
def Zhm : Zft → M6
 | .L0 E0 v5 => (0, 0, 0, 0, 0, 0)
 | .L1 E0 v5 v6 => (0, 0, 0, 0, 0, 0)
 | .L2 E0 v5 v6 v7 => (0, 0, 0, 0, 0, 0)
 | .L3 E0 v5 v6 v7 v8 => (0, 0, 0, 0, 0, 0)
 | .L4 E0 v5 v6 v7 v8 v9 => (0, 0, 0, 0, 0, 0)
 | .L5 E0 v5 v6 v7 v8 v9 v10 => (0, 0, 0, 0, 0, 0)
 | .L6 E0 v5 v6 v7 v8 v9 v10 v11 => (0, 0, 0, 0, 0, 0)
 | .L7 v5 v6 v7 v8 v9 v10 v11 v12 => (0, 0, 0, 0, 0, 0)
theorem Zuf (v5 : Bool) (v6 : Bool) (v7 : Bool) (v8 : Bool) (v9 : Bool) (v10 : Bool) (v11 : Bool) (v12 : Bool) (h : True) : Tot (Zsk v5 v6 v7 v8 v9 v10 v11 v12).den (Nx Zes Zhm (0, 0, 0, 0, 0, 0) (fun r => True)) := by
 dsimp only [Zsk, LT.den]
 refine tF (fun h1 => ?_) (fun h1 => ?_)
 ·refine tF (fun h2 => ?_) (fun h2 => ?_)
  ·refine tF (fun h3 => ?_) (fun h3 => ?_)
   ·refine tF (fun h4 => ?_) (fun h4 => ?_)
    ·refine tF (fun h5 => ?_) (fun h5 => ?_)
     ·refine tF (fun h6 => ?_) (fun h6 => ?_)
      ·refine tF (fun h7 => ?_) (fun h7 => ?_)
       ·exact tR trivial
       ·exact tR trivial
      ·exact tR trivial
     ·exact tR trivial
    ·exact tR trivial
   ·exact tR trivial
  ·exact tR trivial
 ·exact tR trivial
theorem Zmx (E0 : Zz) (v5 : Bool) (v6 : Bool) (v7 : Bool) (v8 : Bool) (v9 : Bool) (v10 : Bool) (v11 : Bool) (h : (Zan E0) ∧ True) : Tot (Znr E0 v5 v6 v7 v8 v9 v10 v11).den (Nx Zes Zhm (0, 0, 0, 0, 0, 0) (fun r => True)) := by
 obtain ⟨O0, _⟩ := h
 dsimp only [Znr, LT.den]
 refine tB (Zfk E0.Op 102) (fun x1 h2 => ?_)
 refine tF (fun h3 => ?_) (fun h3 => ?_)
 ·refine tB (Zan5 E0.Op E0.Filter O0.2.2.2.1) (fun x4 h5 => ?_)
  exact tJ (Zuf v5 v6 v7 v8 v9 v10 v11 x4 trivial)
 ·exact tJ (Zuf v5 v6 v7 v8 v9 v10 v11 (Zas (Zm E0.Filter) (Zm (⟨0, 0, 0, 0, 0, 0, 0, ([] : List UInt8), 0, 0, (⟨0, 0⟩ : Zd), (⟨0, 0⟩ : Zd), (⟨0, 0⟩ : Zd)⟩ : Ze))) trivial)
theorem Zug (E0 : Zz) (v5 : Bool) (v6 : Bool) (v7 : Bool) (v8 : Bool) (v9 : Bool) (v10 : Bool) (h : (Zan E0) ∧ True) : Tot (Zsl E0 v5 v6 v7 v8 v9 v10).den (Nx Zes Zhm (0, 0, 0, 0, 0, 0) (fun r => True)) := by
 obtain ⟨O0, _⟩ := h
 dsimp only [Zsl, LT.den]
 refine tB (Zfk E0.Op 112) (fun x1 h2 => ?_)
 refine tF (fun h3 => ?_) (fun h3 => ?_)
 ·refine tO (fun h4 => ?_) (fun h4 => ?_)
  ·refine tB (Zag3 E0.Pool) (fun x5 h6 => ?_)
   exact tJ (Zmx E0 v5 v6 v7 v8 v9 v10 (!(x5 == ([] : List UInt8))) ⟨O0, trivial⟩)
  ·exact tJ (Zmx E0 v5 v6 v7 v8 v9 v10 false ⟨O0, trivial⟩)
 ·exact tJ (Zmx E0 v5 v6 v7 v8 v9 v10 (Zas ((cA6 (cI .i64)) E0.Pool) ((cA6 (cI .i64)) (⟨0, 0, 0, 0, 0, 0⟩ : (A6 Int)))) ⟨O0, trivial⟩)
theorem Zuh (E0 : Zz) (v5 : Bool) (v6 : Bool) (v7 : Bool) (v8 : Bool) (v9 : Bool) (h : (Zan E0) ∧ True) : Tot (Zsm E0 v5 v6 v7 v8 v9).den (Nx Zes Zhm (0, 0, 0, 0, 0, 0) (fun r => True)) := by
 obtain ⟨O0, _⟩ := h
 dsimp only [Zsm, LT.den]
 have q1 := O0.2.2.2.2.1
 refine tB (Zfk E0.Op 109) (fun x2 h3 => ?_)
 refine tF (fun h4 => ?_) (fun h4 => ?_)
 ·refine tB (Zawb E0.Mods O0.2.2.2.2) (fun x5 h6 => ?_)
  exact tJ (Zug E0 v5 v6 v7 v8 v9 x5 ⟨O0, trivial⟩)
 ·exact tJ (Zug E0 v5 v6 v7 v8 v9 ((E0.Mods.length : Int) == 0) ⟨O0, trivial⟩)
theorem Zui (E0 : Zz) (v5 : Bool) (v6 : Bool) (v7 : Bool) (v8 : Bool) (h : (Zan E0) ∧ True) : Tot (Zsn E0 v5 v6 v7 v8).den (Nx Zes Zhm (0, 0, 0, 0, 0, 0) (fun r => True)) := by
 obtain ⟨O0, _⟩ := h
 dsimp only [Zsn, LT.den]
 refine tB (Zfk E0.Op 97) (fun x1 h2 => ?_)
 refine tF (fun h3 => ?_) (fun h3 => ?_)
 ·refine tB (Za1d E0.Amount O0.2.1) (fun x4 h5 => ?_)
  have eh5_0 := h5
  exact tJ (Zuh E0 v5 v6 v7 v8 x4 ⟨O0, trivial⟩)
 ·exact tJ (Zuh E0 v5 v6 v7 v8 (Zas (Zah E0.Amount) (Zah (⟨0, 0, 0, (⟨0, 0, 0, 0, 0, 0, 0, ([] : List UInt8), 0, 0, (⟨0, 0⟩ : Zd), (⟨0, 0⟩ : Zd), (⟨0, 0⟩ : Zd)⟩ : Ze)⟩ : Z3))) ⟨O0, trivial⟩)
theorem Zmy (E0 : Zz) (v5 : Bool) (v6 : Bool) (v7 : Bool) (h : (Zan E0) ∧ True) : Tot (Zns E0 v5 v6 v7).den (Nx Zes Zhm (0, 0, 0, 0, 0, 0) (fun r => True)) := by
 obtain ⟨O0, _⟩ := h
 dsimp only [Zns, LT.den]
 refine tB (Zfk E0.Op 99) (fun x1 h2 => ?_)
 refine tF (fun h3 => ?_) (fun h3 => ?_)
 ·refine tB (Z5f E0.Card (SzS.t O0.2.2.1)) (fun x4 h5 => ?_)
  exact tJ (Zui E0 v5 v6 v7 x4 ⟨O0, trivial⟩)
 ·exact tJ (Zui E0 v5 v6 v7 (E0.Card == ([] : List UInt8)) ⟨O0, trivial⟩)
theorem Zjl (E0 : Zz) (v5 : Bool) (v6 : Bool) (h : Zes (.L1 E0 v5 v6)) : Tot (Zkg E0 v5 v6).den (Nx Zes Zhm (0, 0, 0, 0, 0, 0) (fun r => True)) := by
 obtain ⟨O0, _⟩ := h
 dsimp only [Zkg, LT.den]
 refine tE (fun h1 => ?_) (fun h1 => ?_)
 ·exact tJ (Zmy E0 v5 v6 true ⟨O0, trivial⟩)
 ·refine tB (Zfk E0.Op 107) (fun x2 h3 => ?_)
  refine tF (fun h4 => ?_) (fun h4 => ?_)
  ·refine tB (Zaa5 E0.Counter) (fun x5 h6 => ?_)
   have eh6_1 := h6.2
   exact tJ (Zmy E0 v5 v6 (!(x5 == ([] : List UInt8))) ⟨O0, trivial⟩)
  ·exact tJ (Zmy E0 v5 v6 false ⟨O0, trivial⟩)
theorem Zuj (E0 : Zz) (v5 : Bool) (h : Zes (.L0 E0 v5)) : Tot (Zso E0 v5).den (Nx Zes Zhm (0, 0, 0, 0, 0, 0) (fun r => True)) := by
 obtain ⟨O0, _⟩ := h
 dsimp only [Zso, LT.den]
 refine tE (fun h1 => ?_) (fun h1 => ?_)
 ·exact tJ (Zjl E0 v5 true ⟨O0, trivial⟩)
 ·refine tB (Zfk E0.Op 122) (fun x2 h3 => ?_)
  refine tF (fun h4 => ?_) (fun h4 => ?_)
  ·refine tD (fun h5 => ?_) (fun h5 => ?_)
   ·exact tJ (Zjl E0 v5 (decide (E0.Zone ≤ 4)) ⟨O0, trivial⟩)
   ·exact tJ (Zjl E0 v5 false ⟨O0, trivial⟩)
  ·exact tJ (Zjl E0 v5 false ⟨O0, trivial⟩)
theorem Za1e (a0 : Zz) (a1 : Int) (oa0 : Zan a0) : Tot (Zaui a0 a1) (fun r => True) := by
 unfold Zaui
 refine tX (Inv := Zes) (μ := Zhm) (m := (1000000, 0, 0, 0, 0, 0)) ?_ ?_
 ·dsimp only [Zaug, LT.den]
  refine tB (Zav8 a0.Op) (fun x1 h2 => ?_)
  refine tF (fun h3 => ?_) (fun h3 => ?_)
  ·exact tR trivial
  ·refine tB (Zfk a0.Op 114) (fun x4 h5 => ?_)
   refine tF (fun h6 => ?_) (fun h6 => ?_)
   ·refine tB (Za1c a0.Ref a1 oa0.1) (fun x7 h8 => ?_)
    exact tJ (Zuj a0 x7 ⟨oa0, trivial⟩)
   ·exact tJ (Zuj a0 (Zas (Zbg a0.Ref) (Zbg (⟨0, 0, (⟨0, 0, 0, 0, 0, 0, 0, ([] : List UInt8), 0, 0, (⟨0, 0⟩ : Zd), (⟨0, 0⟩ : Zd), (⟨0, 0⟩ : Zd)⟩ : Ze)⟩ : Zal))) ⟨oa0, trivial⟩)
 ·intro s hs
  cases s with
  | L0 E0 v5 => exact Zuj E0 v5 hs
  | L1 E0 v5 v6 => exact Zjl E0 v5 v6 hs
  | L2 E0 v5 v6 v7 => exact Zmy E0 v5 v6 v7 hs
  | L3 E0 v5 v6 v7 v8 => exact Zui E0 v5 v6 v7 v8 hs
  | L4 E0 v5 v6 v7 v8 v9 => exact Zuh E0 v5 v6 v7 v8 v9 hs
  | L5 E0 v5 v6 v7 v8 v9 v10 => exact Zug E0 v5 v6 v7 v8 v9 v10 hs
  | L6 E0 v5 v6 v7 v8 v9 v10 v11 => exact Zmx E0 v5 v6 v7 v8 v9 v10 v11 hs
  | L7 v5 v6 v7 v8 v9 v10 v11 v12 => exact Zuf v5 v6 v7 v8 v9 v10 v11 v12 hs
def Zali : Zi2 → Prop
 | .L0 v0 v1 v5 => ((SzL 560 Zan) v0) ∧ (0 ≤ v5)
def Zq7 : Zi2 → M6
 | .L0 v0 v1 v5 => (1, ((v0.length : Int) - v5).toNat, 1000000, 0, 0, 0)
theorem Zalj (a0 : (List Zz)) (a1 : Int) (oa0 : (SzL 560 Zan) a0) : Tot (Z0s a0 a1) (fun r => True) := by
 unfold Z0s
 refine tX (Inv := Zali) (μ := Zq7) (m := (1000000, 0, 0, 0, 0, 0)) ?_ ?_
 ·have lb_a0 := oa0.1
  dsimp only [Z5v, LT.den]
  exact tL ⟨oa0, cl⟩ (by unfold Zq7 lt6; dsimp only; omega)
 ·intro s hs
  cases s with
  | L0 v0 v1 v5 =>
   obtain ⟨ov0, cv5⟩ := hs
   have lb_v0 := ov0.1
   show Tot (Zqc v0 v1 v5).den _
   dsimp only [Zqc, LT.den]
   have q1 := ov0.1
   refine tD (fun h2 => ?_) (fun h2 => ?_)
   ·refine tB (tI (by omega) (by omega)) (fun x3 h4 => ?_)
    have oh4 : Zan x3 := ov0.2 x3 h4.1
    refine tB (Za1e x3 v1 oh4) (fun x5 h6 => ?_)
    refine tO (fun h7 => ?_) (fun h7 => ?_)
    ·exact tR trivial
    ·refine qw (v5 + 1) fun q8 q9 => ?_
     exact tL ⟨ov0, cl⟩ (by unfold Zq7 lt6; dsimp only; omega)
   ·refine tD (fun h10 => ?_) (fun h10 => ?_)
    ·exact tR trivial
    ·exact tR trivial
def Zet : Zit → Prop
 | .L0 E0 v3 => (Zat E0) ∧ True
 | .L1 E0 v3 => (Zat E0) ∧ True
 | .L2 E0 v3 => (Zat E0) ∧ True
 | .L3 E0 v3 => (Zat E0) ∧ True
 | .L4 E0 v3 => (Zat E0) ∧ True
def Zn3 : Zit → M6
 | .L0 E0 v3 => (0, 0, 0, 0, 0, 0)
 | .L1 E0 v3 => (0, 0, 0, 0, 0, 0)
 | .L2 E0 v3 => (0, 0, 0, 0, 0, 0)
 | .L3 E0 v3 => (0, 0, 0, 0, 0, 0)
 | .L4 E0 v3 => (0, 0, 0, 0, 0, 0)
theorem Zuk (E0 : Zj) (v3 : Bool) (h : Zet (.L4 E0 v3)) : Tot (Zsp E0 v3).den (Nx Zet Zn3 (0, 0, 0, 0, 0, 0) (fun r => True)) := by
 obtain ⟨O0, _⟩ := h
 dsimp only [Zsp, LT.den]
 refine tF (fun h1 => ?_) (fun h1 => ?_)
 ·refine tB (Zaqz E0.Specs O0.2.2.2.1) (fun x2 h3 => ?_)
  refine tF (fun h4 => ?_) (fun h4 => ?_)
  ·have q5 := O0.2.2.2.1.1
   refine tB (Zalj E0.Effects (E0.Specs.length : Int) O0.2.2.2.2.1) (fun x6 h7 => ?_)
   exact tR trivial
  ·exact tR trivial
 ·have q8 := O0.2.2.2.1.1
  refine tE (fun h9 => ?_) (fun h9 => ?_)
  ·have q10 := O0.2.2.2.2.1.1
   exact tR trivial
  ·exact tR trivial
theorem Zul (E0 : Zj) (v3 : Bool) (h : Zet (.L3 E0 v3)) : Tot (Zsq E0 v3).den (Nx Zet Zn3 (0, 0, 0, 0, 0, 0) (fun r => True)) := by
 obtain ⟨O0, _⟩ := h
 dsimp only [Zsq, LT.den]
 refine tE (fun h1 => ?_) (fun h1 => ?_)
 ·refine tB (Za1b E0.Replace O0.2.2.2.2.2) (fun x2 h3 => ?_)
  refine tO (fun h4 => ?_) (fun h4 => ?_)
  ·exact tR trivial
  ·exact tJ (Zuk E0 v3 ⟨O0, trivial⟩)
 ·refine tO (fun h5 => ?_) (fun h5 => ?_)
  ·exact tR trivial
  ·exact tJ (Zuk E0 v3 ⟨O0, trivial⟩)
theorem Zum (E0 : Zj) (v3 : Bool) (h : Zet (.L2 E0 v3)) : Tot (Zsr E0 v3).den (Nx Zet Zn3 (0, 0, 0, 0, 0, 0) (fun r => True)) := by
 obtain ⟨O0, _⟩ := h
 dsimp only [Zsr, LT.den]
 refine tE (fun h1 => ?_) (fun h1 => ?_)
 ·refine tB (Za1a E0.Trigger O0.2.2.1) (fun x2 h3 => ?_)
  refine tO (fun h4 => ?_) (fun h4 => ?_)
  ·exact tR trivial
  ·exact tJ (Zul E0 v3 ⟨O0, trivial⟩)
 ·refine tO (fun h5 => ?_) (fun h5 => ?_)
  ·exact tR trivial
  ·refine tF (fun h6 => ?_) (fun h6 => ?_)
   ·exact tR trivial
   ·exact tJ (Zul E0 v3 ⟨O0, trivial⟩)
theorem Zun (E0 : Zj) (v3 : Bool) (h : Zet (.L1 E0 v3)) : Tot (Zss E0 v3).den (Nx Zet Zn3 (0, 0, 0, 0, 0, 0) (fun r => True)) := by
 obtain ⟨O0, _⟩ := h
 dsimp only [Zss, LT.den]
 refine tE (fun h1 => ?_) (fun h1 => ?_)
 ·refine tB (Zaqv E0.Price) (fun x2 h3 => ?_)
  refine tO (fun h4 => ?_) (fun h4 => ?_)
  ·exact tR trivial
  ·exact tJ (Zum E0 v3 ⟨O0, trivial⟩)
 ·refine tO (fun h5 => ?_) (fun h5 => ?_)
  ·exact tR trivial
  ·refine tF (fun h6 => ?_) (fun h6 => ?_)
   ·exact tR trivial
   ·exact tJ (Zum E0 v3 ⟨O0, trivial⟩)
theorem Zmz (E0 : Zj) (v3 : Bool) (h : Zet (.L0 E0 v3)) : Tot (Znt E0 v3).den (Nx Zet Zn3 (0, 0, 0, 0, 0, 0) (fun r => True)) := by
 obtain ⟨O0, _⟩ := h
 dsimp only [Znt, LT.den]
 refine tE (fun h1 => ?_) (fun h1 => ?_)
 ·refine tB (Zeb E0.Filter O0.1) (fun x2 h3 => ?_)
  have eh3_0 := h3.1
  have eh3_1 := h3.2
  refine tO (fun h4 => ?_) (fun h4 => ?_)
  ·exact tR trivial
  ·have h4_0 := eh3_0 h4
   refine tN (fun h5 => ?_) (fun h5 => ?_)
   ·exact tR trivial
   ·refine tB (Znh E0.Mods O0.2.1) (fun x6 h7 => ?_)
    have eh7_0 := h7
    refine tF (fun h8 => ?_) (fun h8 => ?_)
    ·exact tR trivial
    ·exact tJ (Zun E0 v3 ⟨O0, trivial⟩)
 ·refine tO (fun h9 => ?_) (fun h9 => ?_)
  ·exact tR trivial
  ·have q10 := O0.2.1.1
   refine tD (fun h11 => ?_) (fun h11 => ?_)
   ·exact tR trivial
   ·exact tJ (Zun E0 v3 ⟨O0, trivial⟩)
theorem Zvf (a0 : Zj) (oa0 : Zat a0) : Tot (Zaul a0) (fun r => True) := by
 unfold Zaul
 refine tX (Inv := Zet) (μ := Zn3) (m := (1000000, 0, 0, 0, 0, 0)) ?_ ?_
 ·dsimp only [Zauj, LT.den]
  refine tD (fun h1 => ?_) (fun h1 => ?_)
  ·exact tR trivial
  ·refine tD (fun h2 => ?_) (fun h2 => ?_)
   ·exact tR trivial
   ·refine tE (fun h3 => ?_) (fun h3 => ?_)
    ·exact tJ (Zmz a0 true ⟨oa0, trivial⟩)
    ·refine tE (fun h4 => ?_) (fun h4 => ?_)
     ·exact tJ (Zmz a0 true ⟨oa0, trivial⟩)
     ·exact tJ (Zmz a0 (a0.Kind == 4) ⟨oa0, trivial⟩)
 ·intro s hs
  cases s with
  | L0 E0 v3 => exact Zmz E0 v3 hs
  | L1 E0 v3 => exact Zun E0 v3 hs
  | L2 E0 v3 => exact Zum E0 v3 hs
  | L3 E0 v3 => exact Zul E0 v3 hs
  | L4 E0 v3 => exact Zuk E0 v3 hs
theorem Zawg (a0 : Zn) (oa0 : Zaf a0) : Tot (Zaf7 a0) (fun r => True) := by
 unfold Zaf7
 refine tZ ?_
 dsimp only [Zajv, LT.den]
 refine tE (fun h1 => ?_) (fun h1 => ?_)
 ·exact tR trivial
 ·exact tR trivial
def Z5l (a0 : Zn) : Zqd → Prop
 | .L0 E0 => (E0 = a0) ∧ (Zaf E0) ∧ (E0.Abilities.length ≤ 8)
 | .L1 E0 v3 v4 => (E0 = a0) ∧ (Zaf E0) ∧ (0 ≤ v4) ∧ (E0.Abilities.length ≤ 8)
def Zzv : Zqd → M6
 | .L0 E0 => (2, 0, 0, 0, 0, 0)
 | .L1 E0 v3 v4 => (1, ((E0.Abilities.length : Int) - v4).toNat, 1000000, 0, 0, 0)
theorem Zuo (a0 : Zn) (E0 : Zn) (h : (Z5l a0) (.L0 E0)) : Tot (Zst E0).den (Nx (Z5l a0) Zzv (2, 0, 0, 0, 0, 0) (fun r => (r = true → a0.Abilities.length ≤ 8))) := by
 obtain ⟨al0, O0, i0⟩ := h
 subst al0
 dsimp only [Zst, LT.den]
 exact tL ⟨rfl, O0, cl, cl⟩ Za05
theorem Za1f (a0 : Zn) (oa0 : Zaf a0) : Tot (Zauo a0) (fun r => (r = true → a0.Abilities.length ≤ 8)) := by
 unfold Zauo
 refine tX (Inv := (Z5l a0)) (μ := Zzv) (m := (1000000, 0, 0, 0, 0, 0)) ?_ ?_
 ·dsimp only [Zaum, LT.den]
  refine tB (Z5f a0.Name (SzS.t oa0.1)) (fun x1 h2 => ?_)
  refine tO (fun h3 => ?_) (fun h3 => ?_)
  ·exact tR Zg1
  ·refine tB (Zpn a0.Cost) (fun x4 h5 => ?_)
   have eh5_0 := h5.1
   have eh5_1 := h5.2
   refine tO (fun h6 => ?_) (fun h6 => ?_)
   ·exact tR Zg1
   ·have h6_0 := eh5_0 h6
    have h6_1 := eh5_1 h6
    refine tB (Za08 a0.Line oa0.2.1) (fun x7 h8 => ?_)
    refine tO (fun h9 => ?_) (fun h9 => ?_)
    ·exact tR Zg1
    ·refine tB (Zalh a0.Keys) (fun x10 h11 => ?_)
     refine tO (fun h12 => ?_) (fun h12 => ?_)
     ·exact tR Zg1
     ·refine tD (fun h13 => ?_) (fun h13 => ?_)
      ·exact tR Zg1
      ·refine tD (fun h14 => ?_) (fun h14 => ?_)
       ·exact tR Zg1
       ·refine tD (fun h15 => ?_) (fun h15 => ?_)
        ·exact tR Zg1
        ·refine tD (fun h16 => ?_) (fun h16 => ?_)
         ·exact tR Zg1
         ·refine tD (fun h17 => ?_) (fun h17 => ?_)
          ·exact tR Zg1
          ·refine tD (fun h18 => ?_) (fun h18 => ?_)
           ·exact tR Zg1
           ·refine tB (Zagx a0 oa0) (fun x19 h20 => ?_)
            refine tO (fun h21 => ?_) (fun h21 => ?_)
            ·refine tN (fun h22 => ?_) (fun h22 => ?_)
             ·exact tR Zg1
             ·refine tN (fun h23 => ?_) (fun h23 => ?_)
              ·exact tR Zg1
              ·have q24 := oa0.2.2.1
               refine tD (fun h25 => ?_) (fun h25 => ?_)
               ·exact tR Zg1
               ·exact tJ (Zuo a0 a0 ⟨rfl, oa0, cl⟩)
            ·have q26 := oa0.2.2.1
             refine tD (fun h27 => ?_) (fun h27 => ?_)
             ·exact tR Zg1
             ·exact tJ (Zuo a0 a0 ⟨rfl, oa0, cl⟩)
 ·intro s hs
  cases s with
  | L0 E0 => exact Zuo a0 E0 hs
  | L1 E0 v3 v4 =>
   obtain ⟨al0, O0, cv4, i0⟩ := hs
   subst al0
   show Tot (Z8o E0 v3 v4).den _
   dsimp only [Z8o, LT.den, Zzv]
   have q1 := O0.2.2.1
   refine tD (fun h2 => ?_) (fun h2 => ?_)
   ·refine tB (tI (by omega) (by omega)) (fun x3 h4 => ?_)
    have oh4 : Zat x3 := O0.2.2.2 x3 h4.1
    refine tB (Zvf x3 oh4) (fun x5 h6 => ?_)
    refine tO (fun h7 => ?_) (fun h7 => ?_)
    ·exact tR Zg1
    ·refine tE (fun h8 => ?_) (fun h8 => ?_)
     ·refine qw (v3 + 1) fun q9 q10 => ?_
      refine qw (v4 + 1) fun q11 q12 => ?_
      exact tL ⟨rfl, O0, cl, cl⟩ Za05
     ·refine qw (v4 + 1) fun q13 q14 => ?_
      exact tL ⟨rfl, O0, cl, cl⟩ Za05
   ·refine tB (Zawg E0 O0) (fun x15 h16 => ?_)
    refine tF (fun h17 => ?_) (fun h17 => ?_)
    ·refine tO (fun h18 => ?_) (fun h18 => ?_)
     ·refine tE (fun h19 => ?_) (fun h19 => ?_)
      ·refine tE (fun h20 => ?_) (fun h20 => ?_)
       ·exact tR Zg1
       ·exact tR Zg1
      ·exact tR Zg1
     ·exact tR Zg1
    ·refine tE (fun h21 => ?_) (fun h21 => ?_)
     ·refine tO (fun h22 => ?_) (fun h22 => ?_)
      ·refine tE (fun h23 => ?_) (fun h23 => ?_)
       ·exact tR Zg1
       ·exact tR Zg1
      ·exact tR Zg1
     ·exact tR Zg1
def Zawh : Zot → Prop
 | .L0 v0 v1 v5 => ((SzL 176 Zaf) v0) ∧ (SzT v1) ∧ (0 ≤ v5)
def Z1u : Zot → M6
 | .L0 v0 v1 v5 => (1, ((v0.length : Int) - v5).toNat, 1000000, 0, 0, 0)
theorem Zawi (a0 : (List Zn)) (a1 : (List UInt8)) (oa0 : (SzL 176 Zaf) a0) (oa1 : SzT a1) : Tot (Zaf8 a0 a1) (fun r => True) := by
 unfold Zaf8
 refine tX (Inv := Zawh) (μ := Z1u) (m := (1000000, 0, 0, 0, 0, 0)) ?_ ?_
 ·have lb_a0 := oa0.1
  have lb_a1 : a1.length ≤ 562949953421312 := oa1
  dsimp only [Zajx, LT.den]
  exact tL ⟨oa0, oa1, cl⟩ (by unfold Z1u lt6; dsimp only; omega)
 ·intro s hs
  cases s with
  | L0 v0 v1 v5 =>
   obtain ⟨ov0, ov1, cv5⟩ := hs
   have lb_v0 := ov0.1
   have lb_v1 : v1.length ≤ 562949953421312 := ov1
   show Tot (Z0t v0 v1 v5).den _
   dsimp only [Z0t, LT.den]
   have q1 := ov0.1
   refine tD (fun h2 => ?_) (fun h2 => ?_)
   ·refine tB (tI (by omega) (by omega)) (fun x3 h4 => ?_)
    have oh4 : Zaf x3 := ov0.2 x3 h4.1
    refine tF (fun h5 => ?_) (fun h5 => ?_)
    ·exact tR trivial
    ·refine qw (v5 + 1) fun q6 q7 => ?_
     exact tL ⟨ov0, ov1, cl⟩ (by unfold Z1u lt6; dsimp only; omega)
   ·exact tR trivial
def Zaq0 : Zl1 → Prop
 | .L0 v0 v1 v5 => ((SzL 176 Zaf) v0) ∧ (SzT v1) ∧ (0 ≤ v5)
def Zaa6 : Zl1 → M6
 | .L0 v0 v1 v5 => (1, ((v0.length : Int) - v5).toNat, 1000000, 0, 0, 0)
theorem Zaq1 (a0 : (List Zn)) (a1 : (List UInt8)) (oa0 : (SzL 176 Zaf) a0) (oa1 : SzT a1) : Tot (Z8p a0 a1) (fun r => True) := by
 unfold Z8p
 refine tX (Inv := Zaq0) (μ := Zaa6) (m := (1000000, 0, 0, 0, 0, 0)) ?_ ?_
 ·have lb_a0 := oa0.1
  have lb_a1 : a1.length ≤ 562949953421312 := oa1
  dsimp only [Zada, LT.den]
  exact tL ⟨oa0, oa1, cl⟩ tk85
 ·intro s hs
  cases s with
  | L0 v0 v1 v5 =>
   obtain ⟨ov0, ov1, cv5⟩ := hs
   have lb_v0 := ov0.1
   have lb_v1 : v1.length ≤ 562949953421312 := ov1
   show Tot (Zwd v0 v1 v5).den _
   dsimp only [Zwd, LT.den]
   have q1 := ov0.1
   refine tD (fun h2 => ?_) (fun h2 => ?_)
   ·refine tB (tI (by omega) (by omega)) (fun x3 h4 => ?_)
    have oh4 : Zaf x3 := ov0.2 x3 h4.1
    refine tF (fun h5 => ?_) (fun h5 => ?_)
    ·refine tF (fun h6 => ?_) (fun h6 => ?_)
     ·exact tR trivial
     ·refine qw (v5 + 1) fun q7 q8 => ?_
      exact tL ⟨ov0, ov1, cl⟩ tk85
    ·refine qw (v5 + 1) fun q9 q10 => ?_
     exact tL ⟨ov0, ov1, cl⟩ tk85
   ·exact tR trivial
def Zalk : Zhe → Prop
 | .L0 v0 E0 v5 => ((SzL 176 Zaf) v0) ∧ (Zaf E0) ∧ (0 ≤ v5)
 | .L1 v0 E0 v5 v6 => ((SzL 176 Zaf) v0) ∧ (Zaf E0) ∧ (0 ≤ v5) ∧ (0 ≤ v6) ∧ (v5 < (E0.Abilities.length : Int)) ∧ (v5 < (E0.Abilities.length : Int))
def Z3g : Zhe → M6
 | .L0 v0 E0 v5 => (1, ((E0.Abilities.length : Int) - v5).toNat, 1000000, 0, 0, 0)
 | .L1 v0 E0 v5 v6 => (1, ((E0.Abilities.length : Int) - v5).toNat, 1, ((((E0.Abilities[v5.toNat]?).map fun x => x.Effects.length).getD 0 : Nat) - v6).toNat, 1000000, 0)
theorem Zall (a0 : (List Zn)) (a1 : Zn) (oa0 : (SzL 176 Zaf) a0) (oa1 : Zaf a1) : Tot (Z0u a0 a1) (fun r => True) := by
 unfold Z0u
 refine tX (Inv := Zalk) (μ := Z3g) (m := (1000000, 0, 0, 0, 0, 0)) ?_ ?_
 ·have lb_a0 := oa0.1
  dsimp only [Z5x, LT.den]
  exact tL ⟨oa0, oa1, cl⟩ tk66
 ·intro s hs
  cases s with
  | L0 v0 E0 v5 =>
   obtain ⟨ov0, O0, cv5⟩ := hs
   have lb_v0 := ov0.1
   show Tot (Zqe v0 E0 v5).den _
   dsimp only [Zqe, LT.den]
   have q1 := O0.2.2.1
   refine tD (fun h2 => ?_) (fun h2 => ?_)
   ·exact tL ⟨ov0, O0, cl, cl, cl, cl⟩ tk66
   ·exact tR trivial
  | L1 v0 E0 v5 v6 =>
   obtain ⟨ov0, O0, cv5, cv6, bd4, i0⟩ := hs
   have lb_v0 := ov0.1
   show Tot (Zqf v0 E0 v5 v6).den _
   dsimp only [Zqf, LT.den]
   have lx_0 : E0.Abilities.length * 640 ≤ 140737488351232 := O0.2.2.1
   refine tB (tI (by omega) (by omega)) (fun x1 h2 => ?_)
   have oh2 : Zat x1 := O0.2.2.2 x1 h2.1
   have mh2 : ((E0.Abilities[v5.toNat]?).map fun x => x.Effects.length).getD 0 = x1.Effects.length := by rw [h2.2]; rfl
   have q3 := oh2.2.2.2.2.1.1
   refine tD (fun h4 => ?_) (fun h4 => ?_)
   ·refine tB (tI (by omega) (by omega)) (fun x5 h6 => ?_)
    have oh6 : Zan x5 := oh2.2.2.2.2.1.2 x5 h6.1
    refine tE (fun h7 => ?_) (fun h7 => ?_)
    ·refine tB (Zaq1 v0 x5.Card ov0 (SzS.t oh6.2.2.1)) (fun x8 h9 => ?_)
     refine tO (fun h10 => ?_) (fun h10 => ?_)
     ·exact tR trivial
     ·refine qw (v6 + 1) fun q11 q12 => ?_
      exact tL ⟨ov0, O0, cl, cl, cl, cl⟩ tk66
    ·refine qw (v6 + 1) fun q13 q14 => ?_
     exact tL ⟨ov0, O0, cl, cl, cl, cl⟩ tk66
   ·refine qw (v5 + 1) fun q15 q16 => ?_
    exact tL ⟨ov0, O0, cl⟩ tk66
def Zaq2 (a0 : (List Zn)) : Zl2 → Prop
 | .L0 v0 v4 => (v0 = a0) ∧ ((SzL 176 Zaf) v0) ∧ (0 ≤ v4) ∧ (∀ (k : Nat) c, (k : Int) < v4 → v0[k]? = some c → c.Abilities.length ≤ 8)
def Zx1 : Zl2 → M6
 | .L0 v0 v4 => (1, ((v0.length : Int) - v4).toNat, 1000000, 0, 0, 0)
theorem Zaq3 (a0 : (List Zn)) (oa0 : (SzL 176 Zaf) a0) : Tot (Z8q a0) (fun r => (r.2 = 0 → ∀ c, c ∈ a0 → c.Abilities.length ≤ 8)) := by
 unfold Z8q
 refine tX (Inv := (Zaq2 a0)) (μ := Zx1) (m := (1000000, 0, 0, 0, 0, 0)) ?_ ?_
 ·have lb_a0 := oa0.1
  dsimp only [Zadc, LT.den]
  have q1 := oa0.1
  refine tD (fun h2 => ?_) (fun h2 => ?_)
  ·exact tR tk20
  ·exact tL ⟨rfl, oa0, cl, tk13⟩ (by unfold Zx1 lt6; dsimp only; omega)
 ·intro s hs
  cases s with
  | L0 v0 v4 =>
   obtain ⟨al0, ov0, cv4, i0⟩ := hs
   have lb_v0 := ov0.1
   subst al0
   show Tot (Zwe v0 v4).den _
   dsimp only [Zwe, LT.den]
   have q1 := ov0.1
   refine tD (fun h2 => ?_) (fun h2 => ?_)
   ·refine tB (tI (by omega) (by omega)) (fun x3 h4 => ?_)
    have oh4 : Zaf x3 := ov0.2 x3 h4.1
    have mh4 := h4.2
    refine tB (Za1f x3 oh4) (fun x5 h6 => ?_)
    have eh6_0 := h6
    refine tO (fun h7 => ?_) (fun h7 => ?_)
    ·exact tR tk20
    ·have h7_0 := eh6_0 h7
     refine tB (Zawi v0 x3.Name ov0 (SzS.t oh4.1)) (fun x8 h9 => ?_)
     refine tD (fun h10 => ?_) (fun h10 => ?_)
     ·exact tR tk20
     ·refine tB (Zall v0 x3 ov0 oh4) (fun x11 h12 => ?_)
      refine tO (fun h13 => ?_) (fun h13 => ?_)
      ·exact tR tk20
      ·refine qw (v4 + 1) fun q14 q15 => ?_
       exact tL ⟨rfl, ov0, cl, tk13⟩ (by unfold Zx1 lt6; dsimp only; omega)
   ·exact tR tk20
theorem Zdc (a0 : Int) (a1 : Int) (a2 : Int) : Tot (Zaut a0 a1 a2) (fun r => (r = true ↔ (a1 ≤ a0 ∧ a0 ≤ a2))) := by
 unfold Zaut
 refine tZ ?_
 dsimp only [Zaur, LT.den]
 refine tD (fun h1 => ?_) (fun h1 => ?_)
 ·exact tR (by grind)
 ·exact tR (by grind)
def Zaq4 : Zl3 → Prop
 | .L0 E0 v3 => (0 ≤ v3) ∧ True
def Zx2 : Zl3 → M6
 | .L0 E0 v3 => (1, (6 - v3).toNat, 1000000, 0, 0, 0)
theorem Zaq5 (a0 : (A6 Int)) : Tot (Z8r a0) (fun r => True) := by
 unfold Z8r
 refine tX (Inv := Zaq4) (μ := Zx2) (m := (1000000, 0, 0, 0, 0, 0)) ?_ ?_
 ·dsimp only [Zade, LT.den]
  exact tL ⟨cl, trivial⟩ (by unfold Zx2 lt6; dsimp only; omega)
 ·intro s hs
  cases s with
  | L0 E0 v3 =>
   obtain ⟨cv3, _⟩ := hs
   show Tot (Zwf E0 v3).den _
   dsimp only [Zwf, LT.den]
   refine tD (fun h1 => ?_) (fun h1 => ?_)
   ·refine tB (tI (by omega) tk56) (fun x2 h3 => ?_)
    refine tD (fun h4 => ?_) (fun h4 => ?_)
    ·exact tR trivial
    ·refine tB (tI (by omega) tk56) (fun x5 h6 => ?_)
     refine tD (fun h7 => ?_) (fun h7 => ?_)
     ·exact tR trivial
     ·refine qw (v3 + 1) fun q8 q9 => ?_
      exact tL ⟨cl, trivial⟩ (by unfold Zx2 lt6; dsimp only; omega)
   ·exact tR trivial
def Zaq6 (a0 : Zb) (a1 : Int) : Zl4 → Prop
 | .L0 v1 E0 v5 => (E0 = a0) ∧ (v1 = a1) ∧ (Zq E0) ∧ (0 ≤ v5) ∧ (Z48 E0.Objects v1 v5)
def Zx3 : Zl4 → M6
 | .L0 v1 E0 v5 => (1, ((E0.Objects.length : Int) - v5).toNat, 1000000, 0, 0, 0)
theorem Zaq7 (a0 : Zb) (a1 : Int) (oa0 : Zq a0) : Tot (Z8s a0 a1) (fun r => (r < (a0.Objects.length : Int)) ∧ (r = ixO a0.Objects a1)) := by
 unfold Z8s
 refine tX (Inv := (Zaq6 a0 a1)) (μ := Zx3) (m := (1000000, 0, 0, 0, 0, 0)) ?_ ?_
 ·dsimp only [Zadg, LT.den]
  exact tL ⟨rfl, rfl, oa0, cl, tk22⟩ (by unfold Zx3 lt6; dsimp only; omega)
 ·intro s hs
  cases s with
  | L0 v1 E0 v5 =>
   obtain ⟨al0, al1, O0, cv5, i0⟩ := hs
   subst al0
   subst al1
   show Tot (Zwg v1 E0 v5).den _
   dsimp only [Zwg, LT.den]
   have q1 := O0.2.1.1
   refine tD (fun h2 => ?_) (fun h2 => ?_)
   ·refine tB (tI (by omega) (by omega)) (fun x3 h4 => ?_)
    have mh4 := h4.2
    refine tE (fun h5 => ?_) (fun h5 => ?_)
    ·exact tR ⟨cl, tk16⟩
    ·refine qw (v5 + 1) fun q6 q7 => ?_
     exact tL ⟨rfl, rfl, O0, cl, tk22⟩ (by unfold Zx3 lt6; dsimp only; omega)
   ·exact tR ⟨cl, tk16⟩
theorem Zawj (a0 : Zb) (a1 : Int) (oa0 : Zq a0) : Tot (Zaf9 a0 a1) (fun r => (r = fdV a0.Objects a1)) := by
 unfold Zaf9
 refine tZ ?_
 dsimp only [Zajz, LT.den]
 refine tB (Zaq7 a0 a1 oa0) (fun x1 h2 => ?_)
 have eh2_0 := h2.1
 have eh2_1 := h2.2
 have lh2 := Zale a0.Objects a1
 refine tD (fun h3 => ?_) (fun h3 => ?_)
 ·exact tR tk27
 ·refine tB (tI (by omega) (by omega)) (fun x4 h5 => ?_)
  have mh5 := h5.2
  exact tR tk27
theorem Z3h (a0 : Zb) (a1 : Int) (oa0 : Zq a0) : Tot (Z4k a0 a1) (fun r => True) := by
 unfold Z4k
 refine tZ ?_
 dsimp only [Z8t, LT.den]
 refine tB (Zawj a0 a1 oa0) (fun x1 h2 => ?_)
 have eh2_0 := h2
 exact tR trivial
def Zaq8 : Zl5 → Prop
 | .L0 v0 v1 v5 v6 => ((SzL 8 (fun _ => True)) v0) ∧ (0 ≤ v6)
def Zaa7 : Zl5 → M6
 | .L0 v0 v1 v5 v6 => (1, ((v0.length : Int) - v6).toNat, 1000000, 0, 0, 0)
theorem Zup (a0 : (List Int)) (a1 : Int) (oa0 : (SzL 8 (fun _ => True)) a0) : Tot (Z8v a0 a1) (fun r => True) := by
 unfold Z8v
 refine tX (Inv := Zaq8) (μ := Zaa7) (m := (1000000, 0, 0, 0, 0, 0)) ?_ ?_
 ·have lb_a0 := oa0.1
  dsimp only [Zadi, LT.den]
  exact tL ⟨oa0, cl⟩ tk86
 ·intro s hs
  cases s with
  | L0 v0 v1 v5 v6 =>
   obtain ⟨ov0, cv6⟩ := hs
   have lb_v0 := ov0.1
   show Tot (Zwh v0 v1 v5 v6).den _
   dsimp only [Zwh, LT.den]
   have q1 := ov0.1
   refine tD (fun h2 => ?_) (fun h2 => ?_)
   ·refine tB (tI (by omega) (by omega)) (fun x3 h4 => ?_)
    refine tE (fun h5 => ?_) (fun h5 => ?_)
    ·refine qw (v5 + 1) fun q6 q7 => ?_
     refine qw (v6 + 1) fun q8 q9 => ?_
     exact tL ⟨ov0, cl⟩ tk86
    ·refine qw (v6 + 1) fun q10 q11 => ?_
     exact tL ⟨ov0, cl⟩ tk86
   ·exact tR trivial
def Zawk : Zou → Prop
 | .L0 v1 v2 v3 E0 v9 => ((SzL 8 (fun _ => True)) v1) ∧ (Zq E0) ∧ (0 ≤ v9)
def Zae0 : Zou → M6
 | .L0 v1 v2 v3 E0 v9 => (1, ((v1.length : Int) - v9).toNat, 1000000, 0, 0, 0)
theorem Zks (a0 : Zb) (a1 : (List Int)) (a2 : Int) (a3 : Int) (oa0 : Zq a0) (oa1 : (SzL 8 (fun _ => True)) a1) : Tot (Zaga a0 a1 a2 a3) (fun r => True) := by
 unfold Zaga
 refine tX (Inv := Zawk) (μ := Zae0) (m := (1000000, 0, 0, 0, 0, 0)) ?_ ?_
 ·have lb_a1 := oa1.1
  dsimp only [Zaj1, LT.den]
  exact tL ⟨oa1, oa0, cl⟩ tk95
 ·intro s hs
  cases s with
  | L0 v1 v2 v3 E0 v9 =>
   obtain ⟨ov1, O0, cv9⟩ := hs
   have lb_v1 := ov1.1
   show Tot (Z0v v1 v2 v3 E0 v9).den _
   dsimp only [Z0v, LT.den]
   have q1 := ov1.1
   refine tD (fun h2 => ?_) (fun h2 => ?_)
   ·refine tB (tI (by omega) (by omega)) (fun x3 h4 => ?_)
    refine tB (Z3h E0 x3 O0) (fun x5 h6 => ?_)
    refine tO (fun h7 => ?_) (fun h7 => ?_)
    ·exact tR trivial
    ·refine tN (fun h8 => ?_) (fun h8 => ?_)
     ·exact tR trivial
     ·refine tD (fun h9 => ?_) (fun h9 => ?_)
      ·refine tN (fun h10 => ?_) (fun h10 => ?_)
       ·exact tR trivial
       ·refine tB (Zup v1 x3 ov1) (fun x11 h12 => ?_)
        refine tN (fun h13 => ?_) (fun h13 => ?_)
        ·exact tR trivial
        ·refine qw (v9 + 1) fun q14 q15 => ?_
         exact tL ⟨ov1, O0, cl⟩ tk95
      ·refine tB (Zup v1 x3 ov1) (fun x16 h17 => ?_)
       refine tN (fun h18 => ?_) (fun h18 => ?_)
       ·exact tR trivial
       ·refine qw (v9 + 1) fun q19 q20 => ?_
        exact tL ⟨ov1, O0, cl⟩ tk95
   ·exact tR trivial
def Zalm : Zi3 → Prop
 | .L0 E0 v3 => (Zq E0) ∧ (0 ≤ v3)
def Zq8 : Zi3 → M6
 | .L0 E0 v3 => (1, ((E0.Players.length : Int) - v3).toNat, 1000000, 0, 0, 0)
theorem Zaln (a0 : Zb) (oa0 : Zq a0) : Tot (Z0w a0) (fun r => True) := by
 unfold Z0w
 refine tX (Inv := Zalm) (μ := Zq8) (m := (1000000, 0, 0, 0, 0, 0)) ?_ ?_
 ·dsimp only [Z50, LT.den]
  have q1 := oa0.1.1
  refine tB (Zdc (a0.Players.length : Int) 2 4) (fun x2 h3 => ?_)
  have eh3_0 := h3
  refine tO (fun h4 => ?_) (fun h4 => ?_)
  ·exact tR trivial
  ·exact tL ⟨oa0, cl⟩ (by unfold Zq8 lt6; dsimp only; omega)
 ·intro s hs
  cases s with
  | L0 E0 v3 =>
   obtain ⟨O0, cv3⟩ := hs
   show Tot (Zqg E0 v3).den _
   dsimp only [Zqg, LT.den]
   have q1 := O0.1.1
   refine tD (fun h2 => ?_) (fun h2 => ?_)
   ·refine tB (tI (by omega) (by omega)) (fun x3 h4 => ?_)
    have oh4 : Zbv x3 := O0.1.2 x3 h4.1
    refine tB (Zdc x3.Life (-1000000) 1000000) (fun x5 h6 => ?_)
    have eh6_0 := h6
    refine tO (fun h7 => ?_) (fun h7 => ?_)
    ·exact tR trivial
    ·refine tB (Zdc x3.Venom 0 1000000) (fun x8 h9 => ?_)
     have eh9_0 := h9
     refine tO (fun h10 => ?_) (fun h10 => ?_)
     ·exact tR trivial
     ·refine tB (Zdc x3.Lands 0 1000000) (fun x11 h12 => ?_)
      have eh12_0 := h12
      refine tO (fun h13 => ?_) (fun h13 => ?_)
      ·exact tR trivial
      ·refine tB (Zaq5 x3.Pool) (fun x14 h15 => ?_)
       refine tO (fun h16 => ?_) (fun h16 => ?_)
       ·exact tR trivial
       ·refine tB (Zks E0 x3.Library 2 v3 O0 oh4.1) (fun x17 h18 => ?_)
        refine tO (fun h19 => ?_) (fun h19 => ?_)
        ·exact tR trivial
        ·refine tB (Zks E0 x3.Hand 1 v3 O0 oh4.2.1) (fun x20 h21 => ?_)
         refine tO (fun h22 => ?_) (fun h22 => ?_)
         ·exact tR trivial
         ·refine tB (Zks E0 x3.Graveyard 3 v3 O0 oh4.2.2) (fun x23 h24 => ?_)
          refine tO (fun h25 => ?_) (fun h25 => ?_)
          ·exact tR trivial
          ·refine qw (v3 + 1) fun q26 q27 => ?_
           exact tL ⟨O0, cl⟩ (by unfold Zq8 lt6; dsimp only; omega)
   ·refine tB (Zks E0 E0.Battlefield 0 (-1) O0 O0.2.2.1) (fun x28 h29 => ?_)
    refine tF (fun h30 => ?_) (fun h30 => ?_)
    ·refine tB (Zks E0 E0.Exile 4 (-1) O0 O0.2.2.2.1) (fun x31 h32 => ?_)
     exact tR trivial
    ·exact tR trivial
theorem Zds (a0 : Zb) (a1 : Int) (oa0 : Zq a0) : Tot (Z4l a0 a1) (fun r => (r = true ↔ (0 ≤ a1 ∧ a1 < (a0.Players.length : Int)))) := by
 unfold Z4l
 refine tZ ?_
 dsimp only [Z8w, LT.den]
 have q1 := oa0.1.1
 refine qw ((a0.Players.length : Int) - 1) fun q2 q3 => ?_
 refine tB (Zdc a1 0 (IntKind.wrap .i64 ((a0.Players.length : Int) - 1))) (fun x4 h5 => ?_)
 have eh5_0 := h5
 exact tR (by grind)
def Za1g : Zwj → Prop
 | .L0 E0 v3 => (0 ≤ v3) ∧ True
def Zaa8 : Zwj → M6
 | .L0 E0 v3 => (1, (3 - v3).toNat, 1000000, 0, 0, 0)
theorem Za1h (a0 : (A3 Int)) : Tot (Zauy a0) (fun r => True) := by
 unfold Zauy
 refine tX (Inv := Za1g) (μ := Zaa8) (m := (1000000, 0, 0, 0, 0, 0)) ?_ ?_
 ·dsimp only [Zauw, LT.den]
  exact tL ⟨cl, trivial⟩ (by unfold Zaa8 lt6; dsimp only; omega)
 ·intro s hs
  cases s with
  | L0 E0 v3 =>
   obtain ⟨cv3, _⟩ := hs
   show Tot (Z8y E0 v3).den _
   dsimp only [Z8y, LT.den]
   refine tD (fun h1 => ?_) (fun h1 => ?_)
   ·refine tB (tI (by omega) (by have e : (A3.list E0).length = 3 := rfl; omega)) (fun x2 h3 => ?_)
    refine tD (fun h4 => ?_) (fun h4 => ?_)
    ·exact tR trivial
    ·refine tB (tI (by omega) (by have e : (A3.list E0).length = 3 := rfl; omega)) (fun x5 h6 => ?_)
     refine tD (fun h7 => ?_) (fun h7 => ?_)
     ·exact tR trivial
     ·refine qw (v3 + 1) fun q8 q9 => ?_
      exact tL ⟨cl, trivial⟩ (by unfold Zaa8 lt6; dsimp only; omega)
   ·exact tR trivial
theorem Zawl (a0 : Zg) : Tot (Zagb a0) (fun r => True) := by
 unfold Zagb
 refine tZ ?_
 dsimp only [Zaj3, LT.den]
 exact tR trivial
theorem Zaq9 (a0 : Zg) : Tot (Z8z a0) (fun r => True) := by
 unfold Z8z
 refine tZ ?_
 dsimp only [Zadk, LT.den]
 exact tR trivial
theorem Za1i (a0 : Zg) (a1 : Int) (a2 : Int) : Tot (Zau2 a0 a1 a2) (fun r => True) := by
 unfold Zau2
 refine tZ ?_
 dsimp only [Zau0, LT.den]
 refine tD (fun h1 => ?_) (fun h1 => ?_)
 ·exact tR trivial
 ·refine tD (fun h2 => ?_) (fun h2 => ?_)
  ·exact tR trivial
  ·refine tD (fun h3 => ?_) (fun h3 => ?_)
   ·exact tR trivial
   ·refine tD (fun h4 => ?_) (fun h4 => ?_)
    ·exact tR trivial
    ·refine tD (fun h5 => ?_) (fun h5 => ?_)
     ·exact tR trivial
     ·refine tD (fun h6 => ?_) (fun h6 => ?_)
      ·exact tR trivial
      ·refine tD (fun h7 => ?_) (fun h7 => ?_)
       ·exact tR trivial
       ·refine tD (fun h8 => ?_) (fun h8 => ?_)
        ·exact tR trivial
        ·refine tD (fun h9 => ?_) (fun h9 => ?_)
         ·exact tR trivial
         ·refine tD (fun h10 => ?_) (fun h10 => ?_)
          ·exact tR trivial
          ·refine tD (fun h11 => ?_) (fun h11 => ?_)
           ·exact tR trivial
           ·refine tD (fun h12 => ?_) (fun h12 => ?_)
            ·exact tR trivial
            ·refine tD (fun h13 => ?_) (fun h13 => ?_)
             ·exact tR trivial
             ·refine tD (fun h14 => ?_) (fun h14 => ?_)
              ·exact tR trivial
              ·refine tD (fun h15 => ?_) (fun h15 => ?_)
               ·exact tR trivial
               ·refine tD (fun h16 => ?_) (fun h16 => ?_)
                ·exact tR trivial
                ·refine tD (fun h17 => ?_) (fun h17 => ?_)
                 ·exact tR trivial
                 ·refine tB (Za1h a0.Counters) (fun x18 h19 => ?_)
                  refine tO (fun h20 => ?_) (fun h20 => ?_)
                  ·exact tR trivial
                  ·refine tD (fun h21 => ?_) (fun h21 => ?_)
                   ·exact tR trivial
                   ·refine tD (fun h22 => ?_) (fun h22 => ?_)
                    ·exact tR trivial
                    ·refine tD (fun h23 => ?_) (fun h23 => ?_)
                     ·exact tR trivial
                     ·refine tD (fun h24 => ?_) (fun h24 => ?_)
                      ·exact tR trivial
                      ·refine tE (fun h25 => ?_) (fun h25 => ?_)
                       ·exact tR trivial
                       ·refine tB (Zawl a0) (fun x26 h27 => ?_)
                        refine tF (fun h28 => ?_) (fun h28 => ?_)
                        ·refine tB (Zaq9 a0) (fun x29 h30 => ?_)
                         refine tF (fun h31 => ?_) (fun h31 => ?_)
                         ·refine tO (fun h32 => ?_) (fun h32 => ?_)
                          ·refine tO (fun h33 => ?_) (fun h33 => ?_)
                           ·exact tR trivial
                           ·exact tR trivial
                          ·exact tR trivial
                         ·exact tR trivial
                        ·exact tR trivial
def Zan6 : Zkh → Prop
 | .L0 v1 E0 v5 v6 => (Zq E0) ∧ (0 ≤ v6)
def Z62 : Zkh → M6
 | .L0 v1 E0 v5 v6 => (1, ((E0.Stack.length : Int) - v6).toNat, 1000000, 0, 0, 0)
theorem Zan7 (a0 : Zb) (a1 : Int) (oa0 : Zq a0) : Tot (Z4m a0 a1) (fun r => True) := by
 unfold Z4m
 refine tX (Inv := Zan6) (μ := Z62) (m := (1000000, 0, 0, 0, 0, 0)) ?_ ?_
 ·dsimp only [Z80, LT.den]
  exact tL ⟨oa0, cl⟩ tk76
 ·intro s hs
  cases s with
  | L0 v1 E0 v5 v6 =>
   obtain ⟨O0, cv6⟩ := hs
   show Tot (Ztj v1 E0 v5 v6).den _
   dsimp only [Ztj, LT.den]
   have q1 := O0.2.2.2.2.1.1
   refine tD (fun h2 => ?_) (fun h2 => ?_)
   ·refine tB (tI (by omega) (by omega)) (fun x3 h4 => ?_)
    have oh4 : Zhs x3 := O0.2.2.2.2.1.2 x3 h4.1
    refine tE (fun h5 => ?_) (fun h5 => ?_)
    ·refine tE (fun h6 => ?_) (fun h6 => ?_)
     ·refine qw (v5 + 1) fun q7 q8 => ?_
      refine qw (v6 + 1) fun q9 q10 => ?_
      exact tL ⟨O0, cl⟩ tk76
     ·refine qw (v6 + 1) fun q11 q12 => ?_
      exact tL ⟨O0, cl⟩ tk76
    ·refine qw (v6 + 1) fun q13 q14 => ?_
     exact tL ⟨O0, cl⟩ tk76
   ·exact tR trivial
theorem Zkt (a0 : (List Int)) (oa0 : (SzL 8 (fun _ => True)) a0) : Tot (Zagc a0) (fun r => ((SzL 8 (fun _ => True)) r)) := by
 unfold Zagc
 refine tZ ?_
 have lb_a0 := oa0.1
 dsimp only [Zaj5, LT.den]
 have q3 := oa0.1
 refine tB (tA Zlj (by decide)) (fun x1 h2 => ?_)
 have lh2 : x1.length = ([] : (List Int)).length + a0.length := by rw [h2, List.length_append]
 try simp only [List.length_cons, List.length_nil, Nat.zero_add] at lh2
 exact tR ⟨lo, fun _ _ => trivial⟩
theorem Zawm (a0 : Zb) (a1 : Int) (a2 : Int) (oa0 : Zq a0) : Tot (Z4n a0 a1 a2) (fun r => ((SzL 8 (fun _ => True)) r)) := by
 unfold Z4n
 refine tZ ?_
 dsimp only [Zaj7, LT.den]
 refine tE (fun h1 => ?_) (fun h1 => ?_)
 ·refine tB (Zkt a0.Battlefield oa0.2.2.1) (fun x2 h3 => ?_)
  exact tR h3
 ·refine tE (fun h4 => ?_) (fun h4 => ?_)
  ·refine tB (Zkt a0.Exile oa0.2.2.2.1) (fun x5 h6 => ?_)
   exact tR h6
  ·refine tD (fun h7 => ?_) (fun h7 => ?_)
   ·exact tR SzL.nil
   ·have q8 := oa0.1.1
    refine tD (fun h9 => ?_) (fun h9 => ?_)
    ·exact tR SzL.nil
    ·refine tE (fun h10 => ?_) (fun h10 => ?_)
     ·refine tB (tI (by omega) (by omega)) (fun x11 h12 => ?_)
      have oh12 : Zbv x11 := oa0.1.2 x11 h12.1
      refine tB (Zkt x11.Hand oh12.2.1) (fun x13 h14 => ?_)
      exact tR h14
     ·refine tE (fun h15 => ?_) (fun h15 => ?_)
      ·refine tB (tI (by omega) (by omega)) (fun x16 h17 => ?_)
       have oh17 : Zbv x16 := oa0.1.2 x16 h17.1
       refine tB (Zkt x16.Library oh17.1) (fun x18 h19 => ?_)
       exact tR h19
      ·refine tE (fun h20 => ?_) (fun h20 => ?_)
       ·refine tB (tI (by omega) (by omega)) (fun x21 h22 => ?_)
        have oh22 : Zbv x21 := oa0.1.2 x21 h22.1
        refine tB (Zkt x21.Graveyard oh22.2.2) (fun x23 h24 => ?_)
        exact tR h24
       ·exact tR SzL.nil
theorem Z3i (a0 : Zb) (a1 : Zg) (oa0 : Zq a0) : Tot (Z4o a0 a1) (fun r => True) := by
 unfold Z4o
 refine tZ ?_
 dsimp only [Z82, LT.den]
 refine tE (fun h1 => ?_) (fun h1 => ?_)
 ·refine tB (Zan7 a0 a1.Id oa0) (fun x2 h3 => ?_)
  exact tR trivial
 ·refine tB (Zawm a0 a1.Zone a1.Owner oa0) (fun x4 h5 => ?_)
  refine tB (Zup x4 a1.Id h5) (fun x6 h7 => ?_)
  exact tR trivial
def Zalo : Zi4 → Prop
 | .L0 v0 E0 v5 => ((SzL 176 Zaf) v0) ∧ (Zq E0) ∧ (0 ≤ v5)
def Z3j : Zi4 → M6
 | .L0 v0 E0 v5 => (1, ((E0.Objects.length : Int) - v5).toNat, 1000000, 0, 0, 0)
theorem Zj1 (a0 : (List Zn)) (a1 : Zb) (oa0 : (SzL 176 Zaf) a0) (oa1 : Zq a1) : Tot (Z0x a0 a1) (fun r => True) := by
 unfold Z0x
 refine tX (Inv := Zalo) (μ := Z3j) (m := (1000000, 0, 0, 0, 0, 0)) ?_ ?_
 ·have lb_a0 := oa0.1
  dsimp only [Z53, LT.den]
  have q1 := oa1.2.1.1
  refine tD (fun h2 => ?_) (fun h2 => ?_)
  ·exact tR trivial
  ·exact tL ⟨oa0, oa1, cl⟩ tk67
 ·intro s hs
  cases s with
  | L0 v0 E0 v5 =>
   obtain ⟨ov0, O0, cv5⟩ := hs
   have lb_v0 := ov0.1
   show Tot (Zqh v0 E0 v5).den _
   dsimp only [Zqh, LT.den]
   have q1 := O0.2.1.1
   refine tD (fun h2 => ?_) (fun h2 => ?_)
   ·refine tB (tI (by omega) (by omega)) (fun x3 h4 => ?_)
    have q5 := ov0.1
    have q6 := O0.1.1
    refine tB (Za1i x3 (v0.length : Int) (E0.Players.length : Int)) (fun x7 h8 => ?_)
    refine tO (fun h9 => ?_) (fun h9 => ?_)
    ·exact tR trivial
    ·refine tD (fun h10 => ?_) (fun h10 => ?_)
     ·exact tR trivial
     ·refine tD (fun h11 => ?_) (fun h11 => ?_)
      ·exact tR trivial
      ·refine tD (fun h12 => ?_) (fun h12 => ?_)
       ·refine qw (v5 - 1) fun q13 q14 => ?_
        refine tB (tI (by omega) (by omega)) (fun x15 h16 => ?_)
        refine tD (fun h17 => ?_) (fun h17 => ?_)
        ·exact tR trivial
        ·refine tB (Z3i E0 x3 O0) (fun x18 h19 => ?_)
         refine tO (fun h20 => ?_) (fun h20 => ?_)
         ·exact tR trivial
         ·refine qw (v5 + 1) fun q21 q22 => ?_
          exact tL ⟨ov0, O0, cl⟩ tk67
       ·refine tB (Z3i E0 x3 O0) (fun x23 h24 => ?_)
        refine tO (fun h25 => ?_) (fun h25 => ?_)
        ·exact tR trivial
        ·refine qw (v5 + 1) fun q26 q27 => ?_
         exact tL ⟨ov0, O0, cl⟩ tk67
   ·exact tR trivial
def Zag4 : Zh4 → Prop
 | .L0 v0 v1 v5 => ((SzL 176 Zar) v0) ∧ ((SzL 176 Zar) v1) ∧ (0 ≤ v5) ∧ (v0.length = v1.length)
def Zpu : Zh4 → M6
 | .L0 v0 v1 v5 => (1, ((v0.length : Int) - v5).toNat, 1000000, 0, 0, 0)
theorem Zx4 (a0 : (List Zr)) (a1 : (List Zr)) (oa0 : (SzL 176 Zar) a0) (oa1 : (SzL 176 Zar) a1) : Tot (Zwk a0 a1) (fun r => True) := by
 unfold Zwk
 refine tX (Inv := Zag4) (μ := Zpu) (m := (1000000, 0, 0, 0, 0, 0)) ?_ ?_
 ·have lb_a0 := oa0.1
  have lb_a1 := oa1.1
  dsimp only [Z2l, LT.den]
  have q1 := oa0.1
  have q2 := oa1.1
  refine tN (fun h3 => ?_) (fun h3 => ?_)
  ·exact tR trivial
  ·exact tL ⟨oa0, oa1, cl, cl⟩ (by unfold Zpu lt6; dsimp only; omega)
 ·intro s hs
  cases s with
  | L0 v0 v1 v5 =>
   obtain ⟨ov0, ov1, cv5, i0⟩ := hs
   have lb_v0 := ov0.1
   have lb_v1 := ov1.1
   show Tot (Zov v0 v1 v5).den _
   dsimp only [Zov, LT.den]
   have q1 := ov0.1
   refine tD (fun h2 => ?_) (fun h2 => ?_)
   ·refine tB (tI (by omega) (by omega)) (fun x3 h4 => ?_)
    have oh4 : Zar x3 := ov0.2 x3 h4.1
    refine tB (tI (by omega) (by omega)) (fun x5 h6 => ?_)
    have oh6 : Zar x5 := ov1.2 x5 h6.1
    refine tO (fun h7 => ?_) (fun h7 => ?_)
    ·exact tR trivial
    ·refine qw (v5 + 1) fun q8 q9 => ?_
     exact tL ⟨ov0, ov1, cl, cl⟩ (by unfold Zpu lt6; dsimp only; omega)
   ·exact tR trivial
theorem Zawn (a0 : Zz) (a1 : Zz) (oa0 : Zan a0) (oa1 : Zan a1) : Tot (Zagd a0 a1) (fun r => True) := by
 unfold Zagd
 refine tZ ?_
 dsimp only [Zaj9, LT.den]
 refine tE (fun h1 => ?_) (fun h1 => ?_)
 ·refine tF (fun h2 => ?_) (fun h2 => ?_)
  ·refine tF (fun h3 => ?_) (fun h3 => ?_)
   ·refine tE (fun h4 => ?_) (fun h4 => ?_)
    ·refine tE (fun h5 => ?_) (fun h5 => ?_)
     ·refine tF (fun h6 => ?_) (fun h6 => ?_)
      ·refine tF (fun h7 => ?_) (fun h7 => ?_)
       ·refine tF (fun h8 => ?_) (fun h8 => ?_)
        ·refine tB (Zx4 a0.Mods a1.Mods oa0.2.2.2.2 oa1.2.2.2.2) (fun x9 h10 => ?_)
         exact tR trivial
        ·exact tR trivial
       ·exact tR trivial
      ·exact tR trivial
     ·exact tR trivial
    ·exact tR trivial
   ·exact tR trivial
  ·exact tR trivial
 ·exact tR trivial
def Zag5 : Zh5 → Prop
 | .L0 v0 v1 v5 => ((SzL 560 Zan) v0) ∧ ((SzL 560 Zan) v1) ∧ (0 ≤ v5) ∧ (v0.length = v1.length)
def Zpv : Zh5 → M6
 | .L0 v0 v1 v5 => (1, ((v0.length : Int) - v5).toNat, 1000000, 0, 0, 0)
theorem Zag6 (a0 : (List Zz)) (a1 : (List Zz)) (oa0 : (SzL 560 Zan) a0) (oa1 : (SzL 560 Zan) a1) : Tot (Zwl a0 a1) (fun r => True) := by
 unfold Zwl
 refine tX (Inv := Zag5) (μ := Zpv) (m := (1000000, 0, 0, 0, 0, 0)) ?_ ?_
 ·have lb_a0 := oa0.1
  have lb_a1 := oa1.1
  dsimp only [Z2n, LT.den]
  have q1 := oa0.1
  have q2 := oa1.1
  refine tN (fun h3 => ?_) (fun h3 => ?_)
  ·exact tR trivial
  ·exact tL ⟨oa0, oa1, cl, cl⟩ (by unfold Zpv lt6; dsimp only; omega)
 ·intro s hs
  cases s with
  | L0 v0 v1 v5 =>
   obtain ⟨ov0, ov1, cv5, i0⟩ := hs
   have lb_v0 := ov0.1
   have lb_v1 := ov1.1
   show Tot (Zow v0 v1 v5).den _
   dsimp only [Zow, LT.den]
   have q1 := ov0.1
   refine tD (fun h2 => ?_) (fun h2 => ?_)
   ·refine tB (tI (by omega) (by omega)) (fun x3 h4 => ?_)
    have oh4 : Zan x3 := ov0.2 x3 h4.1
    refine tB (tI (by omega) (by omega)) (fun x5 h6 => ?_)
    have oh6 : Zan x5 := ov1.2 x5 h6.1
    refine tB (Zawn x3 x5 oh4 oh6) (fun x7 h8 => ?_)
    refine tO (fun h9 => ?_) (fun h9 => ?_)
    ·exact tR trivial
    ·refine qw (v5 + 1) fun q10 q11 => ?_
     exact tL ⟨ov0, ov1, cl, cl⟩ (by unfold Zpv lt6; dsimp only; omega)
   ·exact tR trivial
def Zawo : Zox → Prop
 | .L0 E0 E1 v5 => (Zat E0) ∧ (Zat E1) ∧ (0 ≤ v5) ∧ (E0.Specs.length = E1.Specs.length)
def Z1v : Zox → M6
 | .L0 E0 E1 v5 => (1, ((E0.Specs.length : Int) - v5).toNat, 1000000, 0, 0, 0)
theorem Zawp (a0 : Zj) (a1 : Zj) (oa0 : Zat a0) (oa1 : Zat a1) : Tot (Zage a0 a1) (fun r => True) := by
 unfold Zage
 refine tX (Inv := Zawo) (μ := Z1v) (m := (1000000, 0, 0, 0, 0, 0)) ?_ ?_
 ·dsimp only [Zakc, LT.den]
  have q1 := oa0.2.2.2.1.1
  have q2 := oa1.2.2.2.1.1
  refine tN (fun h3 => ?_) (fun h3 => ?_)
  ·exact tR trivial
  ·exact tL ⟨oa0, oa1, cl, cl⟩ (by unfold Z1v lt6; dsimp only; omega)
 ·intro s hs
  cases s with
  | L0 E0 E1 v5 =>
   obtain ⟨O0, O1, cv5, i0⟩ := hs
   show Tot (Z0y E0 E1 v5).den _
   dsimp only [Z0y, LT.den]
   have q1 := O0.2.2.2.1.1
   refine tD (fun h2 => ?_) (fun h2 => ?_)
   ·refine tB (tI (by omega) (by omega)) (fun x3 h4 => ?_)
    have oh4 : Zgb x3 := O0.2.2.2.1.2 x3 h4.1
    refine tB (tI (by omega) (by omega)) (fun x5 h6 => ?_)
    have oh6 : Zgb x5 := O1.2.2.2.1.2 x5 h6.1
    refine tO (fun h7 => ?_) (fun h7 => ?_)
    ·exact tR trivial
    ·refine qw (v5 + 1) fun q8 q9 => ?_
     exact tL ⟨O0, O1, cl, cl⟩ (by unfold Z1v lt6; dsimp only; omega)
   ·refine tE (fun h10 => ?_) (fun h10 => ?_)
    ·refine tF (fun h11 => ?_) (fun h11 => ?_)
     ·refine tB (Zx4 E0.Mods E1.Mods O0.2.1 O1.2.1) (fun x12 h13 => ?_)
      refine tF (fun h14 => ?_) (fun h14 => ?_)
      ·refine tF (fun h15 => ?_) (fun h15 => ?_)
       ·refine tF (fun h16 => ?_) (fun h16 => ?_)
        ·refine tF (fun h17 => ?_) (fun h17 => ?_)
         ·refine tF (fun h18 => ?_) (fun h18 => ?_)
          ·refine tB (Zag6 E0.Effects E1.Effects O0.2.2.2.2.1 O1.2.2.2.2.1) (fun x19 h20 => ?_)
           refine tF (fun h21 => ?_) (fun h21 => ?_)
           ·exact tR trivial
           ·exact tR trivial
          ·exact tR trivial
         ·exact tR trivial
        ·exact tR trivial
       ·exact tR trivial
      ·exact tR trivial
     ·exact tR trivial
    ·exact tR trivial
theorem Zawq (a0 : Zb) (a1 : Zee) (oa0 : Zq a0) (oa1 : Zhs a1) : Tot (Zagf a0 a1) (fun r => True) := by
 unfold Zagf
 refine tZ ?_
 dsimp only [Zake, LT.den]
 refine qw (a0.NextId - 1) fun q1 q2 => ?_
 refine tB (Zdc a1.Id 1 (IntKind.wrap .i64 (a0.NextId - 1))) (fun x3 h4 => ?_)
 have eh4_0 := h4
 refine tO (fun h5 => ?_) (fun h5 => ?_)
 ·exact tR trivial
 ·refine tB (Zdc a1.X 0 1000000) (fun x6 h7 => ?_)
  have eh7_0 := h7
  refine tO (fun h8 => ?_) (fun h8 => ?_)
  ·exact tR trivial
  ·have q9 := oa1.2.1
   refine tD (fun h10 => ?_) (fun h10 => ?_)
   ·exact tR trivial
   ·refine tB (Zds a0 a1.Control oa0) (fun x11 h12 => ?_)
    have eh12_0 := h12
    refine tO (fun h13 => ?_) (fun h13 => ?_)
    ·exact tR trivial
    ·refine tB (Z3h a0 a1.Id oa0) (fun x14 h15 => ?_)
     refine tE (fun h16 => ?_) (fun h16 => ?_)
     ·refine tB (Zawp a1.Ability (⟨0, (⟨0, 0, 0, 0, 0, 0, 0, ([] : List UInt8), 0, 0, (⟨0, 0⟩ : Zd), (⟨0, 0⟩ : Zd), (⟨0, 0⟩ : Zd)⟩ : Ze), ([] : (List Zr)), (⟨(⟨0, 0, (⟨0, 0, 0, 0, 0⟩ : (A5 Int))⟩ : Zp), false, false, 0⟩ : Zfj), false, (⟨0, 0, (⟨0, 0, 0, 0, 0, 0, 0, ([] : List UInt8), 0, 0, (⟨0, 0⟩ : Zd), (⟨0, 0⟩ : Zd), (⟨0, 0⟩ : Zd)⟩ : Ze)⟩ : Zb6), false, ([] : (List Zcs)), ([] : (List Zz)), (⟨0, 0, (⟨0, 0, 0, 0, 0, 0, 0, ([] : List UInt8), 0, 0, (⟨0, 0⟩ : Zd), (⟨0, 0⟩ : Zd), (⟨0, 0⟩ : Zd)⟩ : Ze), 0, 0, 0, 0⟩ : Zay)⟩ : Zj) oa1.1 ⟨(SzS.nil), SzL.nil, (SzS.nil), SzL.nil, SzL.nil, (SzS.nil)⟩) (fun x17 h18 => ?_)
      refine tE (fun h19 => ?_) (fun h19 => ?_)
      ·refine tF (fun h20 => ?_) (fun h20 => ?_)
       ·refine tE (fun h21 => ?_) (fun h21 => ?_)
        ·refine tF (fun h22 => ?_) (fun h22 => ?_)
         ·exact tR trivial
         ·refine tB (Zvf a1.Ability oa1.1) (fun x23 h24 => ?_)
          exact tR trivial
        ·exact tR trivial
       ·exact tR trivial
      ·exact tR trivial
     ·refine tE (fun h25 => ?_) (fun h25 => ?_)
      ·refine tO (fun h26 => ?_) (fun h26 => ?_)
       ·refine tB (Zvf a1.Ability oa1.1) (fun x27 h28 => ?_)
        exact tR trivial
       ·exact tR trivial
      ·exact tR trivial
def Za1j : Zwm → Prop
 | .L0 v0 v3 => ((SzL 8 (fun _ => True)) v0) ∧ (0 ≤ v3) ∧ (1 ≤ v3)
def Zaa9 : Zwm → M6
 | .L0 v0 v3 => (1, ((v0.length : Int) - v3).toNat, 1000000, 0, 0, 0)
theorem Za1k (a0 : (List Int)) (oa0 : (SzL 8 (fun _ => True)) a0) : Tot (Zau6 a0) (fun r => True) := by
 unfold Zau6
 refine tX (Inv := Za1j) (μ := Zaa9) (m := (1000000, 0, 0, 0, 0, 0)) ?_ ?_
 ·have lb_a0 := oa0.1
  dsimp only [Zau4, LT.den]
  exact tL ⟨oa0, cl, cl⟩ (by unfold Zaa9 lt6; dsimp only; omega)
 ·intro s hs
  cases s with
  | L0 v0 v3 =>
   obtain ⟨ov0, cv3, i0⟩ := hs
   have lb_v0 := ov0.1
   show Tot (Z84 v0 v3).den _
   dsimp only [Z84, LT.den]
   have q1 := ov0.1
   refine tD (fun h2 => ?_) (fun h2 => ?_)
   ·refine qw (v3 - 1) fun q3 q4 => ?_
    refine tB (tI (by omega) (by omega)) (fun x5 h6 => ?_)
    refine tB (tI (by omega) (by omega)) (fun x7 h8 => ?_)
    refine tD (fun h9 => ?_) (fun h9 => ?_)
    ·exact tR trivial
    ·refine qw (v3 + 1) fun q10 q11 => ?_
     exact tL ⟨ov0, cl, cl⟩ (by unfold Zaa9 lt6; dsimp only; omega)
   ·exact tR trivial
def Zara : Zga → Prop
 | .L0 E0 v3 => (Zq E0) ∧ (0 ≤ v3)
 | .L1 E0 v3 v4 => (Zq E0) ∧ (0 ≤ v4) ∧ (0 ≤ v3) ∧ (v3 < (E0.Stack.length : Int))
 | .L2 E0 v5 => (Zq E0) ∧ (0 ≤ v5)
 | .L3 E0 v7 => (Zq E0) ∧ (0 ≤ v7)
def Zaba : Zga → M6
 | .L0 E0 v3 => (5, ((E0.Stack.length : Int) - v3).toNat, 1000000, 0, 0, 0)
 | .L1 E0 v3 v4 => (5, ((E0.Stack.length : Int) - v3).toNat, 1, (v3 - v4).toNat, 1000000, 0)
 | .L2 E0 v5 => (3, ((E0.Waiting.length : Int) - v5).toNat, 1000000, 0, 0, 0)
 | .L3 E0 v7 => (1, ((E0.Conts.length : Int) - v7).toNat, 1000000, 0, 0, 0)
theorem Zm0 (a0 : Zb) (oa0 : Zq a0) : Tot (Z85 a0) (fun r => True) := by
 unfold Z85
 refine tX (Inv := Zara) (μ := Zaba) (m := (1000000, 0, 0, 0, 0, 0)) ?_ ?_
 ·dsimp only [Zadm, LT.den]
  have q1 := oa0.2.2.2.2.1.1
  refine tD (fun h2 => ?_) (fun h2 => ?_)
  ·exact tR trivial
  ·have q3 := oa0.2.2.2.2.2.1.1
   refine tD (fun h4 => ?_) (fun h4 => ?_)
   ·exact tR trivial
   ·have q5 := oa0.2.2.2.2.2.2.1.1
    refine tD (fun h6 => ?_) (fun h6 => ?_)
    ·exact tR trivial
    ·exact tL ⟨oa0, cl⟩ tk87
 ·intro s hs
  cases s with
  | L0 E0 v3 =>
   obtain ⟨O0, cv3⟩ := hs
   show Tot (Zwn E0 v3).den _
   dsimp only [Zwn, LT.den]
   have q1 := O0.2.2.2.2.1.1
   refine tD (fun h2 => ?_) (fun h2 => ?_)
   ·refine tB (tI (by omega) (by omega)) (fun x3 h4 => ?_)
    have oh4 : Zhs x3 := O0.2.2.2.2.1.2 x3 h4.1
    refine tB (Zawq E0 x3 O0 oh4) (fun x5 h6 => ?_)
    refine tO (fun h7 => ?_) (fun h7 => ?_)
    ·exact tR trivial
    ·exact tL ⟨O0, cl, cl, cl⟩ tk87
   ·exact tL ⟨O0, cl⟩ tk87
  | L1 E0 v3 v4 =>
   obtain ⟨O0, cv4, cv3, bd3⟩ := hs
   show Tot (Zwo E0 v3 v4).den _
   dsimp only [Zwo, LT.den]
   have lx_0 : E0.Stack.length * 824 ≤ 140737488351232 := O0.2.2.2.2.1.1
   refine tD (fun h1 => ?_) (fun h1 => ?_)
   ·refine tB (tI (by omega) (by omega)) (fun x2 h3 => ?_)
    have oh3 : Zhs x2 := O0.2.2.2.2.1.2 x2 h3.1
    refine tB (tI (by omega) (by omega)) (fun x4 h5 => ?_)
    have oh5 : Zhs x4 := O0.2.2.2.2.1.2 x4 h5.1
    refine tE (fun h6 => ?_) (fun h6 => ?_)
    ·exact tR trivial
    ·refine qw (v4 + 1) fun q7 q8 => ?_
     exact tL ⟨O0, cl, cl, cl⟩ tk87
   ·refine qw (v3 + 1) fun q9 q10 => ?_
    exact tL ⟨O0, cl⟩ tk87
  | L2 E0 v5 =>
   obtain ⟨O0, cv5⟩ := hs
   show Tot (Zwp E0 v5).den _
   dsimp only [Zwp, LT.den]
   have q1 := O0.2.2.2.2.2.1.1
   refine tD (fun h2 => ?_) (fun h2 => ?_)
   ·refine tB (tI (by omega) (by omega)) (fun x3 h4 => ?_)
    have oh4 : Zq6 x3 := O0.2.2.2.2.2.1.2 x3 h4.1
    refine tB (Zds E0 x3.Control O0) (fun x5 h6 => ?_)
    have eh6_0 := h6
    refine tO (fun h7 => ?_) (fun h7 => ?_)
    ·exact tR trivial
    ·refine tN (fun h8 => ?_) (fun h8 => ?_)
     ·exact tR trivial
     ·refine tB (Zvf x3.Ability oh4) (fun x9 h10 => ?_)
      refine tO (fun h11 => ?_) (fun h11 => ?_)
      ·exact tR trivial
      ·refine qw (v5 + 1) fun q12 q13 => ?_
       exact tL ⟨O0, cl⟩ tk87
   ·exact tL ⟨O0, cl⟩ tk87
  | L3 E0 v7 =>
   obtain ⟨O0, cv7⟩ := hs
   show Tot (Zwq E0 v7).den _
   dsimp only [Zwq, LT.den]
   have q1 := O0.2.2.2.2.2.2.1.1
   refine tD (fun h2 => ?_) (fun h2 => ?_)
   ·refine tB (tI (by omega) (by omega)) (fun x3 h4 => ?_)
    have oh4 : Zru x3 := O0.2.2.2.2.2.2.1.2 x3 h4.1
    refine tB (Zds E0 x3.Control O0) (fun x5 h6 => ?_)
    have eh6_0 := h6
    refine tO (fun h7 => ?_) (fun h7 => ?_)
    ·exact tR trivial
    ·refine tD (fun h8 => ?_) (fun h8 => ?_)
     ·exact tR trivial
     ·refine tB (Zdc x3.Until 1 2) (fun x9 h10 => ?_)
      have eh10_0 := h10
      refine tO (fun h11 => ?_) (fun h11 => ?_)
      ·exact tR trivial
      ·refine tB (Za1k x3.Objects oh4.1) (fun x12 h13 => ?_)
       refine tO (fun h14 => ?_) (fun h14 => ?_)
       ·exact tR trivial
       ·refine tB (Znh x3.Mods oh4.2) (fun x15 h16 => ?_)
        have eh16_0 := h16
        refine tF (fun h17 => ?_) (fun h17 => ?_)
        ·exact tR trivial
        ·refine qw (v7 + 1) fun q18 q19 => ?_
         exact tL ⟨O0, cl⟩ tk87
   ·exact tR trivial
end Go.PW
