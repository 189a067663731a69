import Derived.Test.YtloamjgjcjandaaGreatQXb
set_option linter.all false
set_option maxRecDepth 100000
namespace Go.PW
theorem Zt7 (a : List Zaa) (h : a.length * 152 ≤ 140737488351232) : Zf0 a = some a := by
 unfold Zf0 Zec
 rw [Zkq h (by decide)]; rfl
theorem Zfj (a : List Int) (h : a.length * 8 ≤ 140737488351232) : Zc3 a = some a := by
 unfold Zc3 Zit
 rw [Zkq h (by decide)]; rfl
theorem Zt8 (a : List Zf) (h : a.length * 128 ≤ 140737488351232) : Zf1 a = some a := by
 unfold Zf1 Zed
 rw [Zkq h (by decide)]; rfl
theorem Zxu (a : List Zao) (h : a.length * 824 ≤ 140737488351232) : Zhd a = some a := by
 unfold Zhd Zfe
 rw [Zkq h (by decide)]; rfl
theorem Zj1 (a : List Zh) (h : a.length * 176 ≤ 140737488351232) : Zdp a = some a := by
 unfold Zdp Zfr
 rw [Zkq h (by decide)]; rfl
theorem Zxv (a : List Zaj) (h : a.length * 144 ≤ 140737488351232) : Zhe a = some a := by
 unfold Zhe Zff
 rw [Zkq h (by decide)]; rfl
theorem Zt9 (a : List Zk) (h : a.length * 560 ≤ 140737488351232) : Zf2 a = some a := by
 unfold Zf2 Zee
 rw [Zkq h (by decide)]; rfl
theorem Zua (a : List Zaq) (h : a.length * 16 ≤ 140737488351232) : Zey a = some a := by
 unfold Zey Zef
 rw [Zkq h (by decide)]; rfl
theorem Zso (a : List Z7) (h : a.length * 768 ≤ 140737488351232) : Zfv a = some a := by
 unfold Zfv Zdq
 rw [Zkq h (by decide)]; rfl
theorem Zxw (a : List Zar) (h : a.length * 80 ≤ 140737488351232) : Zhf a = some a := by
 unfold Zhf Zfg
 rw [Zkq h (by decide)]; rfl
theorem Zub (a : List Z5) (h : a.length * 24 ≤ 140737488351232) : Zf3 a = some a := by
 unfold Zf3 Zeg
 rw [Zkq h (by decide)]; rfl
theorem Zge (a b : List Int) (h : a.length * 8 ≤ 140737488351232) : Zej a b = some (decide (a = b)) := by
 unfold Zej Zo2
 rw [Zp2]
 by_cases hl : a.length = b.length
 ·rw [decide_eq_false (show ¬ a.length ≠ b.length from fun e => e hl), cond_false, Option.bind_some, Zde]
  have r := Zn7 (step := Zmy) (st := fun i : Nat => Zcg.L0 a b (a.length : Int) (i : Int)) (bad := false) a b hl (fun i x y hx hy hm => by
   have hi := (List.getElem?_eq_some_iff.1 hx).1
   show Zgc _ _ _ _ = _
   unfold Zgc
   rw [decide_eq_true (show (i : Int) < (a.length : Int) by omega), cond_true, Zb8 hx, Option.bind_some, Zb8 hy, Option.bind_some, int_bne', Zc2 hi (by omega)]
   cases decide (x = y) <;> rfl)
  refine Eq.trans r ?_
  have he : runO Zmy (Zcg.L0 a b (a.length : Int) (a.length : Int)) = some true := Zct (by
   show Zgc _ _ _ _ = _
   unfold Zgc
   rw [decide_eq_false (by omega)]; rfl)
  rw [he]
  cases decide (a = b) <;> rfl
 ·rw [decide_eq_true hl, Zp1 hl]; rfl
theorem Zuc (a b : List Zf) (h : a.length * 128 ≤ 140737488351232) : Zf4 a b = some (decide (a = b)) := by
 unfold Zf4 Zh1
 rw [Zp2]
 by_cases hl : a.length = b.length
 ·rw [decide_eq_false (show ¬ a.length ≠ b.length from fun e => e hl), cond_false, Option.bind_some, Zde]
  have r := Zn7 (step := Zg8) (st := fun i : Nat => Zav.L0 a b (a.length : Int) (i : Int)) (bad := false) a b hl (fun i x y hx hy hm => by
   have hi := (List.getElem?_eq_some_iff.1 hx).1
   show Zcz _ _ _ _ = _
   unfold Zcz
   rw [decide_eq_true (show (i : Int) < (a.length : Int) by omega), cond_true, Zb8 hx, Option.bind_some, Zb8 hy, Option.bind_some, Zams, Zc2 hi (by omega)]
   cases decide (x = y) <;> rfl)
  refine Eq.trans r ?_
  have he : runO Zg8 (Zav.L0 a b (a.length : Int) (a.length : Int)) = some true := Zct (by
   show Zcz _ _ _ _ = _
   unfold Zcz
   rw [decide_eq_false (by omega)]; rfl)
  rw [he]
  cases decide (a = b) <;> rfl
 ·rw [decide_eq_true hl, Zp1 hl]; rfl
theorem Zud (a b : List Zaq) (h : a.length * 16 ≤ 140737488351232) : Zf5 a b = some (decide (a = b)) := by
 unfold Zf5 Zh2
 rw [Zp2]
 by_cases hl : a.length = b.length
 ·rw [decide_eq_false (show ¬ a.length ≠ b.length from fun e => e hl), cond_false, Option.bind_some, Zde]
  have r := Zn7 (step := Zg9) (st := fun i : Nat => Zaw.L0 a b (a.length : Int) (i : Int)) (bad := false) a b hl (fun i x y hx hy hm => by
   have hi := (List.getElem?_eq_some_iff.1 hx).1
   show Zc0 _ _ _ _ = _
   unfold Zc0
   rw [decide_eq_true (show (i : Int) < (a.length : Int) by omega), cond_true, Zb8 hx, Option.bind_some, Zb8 hy, Option.bind_some, Za80, Zc2 hi (by omega)]
   cases decide (x = y) <;> rfl)
  refine Eq.trans r ?_
  have he : runO Zg9 (Zaw.L0 a b (a.length : Int) (a.length : Int)) = some true := Zct (by
   show Zc0 _ _ _ _ = _
   unfold Zc0
   rw [decide_eq_false (by omega)]; rfl)
  rw [he]
  cases decide (a = b) <;> rfl
 ·rw [decide_eq_true hl, Zp1 hl]; rfl
theorem Zj2 (a b : List Zh) (h : a.length * 176 ≤ 140737488351232) : Ze6 a b = some (decide (a = b)) := by
 unfold Ze6 Zkn
 rw [Zp2]
 by_cases hl : a.length = b.length
 ·rw [decide_eq_false (show ¬ a.length ≠ b.length from fun e => e hl), cond_false, Option.bind_some, Zde]
  have r := Zn7 (step := Zi8) (st := fun i : Nat => Zbf.L0 a b (a.length : Int) (i : Int)) (bad := false) a b hl (fun i x y hx hy hm => by
   have hi := (List.getElem?_eq_some_iff.1 hx).1
   show Zea _ _ _ _ = _
   unfold Zea
   rw [decide_eq_true (show (i : Int) < (a.length : Int) by omega), cond_true, Zb8 hx, Option.bind_some, Zb8 hy, Option.bind_some, Zblq, Zc2 hi (by omega)]
   cases decide (x = y) <;> rfl)
  refine Eq.trans r ?_
  have he : runO Zi8 (Zbf.L0 a b (a.length : Int) (a.length : Int)) = some true := Zct (by
   show Zea _ _ _ _ = _
   unfold Zea
   rw [decide_eq_false (by omega)]; rfl)
  rw [he]
  cases decide (a = b) <;> rfl
 ·rw [decide_eq_true hl, Zp1 hl]; rfl
theorem Zxx (a b : List Zaj) (h : a.length * 144 ≤ 140737488351232) : Zhg a b = some (decide (a = b)) := by
 unfold Zhg Zjq
 rw [Zp2]
 by_cases hl : a.length = b.length
 ·rw [decide_eq_false (show ¬ a.length ≠ b.length from fun e => e hl), cond_false, Option.bind_some, Zde]
  have r := Zn7 (step := Zil) (st := fun i : Nat => Za9.L0 a b (a.length : Int) (i : Int)) (bad := false) a b hl (fun i x y hx hy hm => by
   have hi := (List.getElem?_eq_some_iff.1 hx).1
   show Zdl _ _ _ _ = _
   unfold Zdl
   rw [decide_eq_true (show (i : Int) < (a.length : Int) by omega), cond_true, Zb8 hx, Option.bind_some, Zb8 hy, Option.bind_some, Zbic, Zc2 hi (by omega)]
   cases decide (x = y) <;> rfl)
  refine Eq.trans r ?_
  have he : runO Zil (Za9.L0 a b (a.length : Int) (a.length : Int)) = some true := Zct (by
   show Zdl _ _ _ _ = _
   unfold Zdl
   rw [decide_eq_false (by omega)]; rfl)
  rw [he]
  cases decide (a = b) <;> rfl
 ·rw [decide_eq_true hl, Zp1 hl]; rfl
theorem Zue (a b : List Z5) (h : a.length * 24 ≤ 140737488351232) : Zf6 a b = some (decide (a = b)) := by
 unfold Zf6 Zh3
 rw [Zp2]
 by_cases hl : a.length = b.length
 ·rw [decide_eq_false (show ¬ a.length ≠ b.length from fun e => e hl), cond_false, Option.bind_some, Zde]
  have r := Zn7 (step := Zha) (st := fun i : Nat => Zax.L0 a b (a.length : Int) (i : Int)) (bad := false) a b hl (fun i x y hx hy hm => by
   have hi := (List.getElem?_eq_some_iff.1 hx).1
   show Zc1 _ _ _ _ = _
   unfold Zc1
   rw [decide_eq_true (show (i : Int) < (a.length : Int) by omega), cond_true, Zb8 hx, Option.bind_some, Zb8 hy, Option.bind_some, Za82, Zc2 hi (by omega)]
   cases decide (x = y) <;> rfl)
  refine Eq.trans r ?_
  have he : runO Zha (Zax.L0 a b (a.length : Int) (a.length : Int)) = some true := Zct (by
   show Zc1 _ _ _ _ = _
   unfold Zc1
   rw [decide_eq_false (by omega)]; rfl)
  rw [he]
  cases decide (a = b) <;> rfl
 ·rw [decide_eq_true hl, Zp1 hl]; rfl
theorem Zay9 (x y : Zcy) (hx : Zaid x) : Zzv x y = some (decide (x = y)) := by
 unfold Zzv Z24
 simp only [Zge x.Graveyard y.Graveyard hx.1, Zbk0, Zrn, Z0n, Zail, int_bne', Z47, Option.bind_some, Zwh, Zjv, Zx5]
 congr 1
 rw [decide_eq_decide]
 obtain ⟨a0, a1, a2, a3, a4, a5, a6, a7⟩ := x
 obtain ⟨b0, b1, b2, b3, b4, b5, b6, b7⟩ := y
 simp only [Zcy.mk.injEq]
 try simp only [and_assoc, and_comm, and_left_comm]
theorem Zasc (x y : Zk) (hx : Za7 x) : Zvu x y = some (decide (x = y)) := by
 unfold Zvu Zyr
 simp only [Zj2 x.Mods y.Mods hx.2.2.2.2.1, Zblr, Za8z, Zamr, Zbk0, Zrn, Z0n, Zail, int_bne', Z47, Option.bind_some, Zwh, Zjv, Zx5]
 congr 1
 rw [decide_eq_decide]
 obtain ⟨a0, a1, a2, a3, a4, a5, a6, a7, a8⟩ := x
 obtain ⟨b0, b1, b2, b3, b4, b5, b6, b7, b8⟩ := y
 simp only [Zk.mk.injEq]
theorem Zg0 (a b : List Zk) (h : a.length * 560 ≤ 140737488351232) (he : ∀ x, x ∈ a → Za7 x) : Zbc a b = some (decide (a = b)) := by
 unfold Zbc Zb5
 rw [Zp2]
 by_cases hl : a.length = b.length
 ·rw [decide_eq_false (show ¬ a.length ≠ b.length from fun e => e hl), cond_false, Option.bind_some, Zde]
  have r := Zn7 (step := Zb3) (st := fun i : Nat => Zt.L0 b a (a.length : Int) (i : Int)) (bad := false) a b hl (fun i x y hx hy hm => by
   have hi := (List.getElem?_eq_some_iff.1 hx).1
   show Zad _ _ _ _ = _
   unfold Zad
   rw [decide_eq_true (show (i : Int) < (a.length : Int) by omega), cond_true, Zb8 hx, Option.bind_some, Zb8 hy, Option.bind_some, (Zasc x y (he x hm)), Option.bind_some, Zc2 hi (by omega)]
   cases decide (x = y) <;> rfl)
  refine Eq.trans r ?_
  have he : runO Zb3 (Zt.L0 b a (a.length : Int) (a.length : Int)) = some true := Zct (by
   show Zad _ _ _ _ = _
   unfold Zad
   rw [decide_eq_false (by omega)]; rfl)
  rw [he]
  cases decide (a = b) <;> rfl
 ·rw [decide_eq_true hl, Zp1 hl]; rfl
theorem Z42 (x y : Zs) (hx : Zdd x) : Zpo x y = some (decide (x = y)) := by
 unfold Zpo Zww
 simp only [Zj2 x.Mods y.Mods hx.2.1.1, Zxx x.Specs y.Specs hx.2.2.2.1.1, Zg0 x.Effects y.Effects hx.2.2.2.2.1.1 hx.2.2.2.2.1.2, Zrn, Z0n, Zamr, Zbdn, Za4v, Za4x, Option.bind_some, Zwh, Zjv, Zx5]
 congr 1
 rw [decide_eq_decide]
 obtain ⟨a0, a1, a2, a3, a4, a5, a6, a7, a8, a9⟩ := x
 obtain ⟨b0, b1, b2, b3, b4, b5, b6, b7, b8, b9⟩ := y
 simp only [Zs.mk.injEq]
theorem Zaza (x y : Zao) (hx : Zlf x) : Zzw x y = some (decide (x = y)) := by
 unfold Zzw Z25
 simp only [Zud x.Targets y.Targets hx.2.1, Z42 x.Ability y.Ability hx.1, Zapi, Zrn, Z0n, Zail, int_bne', Z47, Option.bind_some, Zwh, Zjv, Zx5]
 congr 1
 rw [decide_eq_decide]
 obtain ⟨a0, a1, a2, a3, a4, a5, a6, a7, a8⟩ := x
 obtain ⟨b0, b1, b2, b3, b4, b5, b6, b7, b8⟩ := y
 simp only [Zao.mk.injEq]
 try simp only [and_assoc, and_comm, and_left_comm]
theorem Zaoo (x y : Z7) (hx : Zpf x) : Ztm x y = some (decide (x = y)) := by
 unfold Ztm Zwx
 simp only [Z42 x.Ability y.Ability hx, Zapi, Zrn, Z0n, Zail, int_bne', Z47, Option.bind_some, Zwh, Zjv, Zx5]
 congr 1
 rw [decide_eq_decide]
 obtain ⟨a0, a1, a2, a3⟩ := x
 obtain ⟨b0, b1, b2, b3⟩ := y
 simp only [Z7.mk.injEq]
 try simp only [and_assoc, and_comm, and_left_comm]
theorem Zazb (x y : Zar) (hx : Zu8 x) : Zzx x y = some (decide (x = y)) := by
 unfold Zzx Z26
 simp only [Zge x.Objects y.Objects hx.1.1, Zj2 x.Mods y.Mods hx.2.1, Zrn, Z0n, Zail, int_bne', Z47, Option.bind_some, Zwh, Zjv, Zx5]
 congr 1
 rw [decide_eq_decide]
 obtain ⟨a0, a1, a2, a3, a4, a5⟩ := x
 obtain ⟨b0, b1, b2, b3, b4, b5⟩ := y
 simp only [Zar.mk.injEq]
 try simp only [and_assoc, and_comm, and_left_comm]
theorem Ziy (a b : List Zcy) (h : a.length * 120 ≤ 140737488351232) (he : ∀ x, x ∈ a → Zaid x) : Zbq a b = some (decide (a = b)) := by
 unfold Zbq Zck
 rw [Zp2]
 by_cases hl : a.length = b.length
 ·rw [decide_eq_false (show ¬ a.length ≠ b.length from fun e => e hl), cond_false, Option.bind_some, Zde]
  have r := Zn7 (step := Zcd) (st := fun i : Nat => Zy.L0 b a (a.length : Int) (i : Int)) (bad := false) a b hl (fun i x y hx hy hm => by
   have hi := (List.getElem?_eq_some_iff.1 hx).1
   show Zak _ _ _ _ = _
   unfold Zak
   rw [decide_eq_true (show (i : Int) < (a.length : Int) by omega), cond_true, Zb8 hx, Option.bind_some, Zb8 hy, Option.bind_some, (Zay9 x y (he x hm)), Option.bind_some, Zc2 hi (by omega)]
   cases decide (x = y) <;> rfl)
  refine Eq.trans r ?_
  have he : runO Zcd (Zy.L0 b a (a.length : Int) (a.length : Int)) = some true := Zct (by
   show Zak _ _ _ _ = _
   unfold Zak
   rw [decide_eq_false (by omega)]; rfl)
  rw [he]
  cases decide (a = b) <;> rfl
 ·rw [decide_eq_true hl, Zp1 hl]; rfl
theorem Ziz (a b : List Zao) (h : a.length * 824 ≤ 140737488351232) (he : ∀ x, x ∈ a → Zlf x) : Zbr a b = some (decide (a = b)) := by
 unfold Zbr Zcl
 rw [Zp2]
 by_cases hl : a.length = b.length
 ·rw [decide_eq_false (show ¬ a.length ≠ b.length from fun e => e hl), cond_false, Option.bind_some, Zde]
  have r := Zn7 (step := Zce) (st := fun i : Nat => Zz.L0 b a (a.length : Int) (i : Int)) (bad := false) a b hl (fun i x y hx hy hm => by
   have hi := (List.getElem?_eq_some_iff.1 hx).1
   show Zal _ _ _ _ = _
   unfold Zal
   rw [decide_eq_true (show (i : Int) < (a.length : Int) by omega), cond_true, Zb8 hx, Option.bind_some, Zb8 hy, Option.bind_some, (Zaza x y (he x hm)), Option.bind_some, Zc2 hi (by omega)]
   cases decide (x = y) <;> rfl)
  refine Eq.trans r ?_
  have he : runO Zce (Zz.L0 b a (a.length : Int) (a.length : Int)) = some true := Zct (by
   show Zal _ _ _ _ = _
   unfold Zal
   rw [decide_eq_false (by omega)]; rfl)
  rw [he]
  cases decide (a = b) <;> rfl
 ·rw [decide_eq_true hl, Zp1 hl]; rfl
theorem Zgj (a b : List Z7) (h : a.length * 768 ≤ 140737488351232) (he : ∀ x, x ∈ a → Zpf x) : Za5 a b = some (decide (a = b)) := by
 unfold Za5 Zbu
 rw [Zp2]
 by_cases hl : a.length = b.length
 ·rw [decide_eq_false (show ¬ a.length ≠ b.length from fun e => e hl), cond_false, Option.bind_some, Zde]
  have r := Zn7 (step := Zbp) (st := fun i : Nat => Zo.L0 b a (a.length : Int) (i : Int)) (bad := false) a b hl (fun i x y hx hy hm => by
   have hi := (List.getElem?_eq_some_iff.1 hx).1
   show Z9 _ _ _ _ = _
   unfold Z9
   rw [decide_eq_true (show (i : Int) < (a.length : Int) by omega), cond_true, Zb8 hx, Option.bind_some, Zb8 hy, Option.bind_some, (Zaoo x y (he x hm)), Option.bind_some, Zc2 hi (by omega)]
   cases decide (x = y) <;> rfl)
  refine Eq.trans r ?_
  have he : runO Zbp (Zo.L0 b a (a.length : Int) (a.length : Int)) = some true := Zct (by
   show Z9 _ _ _ _ = _
   unfold Z9
   rw [decide_eq_false (by omega)]; rfl)
  rw [he]
  cases decide (a = b) <;> rfl
 ·rw [decide_eq_true hl, Zp1 hl]; rfl
theorem Zi0 (a b : List Zar) (h : a.length * 80 ≤ 140737488351232) (he : ∀ x, x ∈ a → Zu8 x) : Zbs a b = some (decide (a = b)) := by
 unfold Zbs Zcm
 rw [Zp2]
 by_cases hl : a.length = b.length
 ·rw [decide_eq_false (show ¬ a.length ≠ b.length from fun e => e hl), cond_false, Option.bind_some, Zde]
  have r := Zn7 (step := Zcf) (st := fun i : Nat => Z0.L0 b a (a.length : Int) (i : Int)) (bad := false) a b hl (fun i x y hx hy hm => by
   have hi := (List.getElem?_eq_some_iff.1 hx).1
   show Zam _ _ _ _ = _
   unfold Zam
   rw [decide_eq_true (show (i : Int) < (a.length : Int) by omega), cond_true, Zb8 hx, Option.bind_some, Zb8 hy, Option.bind_some, (Zazb x y (he x hm)), Option.bind_some, Zc2 hi (by omega)]
   cases decide (x = y) <;> rfl)
  refine Eq.trans r ?_
  have he : runO Zcf (Z0.L0 b a (a.length : Int) (a.length : Int)) = some true := Zct (by
   show Zam _ _ _ _ = _
   unfold Zam
   rw [decide_eq_false (by omega)]; rfl)
  rw [he]
  cases decide (a = b) <;> rfl
 ·rw [decide_eq_true hl, Zp1 hl]; rfl
theorem Zasd (x y : Zdf) (hx : Zuw x) : Zvv x y = some (decide (x = y)) := by
 unfold Zvv Zys
 simp only [Zue x.Options y.Options hx.1, Zrn, Option.bind_some, Zwh, Zjv, Zx5]
 congr 1
 rw [decide_eq_decide]
 obtain ⟨a0, a1, a2, a3, a4, a5, a6⟩ := x
 obtain ⟨b0, b1, b2, b3, b4, b5, b6⟩ := y
 simp only [Zdf.mk.injEq]
end Go.PW
