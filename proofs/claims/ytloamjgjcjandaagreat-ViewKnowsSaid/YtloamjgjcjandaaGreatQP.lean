import Derived.Test.YtloamjgjcjandaaGreatQXb
set_option linter.all false
set_option maxRecDepth 100000
namespace Go.PW
theorem Zt2 (a : List Zaa) (h : a.length * 152 ≤ 140737488351232) : Zfy a = some a := by
 unfold Zfy Zec
 rw [Zkp h (by decide)]; rfl
theorem Zfi (a : List Int) (h : a.length * 8 ≤ 140737488351232) : Zc1 a = some a := by
 unfold Zc1 Zis
 rw [Zkp h (by decide)]; rfl
theorem Zt3 (a : List Zf) (h : a.length * 128 ≤ 140737488351232) : Zfz a = some a := by
 unfold Zfz Zed
 rw [Zkp h (by decide)]; rfl
theorem Zxm (a : List Zag) (h : a.length * 824 ≤ 140737488351232) : Zhc a = some a := by
 unfold Zhc Zfd
 rw [Zkp h (by decide)]; rfl
theorem Zj1 (a : List Zg) (h : a.length * 176 ≤ 140737488351232) : Zdp a = some a := by
 unfold Zdp Zfq
 rw [Zkp h (by decide)]; rfl
theorem Zxn (a : List Zai) (h : a.length * 144 ≤ 140737488351232) : Zhd a = some a := by
 unfold Zhd Zfe
 rw [Zkp h (by decide)]; rfl
theorem Zt4 (a : List Zj) (h : a.length * 560 ≤ 140737488351232) : Zf0 a = some a := by
 unfold Zf0 Zee
 rw [Zkp h (by decide)]; rfl
theorem Zt5 (a : List Zar) (h : a.length * 16 ≤ 140737488351232) : Zey a = some a := by
 unfold Zey Zef
 rw [Zkp h (by decide)]; rfl
theorem Zsl (a : List Z7) (h : a.length * 768 ≤ 140737488351232) : Zfu a = some a := by
 unfold Zfu Zdq
 rw [Zkp h (by decide)]; rfl
theorem Zxo (a : List Zao) (h : a.length * 80 ≤ 140737488351232) : Zhe a = some a := by
 unfold Zhe Zff
 rw [Zkp h (by decide)]; rfl
theorem Zt6 (a : List Z5) (h : a.length * 24 ≤ 140737488351232) : Zf1 a = some a := by
 unfold Zf1 Zeg
 rw [Zkp h (by decide)]; rfl
theorem Zgc (a b : List Int) (h : a.length * 8 ≤ 140737488351232) : Zej a b = some (decide (a = b)) := by
 unfold Zej Zox
 rw [Zpy]
 by_cases hl : a.length = b.length
 ·rw [decide_eq_false (show ¬ a.length ≠ b.length from fun e => e hl), cond_false, Option.bind_some, Zdh]
  have r := Zn1 (step := Zmu) (st := fun i : Nat => Zcf.L0 a b (a.length : Int) (i : Int)) (bad := false) a b hl (fun i x y hx hy hm => by
   have hi := (List.getElem?_eq_some_iff.1 hx).1
   show Zga _ _ _ _ = _
   unfold Zga
   rw [decide_eq_true (show (i : Int) < (a.length : Int) by omega), cond_true, Zcs hx, Option.bind_some, Zcs hy, Option.bind_some, int_bne', Zdk hi (by omega)]
   cases decide (x = y) <;> rfl)
  refine Eq.trans r ?_
  have he : runO Zmu (Zcf.L0 a b (a.length : Int) (a.length : Int)) = some true := Zdc (by
   show Zga _ _ _ _ = _
   unfold Zga
   rw [decide_eq_false (by omega)]; rfl)
  rw [he]
  cases decide (a = b) <;> rfl
 ·rw [decide_eq_true hl, Zpx hl]; rfl
theorem Zt7 (a b : List Zf) (h : a.length * 128 ≤ 140737488351232) : Zf2 a b = some (decide (a = b)) := by
 unfold Zf2 Zh0
 rw [Zpy]
 by_cases hl : a.length = b.length
 ·rw [decide_eq_false (show ¬ a.length ≠ b.length from fun e => e hl), cond_false, Option.bind_some, Zdh]
  have r := Zn1 (step := Zg7) (st := fun i : Nat => Zau.L0 a b (a.length : Int) (i : Int)) (bad := false) a b hl (fun i x y hx hy hm => by
   have hi := (List.getElem?_eq_some_iff.1 hx).1
   show Zcy _ _ _ _ = _
   unfold Zcy
   rw [decide_eq_true (show (i : Int) < (a.length : Int) by omega), cond_true, Zcs hx, Option.bind_some, Zcs hy, Option.bind_some, Za8l, Zdk hi (by omega)]
   cases decide (x = y) <;> rfl)
  refine Eq.trans r ?_
  have he : runO Zg7 (Zau.L0 a b (a.length : Int) (a.length : Int)) = some true := Zdc (by
   show Zcy _ _ _ _ = _
   unfold Zcy
   rw [decide_eq_false (by omega)]; rfl)
  rw [he]
  cases decide (a = b) <;> rfl
 ·rw [decide_eq_true hl, Zpx hl]; rfl
theorem Zt8 (a b : List Zar) (h : a.length * 16 ≤ 140737488351232) : Zf3 a b = some (decide (a = b)) := by
 unfold Zf3 Zh1
 rw [Zpy]
 by_cases hl : a.length = b.length
 ·rw [decide_eq_false (show ¬ a.length ≠ b.length from fun e => e hl), cond_false, Option.bind_some, Zdh]
  have r := Zn1 (step := Zg8) (st := fun i : Nat => Zav.L0 a b (a.length : Int) (i : Int)) (bad := false) a b hl (fun i x y hx hy hm => by
   have hi := (List.getElem?_eq_some_iff.1 hx).1
   show Zcz _ _ _ _ = _
   unfold Zcz
   rw [decide_eq_true (show (i : Int) < (a.length : Int) by omega), cond_true, Zcs hx, Option.bind_some, Zcs hy, Option.bind_some, Za8m, Zdk hi (by omega)]
   cases decide (x = y) <;> rfl)
  refine Eq.trans r ?_
  have he : runO Zg8 (Zav.L0 a b (a.length : Int) (a.length : Int)) = some true := Zdc (by
   show Zcz _ _ _ _ = _
   unfold Zcz
   rw [decide_eq_false (by omega)]; rfl)
  rw [he]
  cases decide (a = b) <;> rfl
 ·rw [decide_eq_true hl, Zpx hl]; rfl
theorem Zj2 (a b : List Zg) (h : a.length * 176 ≤ 140737488351232) : Ze5 a b = some (decide (a = b)) := by
 unfold Ze5 Zkn
 rw [Zpy]
 by_cases hl : a.length = b.length
 ·rw [decide_eq_false (show ¬ a.length ≠ b.length from fun e => e hl), cond_false, Option.bind_some, Zdh]
  have r := Zn1 (step := Zi8) (st := fun i : Nat => Zbf.L0 a b (a.length : Int) (i : Int)) (bad := false) a b hl (fun i x y hx hy hm => by
   have hi := (List.getElem?_eq_some_iff.1 hx).1
   show Zea _ _ _ _ = _
   unfold Zea
   rw [decide_eq_true (show (i : Int) < (a.length : Int) by omega), cond_true, Zcs hx, Option.bind_some, Zcs hy, Option.bind_some, Zbk8, Zdk hi (by omega)]
   cases decide (x = y) <;> rfl)
  refine Eq.trans r ?_
  have he : runO Zi8 (Zbf.L0 a b (a.length : Int) (a.length : Int)) = some true := Zdc (by
   show Zea _ _ _ _ = _
   unfold Zea
   rw [decide_eq_false (by omega)]; rfl)
  rw [he]
  cases decide (a = b) <;> rfl
 ·rw [decide_eq_true hl, Zpx hl]; rfl
theorem Zxp (a b : List Zai) (h : a.length * 144 ≤ 140737488351232) : Zhf a b = some (decide (a = b)) := by
 unfold Zhf Zjq
 rw [Zpy]
 by_cases hl : a.length = b.length
 ·rw [decide_eq_false (show ¬ a.length ≠ b.length from fun e => e hl), cond_false, Option.bind_some, Zdh]
  have r := Zn1 (step := Zik) (st := fun i : Nat => Za9.L0 a b (a.length : Int) (i : Int)) (bad := false) a b hl (fun i x y hx hy hm => by
   have hi := (List.getElem?_eq_some_iff.1 hx).1
   show Zdl _ _ _ _ = _
   unfold Zdl
   rw [decide_eq_true (show (i : Int) < (a.length : Int) by omega), cond_true, Zcs hx, Option.bind_some, Zcs hy, Option.bind_some, Zbhu, Zdk hi (by omega)]
   cases decide (x = y) <;> rfl)
  refine Eq.trans r ?_
  have he : runO Zik (Za9.L0 a b (a.length : Int) (a.length : Int)) = some true := Zdc (by
   show Zdl _ _ _ _ = _
   unfold Zdl
   rw [decide_eq_false (by omega)]; rfl)
  rw [he]
  cases decide (a = b) <;> rfl
 ·rw [decide_eq_true hl, Zpx hl]; rfl
theorem Zt9 (a b : List Z5) (h : a.length * 24 ≤ 140737488351232) : Zf4 a b = some (decide (a = b)) := by
 unfold Zf4 Zh2
 rw [Zpy]
 by_cases hl : a.length = b.length
 ·rw [decide_eq_false (show ¬ a.length ≠ b.length from fun e => e hl), cond_false, Option.bind_some, Zdh]
  have r := Zn1 (step := Zg9) (st := fun i : Nat => Zaw.L0 a b (a.length : Int) (i : Int)) (bad := false) a b hl (fun i x y hx hy hm => by
   have hi := (List.getElem?_eq_some_iff.1 hx).1
   show Zc0 _ _ _ _ = _
   unfold Zc0
   rw [decide_eq_true (show (i : Int) < (a.length : Int) by omega), cond_true, Zcs hx, Option.bind_some, Zcs hy, Option.bind_some, Za8o, Zdk hi (by omega)]
   cases decide (x = y) <;> rfl)
  refine Eq.trans r ?_
  have he : runO Zg9 (Zaw.L0 a b (a.length : Int) (a.length : Int)) = some true := Zdc (by
   show Zc0 _ _ _ _ = _
   unfold Zc0
   rw [decide_eq_false (by omega)]; rfl)
  rw [he]
  cases decide (a = b) <;> rfl
 ·rw [decide_eq_true hl, Zpx hl]; rfl
theorem Zayw (x y : Zct) (hx : Zah3 x) : Zzn x y = some (decide (x = y)) := by
 unfold Zzn Z2s
 simp only [Zgc x.Graveyard y.Graveyard hx.1, Zbki, Zxx, Z0c, Zaib, int_bne', Z4x, Option.bind_some, Zwb, Zjv, Zxy]
 congr 1
 rw [decide_eq_decide]
 obtain ⟨a0, a1, a2, a3, a4, a5, a6, a7⟩ := x
 obtain ⟨b0, b1, b2, b3, b4, b5, b6, b7⟩ := y
 simp only [Zct.mk.injEq]
 try simp only [and_assoc, and_comm, and_left_comm]
theorem Zary (x y : Zj) (hx : Za7 x) : Zvo x y = some (decide (x = y)) := by
 unfold Zvo Zyj
 simp only [Zj2 x.Mods y.Mods hx.2.2.2.2.1, Zbk9, Za8k, Zame, Zbki, Zxx, Z0c, Zaib, int_bne', Z4x, Option.bind_some, Zwb, Zjv, Zxy]
 congr 1
 rw [decide_eq_decide]
 obtain ⟨a0, a1, a2, a3, a4, a5, a6, a7, a8⟩ := x
 obtain ⟨b0, b1, b2, b3, b4, b5, b6, b7, b8⟩ := y
 simp only [Zj.mk.injEq]
theorem Zgz (a b : List Zj) (h : a.length * 560 ≤ 140737488351232) (he : ∀ x, x ∈ a → Za7 x) : Zbc a b = some (decide (a = b)) := by
 unfold Zbc Zb5
 rw [Zpy]
 by_cases hl : a.length = b.length
 ·rw [decide_eq_false (show ¬ a.length ≠ b.length from fun e => e hl), cond_false, Option.bind_some, Zdh]
  have r := Zn1 (step := Zb3) (st := fun i : Nat => Zr.L0 b a (a.length : Int) (i : Int)) (bad := false) a b hl (fun i x y hx hy hm => by
   have hi := (List.getElem?_eq_some_iff.1 hx).1
   show Zac _ _ _ _ = _
   unfold Zac
   rw [decide_eq_true (show (i : Int) < (a.length : Int) by omega), cond_true, Zcs hx, Option.bind_some, Zcs hy, Option.bind_some, (Zary x y (he x hm)), Option.bind_some, Zdk hi (by omega)]
   cases decide (x = y) <;> rfl)
  refine Eq.trans r ?_
  have he : runO Zb3 (Zr.L0 b a (a.length : Int) (a.length : Int)) = some true := Zdc (by
   show Zac _ _ _ _ = _
   unfold Zac
   rw [decide_eq_false (by omega)]; rfl)
  rw [he]
  cases decide (a = b) <;> rfl
 ·rw [decide_eq_true hl, Zpx hl]; rfl
theorem Z4s (x y : Zq) (hx : Zdb x) : Zpk x y = some (decide (x = y)) := by
 unfold Zpk Zwq
 simp only [Zj2 x.Mods y.Mods hx.2.1.1, Zxp x.Specs y.Specs hx.2.2.2.1.1, Zgz x.Effects y.Effects hx.2.2.2.2.1.1 hx.2.2.2.2.1.2, Zxx, Z0c, Zame, Zbc9, Za4j, Za4l, Option.bind_some, Zwb, Zjv, Zxy]
 congr 1
 rw [decide_eq_decide]
 obtain ⟨a0, a1, a2, a3, a4, a5, a6, a7, a8, a9⟩ := x
 obtain ⟨b0, b1, b2, b3, b4, b5, b6, b7, b8, b9⟩ := y
 simp only [Zq.mk.injEq]
theorem Zayx (x y : Zag) (hx : Zld x) : Zzo x y = some (decide (x = y)) := by
 unfold Zzo Z2t
 simp only [Zt8 x.Targets y.Targets hx.2.1, Z4s x.Ability y.Ability hx.1, Zao2, Zxx, Z0c, Zaib, int_bne', Z4x, Option.bind_some, Zwb, Zjv, Zxy]
 congr 1
 rw [decide_eq_decide]
 obtain ⟨a0, a1, a2, a3, a4, a5, a6, a7, a8⟩ := x
 obtain ⟨b0, b1, b2, b3, b4, b5, b6, b7, b8⟩ := y
 simp only [Zag.mk.injEq]
 try simp only [and_assoc, and_comm, and_left_comm]
theorem Zan8 (x y : Z7) (hx : Zpb x) : Zti x y = some (decide (x = y)) := by
 unfold Zti Zwr
 simp only [Z4s x.Ability y.Ability hx, Zao2, Zxx, Z0c, Zaib, int_bne', Z4x, Option.bind_some, Zwb, Zjv, Zxy]
 congr 1
 rw [decide_eq_decide]
 obtain ⟨a0, a1, a2, a3⟩ := x
 obtain ⟨b0, b1, b2, b3⟩ := y
 simp only [Z7.mk.injEq]
 try simp only [and_assoc, and_comm, and_left_comm]
theorem Zayy (x y : Zao) (hx : Zu3 x) : Zzp x y = some (decide (x = y)) := by
 unfold Zzp Z2u
 simp only [Zgc x.Objects y.Objects hx.1.1, Zj2 x.Mods y.Mods hx.2.1, Zxx, Z0c, Zaib, int_bne', Z4x, Option.bind_some, Zwb, Zjv, Zxy]
 congr 1
 rw [decide_eq_decide]
 obtain ⟨a0, a1, a2, a3, a4, a5⟩ := x
 obtain ⟨b0, b1, b2, b3, b4, b5⟩ := y
 simp only [Zao.mk.injEq]
 try simp only [and_assoc, and_comm, and_left_comm]
theorem Ziy (a b : List Zct) (h : a.length * 120 ≤ 140737488351232) (he : ∀ x, x ∈ a → Zah3 x) : Zbq a b = some (decide (a = b)) := by
 unfold Zbq Zcj
 rw [Zpy]
 by_cases hl : a.length = b.length
 ·rw [decide_eq_false (show ¬ a.length ≠ b.length from fun e => e hl), cond_false, Option.bind_some, Zdh]
  have r := Zn1 (step := Zcc) (st := fun i : Nat => Zw.L0 b a (a.length : Int) (i : Int)) (bad := false) a b hl (fun i x y hx hy hm => by
   have hi := (List.getElem?_eq_some_iff.1 hx).1
   show Zaj _ _ _ _ = _
   unfold Zaj
   rw [decide_eq_true (show (i : Int) < (a.length : Int) by omega), cond_true, Zcs hx, Option.bind_some, Zcs hy, Option.bind_some, (Zayw x y (he x hm)), Option.bind_some, Zdk hi (by omega)]
   cases decide (x = y) <;> rfl)
  refine Eq.trans r ?_
  have he : runO Zcc (Zw.L0 b a (a.length : Int) (a.length : Int)) = some true := Zdc (by
   show Zaj _ _ _ _ = _
   unfold Zaj
   rw [decide_eq_false (by omega)]; rfl)
  rw [he]
  cases decide (a = b) <;> rfl
 ·rw [decide_eq_true hl, Zpx hl]; rfl
theorem Ziz (a b : List Zag) (h : a.length * 824 ≤ 140737488351232) (he : ∀ x, x ∈ a → Zld x) : Zbr a b = some (decide (a = b)) := by
 unfold Zbr Zck
 rw [Zpy]
 by_cases hl : a.length = b.length
 ·rw [decide_eq_false (show ¬ a.length ≠ b.length from fun e => e hl), cond_false, Option.bind_some, Zdh]
  have r := Zn1 (step := Zcd) (st := fun i : Nat => Zx.L0 b a (a.length : Int) (i : Int)) (bad := false) a b hl (fun i x y hx hy hm => by
   have hi := (List.getElem?_eq_some_iff.1 hx).1
   show Zak _ _ _ _ = _
   unfold Zak
   rw [decide_eq_true (show (i : Int) < (a.length : Int) by omega), cond_true, Zcs hx, Option.bind_some, Zcs hy, Option.bind_some, (Zayx x y (he x hm)), Option.bind_some, Zdk hi (by omega)]
   cases decide (x = y) <;> rfl)
  refine Eq.trans r ?_
  have he : runO Zcd (Zx.L0 b a (a.length : Int) (a.length : Int)) = some true := Zdc (by
   show Zak _ _ _ _ = _
   unfold Zak
   rw [decide_eq_false (by omega)]; rfl)
  rw [he]
  cases decide (a = b) <;> rfl
 ·rw [decide_eq_true hl, Zpx hl]; rfl
theorem Zgi (a b : List Z7) (h : a.length * 768 ≤ 140737488351232) (he : ∀ x, x ∈ a → Zpb x) : Za5 a b = some (decide (a = b)) := by
 unfold Za5 Zbu
 rw [Zpy]
 by_cases hl : a.length = b.length
 ·rw [decide_eq_false (show ¬ a.length ≠ b.length from fun e => e hl), cond_false, Option.bind_some, Zdh]
  have r := Zn1 (step := Zbp) (st := fun i : Nat => Zo.L0 b a (a.length : Int) (i : Int)) (bad := false) a b hl (fun i x y hx hy hm => by
   have hi := (List.getElem?_eq_some_iff.1 hx).1
   show Z9 _ _ _ _ = _
   unfold Z9
   rw [decide_eq_true (show (i : Int) < (a.length : Int) by omega), cond_true, Zcs hx, Option.bind_some, Zcs hy, Option.bind_some, (Zan8 x y (he x hm)), Option.bind_some, Zdk hi (by omega)]
   cases decide (x = y) <;> rfl)
  refine Eq.trans r ?_
  have he : runO Zbp (Zo.L0 b a (a.length : Int) (a.length : Int)) = some true := Zdc (by
   show Z9 _ _ _ _ = _
   unfold Z9
   rw [decide_eq_false (by omega)]; rfl)
  rw [he]
  cases decide (a = b) <;> rfl
 ·rw [decide_eq_true hl, Zpx hl]; rfl
theorem Zi0 (a b : List Zao) (h : a.length * 80 ≤ 140737488351232) (he : ∀ x, x ∈ a → Zu3 x) : Zbs a b = some (decide (a = b)) := by
 unfold Zbs Zcl
 rw [Zpy]
 by_cases hl : a.length = b.length
 ·rw [decide_eq_false (show ¬ a.length ≠ b.length from fun e => e hl), cond_false, Option.bind_some, Zdh]
  have r := Zn1 (step := Zce) (st := fun i : Nat => Zy.L0 b a (a.length : Int) (i : Int)) (bad := false) a b hl (fun i x y hx hy hm => by
   have hi := (List.getElem?_eq_some_iff.1 hx).1
   show Zal _ _ _ _ = _
   unfold Zal
   rw [decide_eq_true (show (i : Int) < (a.length : Int) by omega), cond_true, Zcs hx, Option.bind_some, Zcs hy, Option.bind_some, (Zayy x y (he x hm)), Option.bind_some, Zdk hi (by omega)]
   cases decide (x = y) <;> rfl)
  refine Eq.trans r ?_
  have he : runO Zce (Zy.L0 b a (a.length : Int) (a.length : Int)) = some true := Zdc (by
   show Zal _ _ _ _ = _
   unfold Zal
   rw [decide_eq_false (by omega)]; rfl)
  rw [he]
  cases decide (a = b) <;> rfl
 ·rw [decide_eq_true hl, Zpx hl]; rfl
theorem Zarz (x y : Zdd) (hx : Zur x) : Zvp x y = some (decide (x = y)) := by
 unfold Zvp Zyk
 simp only [Zt9 x.Options y.Options hx.1, Zxx, Option.bind_some, Zwb, Zjv, Zxy]
 congr 1
 rw [decide_eq_decide]
 obtain ⟨a0, a1, a2, a3, a4, a5, a6⟩ := x
 obtain ⟨b0, b1, b2, b3, b4, b5, b6⟩ := y
 simp only [Zdd.mk.injEq]
end Go.PW
