import Derived.Test.YtloamjgjcjandaaGreatPwP
set_option linter.all false
namespace Go.PW
open Go.RowKit
inductive Kf where
 | seq (c : Code)
 | blk (id : Nat)
 | loop (c : Code)
 | scp
inductive Cfg where
 | code (c : Code) (K : List Kf)
 | head (c : Code) (K : List Kf)
 | done (e : Exit)
def PWL (P : Program) (c : Code) (Q : Exit → St → Prop) (st : St) : Prop :=
 ∀ G a w, Rel G st a w → ∀ b k cs, ∃ e a' w', (∃ st', Q e st' ∧ Rel G st' a' w') ∧ Arrives P (lone (b.at a (.code c :: .inLoop c :: k)) cs w) b k cs e a' w'
theorem PW.loopHead {P : Program} {c : Code} {Q : Exit → St → Prop} {st : St} (h : PWL P c Q st) : PW P (.loop c) Q st := by
 intro G a w hr b k cs
 obtain ⟨e, a', w', hq, harr⟩ := h G a w hr b k cs
 exact ⟨e, a', w', hq, .of_steps (.one step_loop) harr⟩
theorem PWL.round {P : Program} {c : Code} {Q : Exit → St → Prop} {st : St} (h : PW P c (Then (PWL P c Q) Q) st) : PWL P c Q st := by
 intro G a w hr b k cs
 obtain ⟨e, a₁, w₁, ⟨st', hq, hr'⟩, harr⟩ := h G a w hr b (.inLoop c :: k) cs
 cases e with
 | normal =>
  obtain ⟨e₂, a₂, w₂, hq₂, harr₂⟩ := hq G a₁ w₁ hr' b k cs
  exact ⟨e₂, a₂, w₂, hq₂, .of_steps (Steps.trans harr (.one step_inLoop)) harr₂⟩
 | exit id => exact ⟨_, a₁, w₁, ⟨st', hq, hr'⟩, .pass (x := .inLoop c) rfl (fun _ _ => .inl (by simp)) harr⟩
 | goto l => exact ⟨_, a₁, w₁, ⟨st', hq, hr'⟩, .pass (x := .inLoop c) rfl (fun _ _ => .inl (by simp)) harr⟩
 | ret => exact ⟨_, a₁, w₁, ⟨st', hq, hr'⟩, .pass (x := .inLoop c) rfl (fun _ _ => .inl (by simp)) harr⟩
 | panic ch => exact ⟨_, a₁, w₁, ⟨st', hq, hr'⟩, .pass (x := .inLoop c) rfl (fun _ _ => .inl (by simp)) harr⟩
 | outgrown => exact ⟨_, a₁, w₁, ⟨st', hq, hr'⟩, .pass (x := .inLoop c) rfl (fun _ _ => .inl (by simp)) harr⟩
def post (P : Program) : List Kf → (Exit → St → Prop) → Exit → St → Prop
 | [], R => R
 | .seq c :: K, R => Then (PW P c (post P K R)) (post P K R)
 | .blk id :: K, R => Zaaw id (post P K R)
 | .loop c :: K, R => Then (PWL P c (post P K R)) (post P K R)
 | .scp :: K, R => NoGo (post P K R)
def Cfg.holds (P : Program) (R : Exit → St → Prop) : Cfg → St → Prop
 | .code c K, st => PW P c (post P K R) st
 | .head c K, st => PWL P c (post P K R) st
 | .done e, st => R e st
def Z7h (id : Nat) : List Kf → Option (List Kf)
 | [] => none
 | .blk i :: K => bif Nat.beq i id then some K else Z7h id K
 | _ :: K => Z7h id K
theorem Z7i {P : Program} {R : Exit → St → Prop} {id : Nat} {st : St} : ∀ {K K' : List Kf}, Z7h id K = some K' → post P K' R .normal st → post P K R (.exit id) st
 | [], K', h, _ => by cases h
 | .blk i :: K, K', h, hp => by
  simp only [Z7h] at h
  simp only [post, Zaaw]
  cases hb : Nat.beq i id with
  | true =>
   have : i = id := (Zbx _ _).1 hb
   subst this
   simp only [hb, cond_true, Option.some.injEq] at h
   subst h
   simpa using hp
  | false =>
   simp only [hb, cond_false] at h
   have hne : ¬ id = i := fun e => by subst e; simp at hb
   simp only [hne, if_false]
   exact Z7i h hp
 | .seq c :: K, K', h, hp => by simp only [Z7h] at h; simp only [post, Then]; exact Z7i h hp
 | .loop c :: K, K', h, hp => by simp only [Z7h] at h; simp only [post, Then]; exact Z7i h hp
 | .scp :: K, K', h, hp => by simp only [Z7h] at h; simp only [post, NoGo]; exact Z7i h hp
theorem Zaox {P : Program} {R : Exit → St → Prop} {st : St} : ∀ {K : List Kf}, R .ret st → post P K R .ret st
 | [], h => h
 | .blk i :: K, h => by simp only [post, Zaaw]; exact Zaox h
 | .seq c :: K, h => by simp only [post, Then]; exact Zaox h
 | .loop c :: K, h => by simp only [post, Then]; exact Zaox h
 | .scp :: K, h => by simp only [post, NoGo]; exact Zaox h
abbrev Er := Option (List Prop × Cfg × St)
def Zaju (xs : List Orc) (st : St) (g : Cfg) : Er :=
 match Zhv xs st with
 | some (ps, [], st') => some (ps, g, st')
 | _ => none
def ahead (ps : List Prop) : Er → Er
 | some (qs, g, st) => some (ps ++ qs, g, st)
 | none => none
def Zlh (P : Program) (T : TS) : Nat → Option Code → List Kf → List Orc → St → Er
 | 0, _, _, _, _ => none
 | n + 1, none, K, xs, st =>
  match K with
  | [] => Zaju xs st (.done .normal)
  | .seq c :: K =>
   match xs with
   | .stopAt 0 :: xs => Zaju xs st (.code c K)
   | .stopAt (k + 1) :: xs => Zlh P T n (some c) K (.stopAt k :: xs) st
   | _ => Zlh P T n (some c) K xs st
  | .blk _ :: K => Zlh P T n none K xs st
  | .scp :: K => Zlh P T n none K xs st
  | .loop c :: K => Zaju xs st (.head c K)
 | n + 1, some c, K, xs, st =>
  match c with
  | .skip => Zlh P T n none K xs st
  | .label _ => Zlh P T n none K xs st
  | .region id ops draw =>
   match Zawe P T id ops draw xs st with
   | some (ps, xs', st') => ahead ps (Zlh P T n none K xs' st')
   | none => none
  | .seq a b => Zlh P T n (some a) (.seq b :: K) xs st
  | .cond (.tmp t) a b =>
   match get st.tm t, xs with
   | some (.t (.bool e)), .br v :: xs => ahead [e = v] (Zlh P T n (some (bif v then a else b)) K xs st)
   | _, _ => none
  | .cond (.const (.bool v)) a b => Zlh P T n (some (bif v then a else b)) K xs st
  | .block id body => Zlh P T n (some body) (.blk id :: K) xs st
  | .loop body => Zaju xs st (.head body K)
  | .scope body => Zlh P T n (some body) (.scp :: K) xs st
  | .exit id =>
   match Z7h id K with
   | some K' => Zlh P T n none K' xs st
   | none => none
  | .ret => Zaju xs st (.done .ret)
  | _ => none
section
variable {P : Program} {T : TS} {R : Exit → St → Prop}
theorem Z7j {xs : List Orc} {st st' : St} {g g' : Cfg} {ps : List Prop} (h : Zaju xs st g = some (ps, g', st')) : g' = g ∧ (conj ps → Wk st st') := by
 unfold Zaju at h
 split at h
 ·rename_i hd; cases h; exact ⟨rfl, Zmi _ _ hd⟩
 ·cases h
theorem Za7k {qs ps : List Prop} {r : Er} {g : Cfg} {st : St} (h : ahead qs r = some (ps, g, st)) : ∃ ps', ps = qs ++ ps' ∧ r = some (ps', g, st) := by
 unfold ahead at h
 split at h
 ·cases h; exact ⟨_, rfl, rfl⟩
 ·cases h
theorem Zabd {c : Code} {Q : Exit → St → Prop} {st st' : St} (hw : Wk st st') (h : PWL P c Q st') : PWL P c Q st := fun G a w hr => h G a w (hw G a w hr)
def Upto (R : Exit → St → Prop) : Exit → St → Prop := fun e st => ∃ st', Wk st st' ∧ R e st'
theorem PW.upto {c : Code} {st : St} (h : PW P c (Upto R) st) : PW P c R st := by
 intro G a w hr
 refine wp_mono (h G a w hr) ?_
 rintro e a' w' ⟨st', ⟨st2, hw, hq⟩, hr'⟩
 exact ⟨st2, hq, hw _ _ _ hr'⟩
theorem Zi4 (hm : P.follows .mixedOrders = true) (hT : TOK P T) : ∀ (n : Nat) (oc : Option Code) (K : List Kf) (xs : List Orc) (st st' : St) (g : Cfg) (ps : List Prop),
 Zlh P T n oc K xs st = some (ps, g, st') → conj ps → g.holds P (Upto R) st' →
  match oc with
  | some c => PW P c (post P K (Upto R)) st
  | none => post P K (Upto R) .normal st
 | 0, oc, K, xs, st, st', g, ps, h, _, _ => by simp [Zlh] at h
 | n + 1, none, K, xs, st, st', g, ps, h, hc, hg => by
  simp only [Zlh] at h
  simp only
  split at h
  ·obtain ⟨rfl, hw⟩ := Z7j h
   obtain ⟨s2, hw2, hr⟩ := hg
   exact ⟨s2, (hw hc).trans hw2, hr⟩
  ·split at h
   ·obtain ⟨rfl, hw⟩ := Z7j h
    simp only [post, Then]
    exact PW.weaken (hw hc) hg
   ·simp only [post, Then]
    exact Zi4 hm hT n (some _) _ _ _ _ _ _ h hc hg
   ·simp only [post, Then]
    exact Zi4 hm hT n (some _) _ _ _ _ _ _ h hc hg
  ·simp only [post, Zaaw]
   exact Zi4 hm hT n none _ _ _ _ _ _ h hc hg
  ·simp only [post, NoGo]
   exact Zi4 hm hT n none _ _ _ _ _ _ h hc hg
  ·obtain ⟨rfl, hw⟩ := Z7j h
   simp only [post, Then]
   exact Zabd (hw hc) hg
 | n + 1, some c, K, xs, st, st', g, ps, h, hc, hg => by
  simp only [Zlh] at h
  simp only
  split at h
  ·exact PW.skip (Zi4 hm hT n none _ _ _ _ _ _ h hc hg)
  ·exact PW.label (Zi4 hm hT n none _ _ _ _ _ _ h hc hg)
  ·split at h
   ·rename_i ps1 xs1 st1 h1
    obtain ⟨ps2, rfl, h2⟩ := Za7k h
    obtain ⟨c1, c2⟩ := Zbe.1 hc
    exact Zbht hm hT h1 c1 (Zi4 hm hT n none _ _ _ _ _ _ h2 c2 hg)
   ·cases h
  ·exact PW.seq (by
    have := Zi4 hm hT n (some _) _ _ _ _ _ _ h hc hg
    simpa only [post] using this)
  ·split at h
   ·rename_i e v xs1 he
    obtain ⟨ps2, rfl, h2⟩ := Za7k h
    obtain ⟨c1, c2⟩ := Zbe.1 hc
    have hev := c1.1
    subst hev
    have := Zi4 hm hT n (some _) _ _ _ _ _ _ h2 c2 hg
    refine PW.cond rfl he (fun hb => ?_) (fun hb => ?_)
    ·subst hb; exact this
    ·subst hb; exact this
   ·cases h
  ·rename_i v a b
   have := Zi4 hm hT n (some _) _ _ _ _ _ _ h hc hg
   exact PW.condConst (fun hb => by subst hb; exact this) (fun hb => by subst hb; exact this)
  ·exact PW.block (by
    have := Zi4 hm hT n (some _) _ _ _ _ _ _ h hc hg
    simpa only [post] using this)
  ·obtain ⟨rfl, hw⟩ := Z7j h
   exact PW.loopHead (Zabd (hw hc) hg)
  ·exact PW.scope (by
    have := Zi4 hm hT n (some _) _ _ _ _ _ _ h hc hg
    simpa only [post] using this)
  ·split at h
   ·rename_i K' hu
    exact PW.exit (Z7i hu (Zi4 hm hT n none _ _ _ _ _ _ h hc hg))
   ·cases h
  ·obtain ⟨rfl, hw⟩ := Z7j h
   obtain ⟨s2, hw2, hr⟩ := hg
   exact PW.ret (Zaox ⟨s2, (hw hc).trans hw2, hr⟩)
  ·cases h
def Zabe (P : Program) (T : TS) (n : Nat) (g : Cfg) (xs : List Orc) (st : St) : Er :=
 match g with
 | .code c K => Zlh P T n (some c) K xs st
 | .head c K => Zlh P T n (some c) (.loop c :: K) xs st
 | .done _ => none
theorem Cfg.path (hm : P.follows .mixedOrders = true) (hT : TOK P T) {n : Nat} {g g' : Cfg} {xs : List Orc} {st st' : St} {ps : List Prop} (h : Zabe P T n g xs st = some (ps, g', st')) (hc : conj ps) (hg : g'.holds P (Upto R) st') : g.holds P (Upto R) st := by
 unfold Zabe at h
 split at h
 ·exact Zi4 hm hT n (some _) _ _ _ _ _ _ h hc hg
 ·have := Zi4 hm hT n (some _) _ _ _ _ _ _ h hc hg
  exact PWL.round (by simpa only [post] using this)
 ·cases h
def nav : List Nat → Code → List Kf → Option Cfg
 | [], .loop c, K => some (.head c K)
 | [], c, K => some (.code c K)
 | d :: ds, c, K =>
  match c with
  | .seq a b => bif Nat.beq d 0 then nav ds a (.seq b :: K) else nav ds b K
  | .cond _ a b => bif Nat.beq d 2 then nav ds a K else nav ds b K
  | .block id body => nav ds body (.blk id :: K)
  | .loop body => nav ds body (.loop body :: K)
  | .scope body => nav ds body (.scp :: K)
  | _ => none
def Zbch (rs : List RV) (st : St) : Option (List Prop × PV) :=
 match Zaes st rs with
 | some [p] => frzV st.σ p
 | some ps => match Zpv st.σ ps with | some (cs, ds) => some (cs, .tup ds) | none => none
 | none => none
theorem Zboz {rs : List RV} {st : St} {ps : List Prop} {res : PV} (h : Zbch rs st = some (ps, res)) (hc : conj ps) : Zbcb rs [] res st := by
 unfold Zbch at h
 split at h
 ·rename_i p hp
  exact ⟨[p], hp, SubF.nil _, Za3z (fun _ => rfl) h hc⟩
 ·rename_i qs hn hq
  split at h
  ·rename_i cs ds hd
   cases h
   refine ⟨qs, hq, SubF.nil _, ?_⟩
   unfold Zbca
   split
   ·rename_i p; exact (hn p rfl).elim
   ·exact ⟨ds, rfl, Z0m (fun _ => rfl) hd hc⟩
  ·cases h
 ·cases h
mutual
theorem Frz.refl {σ σ' : List (Nat × Blk)} : ∀ p : PV, Frz σ σ' p p
 | .t _ => by simp [Frz]
 | .nils => by simp [Frz]
 | .osl _ _ => by simp [Frz]
 | .bptr _ _ => by simp [Frz]
 | .rptr _ _ _ _ => by simp [Frz]
 | .vptr _ => by simp [Frz]
 | .agg cs => by simp only [Frz]; exact ⟨cs, rfl, Frzs.refl cs⟩
 | .tup cs => by simp only [Frz]; exact ⟨cs, rfl, Frzs.refl cs⟩
 | .fn _ cs => by simp only [Frz]; exact ⟨cs, rfl, Frzs.refl cs⟩
theorem Frzs.refl {σ σ' : List (Nat × Blk)} : ∀ ps : List PV, Frzs σ σ' ps ps
 | [] => by simp [Frzs]
 | p :: ps => by simp only [Frzs]; exact ⟨p, ps, rfl, Frz.refl p, Frzs.refl ps⟩
end
def Zazw (rs : List RV) (ls : List Nat) (st : St) : Option (List (Nat × Blk) × PV) :=
 match Z6j st.σ ls, Zaes st rs with
 | some σ', some [p] => some (σ', p)
 | some σ', some ps => some (σ', .tup ps)
 | _, _ => none
theorem Zbnl {rs : List RV} {ls : List Nat} {st : St} {σ' : List (Nat × Blk)} {res : PV} (h : Zazw rs ls st = some (σ', res)) : Zbcb rs σ' res st := by
 have hsub : ∀ {σ' : List (Nat × Blk)}, Z6j st.σ ls = some σ' → SubF st.σ σ' := fun hp l o ho => ⟨o, Z7e hp l o ho, by cases o with
  | row k es => rfl
  | box cs => exact ⟨cs, rfl, Frzs.refl cs⟩⟩
 unfold Zazw at h
 split at h
 ·rename_i s2 p hσ hp
  simp only [Option.some.injEq, Prod.mk.injEq] at h
  obtain ⟨rfl, rfl⟩ := h
  exact ⟨[p], hp, hsub hσ, Frz.refl p⟩
 ·rename_i s2 qs hn hσ hq
  simp only [Option.some.injEq, Prod.mk.injEq] at h
  obtain ⟨rfl, rfl⟩ := h
  refine ⟨qs, hq, hsub hσ, ?_⟩
  unfold Zbca
  split
  ·rename_i p; exact (hn p rfl).elim
  ·exact ⟨qs, rfl, Frzs.refl qs⟩
 ·cases h
theorem Cfg.retO (hm : P.follows .mixedOrders = true) (hT : TOK P T) {n : Nat} {g : Cfg} {xs : List Orc} {st st' : St} {e : Exit} {rs : List RV} {ls : List Nat} {ps : List Prop} {σ' : List (Nat × Blk)} {res : PV} (h : Zabe P T n g xs st = some (ps, .done e, st')) (he : e = .ret ∨ e = .normal)
 (hr : Zazw rs ls st' = some (σ', res)) (hc : conj ps) : g.holds P (Upto (RetQ rs σ' res)) st := by
 refine Cfg.path hm hT h hc ⟨st', Wk.refl _, ?_⟩
 have := Zbnl hr
 rcases he with rfl | rfl <;> exact this
theorem Cfg.ret (hm : P.follows .mixedOrders = true) (hT : TOK P T) {n : Nat} {g : Cfg} {xs : List Orc} {st st' : St} {e : Exit} {rs : List RV} {ps qs : List Prop} {res : PV} (h : Zabe P T n g xs st = some (ps, .done e, st')) (he : e = .ret ∨ e = .normal)
 (hr : Zbch rs st' = some (qs, res)) (hc : conj ps) (hd : conj qs) : g.holds P (Upto (RetQ rs [] res)) st := by
 refine Cfg.path hm hT h hc ⟨st', Wk.refl _, ?_⟩
 have := Zboz hr hd
 rcases he with rfl | rfl <;> exact this
end
end Go.PW
