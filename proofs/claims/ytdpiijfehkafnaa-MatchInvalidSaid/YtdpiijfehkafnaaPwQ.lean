/- The engine, part Q: paths. From one place of a function's code to the next (a loop's head, a place where the script stops, the end). -/
import Derived.Test.YtdpiijfehkafnaaPwP
namespace Go.PW
open Go.RowKit

/-- what is left to do behind a piece of code -/
inductive Kf where
  | seq (c : Code)
  | blk (id : Nat)
  | loop (c : Code)
  | scp
/-- a place in the code -/
inductive Cfg where
  | code (c : Code) (K : List Kf)
  | head (c : Code) (K : List Kf)
  | done (e : Exit)

/-- at the head of a loop -/
def PWL (P : Program) (c : Code) (Q : Exit → St → Prop) (st : St) : Prop :=
  ∀ G a w, Rel G st a w → ∀ b k cs, ∃ e a' w', (∃ st', Q e st' ∧ Rel G st' a' w') ∧ Arrives P (lone (b.at a (.code c :: .inLoop c :: k)) cs w) b k cs e a' w'
theorem PW.loopHead {P : Program} {c : Code} {Q : Exit → St → Prop} {st : St} (h : PWL P c Q st) : PW P (.loop c) Q st := by
  intro G a w hr b k cs
  obtain ⟨e, a', w', hq, harr⟩ := h G a w hr b k cs
  exact ⟨e, a', w', hq, .of_steps (.one step_loop) harr⟩
theorem PWL.round {P : Program} {c : Code} {Q : Exit → St → Prop} {st : St} (h : PW P c (Then (PWL P c Q) Q) st) : PWL P c Q st := by
  intro G a w hr b k cs
  obtain ⟨e, a₁, w₁, ⟨st', hq, hr'⟩, harr⟩ := h G a w hr b (.inLoop c :: k) cs
  cases e with
  | normal =>
    obtain ⟨e₂, a₂, w₂, hq₂, harr₂⟩ := hq G a₁ w₁ hr' b k cs
    exact ⟨e₂, a₂, w₂, hq₂, .of_steps (Steps.trans harr (.one step_inLoop)) harr₂⟩
  | exit id => exact ⟨_, a₁, w₁, ⟨st', hq, hr'⟩, .pass (x := .inLoop c) rfl (fun _ _ => .inl (by simp)) harr⟩
  | goto l => exact ⟨_, a₁, w₁, ⟨st', hq, hr'⟩, .pass (x := .inLoop c) rfl (fun _ _ => .inl (by simp)) harr⟩
  | ret => exact ⟨_, a₁, w₁, ⟨st', hq, hr'⟩, .pass (x := .inLoop c) rfl (fun _ _ => .inl (by simp)) harr⟩
  | panic ch => exact ⟨_, a₁, w₁, ⟨st', hq, hr'⟩, .pass (x := .inLoop c) rfl (fun _ _ => .inl (by simp)) harr⟩
  | outgrown => exact ⟨_, a₁, w₁, ⟨st', hq, hr'⟩, .pass (x := .inLoop c) rfl (fun _ _ => .inl (by simp)) harr⟩

def post (P : Program) : List Kf → (Exit → St → Prop) → Exit → St → Prop
  | [], R => R
  | .seq c :: K, R => Then (PW P c (post P K R)) (post P K R)
  | .blk id :: K, R => InBlock id (post P K R)
  | .loop c :: K, R => Then (PWL P c (post P K R)) (post P K R)
  | .scp :: K, R => NoGo (post P K R)

def Cfg.holds (P : Program) (R : Exit → St → Prop) : Cfg → St → Prop
  | .code c K, st => PW P c (post P K R) st
  | .head c K, st => PWL P c (post P K R) st
  | .done e, st => R e st

/-- leave blocks and loops, up to the block id -/
def unwind (id : Nat) : List Kf → Option (List Kf)
  | [] => none
  | .blk i :: K => bif Nat.beq i id then some K else unwind id K
  | _ :: K => unwind id K
theorem unwind_ok {P : Program} {R : Exit → St → Prop} {id : Nat} {st : St} : ∀ {K K' : List Kf}, unwind id K = some K' → post P K' R .normal st → post P K R (.exit id) st
  | [], K', h, _ => by cases h
  | .blk i :: K, K', h, hp => by
    simp only [unwind] at h
    simp only [post, InBlock]
    cases hb : Nat.beq i id with
    | true =>
      have : i = id := (beq_iff _ _).1 hb
      subst this
      simp only [hb, cond_true, Option.some.injEq] at h
      subst h
      simpa using hp
    | false =>
      simp only [hb, cond_false] at h
      have hne : ¬ id = i := fun e => by subst e; simp at hb
      simp only [hne, if_false]
      exact unwind_ok h hp
  | .seq c :: K, K', h, hp => by simp only [unwind] at h; simp only [post, Then]; exact unwind_ok h hp
  | .loop c :: K, K', h, hp => by simp only [unwind] at h; simp only [post, Then]; exact unwind_ok h hp
  | .scp :: K, K', h, hp => by simp only [unwind] at h; simp only [post, NoGo]; exact unwind_ok h hp
theorem ret_ok {P : Program} {R : Exit → St → Prop} {st : St} : ∀ {K : List Kf}, R .ret st → post P K R .ret st
  | [], h => h
  | .blk i :: K, h => by simp only [post, InBlock]; exact ret_ok h
  | .seq c :: K, h => by simp only [post, Then]; exact ret_ok h
  | .loop c :: K, h => by simp only [post, Then]; exact ret_ok h
  | .scp :: K, h => by simp only [post, NoGo]; exact ret_ok h

abbrev Er := Option (List Prop × Cfg × St)
/-- stop at a place -/
def evCut (xs : List Orc) (st : St) (g : Cfg) : Er :=
  match evDirs xs st with
  | some (ps, [], st') => some (ps, g, st')
  | _ => none
def ahead (ps : List Prop) : Er → Er
  | some (qs, g, st) => some (ps ++ qs, g, st)
  | none => none

/-- none: behind a piece of code -/
def evPath (P : Program) (T : TS) : Nat → Option Code → List Kf → List Orc → St → Er
  | 0, _, _, _, _ => none
  | n + 1, none, K, xs, st =>
    match K with
    | [] => evCut xs st (.done .normal)
    | .seq c :: K =>
      match xs with
      | .stopAt 0 :: xs => evCut xs st (.code c K)
      | .stopAt (k + 1) :: xs => evPath P T n (some c) K (.stopAt k :: xs) st
      | _ => evPath P T n (some c) K xs st
    | .blk _ :: K => evPath P T n none K xs st
    | .scp :: K => evPath P T n none K xs st
    | .loop c :: K => evCut xs st (.head c K)
  | n + 1, some c, K, xs, st =>
    match c with
    | .skip => evPath P T n none K xs st
    | .label _ => evPath P T n none K xs st
    | .region id ops draw =>
      match evRegion P T id ops draw xs st with
      | some (ps, xs', st') => ahead ps (evPath P T n none K xs' st')
      | none => none
    | .seq a b => evPath P T n (some a) (.seq b :: K) xs st
    | .cond (.tmp t) a b =>
      match get st.tm t, xs with
      | some (.t (.bool e)), .br v :: xs => ahead [e = v] (evPath P T n (some (bif v then a else b)) K xs st)
      | _, _ => none
    | .cond (.const (.bool v)) a b => evPath P T n (some (bif v then a else b)) K xs st
    | .block id body => evPath P T n (some body) (.blk id :: K) xs st
    | .loop body => evCut xs st (.head body K)
    | .scope body => evPath P T n (some body) (.scp :: K) xs st
    | .exit id =>
      match unwind id K with
      | some K' => evPath P T n none K' xs st
      | none => none
    | .ret => evCut xs st (.done .ret)
    | _ => none

section
variable {P : Program} {T : TS} {R : Exit → St → Prop}
theorem evCut_inv {xs : List Orc} {st st' : St} {g g' : Cfg} {ps : List Prop} (h : evCut xs st g = some (ps, g', st')) : g' = g ∧ (conj ps → Wk st st') := by
  unfold evCut at h
  split at h
  · rename_i hd; cases h; exact ⟨rfl, evDirs_ok _ _ hd⟩
  · cases h
theorem ahead_inv {qs ps : List Prop} {r : Er} {g : Cfg} {st : St} (h : ahead qs r = some (ps, g, st)) : ∃ ps', ps = qs ++ ps' ∧ r = some (ps', g, st) := by
  unfold ahead at h
  split at h
  · cases h; exact ⟨_, rfl, rfl⟩
  · cases h
theorem Then.weaken {next : St → Prop} {Q : Exit → St → Prop} (e : Exit) {st : St} (hn : e = .normal → next st) (hq : e ≠ .normal → Q e st) : Then next Q e st := by
  cases e <;> first | exact hn rfl | exact hq (by simp)
theorem post_weaken_loop {c : Code} {Q : Exit → St → Prop} {st st' : St} (hw : Wk st st') (h : PWL P c Q st') : PWL P c Q st := fun G a w hr => h G a w (hw G a w hr)

/-- the end of a function, weakened -/
def Closed' (R : Exit → St → Prop) : Prop := ∀ e st st', Wk st st' → R e st' → R e st

/-- a function's body ended: what is right of the state -/
def Upto (R : Exit → St → Prop) : Exit → St → Prop := fun e st => ∃ st', Wk st st' ∧ R e st'
theorem PW.upto {c : Code} {st : St} (h : PW P c (Upto R) st) : PW P c R st := by
  intro G a w hr
  refine wp_mono (h G a w hr) ?_
  rintro e a' w' ⟨st', ⟨st2, hw, hq⟩, hr'⟩
  exact ⟨st2, hq, hw _ _ _ hr'⟩

theorem evPath_ok (hm : P.follows .mixedOrders = true) (hT : TOK P T) : ∀ (n : Nat) (oc : Option Code) (K : List Kf) (xs : List Orc) (st st' : St) (g : Cfg) (ps : List Prop),
    evPath P T n oc K xs st = some (ps, g, st') → conj ps → g.holds P (Upto R) st' →
      match oc with
      | some c => PW P c (post P K (Upto R)) st
      | none => post P K (Upto R) .normal st
  | 0, oc, K, xs, st, st', g, ps, h, _, _ => by simp [evPath] at h
  | n + 1, none, K, xs, st, st', g, ps, h, hc, hg => by
    simp only [evPath] at h
    simp only
    split at h
    · obtain ⟨rfl, hw⟩ := evCut_inv h
      obtain ⟨s2, hw2, hr⟩ := hg
      exact ⟨s2, (hw hc).trans hw2, hr⟩
    · split at h
      · obtain ⟨rfl, hw⟩ := evCut_inv h
        simp only [post, Then]
        exact PW.weaken (hw hc) hg
      · simp only [post, Then]
        exact evPath_ok hm hT n (some _) _ _ _ _ _ _ h hc hg
      · simp only [post, Then]
        exact evPath_ok hm hT n (some _) _ _ _ _ _ _ h hc hg
    · simp only [post, InBlock]
      exact evPath_ok hm hT n none _ _ _ _ _ _ h hc hg
    · simp only [post, NoGo]
      exact evPath_ok hm hT n none _ _ _ _ _ _ h hc hg
    · obtain ⟨rfl, hw⟩ := evCut_inv h
      simp only [post, Then]
      exact post_weaken_loop (hw hc) hg
  | n + 1, some c, K, xs, st, st', g, ps, h, hc, hg => by
    simp only [evPath] at h
    simp only
    split at h
    · exact PW.skip (evPath_ok hm hT n none _ _ _ _ _ _ h hc hg)
    · exact PW.label (evPath_ok hm hT n none _ _ _ _ _ _ h hc hg)
    · split at h
      · rename_i ps1 xs1 st1 h1
        obtain ⟨ps2, rfl, h2⟩ := ahead_inv h
        obtain ⟨c1, c2⟩ := conj_append.1 hc
        exact evRegion_ok hm hT h1 c1 (evPath_ok hm hT n none _ _ _ _ _ _ h2 c2 hg)
      · cases h
    · exact PW.seq (by
        have := evPath_ok hm hT n (some _) _ _ _ _ _ _ h hc hg
        simpa only [post] using this)
    · split at h
      · rename_i e v xs1 he
        obtain ⟨ps2, rfl, h2⟩ := ahead_inv h
        obtain ⟨c1, c2⟩ := conj_append.1 hc
        have hev := c1.1
        subst hev
        have := evPath_ok hm hT n (some _) _ _ _ _ _ _ h2 c2 hg
        refine PW.cond rfl he (fun hb => ?_) (fun hb => ?_)
        · subst hb; exact this
        · subst hb; exact this
      · cases h
    · rename_i v a b
      have := evPath_ok hm hT n (some _) _ _ _ _ _ _ h hc hg
      exact PW.condConst (fun hb => by subst hb; exact this) (fun hb => by subst hb; exact this)
    · exact PW.block (by
        have := evPath_ok hm hT n (some _) _ _ _ _ _ _ h hc hg
        simpa only [post] using this)
    · obtain ⟨rfl, hw⟩ := evCut_inv h
      exact PW.loopHead (post_weaken_loop (hw hc) hg)
    · exact PW.scope (by
        have := evPath_ok hm hT n (some _) _ _ _ _ _ _ h hc hg
        simpa only [post] using this)
    · split at h
      · rename_i K' hu
        exact PW.exit (unwind_ok hu (evPath_ok hm hT n none _ _ _ _ _ _ h hc hg))
      · cases h
    · obtain ⟨rfl, hw⟩ := evCut_inv h
      obtain ⟨s2, hw2, hr⟩ := hg
      exact PW.ret (ret_ok ⟨s2, (hw hc).trans hw2, hr⟩)
    · cases h

/-- from a place, along a path -/
def evFrom (P : Program) (T : TS) (n : Nat) (g : Cfg) (xs : List Orc) (st : St) : Er :=
  match g with
  | .code c K => evPath P T n (some c) K xs st
  | .head c K => evPath P T n (some c) (.loop c :: K) xs st
  | .done _ => none
theorem Cfg.path (hm : P.follows .mixedOrders = true) (hT : TOK P T) {n : Nat} {g g' : Cfg} {xs : List Orc} {st st' : St} {ps : List Prop} (h : evFrom P T n g xs st = some (ps, g', st')) (hc : conj ps) (hg : g'.holds P (Upto R) st') : g.holds P (Upto R) st := by
  unfold evFrom at h
  split at h
  · exact evPath_ok hm hT n (some _) _ _ _ _ _ _ h hc hg
  · have := evPath_ok hm hT n (some _) _ _ _ _ _ _ h hc hg
    exact PWL.round (by simpa only [post] using this)
  · cases h

/-- places, by directions: 0 and 1: a sequence's parts · 2 and 3: a condition's branches · 4: into a block · 5: into a loop -/
def nav : List Nat → Code → List Kf → Option Cfg
  | [], .loop c, K => some (.head c K)
  | [], c, K => some (.code c K)
  | d :: ds, c, K =>
    match c with
    | .seq a b => bif Nat.beq d 0 then nav ds a (.seq b :: K) else nav ds b K
    | .cond _ a b => bif Nat.beq d 2 then nav ds a K else nav ds b K
    | .block id body => nav ds body (.blk id :: K)
    | .loop body => nav ds body (.loop body :: K)
    | .scope body => nav ds body (.scp :: K)
    | _ => none

/-- A CALL'S END: the results, frozen -/
def evRet (rs : List RV) (st : St) : Option (List Prop × PV) :=
  match slots st rs with
  | some [p] => frzV st.σ p
  | some ps => match frzVs st.σ ps with | some (cs, ds) => some (cs, .tup ds) | none => none
  | none => none
theorem evRet_ok {rs : List RV} {st : St} {ps : List Prop} {res : PV} (h : evRet rs st = some (ps, res)) (hc : conj ps) : RetOK rs [] res st := by
  unfold evRet at h
  split at h
  · rename_i p hp
    exact ⟨[p], hp, SubF.nil _, frzV_ok (fun _ => rfl) h hc⟩
  · rename_i qs hn hq
    split at h
    · rename_i cs ds hd
      cases h
      refine ⟨qs, hq, SubF.nil _, ?_⟩
      unfold ResOK
      split
      · rename_i p; exact (hn p rfl).elim
      · exact ⟨ds, rfl, frzVs_ok (fun _ => rfl) hd hc⟩
    · cases h
  · cases h

mutual
theorem Frz.refl {σ σ' : List (Nat × Blk)} : ∀ p : PV, Frz σ σ' p p
  | .t _ => by simp [Frz]
  | .nils => by simp [Frz]
  | .osl _ _ => by simp [Frz]
  | .bptr _ _ => by simp [Frz]
  | .rptr _ _ _ _ => by simp [Frz]
  | .vptr _ => by simp [Frz]
  | .agg cs => by simp only [Frz]; exact ⟨cs, rfl, Frzs.refl cs⟩
  | .tup cs => by simp only [Frz]; exact ⟨cs, rfl, Frzs.refl cs⟩
  | .fn _ cs => by simp only [Frz]; exact ⟨cs, rfl, Frzs.refl cs⟩
theorem Frzs.refl {σ σ' : List (Nat × Blk)} : ∀ ps : List PV, Frzs σ σ' ps ps
  | [] => by simp [Frzs]
  | p :: ps => by simp only [Frzs]; exact ⟨p, ps, rfl, Frz.refl p, Frzs.refl ps⟩
end
/-- A CALL'S END: the results as they are, with what is owned -/
def evRetO (rs : List RV) (ls : List Nat) (st : St) : Option (List (Nat × Blk) × PV) :=
  match pickL st.σ ls, slots st rs with
  | some σ', some [p] => some (σ', p)
  | some σ', some ps => some (σ', .tup ps)
  | _, _ => none
theorem evRetO_ok {rs : List RV} {ls : List Nat} {st : St} {σ' : List (Nat × Blk)} {res : PV} (h : evRetO rs ls st = some (σ', res)) : RetOK rs σ' res st := by
  have hsub : ∀ {σ' : List (Nat × Blk)}, pickL st.σ ls = some σ' → SubF st.σ σ' := fun hp l o ho => ⟨o, pickL_get hp l o ho, by cases o with
    | row k es => rfl
    | box cs => exact ⟨cs, rfl, Frzs.refl cs⟩⟩
  unfold evRetO at h
  split at h
  · rename_i s2 p hσ hp
    simp only [Option.some.injEq, Prod.mk.injEq] at h
    obtain ⟨rfl, rfl⟩ := h
    exact ⟨[p], hp, hsub hσ, Frz.refl p⟩
  · rename_i s2 qs hn hσ hq
    simp only [Option.some.injEq, Prod.mk.injEq] at h
    obtain ⟨rfl, rfl⟩ := h
    refine ⟨qs, hq, hsub hσ, ?_⟩
    unfold ResOK
    split
    · rename_i p; exact (hn p rfl).elim
    · exact ⟨qs, rfl, Frzs.refl qs⟩
  · cases h

theorem Cfg.retO (hm : P.follows .mixedOrders = true) (hT : TOK P T) {n : Nat} {g : Cfg} {xs : List Orc} {st st' : St} {e : Exit} {rs : List RV} {ls : List Nat} {ps : List Prop} {σ' : List (Nat × Blk)} {res : PV} (h : evFrom P T n g xs st = some (ps, .done e, st')) (he : e = .ret ∨ e = .normal)
    (hr : evRetO rs ls st' = some (σ', res)) (hc : conj ps) : g.holds P (Upto (RetQ rs σ' res)) st := by
  refine Cfg.path hm hT h hc ⟨st', Wk.refl _, ?_⟩
  have := evRetO_ok hr
  rcases he with rfl | rfl <;> exact this

theorem Cfg.ret (hm : P.follows .mixedOrders = true) (hT : TOK P T) {n : Nat} {g : Cfg} {xs : List Orc} {st st' : St} {e : Exit} {rs : List RV} {ps qs : List Prop} {res : PV} (h : evFrom P T n g xs st = some (ps, .done e, st')) (he : e = .ret ∨ e = .normal)
    (hr : evRet rs st' = some (qs, res)) (hc : conj ps) (hd : conj qs) : g.holds P (Upto (RetQ rs [] res)) st := by
  refine Cfg.path hm hT h hc ⟨st', Wk.refl _, ?_⟩
  have := evRet_ok hr hd
  rcases he with rfl | rfl <;> exact this
end
end Go.PW
