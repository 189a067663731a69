import Derived.Test.YtloamjgjcjandaaGreatPwR
import Derived.KernelRfl
set_option linter.all false
namespace Go.PW
def rpO (o : Orc) : Nat → List Orc → List Orc
 | 0, l => l
 | n + 1, l => o :: rpO o n l
def oT (n : Nat) (s : List Orc → List Orc) (l : List Orc) : List Orc := s (rpO (.br true) n l)
def oF (n : Nat) (s : List Orc → List Orc) (l : List Orc) : List Orc := s (rpO (.br false) n l)
def o1 (o : List Orc) (s : List Orc → List Orc) (l : List Orc) : List Orc := s (o ++ l)
def rpA (a : Prop) : Nat → Prop → Prop
 | 0, p => p
 | n + 1, p => a ∧ rpA a n p
structure PA (s : List Orc → List Orc) (c : Prop → Prop) : Prop where
 go : ∀ p : Prop, p → c p
theorem q0 : PA (fun l => l) fun p => p := ⟨fun _ h => h⟩
section
variable {s : List Orc → List Orc} {c : Prop → Prop} {u : Prop}
theorem Zazx (h : u) {p : Prop} (hp : p) : ∀ n, rpA u n p
 | 0 => hp
 | n + 1 => ⟨h, Zazx h hp n⟩
theorem PA.b (q : PA s c) (h : u) : PA s fun p => c (u ∧ p) := ⟨fun _ hp => q.go _ ⟨h, hp⟩⟩
theorem PA.a (q : PA s c) (n : Nat) (h : u) : PA s fun p => c (rpA u n p) := ⟨fun _ hp => q.go _ (Zazx h hp n)⟩
theorem PA.t (q : PA s c) (n : Nat) (h : u) : PA (oT n s) fun p => c (rpA u n p) := ⟨fun _ hp => q.go _ (Zazx h hp n)⟩
theorem PA.f (q : PA s c) (n : Nat) (h : u) : PA (oF n s) fun p => c (rpA u n p) := ⟨fun _ hp => q.go _ (Zazx h hp n)⟩
theorem PA.o (q : PA s c) (l : List Orc) : PA (o1 l s) c := ⟨q.go⟩
theorem PA.tt (q : PA s c) (n : Nat) : PA (oT n s) c := ⟨q.go⟩
theorem PA.ff (q : PA s c) (n : Nat) : PA (oF n s) c := ⟨q.go⟩
theorem PA.k (q : PA s c) (b : Bool) : PA (o1 [.call (.t (.bool b))] s) c := ⟨q.go⟩
theorem PA.n (q : PA s c) (n : Int) : PA (o1 [.num n] s) c := ⟨q.go⟩
theorem PA.z (q : PA s c) : c True := q.go _ trivial
end
abbrev bx (l : List Tree) : List PV := l.map .t
abbrev wI (n : Int) : PV := .t (.int .i64 n)
abbrev wB (b : Bool) : PV := .t (.bool b)
abbrev wS (s : List UInt8) : PV := .t (.str s)
abbrev wL {α : Type} (f : α → List Tree) (xs : List α) : PV := .t (.sl (xs.map f))
abbrev Cfg.HH (g : Cfg) (P : Program) {R : Type} (rs : List RV) (sr : R → List (Nat × Blk)) (res : R → PV) (r : R) (st : PW.St) : Prop := g.holds P (Upto (RetQ rs (sr r) (res r))) st
class Sd (P : Program) (T : outParam TS) : Prop where
 hm : P.follows .mixedOrders = true
 hT : TOK P T
section
variable {P : Program} {T : TS} [i : Sd P T] {S R : Type} {rs : List RV} {sr : R → List (Nat × Blk)} {res : R → PV} {cfg : S → Cfg} {stf : S → PW.St} {r : R} {y : S ⊕ R} {g : Cfg} {st : PW.St} {s : List Orc → List Orc} {c : Prop → Prop}
theorem lG {s' : S} (h : some (Sum.inl s') = some y) (hk : Ok P rs sr res cfg stf r y) (q : PA s c) (hp : evGo P T 400 g (s []) st = some (c True, cfg s', stf s') := by kernel_rfl) :
 g.holds P (Upto (RetQ rs (sr r) (res r))) st := Zbqk i.hm i.hT h hk 400 (s []) q.z hp
theorem lJ {g' : Cfg} {st' : PW.St} (hg : g'.holds P (Upto (RetQ rs (sr r) (res r))) st') (q : PA s c) (hp : evGo P T 400 g (s []) st = some (c True, g', st') := by kernel_rfl) :
 g.holds P (Upto (RetQ rs (sr r) (res r))) st := Zbo0 i.hm i.hT hg 400 (s []) q.z hp
theorem lR {r' : R} (h : some (Sum.inr r') = some y) (hk : Ok P rs sr res cfg stf r y) (q : PA s c) (hp : Zbdc P T 400 g (s []) rs st = some (c True, sr r', res r') := by kernel_rfl) :
 g.holds P (Upto (RetQ rs (sr r) (res r))) st := Zbpm i.hm i.hT h hk 400 (s []) q.z hp
theorem lO {r' : R} (h : some (Sum.inr r') = some y) (hk : Ok P rs sr res cfg stf r y) (ls : List Nat) (q : PA s c) (hp : Za37 P T 400 g (s []) rs ls st = some (c True, sr r', res r') := by kernel_rfl) :
 g.holds P (Upto (RetQ rs (sr r) (res r))) st := Zfw i.hm i.hT h hk 400 (s []) ls q.z hp
end
end Go.PW
