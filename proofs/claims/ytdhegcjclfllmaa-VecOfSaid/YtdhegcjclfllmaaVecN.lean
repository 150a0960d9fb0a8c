/- A direction as numbers: the point, doubled until it is great enough, divided by its length. -/
import Derived.Test.YtdhegcjclfllmaaEx1
namespace Go.Proofs.Ytdhegcjclfllmaa.VecN
open Go Go.RowKit
set_option linter.unusedVariables false
def small (x y : Int) : Prop := (x ≤ 1152921504606846976 ∧ -1152921504606846976 ≤ x) ∧ y ≤ 1152921504606846976 ∧ -1152921504606846976 ≤ y
instance (x y : Int) : Decidable (small x y) := by unfold small; exact inferInstance
def dbl : Nat → Int → Int → Int × Int
  | 0, x, y => (x, y)
  | n + 1, x, y => if small x y then dbl n (2 * x) (2 * y) else (x, y)
def big (x y : Int) : Int × Int := dbl 64 x y
def out (x y : Int) : Prop := (x = 0 ∧ y = 0) ∨ x > 4611686018427387904 ∨ x < -4611686018427387904 ∨ y > 4611686018427387904 ∨ y < -4611686018427387904
instance (x y : Int) : Decidable (out x y) := by unfold out; exact inferInstance
def len (X Y : Int) : Int := Root.rootL (X * X + Y * Y) 0 64
def ofX (x y : Int) : Int := if out x y then 0 else Wide.mulDivV (big x y).1 1073741824 (len (big x y).1 (big x y).2)
def ofY (x y : Int) : Int := if out x y then 0 else Wide.mulDivV (big x y).2 1073741824 (len (big x y).1 (big x y).2)
def ofB (x y : Int) : Bool := !decide (out x y)
/-- On the way of doubling: n steps are enough. -/
structure Way (n : Nat) (a b X Y : Int) : Prop where
  eq : dbl n a b = (X, Y)
  a0 : -4611686018427387904 ≤ a ∧ a ≤ 4611686018427387904
  b0 : -4611686018427387904 ≤ b ∧ b ≤ 4611686018427387904
  far : 9223372036854775808 < 2 ^ n * (a.natAbs + b.natAbs)
theorem Way.start {x y : Int} (h : ¬ out x y) : Way 64 x y (big x y).1 (big x y).2 := by
  unfold out at h
  refine ⟨rfl, by omega, by omega, ?_⟩
  have : 1 ≤ x.natAbs + y.natAbs := by omega
  have h2 : (18446744073709551616 : Nat) = 2 ^ 64 := by decide
  rw [← h2]; omega
theorem Way.stop {n : Nat} {a b X Y : Int} (h : Way n a b X Y) (hs : ¬ small a b) : X = a ∧ Y = b := by
  have e := h.eq
  cases n with
  | zero => simp [dbl] at e; exact ⟨e.1.symm, e.2.symm⟩
  | succ n => unfold dbl at e; rw [if_neg hs] at e; simp at e; exact ⟨e.1.symm, e.2.symm⟩
theorem Way.step {n : Nat} {a b X Y : Int} (h : Way n a b X Y) (hs : small a b) : ∃ m, Way m (2 * a) (2 * b) X Y ∧ a.natAbs + b.natAbs > 0 ∧ n = m + 1 := by
  have e := h.eq
  have f := h.far
  have ha := h.a0
  have hb := h.b0
  unfold small at hs
  cases n with
  | zero => simp at f; omega
  | succ n =>
    unfold dbl at e
    rw [if_pos (by unfold small; omega)] at e
    refine ⟨n, ⟨e, by omega, by omega, ?_⟩, ?_, rfl⟩
    · rw [show (2 * a).natAbs + (2 * b).natAbs = 2 * (a.natAbs + b.natAbs) by omega]
      rw [Nat.pow_succ, Nat.mul_assoc] at f; exact f
    · by_cases hz : a.natAbs + b.natAbs = 0
      · rw [hz] at f; simp at f
      · omega
/-- What comes of the doubling. -/
theorem Way.done : ∀ {n : Nat} {a b X Y : Int}, Way n a b X Y → ¬ small X Y ∧ (-4611686018427387904 ≤ X ∧ X ≤ 4611686018427387904) ∧ -4611686018427387904 ≤ Y ∧ Y ≤ 4611686018427387904
  | n, a, b, X, Y, h => by
    by_cases hs : small a b
    · obtain ⟨m, hm, _, e⟩ := h.step hs
      subst e
      exact Way.done hm
    · obtain ⟨rfl, rfl⟩ := h.stop hs
      exact ⟨hs, h.a0, h.b0⟩
end Go.Proofs.Ytdhegcjclfllmaa.VecN
