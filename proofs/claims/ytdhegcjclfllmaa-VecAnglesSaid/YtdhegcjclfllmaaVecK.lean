/- What a right direction is, and that the examples hold. For all inputs. -/
import Derived.Test.YtdhegcjclfllmaaVecT
import Derived.KernelRfl
import Derived.Test.YtdhegcjclfllmaaPEx10
import Derived.Test.YtdhegcjclfllmaaPEx13
namespace Go.Proofs.Ytdhegcjclfllmaa.Vec
open Go Go.RowKit Go.Proofs.Ytdhegcjclfllmaa.PE Go.Proofs.YtdhegcjclfllmaaW.PrintWords Go.Proofs.YtdhegcjclfllmaaW.PrintLast Go.Proofs.YtdhegcjclfllmaaW.PrintMore
set_option linter.unusedVariables false
set_option linter.unusedSimpArgs false
def I64 (a : Int) : Prop := -9223372036854775808 ≤ a ∧ a ≤ 9223372036854775807
/-- A direction that is right: near to 1 long. -/
structure One (a b : Int) : Prop where
  a0 : -1073741888 ≤ a
  a1 : a ≤ 1073741888
  b0 : -1073741888 ≤ b
  b1 : b ≤ 1073741888
  lo : 1152921367167897600 ≤ a * a + b * b
  hi : a * a + b * b < 1152921644193288321
theorem sq_in {a : Int} (h0 : -1073741888 ≤ a) (h1 : a ≤ 1073741888) : 0 ≤ a * a ∧ a * a ≤ 1152921642045804544 := by
  have h : (a * a).natAbs ≤ 1073741888 * 1073741888 := by rw [Int.natAbs_mul]; exact Nat.mul_le_mul (by omega) (by omega)
  have h2 : 0 ≤ a * a := by
    rcases Int.le_total 0 a with h | h
    · exact Int.mul_nonneg h h
    · exact Int.mul_nonneg_of_nonpos_of_nonpos h h
  omega
theorem One.i64 {a b : Int} (h : One a b) : I64 a ∧ I64 b := by
  have := h.a0; have := h.a1; have := h.b0; have := h.b1; unfold I64; omega
theorem right_f (a b : Int) : ∃ r, pointillistref09_Right.f a b = some r ∧ (r = true ↔ One a b) := by
  unfold pointillistref09_Right.f pointillistref09_in.f
  by_cases h1 : a ≤ 1073741888
  · rw [if_pos h1]
    simp only [Option.bind_some, decide_eq_true_eq]
    by_cases h2 : a ≥ -1073741888
    · rw [if_pos h2]
      by_cases h3 : b ≤ 1073741888
      · rw [if_pos h3]
        simp only [Option.bind_some, decide_eq_true_eq]
        by_cases h4 : b ≥ -1073741888
        · rw [if_pos h4]
          obtain ⟨p0, p1⟩ := sq_in h2 h1
          obtain ⟨q0, q1⟩ := sq_in h4 h3
          rw [VecT.w64 (x := a * a) (by omega) (by omega), VecT.w64 (x := b * b) (by omega) (by omega), VecT.w64 (x := a * a + b * b) (by omega) (by omega)]
          by_cases h5 : a * a + b * b ≥ 1152921367167897600
          · rw [if_pos h5]
            exact ⟨_, rfl, by rw [decide_eq_true_eq]; exact ⟨fun h => ⟨h2, h1, h4, h3, h5, h⟩, fun h => h.hi⟩⟩
          · rw [if_neg h5]
            exact ⟨_, rfl, by simp, fun h => absurd h.lo h5⟩
        · rw [if_neg h4]; exact ⟨_, rfl, by simp, fun h => absurd h.b0 h4⟩
      · rw [if_neg h3]; exact ⟨_, rfl, by simp, fun h => absurd h.b1 h3⟩
    · rw [if_neg h2]; exact ⟨_, rfl, by simp, fun h => absurd h.a0 h2⟩
  · rw [if_neg h1]; exact ⟨_, rfl, by simp, fun h => absurd h.a1 h1⟩
theorem wakes : pointillistlaw09_wakes.f 70 = some true := by kernel_rfl
end Go.Proofs.Ytdhegcjclfllmaa.Vec
