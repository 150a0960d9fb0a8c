/- Plain words for the laws of package curve: what the document's functions answer for right curves; the examples hold. -/
import Derived.Test.YtdhegcjclfllmaaCurR
import Derived.Test.YtdhegcjclfllmaaCurC
import Derived.Test.YtdhegcjclfllmaaCurF
import Derived.Test.YtdhegcjclfllmaaCurE
import Derived.Test.YtdhegcjclfllmaaCurA
import Derived.Test.YtdhegcjclfllmaaPCx6
import Derived.Test.YtdhegcjclfllmaaPCx7
import Derived.Test.YtdhegcjclfllmaaPCx15
namespace Go.Proofs.Ytdhegcjclfllmaa.PC
open Go Go.RowKit
set_option maxRecDepth 100000
set_option linter.unusedVariables false
set_option linter.unusedSimpArgs false
instance decR40 (a : Int) : Decidable (R40 a) := by unfold R40; infer_instance
theorem wakes : pointillistlaw11_wakes.f = some true := by kernel_rfl
theorem in_f (a : Int) : pointillistref11_in.f a = some (decide (R40 a)) := by
  unfold pointillistref11_in.f R40
  split <;> simp [*]
theorem point_f (a b : Int) : pointillistref11_Point.f a b = some (decide (R40 a ∧ R40 b)) := by
  unfold pointillistref11_Point.f
  rw [in_f, in_f]
  by_cases h : R40 a <;> simp [h]
theorem right_f (a b c d e f g h : Int) : pointillistref11_Right.f a b c d e f g h = some (decide (R40 a ∧ R40 b ∧ R40 c ∧ R40 d ∧ R40 e ∧ R40 f ∧ R40 g ∧ R40 h)) := by
  unfold pointillistref11_Right.f
  rw [point_f, point_f, point_f, point_f]
  by_cases h1 : R40 a ∧ R40 b
  · by_cases h2 : R40 c ∧ R40 d
    · by_cases h3 : R40 e ∧ R40 f
      · simp [h1, h2, h3]
      · simp [h1, h2, h3]; intro h4 h5; exact (h3 ⟨h4, h5⟩).elim
    · simp [h1, h2]; intro h4 h5; exact (h2 ⟨h4, h5⟩).elim
  · simp [h1]; intro h4 h5; exact (h1 ⟨h4, h5⟩).elim
theorem tdm {n D : Int} (hD : 0 < D) : (Int.tmod n D < 0 ∧ Int.tdiv n D - 1 = n / D) ∨ (0 ≤ Int.tmod n D ∧ Int.tdiv n D = n / D) := by
  have e1 := Int.mul_tdiv_add_tmod n D
  have e2 := Int.mul_ediv_add_emod n D
  have h1 := Int.emod_nonneg n (show D ≠ 0 by omega)
  have h2 := Int.emod_lt_of_pos n hD
  have h3 : Int.tmod n D < D := Int.tmod_lt_of_pos n hD
  have h4 : -D < Int.tmod n D := by
    rcases Int.lt_or_le n 0 with h | h
    · have := Int.tmod_lt_of_pos (-n) hD
      rw [Int.neg_tmod] at this; omega
    · have := Int.tmod_nonneg D h; omega
  have e3 : D * (Int.tdiv n D - n / D) = n % D - Int.tmod n D := by
    rw [Int.mul_sub]; omega
  generalize Int.tdiv n D = q at *
  generalize n / D = p at *
  generalize Int.tmod n D = m at *
  generalize n % D = r at *
  clear e1 e2
  have hk : q - p = 0 ∨ q - p = 1 := by
    rcases Int.lt_or_le (q - p) 0 with h | h
    · have : D * (q - p) ≤ D * (-1) := Int.mul_le_mul_of_nonneg_left (by omega) (by omega)
      by_cases hm : m < 0
      · omega
      · omega
    · rcases Int.lt_or_le 1 (q - p) with h' | h'
      · have : D * 2 ≤ D * (q - p) := Int.mul_le_mul_of_nonneg_left (by omega) (by omega)
        omega
      · omega
  rcases hk with h | h
  · rw [h] at e3; simp at e3; right; omega
  · rw [h] at e3; simp at e3; left; omega
theorem near_f {a b : Int} (hb : 0 < b) (hb' : b ≤ 65536) (ha : -1152921504606846976 ≤ a ∧ a ≤ 1152921504606846976) : pointillistref11_near.f a b = some ((2 * a + b) / (2 * b)) := by
  unfold pointillistref11_near.f pointillistref11_floor.f
  rw [w64 (x := 2 * a) (by omega) (by omega), w64 (x := 2 * a + b) (by omega) (by omega), w64 (x := 2 * b) (by omega) (by omega), if_neg (by omega)]
  have hq : -9223372036854775808 ≤ (2 * a + b) / (2 * b) ∧ (2 * a + b) / (2 * b) < 4611686018427387904 := by
    refine ⟨?_, Int.ediv_lt_of_lt_mul (by omega) (by omega)⟩
    exact Int.le_ediv_of_mul_le (by omega) (by omega)
  rcases tdm (n := 2 * a + b) (D := 2 * b) (by omega) with ⟨h1, h2⟩ | ⟨h1, h2⟩
  · rw [if_pos h1, w64 (x := Int.tdiv _ _) (by omega) (by omega), h2, w64 (by omega) (by omega)]; rfl
  · rw [if_neg (by omega), h2, w64 (by omega) (by omega)]; rfl
end Go.Proofs.Ytdhegcjclfllmaa.PC
