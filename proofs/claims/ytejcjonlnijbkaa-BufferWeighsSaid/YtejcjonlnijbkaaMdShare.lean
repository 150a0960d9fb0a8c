/- A share of a number: the nearest whole quotient lies between 0 and it. -/
import Derived.Test.YtejcjonlnijbkaaWm2
namespace Go.Proofs.Ytejcjonlnijbkaa.MdShare
open Go
set_option linter.unusedVariables false
/-- A share of a, b of c: it lies between 0 and a. -/
theorem near_share {a b c : Int} (hc : 0 < c) (hb : 0 ≤ b) (hbc : b ≤ c) : (0 ≤ a → 0 ≤ Wide.near (a * b) c ∧ Wide.near (a * b) c ≤ a) ∧ (a ≤ 0 → a ≤ Wide.near (a * b) c ∧ Wide.near (a * b) c ≤ 0) := by
  unfold Wide.near
  have h2 : 0 < 2 * c := by omega
  constructor
  · intro ha
    have h0 : 0 ≤ a * b := Int.mul_nonneg ha hb
    have h1 : a * b ≤ a * c := Int.mul_le_mul_of_nonneg_left hbc ha
    refine ⟨Int.ediv_nonneg (by omega) (by omega), ?_⟩
    have : (2 * (a * b) + c) / (2 * c) < a + 1 := Int.ediv_lt_of_lt_mul h2 (by
      have : (a + 1) * (2 * c) = 2 * (a * c) + 2 * c := by rw [Int.add_mul, Int.one_mul, Int.mul_left_comm]
      omega)
    omega
  · intro ha
    have h0 : a * b ≤ 0 := Int.mul_nonpos_of_nonpos_of_nonneg ha hb
    have h1 : a * c ≤ a * b := Int.mul_le_mul_of_nonpos_left ha hbc
    constructor
    · refine Int.le_ediv_of_mul_le h2 ?_
      have : a * (2 * c) = 2 * (a * c) := Int.mul_left_comm _ _ _
      omega
    · have : (2 * (a * b) + c) / (2 * c) < 1 := Int.ediv_lt_of_lt_mul h2 (by omega)
      omega
theorem md_share {a b c : Int} (ha : -1152921504606846976 ≤ a ∧ a ≤ 1152921504606846976) (h : (0 < c ∧ 0 ≤ b ∧ b ≤ c) ∨ (c < 0 ∧ c ≤ b ∧ b ≤ 0)) :
    (0 ≤ a → 0 ≤ Wide.mulDivV a b c ∧ Wide.mulDivV a b c ≤ a) ∧ (a ≤ 0 → a ≤ Wide.mulDivV a b c ∧ Wide.mulDivV a b c ≤ 0) := by
  unfold Wide.mulDivV Wide.fitV
  rcases h with ⟨hc, hb, hbc⟩ | ⟨hc, hb, hbc⟩
  · obtain ⟨p, q⟩ := near_share (a := a) hc hb hbc
    simp only [show ¬ c = 0 by omega, show ¬ c < 0 by omega, if_false]
    generalize Wide.near (a * b) c = z at *
    split <;> constructor <;> intro h <;> first | exact p h | exact q h | (have := p; have := q; omega)
  · obtain ⟨p, q⟩ := near_share (a := a) (b := -b) (c := -c) (by omega) (by omega) (by omega)
    rw [Int.mul_neg] at p q
    simp only [show ¬ c = 0 by omega, hc, if_true, if_false]
    generalize Wide.near (-(a * b)) (-c) = z at *
    split <;> constructor <;> intro h <;> first | exact p h | exact q h | (have := p; have := q; omega)

end Go.Proofs.Ytejcjonlnijbkaa.MdShare
