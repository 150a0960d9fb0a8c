/- More on a share of a number: at the ends, and that it rises. -/
import Derived.Test.YtjdpmaachehpnaaMdShare
namespace Go.Proofs.Ytjdpmaachehpnaa.MdMore
open Go MdShare
set_option linter.unusedVariables false
theorem md_zero {a c : Int} (hc : c ≠ 0) : Wide.mulDivV a 0 c = 0 := by
  unfold Wide.mulDivV Wide.fitV Wide.near
  simp only [hc, if_false, Int.mul_zero, Int.neg_zero, ite_self, Int.zero_add]
  have : ∀ d : Int, 0 < d → d / (2 * d) = 0 := fun d hd => Int.ediv_eq_zero_of_lt (by omega) (by omega)
  rw [this _ (by split <;> omega)]; simp
theorem near_full {a c : Int} (hc : 0 < c) : Wide.near (a * c) c = a := by
  unfold Wide.near
  rw [show 2 * (a * c) + c = c + a * (2 * c) by rw [Int.mul_left_comm]; omega, Int.add_mul_ediv_right _ _ (by omega), Int.ediv_eq_zero_of_lt (by omega) (by omega)]; omega
theorem md_full {a c : Int} (ha : -1152921504606846976 ≤ a ∧ a ≤ 1152921504606846976) (hc : c ≠ 0) : Wide.mulDivV a c c = a := by
  unfold Wide.mulDivV Wide.fitV
  rcases Int.lt_or_gt_of_ne hc with h | h
  · simp only [hc, h, if_true, if_false]
    rw [show -(a * c) = a * -c by rw [Int.mul_neg], near_full (by omega), if_pos (by omega)]
  · simp only [hc, show ¬ c < 0 by omega, if_false]
    rw [near_full h, if_pos (by omega)]
theorem fit_md {a b c : Int} (ha : -1152921504606846976 ≤ a ∧ a ≤ 1152921504606846976) (h : (0 < c ∧ 0 ≤ b ∧ b ≤ c) ∨ (c < 0 ∧ c ≤ b ∧ b ≤ 0)) : Wide.mulDivV a b c = if c < 0 then Wide.near (a * -b) (-c) else Wide.near (a * b) c := by
  unfold Wide.mulDivV Wide.fitV
  rcases h with ⟨hc, hb, hbc⟩ | ⟨hc, hb, hbc⟩
  · obtain ⟨p, q⟩ := near_share (a := a) hc hb hbc
    simp only [show ¬ c = 0 by omega, show ¬ c < 0 by omega, if_false]
    rw [if_pos (by have := p; have := q; omega)]
  · obtain ⟨p, q⟩ := near_share (a := a) (b := -b) (c := -c) (by omega) (by omega) (by omega)
    simp only [show ¬ c = 0 by omega, hc, if_true, if_false]
    rw [show -(a * b) = a * -b by rw [Int.mul_neg]]
    rw [if_pos (by have := p; have := q; omega)]
theorem near_rises {p q d : Int} (hd : 0 < d) (h : p ≤ q) : Wide.near p d ≤ Wide.near q d := by
  unfold Wide.near; exact Int.ediv_le_ediv (by omega) (by omega)
/-- The further on the way, the nearer to the end. -/
theorem md_rises {a b b' c : Int} (ha : -1152921504606846976 ≤ a ∧ a ≤ 1152921504606846976) (h : (0 < c ∧ 0 ≤ b ∧ b ≤ b' ∧ b' ≤ c) ∨ (c < 0 ∧ c ≤ b' ∧ b' ≤ b ∧ b ≤ 0)) :
    (0 ≤ a → Wide.mulDivV a b c ≤ Wide.mulDivV a b' c) ∧ (a ≤ 0 → Wide.mulDivV a b' c ≤ Wide.mulDivV a b c) := by
  rw [fit_md ha (by omega), fit_md ha (b := b') (by omega)]
  rcases h with ⟨h1, h2, h3, h4⟩ | ⟨h1, h2, h3, h4⟩
  · rw [if_neg (by omega), if_neg (by omega)]
    exact ⟨fun h0 => near_rises h1 (Int.mul_le_mul_of_nonneg_left h3 h0), fun h0 => near_rises h1 (Int.mul_le_mul_of_nonpos_left h0 h3)⟩
  · rw [if_pos h1, if_pos h1]
    exact ⟨fun h0 => near_rises (by omega) (Int.mul_le_mul_of_nonneg_left (by omega) h0), fun h0 => near_rises (by omega) (Int.mul_le_mul_of_nonpos_left h0 (by omega))⟩
end Go.Proofs.Ytjdpmaachehpnaa.MdMore
