/- Package wide's calls, walked: MulDiv, Dot, MulShift answer the nearest whole number, of two the greater one, if it is one of 64 bits. For all arguments. -/
import Derived.Test.YtngnkgnobgfjeaaDoorDiv64
namespace Go.Proofs.YtngnkgnobgfjeaaDoor.Wide
open Go Go.RowKit
set_option maxRecDepth 100000
set_option linter.unusedVariables false
set_option linter.unusedSimpArgs false

/-- The nearest whole number to p / d, of two the greater one. -/
def near (p d : Int) : Int := (2 * p + d) / (2 * d)
/-- The product divided: what MulDiv answers. -/
def mulDivV (a b c : Int) : Int := if c = 0 then 0 else fitV (near (if c < 0 then -(a * b) else a * b) (if c < 0 then -c else c))
def mulDivB (a b c : Int) : Bool := if c = 0 then false else fitB (near (if c < 0 then -(a * b) else a * b) (if c < 0 then -c else c))

theorem near_qr {p d M q r : Int} (hd : 1 ≤ d) (hM : M = if p < 0 then -p else p) (hq : M / d = q) (hr : M % d = r) :
    near p d = if p < 0 then -(q + if d < 2 * r then 1 else 0) else q + if d ≤ 2 * r then 1 else 0 := by
  have e := Int.mul_ediv_add_emod M d
  rw [hq, hr] at e
  have r0 : 0 ≤ r := by rw [← hr]; exact Int.emod_nonneg _ (by omega)
  have r1 : r < d := by rw [← hr]; exact Int.emod_lt_of_pos _ (by omega)
  unfold near
  by_cases hp : p < 0
  · rw [if_pos hp] at hM ⊢
    have h1 : 2 * p + d = (d - 2 * r) + 2 * d * (-q) := by
      have : 2 * d * (-q) = -(2 * (d * q)) := by rw [Int.mul_neg, Int.mul_assoc]
      omega
    rw [h1, Int.add_mul_ediv_left _ _ (by omega)]
    by_cases h2 : d < 2 * r
    · rw [if_pos h2]
      have : (d - 2 * r) / (2 * d) = -1 := by
        rw [Int.ediv_eq_iff_of_pos (by omega)]; omega
      omega
    · rw [if_neg h2, Int.ediv_eq_zero_of_lt (by omega) (by omega)]; omega
  · rw [if_neg hp] at hM ⊢
    have h1 : 2 * p + d = (2 * r + d) + 2 * d * q := by
      have : 2 * d * q = 2 * (d * q) := Int.mul_assoc _ _ _
      omega
    rw [h1, Int.add_mul_ediv_left _ _ (by omega)]
    by_cases h2 : d ≤ 2 * r
    · rw [if_pos h2]
      have : (2 * r + d) / (2 * d) = 1 := by
        rw [Int.ediv_eq_iff_of_pos (by omega)]; omega
      omega
    · rw [if_neg h2, Int.ediv_eq_zero_of_lt (by omega) (by omega)]; omega

theorem two_boxes {w w1 : World} {x0 x1 y0 y1 : Value} {t : TypeId} (hb : Below ((w.alloc (.cells #[x0, x1] t)).alloc (.cells #[y0, y1] t)).heap.size ((w.alloc (.cells #[x0, x1] t)).alloc (.cells #[y0, y1] t)) w1) :
    w1.cell? ⟨w.heap.size, 0, none⟩ = some x0 ∧ w1.cell? ⟨w.heap.size, 1, none⟩ = some x1 ∧ w1.cell? ⟨w.heap.size + 1, 0, none⟩ = some y0 ∧ w1.cell? ⟨w.heap.size + 1, 1, none⟩ = some y1 ∧
    w1.frozen? ⟨w.heap.size, 0, none⟩ = false ∧ w1.frozen? ⟨w.heap.size, 1, none⟩ = false ∧ w1.frozen? ⟨w.heap.size + 1, 0, none⟩ = false ∧ w1.frozen? ⟨w.heap.size + 1, 1, none⟩ = false := by
  obtain ⟨hc, hf⟩ := bcell hb
  refine ⟨?_, ?_, ?_, ?_, ?_, ?_, ?_, ?_⟩ <;> first | (rw [hc _ _ (by simp; try omega)]; simp [go_sem]) | (rw [hf _ _ (by simp; try omega)]; simp [go_sem])

end Go.Proofs.YtngnkgnobgfjeaaDoor.Wide
