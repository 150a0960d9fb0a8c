/- Long division of a number of two words by one of one word, digit by digit (base 2^32): each digit that the loop stops at is the true one, and the two together are the quotient. For all words, the upper one less than the divisor. -/
import Derived.Test.YtngnkgnobgfjeaaDoorBigShift
namespace Go.Proofs.YtngnkgnobgfjeaaDoor.Wide
open Go Go.RowKit

/-- What a digit's search knows: the divisor Y with its upper digit at least 2^31, the rest U below it, the next digit u1, and the true digit D. -/
structure Digit (Y yn1 yn0 U u1 D : Int) : Prop where
  y : Y = yn1 * 4294967296 + yn0
  y1 : 2147483648 ≤ yn1
  y1' : yn1 ≤ 4294967295
  y0 : 0 ≤ yn0
  y0' : yn0 ≤ 4294967295
  u : 0 ≤ U
  u' : U < Y
  v : 0 ≤ u1
  v' : u1 ≤ 4294967295
  d : D = (U * 4294967296 + u1) / Y

theorem Digit.dY {Y yn1 yn0 U u1 D : Int} (h : Digit Y yn1 yn0 U u1 D) : D * Y ≤ U * 4294967296 + u1 ∧ U * 4294967296 + u1 < D * Y + Y ∧ 0 ≤ D ∧ D ≤ 4294967295 := by
  obtain ⟨y, y1, y1', y0, y0', u, u', v, v', d⟩ := h
  have hY : 0 < Y := by omega
  have e := Int.mul_ediv_add_emod (U * 4294967296 + u1) Y
  rw [← d, Int.mul_comm] at e
  have m0 := Int.emod_nonneg (U * 4294967296 + u1) (show Y ≠ 0 by omega)
  have m1 := Int.emod_lt_of_pos (U * 4294967296 + u1) hY
  have d0 : 0 ≤ D := by rw [d]; exact Int.ediv_nonneg (by omega) (by omega)
  refine ⟨by omega, by omega, d0, ?_⟩
  have : D < 4294967296 := by
    rw [d]; apply Int.ediv_lt_of_lt_mul hY
    omega
  omega

theorem Digit.start {Y yn1 yn0 U u1 D : Int} (h : Digit Y yn1 yn0 U u1 D) : U / yn1 * yn1 + (U - U / yn1 * yn1) = U ∧ D ≤ U / yn1 ∧ U / yn1 ≤ 4294967297 ∧ 0 ≤ U - U / yn1 * yn1 ∧ U - U / yn1 * yn1 < 4294967296 ∧ U / yn1 * yn1 ≤ U ∧ 0 ≤ U / yn1 * yn1 := by
  obtain ⟨d1, d2, d3, d4⟩ := h.dY
  obtain ⟨y, y1, y1', y0, y0', u, u', v, v', d⟩ := h
  have e := Int.mul_ediv_add_emod U yn1
  rw [Int.mul_comm] at e
  have m0 := Int.emod_nonneg U (show yn1 ≠ 0 by omega)
  have m1 := Int.emod_lt_of_pos U (show 0 < yn1 by omega)
  have q0 : 0 ≤ U / yn1 := Int.ediv_nonneg u (by omega)
  have q1 : 0 ≤ U / yn1 * yn1 := Int.mul_nonneg q0 (by omega)
  refine ⟨by omega, ?_, ?_, by omega, by omega, by omega, q1⟩
  · apply Int.le_ediv_of_mul_le (by omega)
    have h1 : D * Y = D * yn1 * 4294967296 + D * yn0 := by rw [y, Int.mul_add, Int.mul_assoc]
    have h2 : 0 ≤ D * yn0 := Int.mul_nonneg d3 y0
    omega
  · have : U / yn1 < 4294967298 := by
      apply Int.ediv_lt_of_lt_mul (by omega)
      omega
    omega

theorem Digit.step {Y yn1 yn0 U u1 D Q R : Int} (h : Digit Y yn1 yn0 U u1 D) (e : Q * yn1 + R = U) (hD : D ≤ Q) (ht : 4294967296 ≤ Q ∨ 4294967296 * R + u1 < Q * yn0) : D ≤ Q - 1 := by
  obtain ⟨d1, d2, d3, d4⟩ := h.dY
  rcases ht with ht | ht
  · omega
  · rcases Int.lt_or_le D Q with hl | hl
    · omega
    · have hq : Q = D := by omega
      subst hq
      have h1 : Q * Y = Q * yn1 * 4294967296 + Q * yn0 := by rw [h.y, Int.mul_add, Int.mul_assoc]
      omega

theorem Digit.exit1 {Y yn1 yn0 U u1 D Q R : Int} (h : Digit Y yn1 yn0 U u1 D) (e : Q * yn1 + R = U) (hD : D ≤ Q) (ht : ¬ 4294967296 * R + u1 < Q * yn0) : Q = D := by
  have h1 : Q * Y = Q * yn1 * 4294967296 + Q * yn0 := by rw [h.y, Int.mul_add, Int.mul_assoc]
  have hY : 0 < Y := by have := h.y; have := h.y1; have := h.y0; omega
  have : Q ≤ D := by
    rw [h.d]; apply Int.le_ediv_of_mul_le hY
    omega
  omega

theorem Digit.exit2 {Y yn1 yn0 U u1 D Q R : Int} (h : Digit Y yn1 yn0 U u1 D) (e : Q * yn1 + R = U) (hD : D ≤ Q) (hQ : Q ≤ 4294967296) (hR : 4294967296 ≤ R) : Q = D := by
  have h1 : Q * Y = Q * yn1 * 4294967296 + Q * yn0 := by rw [h.y, Int.mul_add, Int.mul_assoc]
  have hY : 0 < Y := by have := h.y; have := h.y1; have := h.y0; omega
  have hd := h.dY
  have h2 : Q * yn0 ≤ 4294967296 * 4294967295 := Int.mul_le_mul hQ h.y0' h.y0 (by omega)
  have : Q ≤ D := by
    have hv := h.v
    rw [h.d]; apply Int.le_ediv_of_mul_le hY
    omega
  omega

/-- The rest behind a digit. -/
theorem Digit.rest {Y yn1 yn0 U u1 D : Int} (h : Digit Y yn1 yn0 U u1 D) : 0 ≤ U * 4294967296 + u1 - D * Y ∧ U * 4294967296 + u1 - D * Y < Y := by
  have := h.dY; omega

theorem Digit.mulb {Y yn1 yn0 U u1 D Q : Int} (h : Digit Y yn1 yn0 U u1 D) (q0 : 0 ≤ Q) (q1 : Q ≤ 4294967297) : 0 ≤ Q * yn0 ∧ Q * yn0 ≤ 18446744073709551615 :=
  ⟨Int.mul_nonneg q0 h.y0, Int.le_trans (Int.mul_le_mul q1 h.y0' h.y0 (by omega)) (by omega)⟩

/-- Two digits make the quotient and the rest: of U 2^64 + u1 2^32 + u0. -/
theorem two_digits {Y yn1 yn0 U u1 u0 D1 D0 : Int} (h : Digit Y yn1 yn0 U u1 D1) (k : Digit Y yn1 yn0 (U * 4294967296 + u1 - D1 * Y) u0 D0) :
    (U * 18446744073709551616 + (u1 * 4294967296 + u0)) / Y = D1 * 4294967296 + D0 ∧
    (U * 18446744073709551616 + (u1 * 4294967296 + u0)) % Y = (U * 4294967296 + u1 - D1 * Y) * 4294967296 + u0 - D0 * Y := by
  have r := k.rest
  have hY : 0 < Y := by have := h.y; have := h.y1; have := h.y0; omega
  have e : U * 18446744073709551616 + (u1 * 4294967296 + u0) = ((U * 4294967296 + u1 - D1 * Y) * 4294967296 + u0 - D0 * Y) + Y * (D1 * 4294967296 + D0) := by
    have : Y * (D1 * 4294967296 + D0) = D1 * Y * 4294967296 + D0 * Y := by
      rw [Int.mul_add, Int.mul_comm Y D0, ← Int.mul_assoc, Int.mul_comm Y D1]
    rw [this]; omega
  constructor
  · rw [e, Int.add_mul_ediv_left _ _ (by omega), Int.ediv_eq_zero_of_lt r.1 r.2]; omega
  · rw [e, Int.add_mul_emod_self_left]; exact Int.emod_eq_of_lt r.1 r.2

/-- The divisor and the dividend, shifted so that the divisor's highest bit is its word's. -/
structure Norm (hi lo y : Int) (n : Nat) (Y U un : Int) : Prop where
  Y : Y = y * 2 ^ n
  U : U = hi * 2 ^ n + lo / 2 ^ (64 - n)
  un : un = lo * 2 ^ n % 18446744073709551616

theorem Norm.total {hi lo y : Int} {n : Nat} {Y U un : Int} (N : Norm hi lo y n Y U un) (n1 : n ≤ 63) :
    U * 18446744073709551616 + un = (hi * 18446744073709551616 + lo) * 2 ^ n := by
  have hMK := pow_split n (by omega)
  have hM := pow_pos' n
  have hK := pow_pos' (64 - n)
  rw [N.U, N.un]
  have e1 : lo * 2 ^ n / 18446744073709551616 = lo / 2 ^ (64 - n) := by
    rw [← hMK, Int.mul_comm lo, Int.mul_ediv_mul_of_pos _ _ hM]
  have e2 := Int.mul_ediv_add_emod (lo * 2 ^ n) 18446744073709551616
  rw [e1] at e2
  rw [Int.add_mul, Int.add_mul, Int.mul_right_comm hi]
  omega

theorem Norm.below {hi lo y : Int} {n : Nat} {Y U un : Int} (N : Norm hi lo y n Y U un) (n1 : n ≤ 63) (h0 : 0 ≤ hi) (hy : hi < y) (l0 : 0 ≤ lo) (l1 : lo ≤ 18446744073709551615) : 0 ≤ U ∧ U < Y ∧ 0 ≤ lo / 2 ^ (64 - n) ∧ lo / 2 ^ (64 - n) < 2 ^ n ∧ 0 ≤ hi * 2 ^ n ∧ 0 ≤ un ∧ un ≤ 18446744073709551615 := by
  have hMK := pow_split n (by omega)
  have hM := pow_pos' n
  have hK := pow_pos' (64 - n)
  have d0 : 0 ≤ lo / 2 ^ (64 - n) := Int.ediv_nonneg l0 (by omega)
  have d1 : lo / 2 ^ (64 - n) < 2 ^ n := by
    apply Int.ediv_lt_of_lt_mul hK
    rw [hMK]; omega
  have h2 : 0 ≤ hi * 2 ^ n := Int.mul_nonneg h0 (by omega)
  have h3 : (hi + 1) * 2 ^ n ≤ y * 2 ^ n := Int.mul_le_mul_of_nonneg_right (by omega) (by omega)
  rw [Int.add_mul] at h3
  have hU := N.U
  have hYe := N.Y
  have hun := N.un
  refine ⟨by omega, by omega, d0, d1, h2, by omega, by omega⟩

theorem Norm.done {hi lo y : Int} {n : Nat} {Y U un : Int} (N : Norm hi lo y n Y U un) (n1 : n ≤ 63) :
    (U * 18446744073709551616 + un) / Y = (hi * 18446744073709551616 + lo) / y ∧ (U * 18446744073709551616 + un) % Y / 2 ^ n = (hi * 18446744073709551616 + lo) % y := by
  have hM := pow_pos' n
  rw [N.total n1, N.Y]
  constructor
  · exact Int.mul_ediv_mul_of_pos_left _ _ hM
  · rw [Int.mul_comm _ (2 ^ n), Int.mul_comm y, Int.mul_emod_mul_of_pos _ _ hM, Int.mul_ediv_cancel_left _ (by omega)]
end Go.Proofs.YtngnkgnobgfjeaaDoor.Wide
