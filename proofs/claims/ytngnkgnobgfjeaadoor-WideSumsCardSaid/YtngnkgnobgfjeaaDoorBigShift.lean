/- A number of 128 bits, shifted to the right by a count: the two words that the code puts together. For every number in range. -/
import Derived.Test.YtngnkgnobgfjeaaDoorBig
namespace Go.Proofs.YtngnkgnobgfjeaaDoor.Wide
open Go Go.RowKit
theorem pow_split (n : Nat) (n1 : n ≤ 64) : (2 : Int) ^ n * 2 ^ (64 - n) = 18446744073709551616 := by
  rw [← Int.pow_add, show n + (64 - n) = 64 by omega]; decide
theorem pow_pos' (n : Nat) : (0 : Int) < 2 ^ n := Int.pow_pos (by decide)
theorem or_join {i : Nat} {x y : Int} (hx0 : 0 ≤ x) (hx : x % 2 ^ i = 0) (hx1 : x < 18446744073709551616) (hy0 : 0 ≤ y) (hy : y < 2 ^ i) (hy1 : y < 18446744073709551616) :
    bits .or .u64 x y = x + y :=
  bits_join .u64 64 (by decide) (fun n h0 h1 => by rw [Num.wrap_u64]; exact Int.emod_eq_of_lt h0 (by simpa using h1)) i x y hx0 hx (by simpa using hx1) hy0 hy (by simpa using hy1)
theorem Big.shift {V rh rl : Int} (A : Big V rh rl) (h0 : -170141183460469231731687303715884105728 ≤ V) (h1 : V < 170141183460469231731687303715884105728) (n : Nat) (n1 : n ≤ 63) :
    Big (V / 2 ^ n) (IntKind.u64.wrap (wrap64 rh / 2 ^ n)) (bits .or .u64 (IntKind.u64.wrap (rh * 2 ^ (64 - n))) (rl / 2 ^ n)) := by
  have hMK := pow_split n (by omega)
  have hM := pow_pos' n
  have hK := pow_pos' (64 - n)
  have hKb : (2 : Int) ≤ 2 ^ (64 - n) := by
    obtain ⟨j, hj⟩ : ∃ j, 64 - n = j + 1 := ⟨63 - n, by omega⟩
    rw [hj, Int.pow_succ]
    have := pow_pos' j
    omega
  obtain ⟨s, hs⟩ : ∃ s, s = wrap64 rh := ⟨_, rfl⟩
  have hVs : V = s * 18446744073709551616 + rl ∧ -9223372036854775808 ≤ s ∧ s ≤ 9223372036854775807 ∧ ∃ c, rh = s + c * 18446744073709551616 := by
    obtain ⟨a1, a2, a3, a4, ae⟩ := A
    unfold wrap64 at hs
    refine ⟨by omega, by omega, by omega, ⟨-((rh + 9223372036854775808) / 18446744073709551616) * (-1), by omega⟩⟩
  obtain ⟨hV, s0, s1, c, hc⟩ := hVs
  rw [← hs]
  obtain ⟨l0, l1⟩ : 0 ≤ rl ∧ rl ≤ 18446744073709551615 := ⟨A.l0, A.l1⟩
  clear A hs
  generalize hMe : (2 : Int) ^ n = M at *
  generalize hKe : (2 : Int) ^ (64 - n) = K at *
  obtain ⟨q, hq⟩ : ∃ q, q = s / M := ⟨_, rfl⟩
  obtain ⟨r, hr⟩ : ∃ r, r = s % M := ⟨_, rfl⟩
  have hqr : s = M * q + r := by rw [hq, hr]; exact (Int.mul_ediv_add_emod s M).symm
  have r0 : 0 ≤ r := by rw [hr]; exact Int.emod_nonneg _ (by omega)
  have r1 : r < M := by rw [hr]; exact Int.emod_lt_of_pos _ hM
  have rk0 : 0 ≤ r * K := Int.mul_nonneg r0 (by omega)
  have rk1 : r * K < 18446744073709551616 := by rw [← hMK]; exact Int.mul_lt_mul_of_pos_right r1 hK
  have e1 : (rh * K) % 18446744073709551616 = r * K := by
    have : rh * K = r * K + (q + c * K) * 18446744073709551616 := by
      rw [hc, hqr, ← hMK]
      simp only [Int.mul_add, Int.mul_comm, Int.mul_left_comm]
      omega
    rw [this, Int.add_mul_emod_self_right]
    exact Int.emod_eq_of_lt rk0 rk1
  have d0 : 0 ≤ rl / M := Int.ediv_nonneg l0 (by omega)
  have d1 : rl / M < K := by
    apply Int.ediv_lt_of_lt_mul hM
    rw [Int.mul_comm K M, hMK]; omega
  have e2 : V / M = q * 18446744073709551616 + (r * K + rl / M) := by
    have : V = rl + M * (q * 18446744073709551616 + r * K) := by
      rw [hV, hqr]
      have h3 : M * (r * K) = r * 18446744073709551616 := by rw [← hMK]; simp only [Int.mul_comm, Int.mul_left_comm]
      rw [Int.mul_add, h3, Int.add_mul, ← Int.mul_assoc]
      omega
    rw [this, Int.add_mul_ediv_left _ _ (by omega)]
    omega
  have q0 : -9223372036854775808 ≤ q := by rw [hq]; exact Int.le_ediv_of_mul_le hM (by
    have : -9223372036854775808 * M ≤ -9223372036854775808 * 1 := Int.mul_le_mul_of_nonpos_left (by omega) (by omega)
    omega)
  have q1 : q ≤ 9223372036854775807 := by rw [hq]; exact Int.le_trans (Int.ediv_le_ediv hM s1) (Int.ediv_le_self _ (by omega))
  have hK64 : K ≤ 18446744073709551616 := by
    have : 1 * K ≤ M * K := Int.mul_le_mul_of_nonneg_right (by omega) (by omega)
    rw [hMK] at this; omega
  have hlo : bits .or .u64 (IntKind.u64.wrap (rh * K)) (rl / M) = r * K + rl / M := by
    rw [Num.wrap_u64, e1]
    refine or_join (i := 64 - n) rk0 ?_ rk1 d0 (by rw [hKe]; exact d1) (by omega)
    rw [hKe]; exact Int.mul_emod_left r K
  have hlt : r * K + rl / M < 18446744073709551616 := by
    have : (r + 1) * K ≤ M * K := Int.mul_le_mul_of_nonneg_right (by omega) (by omega)
    rw [hMK, Int.add_mul] at this
    omega
  rw [hlo, Num.wrap_u64, ← hq, e2]
  generalize r * K = rk at *
  generalize rl / M = d at *
  clear e2 hqr hq hr e1 hlo hV hc
  constructor <;> omega
end Go.Proofs.YtngnkgnobgfjeaaDoor.Wide
