/- Package wide's calls, walked: MulDiv, Dot, MulShift answer the nearest whole number, of two the greater one, if it is one of 64 bits. For all arguments. -/
import Derived.Test.YtngnkgnobgfjeaaDiv64
namespace Go.Proofs.Ytngnkgnobgfjeaa.Wide
open Go Go.RowKit
set_option maxRecDepth 100000
set_option linter.unusedVariables false
set_option linter.unusedSimpArgs false

/-- The nearest whole number to p / d, of two the greater one. -/
def near (p d : Int) : Int := (2 * p + d) / (2 * d)
/-- The product divided: what MulDiv answers. -/
def mulDivV (a b c : Int) : Int := if c = 0 then 0 else fitV (near (if c < 0 then -(a * b) else a * b) (if c < 0 then -c else c))
def mulDivB (a b c : Int) : Bool := if c = 0 then false else fitB (near (if c < 0 then -(a * b) else a * b) (if c < 0 then -c else c))

theorem near_qr {p d M q r : Int} (hd : 1 ≤ d) (hM : M = if p < 0 then -p else p) (hq : M / d = q) (hr : M % d = r) :
    near p d = if p < 0 then -(q + if d < 2 * r then 1 else 0) else q + if d ≤ 2 * r then 1 else 0 := by
  have e := Int.mul_ediv_add_emod M d
  rw [hq, hr] at e
  have r0 : 0 ≤ r := by rw [← hr]; exact Int.emod_nonneg _ (by omega)
  have r1 : r < d := by rw [← hr]; exact Int.emod_lt_of_pos _ (by omega)
  unfold near
  by_cases hp : p < 0
  · rw [if_pos hp] at hM ⊢
    have h1 : 2 * p + d = (d - 2 * r) + 2 * d * (-q) := by
      have : 2 * d * (-q) = -(2 * (d * q)) := by rw [Int.mul_neg, Int.mul_assoc]
      omega
    rw [h1, Int.add_mul_ediv_left _ _ (by omega)]
    by_cases h2 : d < 2 * r
    · rw [if_pos h2]
      have : (d - 2 * r) / (2 * d) = -1 := by
        rw [Int.ediv_eq_iff_of_pos (by omega)]; omega
      omega
    · rw [if_neg h2, Int.ediv_eq_zero_of_lt (by omega) (by omega)]; omega
  · rw [if_neg hp] at hM ⊢
    have h1 : 2 * p + d = (2 * r + d) + 2 * d * q := by
      have : 2 * d * q = 2 * (d * q) := Int.mul_assoc _ _ _
      omega
    rw [h1, Int.add_mul_ediv_left _ _ (by omega)]
    by_cases h2 : d ≤ 2 * r
    · rw [if_pos h2]
      have : (2 * r + d) / (2 * d) = 1 := by
        rw [Int.ediv_eq_iff_of_pos (by omega)]; omega
      omega
    · rw [if_neg h2, Int.ediv_eq_zero_of_lt (by omega) (by omega)]; omega

theorem two_boxes {w w1 : World} {x0 x1 y0 y1 : Value} {t : TypeId} (hb : Below ((w.alloc (.cells #[x0, x1] t)).alloc (.cells #[y0, y1] t)).heap.size ((w.alloc (.cells #[x0, x1] t)).alloc (.cells #[y0, y1] t)) w1) :
    w1.cell? ⟨w.heap.size, 0, none⟩ = some x0 ∧ w1.cell? ⟨w.heap.size, 1, none⟩ = some x1 ∧ w1.cell? ⟨w.heap.size + 1, 0, none⟩ = some y0 ∧ w1.cell? ⟨w.heap.size + 1, 1, none⟩ = some y1 ∧
    w1.frozen? ⟨w.heap.size, 0, none⟩ = false ∧ w1.frozen? ⟨w.heap.size, 1, none⟩ = false ∧ w1.frozen? ⟨w.heap.size + 1, 0, none⟩ = false ∧ w1.frozen? ⟨w.heap.size + 1, 1, none⟩ = false := by
  obtain ⟨hc, hf⟩ := bcell hb
  refine ⟨?_, ?_, ?_, ?_, ?_, ?_, ?_, ?_⟩ <;> first | (rw [hc _ _ (by simp; try omega)]; simp [go_sem]) | (rw [hf _ _ (by simp; try omega)]; simp [go_sem])

set_option maxHeartbeats 2000000 in
theorem shifted_pos {V hi lo : Int} (A : Big V hi lo) (n : Nat) (n0 : 1 ≤ n) (n1 : n ≤ 62) (h0 : -170141183460469231731687303715884105728 ≤ V + 2 ^ (n - 1)) (h1 : V + 2 ^ (n - 1) < 170141183460469231731687303715884105728) (w : World) :
    Calls Try.prog 39 #[.agg #[.int .u64 hi, .int .u64 lo], .int .i64 n] w (GivesBig ((V + 2 ^ (n - 1)) / 2 ^ n) w) := by
  have a1 := A.h0
  have a2 := A.h1
  have a3 := A.l0
  have a4 := A.l1
  have hn : ((n : Int) == 0) = false := by simp; omega
  have B : Big (2 ^ (n - 1)) 0 (IntKind.u64.wrap (2 ^ (n - 1))) := by
    have h1 : (2 : Int) ^ (n - 1) ≤ 2 ^ 62 := by
      have : 2 ^ (n - 1) ≤ 2 ^ 62 := Nat.pow_le_pow_right (by decide) (by omega)
      have h2 : ((2 ^ (n - 1) : Nat) : Int) ≤ ((2 ^ 62 : Nat) : Int) := Int.ofNat_le.2 this
      simpa using h2
    have h2 := pow_pos' (n - 1)
    have h3 : (2 : Int) ^ 62 = 4611686018427387904 := by decide
    rw [Num.wrap_u64, Int.emod_eq_of_lt (by omega) (by omega)]
    exact Big.small (by omega) (by omega)
  have R := fun w => add_calls A B w
  go_enter Try.func39, Try.ntmps39
  go_wp2_with (go_at_call 33; ((with_reducible refine (R _).mono ?_); rintro e w1 ⟨rh, rl, BA, rfl, hb1⟩; obtain ⟨k1, k2, k3, k4, k5, k6, k7, k8⟩ := two_boxes hb1; have hz := hb1.size; simp at hz; have hz0 : w.heap.size < w1.heap.size := (by omega); have hz1 : w.heap.size + 1 < w1.heap.size := (by omega); have c1 := BA.h0; have c2 := BA.h1; have c3 := BA.l0; have c4 := BA.l1))
  have BS := BA.shift h0 h1 n (by omega)
  refine bodyPost_ret (v := .agg #[.int .u64 (IntKind.u64.wrap (wrap64 rh / 2 ^ n)), .int .u64 (bits .or .u64 (IntKind.u64.wrap (rh * 2 ^ (64 - n))) (rl / 2 ^ n))]) ?_ rfl ⟨_, _, BS, rfl, ?_⟩
  · simp [results, Try.results39, go_sem, k1, k2, k3, k4]
  · have z_hb1 := hb1.size; (try simp at z_hb1); repeat' (first | exact Below.refl _ _ | (refine Below.setCell ?_ (by first | omega | (simp; done) | (simp; omega)) _) | (refine Below.alloc ?_ (by first | omega | (simp; done) | (simp; omega)) _) | (refine Below.trans ?_ (hb1.mono (by first | omega | (simp; done) | (simp; omega)))))

set_option maxHeartbeats 2000000 in
theorem shifted_zero {V hi lo : Int} (A : Big V hi lo) (w : World) :
    Calls Try.prog 39 #[.agg #[.int .u64 hi, .int .u64 lo], .int .i64 0] w (GivesBig V w) := by
  have hn : ((0 : Int) == 0) = true := by decide
  go_enter Try.func39, Try.ntmps39
  go_wp2
  refine bodyPost_ret (v := .agg #[.int .u64 hi, .int .u64 lo]) ?_ rfl ⟨_, _, A, rfl, ?_⟩
  · simp [results, Try.results39, go_sem]
  · repeat' (first | exact Below.refl _ _ | (refine Below.setCell ?_ (by first | omega | (simp; done) | (simp; omega)) _) | (refine Below.alloc ?_ (by first | omega | (simp; done) | (simp; omega)) _))
end Go.Proofs.Ytngnkgnobgfjeaa.Wide
