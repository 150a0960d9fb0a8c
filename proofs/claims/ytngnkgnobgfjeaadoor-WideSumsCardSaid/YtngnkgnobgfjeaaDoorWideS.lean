/- Package wide's shift by a number of places, walked. For all arguments. -/
import Derived.Test.YtngnkgnobgfjeaaDoorWideC
namespace Go.Proofs.YtngnkgnobgfjeaaDoor.Wide
open Go Go.RowKit
set_option maxRecDepth 100000
set_option linter.unusedVariables false
set_option linter.unusedSimpArgs false

set_option maxHeartbeats 2000000 in
theorem shifted_pos {V hi lo : Int} (A : Big V hi lo) (n : Nat) (n0 : 1 ≤ n) (n1 : n ≤ 62) (h0 : -170141183460469231731687303715884105728 ≤ V + 2 ^ (n - 1)) (h1 : V + 2 ^ (n - 1) < 170141183460469231731687303715884105728) (w : World) :
    Calls Tryd.prog 28 #[.agg #[.int .u64 hi, .int .u64 lo], .int .i64 n] w (GivesBig ((V + 2 ^ (n - 1)) / 2 ^ n) w) := by
  have a1 := A.h0
  have a2 := A.h1
  have a3 := A.l0
  have a4 := A.l1
  have hn : ((n : Int) == 0) = false := by simp; omega
  have B : Big (2 ^ (n - 1)) 0 (IntKind.u64.wrap (2 ^ (n - 1))) := by
    have h1 : (2 : Int) ^ (n - 1) ≤ 2 ^ 62 := by
      have : 2 ^ (n - 1) ≤ 2 ^ 62 := Nat.pow_le_pow_right (by decide) (by omega)
      have h2 : ((2 ^ (n - 1) : Nat) : Int) ≤ ((2 ^ 62 : Nat) : Int) := Int.ofNat_le.2 this
      simpa using h2
    have h2 := pow_pos' (n - 1)
    have h3 : (2 : Int) ^ 62 = 4611686018427387904 := by decide
    rw [Num.wrap_u64, Int.emod_eq_of_lt (by omega) (by omega)]
    exact Big.small (by omega) (by omega)
  have R := fun w => add_calls A B w
  go_enter Tryd.func28, Tryd.ntmps28
  go_wp2_with (go_at_call 9; ((with_reducible refine (R _).mono ?_); rintro e w1 ⟨rh, rl, BA, rfl, hb1⟩; obtain ⟨k1, k2, k3, k4, k5, k6, k7, k8⟩ := two_boxes hb1; have hz := hb1.size; simp at hz; have hz0 : w.heap.size < w1.heap.size := (by omega); have hz1 : w.heap.size + 1 < w1.heap.size := (by omega); have c1 := BA.h0; have c2 := BA.h1; have c3 := BA.l0; have c4 := BA.l1))
  have BS := BA.shift h0 h1 n (by omega)
  refine bodyPost_ret (v := .agg #[.int .u64 (IntKind.u64.wrap (wrap64 rh / 2 ^ n)), .int .u64 (bits .or .u64 (IntKind.u64.wrap (rh * 2 ^ (64 - n))) (rl / 2 ^ n))]) ?_ rfl ⟨_, _, BS, rfl, ?_⟩
  · simp [results, Tryd.results28, go_sem, k1, k2, k3, k4]
  · have z_hb1 := hb1.size; (try simp at z_hb1); (repeat' (first | (with_reducible exact Below.refl _ _) | (with_reducible refine Below.drew ?_) | (with_reducible refine below_drewN ?_ _) | ((with_reducible refine Below.setCell ?_ ?side_ _); case side_ => (first | (with_reducible exact Nat.le_refl _) | (with_reducible assumption) | omega | (simp; done) | (simp; omega))) | ((with_reducible refine Below.alloc ?_ ?side_ _); case side_ => (first | (with_reducible exact Nat.le_refl _) | (with_reducible assumption) | omega | (simp; done) | (simp; omega))) | ((with_reducible refine Below.trans ?_ (hb1.mono ?side_)); case side_ => (first | (with_reducible exact Nat.le_refl _) | (with_reducible assumption) | omega | (simp; done) | (simp; omega)))))

set_option maxHeartbeats 2000000 in
theorem shifted_zero {V hi lo : Int} (A : Big V hi lo) (w : World) :
    Calls Tryd.prog 28 #[.agg #[.int .u64 hi, .int .u64 lo], .int .i64 0] w (GivesBig V w) := by
  have hn : ((0 : Int) == 0) = true := by decide
  go_enter Tryd.func28, Tryd.ntmps28
  go_wp2
  refine bodyPost_ret (v := .agg #[.int .u64 hi, .int .u64 lo]) ?_ rfl ⟨_, _, A, rfl, ?_⟩
  · simp [results, Tryd.results28, go_sem]
  · (repeat' (first | (with_reducible exact Below.refl _ _) | (with_reducible refine Below.drew ?_) | (with_reducible refine below_drewN ?_ _) | ((with_reducible refine Below.setCell ?_ ?side_ _); case side_ => (first | (with_reducible exact Nat.le_refl _) | (with_reducible assumption) | omega | (simp; done) | (simp; omega))) | ((with_reducible refine Below.alloc ?_ ?side_ _); case side_ => (first | (with_reducible exact Nat.le_refl _) | (with_reducible assumption) | omega | (simp; done) | (simp; omega)))))
end Go.Proofs.YtngnkgnobgfjeaaDoor.Wide
