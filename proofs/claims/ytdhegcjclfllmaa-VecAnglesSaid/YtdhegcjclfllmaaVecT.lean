/- Package vec's Turn, walked: a direction turned by quarters. For all directions within reach, and any number of quarters. -/
import Derived.Test.YtdhegcjclfllmaaPEx0
import Derived.Test.YtdhegcjclfllmaaWm1
import Derived.Test.YtdhegcjclfllmaaProg
import Derived.WalkKit
import Derived.Below
import Derived.WideLaws
import Derived.Lib.Hide
namespace Go.Proofs.Ytdhegcjclfllmaa.VecT
open Go Go.RowKit Go.Proofs.Ytdhegcjclfllmaa.PE
set_option maxRecDepth 100000
set_option linter.unusedVariables false
set_option linter.unusedSimpArgs false
theorem w64 {x : Int} (h0 : -9223372036854775808 ≤ x) (h1 : x ≤ 9223372036854775807) : wrap64 x = x := by unfold wrap64; omega
/-- The quarter that is meant. -/
def quart (q : Int) : Int := (q.tmod 4 + 4).tmod 4
theorem quart_in (q : Int) : quart q = 0 ∨ quart q = 1 ∨ quart q = 2 ∨ quart q = 3 := by
  have h1 : -4 < q.tmod 4 ∧ q.tmod 4 < 4 := ⟨by have := Int.lt_tmod_of_pos q (b := 4) (by decide); omega, Int.tmod_lt_of_pos q (by decide)⟩
  unfold quart
  rw [Int.tmod_eq_emod_of_nonneg (by omega)]
  omega
def turnX (m x y : Int) : Int := if m = 0 then x else if m = 1 then -y else if m = 2 then -x else y
def turnY (m x y : Int) : Int := if m = 0 then y else if m = 1 then x else if m = 2 then -y else -x
set_option maxHeartbeats 4000000 in
theorem turn_calls (x y q : Int) (hx : -4611686018427387904 ≤ x ∧ x ≤ 4611686018427387904) (hy : -4611686018427387904 ≤ y ∧ y ≤ 4611686018427387904) (w : World) :
    Calls Try.prog 32 #[.agg #[.int .i64 x, .int .i64 y], .int .i64 q] w fun e w' => e = .returned (.agg #[.int .i64 (turnX (quart q) x y), .int .i64 (turnY (quart q) x y)]) ∧ Below w.heap.size w w' := by
  have e1 : wrap64 (-x) = -x := w64 (by omega) (by omega)
  have e2 : wrap64 (-y) = -y := w64 (by omega) (by omega)
  have h1 : -4 < q.tmod 4 ∧ q.tmod 4 < 4 := ⟨by have := Int.lt_tmod_of_pos q (b := 4) (by decide); omega, Int.tmod_lt_of_pos q (by decide)⟩
  have hq := quart_in q
  unfold quart at *
  obtain ⟨t, ht⟩ : ∃ t, q.tmod 4 = t := ⟨_, rfl⟩
  rw [ht] at h1 hq ⊢
  have e3 : wrap64 (t + 4) = t + 4 := w64 (by omega) (by omega)
  obtain ⟨m, hm⟩ : ∃ m, (t + 4).tmod 4 = m := ⟨_, rfl⟩
  rw [hm] at hq ⊢
  rcases hq with rfl | rfl | rfl | rfl
  all_goals
    go_enter Try.func32, Try.ntmps32
    go_wp2
    refine bodyPost_ret (v := .agg #[.int .i64 (turnX _ x y), .int .i64 (turnY _ x y)]) ?_ rfl ⟨rfl, by (repeat' (first | (with_reducible exact Below.refl _ _) | (with_reducible refine Below.drew ?_) | (with_reducible refine below_drewN ?_ _) | ((with_reducible refine Below.setCell ?_ ?side_ _); case side_ => (first | (with_reducible exact Nat.le_refl _) | (with_reducible assumption) | omega | (simp; done) | (simp; omega))) | ((with_reducible refine Below.alloc ?_ ?side_ _); case side_ => (first | (with_reducible exact Nat.le_refl _) | (with_reducible assumption) | omega | (simp; done) | (simp; omega)))))⟩
    simp [results, Try.results32, go_sem, turnX, turnY]
end Go.Proofs.Ytdhegcjclfllmaa.VecT
namespace Go.Proofs.Ytdhegcjclfllmaa.PE
open Go Go.RowKit
def vec_Turn.f (x y q : Int) : Option (Int × Int) :=
  if (-4611686018427387904 ≤ x ∧ x ≤ 4611686018427387904) ∧ -4611686018427387904 ≤ y ∧ y ≤ 4611686018427387904 then some (VecT.turnX (VecT.quart q) x y, VecT.turnY (VecT.quart q) x y) else none
theorem vec_Turn.calls (a0_0 a0_1 a1 r1 r2 : Int) (w : World) (h : vec_Turn.f a0_0 a0_1 a1 = some (r1, r2)) :
    Calls Try.prog 32 #[.agg #[.int .i64 a0_0, .int .i64 a0_1], .int .i64 a1] w fun e w' => e = .returned (.agg #[.int .i64 r1, .int .i64 r2]) ∧ Below w.heap.size w w' := by
  unfold vec_Turn.f at h
  split at h
  · rename_i hc
    cases h
    exact VecT.turn_calls a0_0 a0_1 a1 hc.1 hc.2 w
  · cases h
end Go.Proofs.Ytdhegcjclfllmaa.PE
