/- The law WideDots, walked: package wide's sums of products are ref01's. For all arguments. -/
import Derived.Test.YtngnkgnobgfjeaaWideMd
import Derived.Test.YtngnkgnobgfjeaaRefK
namespace Go.Proofs.Ytngnkgnobgfjeaa.Wide
open Go Go.RowKit
set_option maxRecDepth 100000
set_option linter.unusedVariables false
set_option linter.unusedSimpArgs false

theorem nr_pow (z : Int) (n : Nat) : Ref.nr z (2 ^ n) = near z (2 ^ n) := by
  have := Ref.two_pow_pos n
  rw [nr_near, if_neg (by omega), if_neg (by omega)]
theorem do_ref (a b c d s : Int) : Ref.doV a b c d s = dotV a b c d s ∧ Ref.doB a b c d s = dotB a b c d s := by
  unfold Ref.doV Ref.doB dotV dotB
  rw [nr_pow]; exact ⟨rfl, rfl⟩

theorem four_box {w W : World} {x0 x1 x2 x3 : Value} {t : TypeId} (hW : Below (w.alloc (.cells #[x0, x1, x2, x3] t)).heap.size (w.alloc (.cells #[x0, x1, x2, x3] t)) W) :
    W.cell? ⟨w.heap.size, 0, none⟩ = some x0 ∧ W.cell? ⟨w.heap.size, 1, none⟩ = some x1 ∧ W.cell? ⟨w.heap.size, 2, none⟩ = some x2 ∧ W.cell? ⟨w.heap.size, 3, none⟩ = some x3 := by
  obtain ⟨hc, hf⟩ := bcell hW
  refine ⟨(hc _ _ (by simp)).trans ?_, (hc _ _ (by simp)).trans ?_, (hc _ _ (by simp)).trans ?_, (hc _ _ (by simp)).trans ?_⟩ <;> simp [go_sem]

set_option maxHeartbeats 4000000 in
theorem dots_calls (a b c d s : Int) (a0 : -9223372036854775808 ≤ a) (a1 : a ≤ 9223372036854775807) (b0 : -9223372036854775808 ≤ b) (b1 : b ≤ 9223372036854775807)
    (c0 : -9223372036854775808 ≤ c) (c1 : c ≤ 9223372036854775807) (d0 : -9223372036854775808 ≤ d) (d1 : d ≤ 9223372036854775807) (w : World) :
    Calls Try.prog 4 #[.agg #[.int .i64 a, .int .i64 b, .int .i64 c, .int .i64 d], .int .i64 s] w fun e w' => e = .returned (.bool true) ∧ Below w.heap.size w w' := by
  have M := fun w => dot_calls a b c d s a0 a1 b0 b1 c0 c1 d0 d1 w
  have N := fun w => mulshift_calls a b s a0 a1 b0 b1 w
  have R := fun w => Ref.dot_calls a b c d s a0 a1 b0 b1 c0 c1 d0 d1 w
  have T := fun w => Ref.dot_calls a b 0 0 s a0 a1 b0 b1 (by omega) (by omega) (by omega) (by omega) w
  rw [(do_ref a b c d s).1, (do_ref a b c d s).2] at R
  rw [(do_ref a b 0 0 s).1, (do_ref a b 0 0 s).2] at T
  generalize dotV a b c d s = n at *
  generalize dotB a b c d s = ok at *
  generalize dotV a b 0 0 s = m at *
  generalize dotB a b 0 0 s = p at *
  have MM := Lib.hid M
  have NN := Lib.hid N
  have RR := Lib.hid R
  have TT := Lib.hid T
  clear M N R T
  have q1 : (n == n) = true := by simp
  have q2 : (ok == ok) = true := by simp
  have q3 : (m == m) = true := by simp
  have q4 : (p == p) = true := by simp
  go_enter Try.func4, Try.ntmps4
  go_wp2_with (first
    | (go_at_call 13; ((with_reducible refine (wakes01_calls _).mono ?_); rintro e w1 ⟨rfl, hb1⟩; have B1 : Below (w.alloc (.cells #[.int .i64 a, .int .i64 b, .int .i64 c, .int .i64 d] 26)).heap.size (w.alloc (.cells #[.int .i64 a, .int .i64 b, .int .i64 c, .int .i64 d] 26)) w1 := hb1; obtain ⟨g0, g1, g2, g3⟩ := four_box B1))
    | (go_at_call 16; ((with_reducible refine (MM.out _).mono ?_); rintro e w2 ⟨rfl, hb2⟩; have B2 := below_more B1 hb2; obtain ⟨g0, g1, g2, g3⟩ := four_box B2))
    | (go_at_call 17; ((with_reducible refine (RR.out _).mono ?_); rintro e w3 ⟨rfl, hb3⟩; have B3 := below_more B2 hb3; obtain ⟨g0, g1, g2, g3⟩ := four_box B3))
    | (go_at_call 18; ((with_reducible refine (NN.out _).mono ?_); rintro e w4 ⟨rfl, hb4⟩; have B4 := below_more B3 hb4; obtain ⟨g0, g1, g2, g3⟩ := four_box B4))
    | (go_at_call 17; ((with_reducible refine (TT.out _).mono ?_); rintro e w5 ⟨rfl, hb5⟩)))
  all_goals
    go_ret
    exact ⟨rfl, below_more (below_a1 _ _) (below_more B4 hb5)⟩
end Go.Proofs.Ytngnkgnobgfjeaa.Wide
