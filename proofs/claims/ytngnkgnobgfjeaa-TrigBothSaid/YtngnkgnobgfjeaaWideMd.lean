/- The law WideMulDivs, walked: package wide's product divided is ref01's. For all arguments. -/
import Derived.Test.YtngnkgnobgfjeaaWideLaws
import Derived.Test.YtngnkgnobgfjeaaRefJ
namespace Go.Proofs.Ytngnkgnobgfjeaa.Wide
open Go Go.RowKit
set_option maxRecDepth 100000
set_option linter.unusedVariables false
set_option linter.unusedSimpArgs false

theorem fitV_ref (z : Int) : Ref.fitV z = fitV z := rfl
theorem fitB_ref (z : Int) : Ref.fitB z = fitB z := rfl
theorem nr_near (z c : Int) : Ref.nr z c = near (if c < 0 then -z else z) (if c < 0 then -c else c) := by
  unfold Ref.nr near; split <;> rfl
theorem md_ref (a b c : Int) : Ref.mdV a b c = mulDivV a b c ∧ Ref.mdB a b c = mulDivB a b c := by
  unfold Ref.mdV Ref.mdB mulDivV mulDivB
  rw [nr_near]; exact ⟨rfl, rfl⟩

set_option maxHeartbeats 4000000 in
theorem muldivs_calls (a b c : Int) (a0 : -9223372036854775808 ≤ a) (a1 : a ≤ 9223372036854775807) (b0 : -9223372036854775808 ≤ b) (b1 : b ≤ 9223372036854775807) (c0 : -9223372036854775808 ≤ c) (c1 : c ≤ 9223372036854775807) (w : World) :
    Calls Try.prog 3 #[.int .i64 a, .int .i64 b, .int .i64 c] w fun e w' => e = .returned (.bool true) ∧ Below w.heap.size w w' := by
  have M := fun w => muldiv_calls a b c a0 a1 b0 b1 c0 c1 w
  have R := fun w => Ref.muldiv_calls a b c a0 a1 b0 b1 c0 c1 w
  rw [(md_ref a b c).1, (md_ref a b c).2] at R
  generalize mulDivV a b c = n at *
  generalize mulDivB a b c = ok at *
  have MM := Lib.hid M
  have RR := Lib.hid R
  clear M R
  have q1 : (n == n) = true := by simp
  have q2 : (ok == ok) = true := by simp
  go_enter Try.func3, Try.ntmps3
  go_wp2_with (first
    | (go_at_call 13; ((with_reducible refine (wakes01_calls _).mono ?_); rintro e w1 ⟨rfl, hb1⟩))
    | (go_at_call 14; ((with_reducible refine (MM.out _).mono ?_); rintro e w2 ⟨rfl, hb2⟩))
    | (go_at_call 15; ((with_reducible refine (RR.out _).mono ?_); rintro e w3 ⟨rfl, hb3⟩)))
  all_goals
    go_ret
    exact ⟨rfl, below_more hb1 (below_more hb2 hb3)⟩
end Go.Proofs.Ytngnkgnobgfjeaa.Wide
