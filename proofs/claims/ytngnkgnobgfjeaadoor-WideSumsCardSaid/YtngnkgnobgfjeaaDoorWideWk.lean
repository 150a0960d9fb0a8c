/- Layer 1's examples, walked. -/
import Derived.Test.YtngnkgnobgfjeaaDoorWideH
namespace Go.Proofs.YtngnkgnobgfjeaaDoor.Wide
open Go Go.RowKit
set_option maxRecDepth 100000
set_option linter.unusedVariables false
set_option linter.unusedSimpArgs false

theorem wakes01_calls (w : World) : Calls Tryd.prog 4 #[] w fun e w' => e = .returned (.bool true) ∧ Below w.heap.size w w' := by
  have M1 := fun w => muldiv_calls 7 3 2 (by omega) (by omega) (by omega) (by omega) (by omega) (by omega) w
  have M2 := fun w => muldiv_calls (-7) 3 2 (by omega) (by omega) (by omega) (by omega) (by omega) (by omega) w
  have M3 := fun w => mulshift_calls (-5) 1 1 (by omega) (by omega) (by omega) (by omega) w
  rw [show mulDivV 7 3 2 = 11 by decide, show mulDivB 7 3 2 = true by decide] at M1
  rw [show mulDivV (-7) 3 2 = -10 by decide, show mulDivB (-7) 3 2 = true by decide] at M2
  rw [show dotV (-5) 1 0 0 1 = -2 by decide, show dotB (-5) 1 0 0 1 = true by decide] at M3
  go_enter Tryd.func4, Tryd.ntmps4
  go_wp2_with (first
    | (go_at_call 7; ((with_reducible refine (M1 _).mono ?_); rintro e w1 ⟨rfl, hb1⟩))
    | (go_at_call 7; ((with_reducible refine (M2 _).mono ?_); rintro e w2 ⟨rfl, hb2⟩))
    | (go_at_call 8; ((with_reducible refine (M3 _).mono ?_); rintro e w3 ⟨rfl, hb3⟩)))
  go_ret
  exact ⟨rfl, below_more (below_more hb1 hb2) hb3⟩

end Go.Proofs.YtngnkgnobgfjeaaDoor.Wide
