/- Package root's Hypot, walked: the root of any two squares together. -/
import Derived.Test.YtdhegcjclfllmaaRt1
namespace Go.Proofs.Ytdhegcjclfllmaa.Root
open Go Go.RowKit
set_option maxRecDepth 100000
set_option linter.unusedVariables false
set_option linter.unusedSimpArgs false

theorem hypot_calls (x y R : Int) (x0 : -9223372036854775808 ≤ x) (x1 : x ≤ 9223372036854775807) (y0 : -9223372036854775808 ≤ y) (y1 : y ≤ 9223372036854775807) (hR : IsRoot (x * x + y * y) R) (w : World) :
    Calls Try.prog 59 #[.int .i64 x, .int .i64 y] w fun e w' => e = .returned (.int .u64 R) ∧ Below w.heap.size w w' := by
  obtain ⟨p0, p1⟩ := sq_i64 x0 x1
  obtain ⟨q0, q1⟩ := sq_i64 y0 y1
  refine hypot_of x y x0 x1 y0 y1 R w fun w => ?_
  generalize x * x = p at *
  generalize y * y = q at *
  exact wide_any (p + q) _ _ R (by omega) (by omega) (by omega) (by omega) (by omega) hR w

end Go.Proofs.Ytdhegcjclfllmaa.Root
