/- Package wide's MulDiv as the printed texts want it: a function of numbers, and the call's contract. For all arguments of 64 bits. -/
import Derived.Test.YtejcjonlnijbkaaWm2
import Derived.Test.YtejcjonlnijbkaaPEx0
namespace Go.Proofs.Ytejcjonlnijbkaa.PE
open Go Go.RowKit
def wide_MulDiv.f (a0 a1 a2 : Int) : Option (Int × Bool) :=
  if (-9223372036854775808 ≤ a0 ∧ a0 ≤ 9223372036854775807) ∧ (-9223372036854775808 ≤ a1 ∧ a1 ≤ 9223372036854775807) ∧ (-9223372036854775808 ≤ a2 ∧ a2 ≤ 9223372036854775807) then some (Wide.mulDivV a0 a1 a2, Wide.mulDivB a0 a1 a2) else none
theorem wide_MulDiv.calls (a0 a1 a2 r1 : Int) (r2 : Bool) (w : World) (h : wide_MulDiv.f a0 a1 a2 = some (r1, r2)) :
    Calls Try.prog 89 #[.int .i64 a0, .int .i64 a1, .int .i64 a2] w fun e w' => e = .returned (.tuple #[.int .i64 r1, .bool r2]) ∧ Below w.heap.size w w' := by
  unfold wide_MulDiv.f at h
  split at h
  · rename_i hc
    obtain ⟨⟨h0, h1⟩, ⟨h2, h3⟩, h4, h5⟩ := hc
    cases h
    exact Wide.muldiv_calls a0 a1 a2 h0 h1 h2 h3 h4 h5 w
  · cases h
end Go.Proofs.Ytejcjonlnijbkaa.PE
