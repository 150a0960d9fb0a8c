/- The document's MulDiv (ref01) as the printed texts want it: a function of numbers, and the call's contract. For all arguments of 64 bits. -/
import Derived.Test.YtdhegcjclfllmaaRm
import Derived.Test.YtdhegcjclfllmaaPEx0
import Derived.Test.YtdhegcjclfllmaaRefK
import Derived.Test.YtdhegcjclfllmaaEx1
namespace Go.Proofs.Ytdhegcjclfllmaa.PE
open Go Go.RowKit
def pointillistref01_MulDiv.f (a0 a1 a2 : Int) : Option (Int × Bool) :=
  if (-9223372036854775808 ≤ a0 ∧ a0 ≤ 9223372036854775807) ∧ (-9223372036854775808 ≤ a1 ∧ a1 ≤ 9223372036854775807) ∧ (-9223372036854775808 ≤ a2 ∧ a2 ≤ 9223372036854775807) then some (Ref.mdV a0 a1 a2, Ref.mdB a0 a1 a2) else none
theorem pointillistref01_MulDiv.calls (a0 a1 a2 r1 : Int) (r2 : Bool) (w : World) (h : pointillistref01_MulDiv.f a0 a1 a2 = some (r1, r2)) :
    Calls Try.prog 86 #[.int .i64 a0, .int .i64 a1, .int .i64 a2] w fun e w' => e = .returned (.tuple #[.int .i64 r1, .bool r2]) ∧ Below w.heap.size w w' := by
  unfold pointillistref01_MulDiv.f at h
  split at h
  · rename_i hc
    obtain ⟨⟨h0, h1⟩, ⟨h2, h3⟩, h4, h5⟩ := hc
    cases h
    exact Ref.muldiv_calls a0 a1 a2 h0 h1 h2 h3 h4 h5 w
  · cases h
end Go.Proofs.Ytdhegcjclfllmaa.PE

/- The document's Dot (ref01): a function of numbers, and the call's contract, as the printed texts want them. For all arguments in range. -/
namespace Go.Proofs.Ytdhegcjclfllmaa.PE
open Go Go.RowKit
def pointillistref01_Dot.f (a0 a1 a2 a3 a4 : Int) : Option (Int × Bool) :=
  if (-9223372036854775808 ≤ a0 ∧ a0 ≤ 9223372036854775807) ∧ (-9223372036854775808 ≤ a1 ∧ a1 ≤ 9223372036854775807) ∧ (-9223372036854775808 ≤ a2 ∧ a2 ≤ 9223372036854775807) ∧ (-9223372036854775808 ≤ a3 ∧ a3 ≤ 9223372036854775807) then some (Ref.doV a0 a1 a2 a3 a4, Ref.doB a0 a1 a2 a3 a4) else none
theorem pointillistref01_Dot.calls (a0 a1 a2 a3 a4 : Int) (r1 : Int) (r2 : Bool) (w : World) (h : pointillistref01_Dot.f a0 a1 a2 a3 a4 = some (r1, r2)) :
    Calls Try.prog 68 #[.int .i64 a0, .int .i64 a1, .int .i64 a2, .int .i64 a3, .int .i64 a4] w fun e w' => e = .returned (.tuple #[.int .i64 r1, .bool r2]) ∧ Below w.heap.size w w' := by
  unfold pointillistref01_Dot.f at h
  split at h
  · rename_i hc
    cases h
    exact Ref.dot_calls a0 a1 a2 a3 a4 hc.1.1 hc.1.2 hc.2.1.1 hc.2.1.2 hc.2.2.1.1 hc.2.2.1.2 hc.2.2.2.1 hc.2.2.2.2 w
  · cases h
end Go.Proofs.Ytdhegcjclfllmaa.PE

/- The document's quotient is package wide's, as numbers. -/
namespace Go.Proofs.Ytdhegcjclfllmaa.MdEq
theorem nr_near (z c : Int) : Ref.nr z c = Wide.near (if c < 0 then -z else z) (if c < 0 then -c else c) := by
  unfold Ref.nr Wide.near; split <;> rfl
theorem mdV (a b c : Int) : Ref.mdV a b c = Wide.mulDivV a b c := by
  unfold Ref.mdV Wide.mulDivV
  rw [nr_near]; rfl
end Go.Proofs.Ytdhegcjclfllmaa.MdEq
