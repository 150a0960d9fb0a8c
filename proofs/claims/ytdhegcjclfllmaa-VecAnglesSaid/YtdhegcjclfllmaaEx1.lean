/- Package wide's MulDiv as the printed texts want it: a function of numbers, and the call's contract. For all arguments of 64 bits. -/
import Derived.Test.YtdhegcjclfllmaaWm2
import Derived.Test.YtdhegcjclfllmaaPEx0
import Derived.Test.YtdhegcjclfllmaaWm3
import Derived.Test.YtdhegcjclfllmaaRootZ
namespace Go.Proofs.Ytdhegcjclfllmaa.PE
open Go Go.RowKit
def wide_MulDiv.f (a0 a1 a2 : Int) : Option (Int × Bool) :=
  if (-9223372036854775808 ≤ a0 ∧ a0 ≤ 9223372036854775807) ∧ (-9223372036854775808 ≤ a1 ∧ a1 ≤ 9223372036854775807) ∧ (-9223372036854775808 ≤ a2 ∧ a2 ≤ 9223372036854775807) then some (Wide.mulDivV a0 a1 a2, Wide.mulDivB a0 a1 a2) else none
theorem wide_MulDiv.calls (a0 a1 a2 r1 : Int) (r2 : Bool) (w : World) (h : wide_MulDiv.f a0 a1 a2 = some (r1, r2)) :
    Calls Try.prog 45 #[.int .i64 a0, .int .i64 a1, .int .i64 a2] w fun e w' => e = .returned (.tuple #[.int .i64 r1, .bool r2]) ∧ Below w.heap.size w w' := by
  unfold wide_MulDiv.f at h
  split at h
  · rename_i hc
    obtain ⟨⟨h0, h1⟩, ⟨h2, h3⟩, h4, h5⟩ := hc
    cases h
    exact Wide.muldiv_calls a0 a1 a2 h0 h1 h2 h3 h4 h5 w
  · cases h
end Go.Proofs.Ytdhegcjclfllmaa.PE

/- Package wide's Dot: a function of numbers, and the call's contract, as the printed texts want them. For all arguments in range. -/
namespace Go.Proofs.Ytdhegcjclfllmaa.PE
open Go Go.RowKit
def wide_Dot.f (a0 a1 a2 a3 a4 : Int) : Option (Int × Bool) :=
  if (-9223372036854775808 ≤ a0 ∧ a0 ≤ 9223372036854775807) ∧ (-9223372036854775808 ≤ a1 ∧ a1 ≤ 9223372036854775807) ∧ (-9223372036854775808 ≤ a2 ∧ a2 ≤ 9223372036854775807) ∧ (-9223372036854775808 ≤ a3 ∧ a3 ≤ 9223372036854775807) then some (Wide.dotV a0 a1 a2 a3 a4, Wide.dotB a0 a1 a2 a3 a4) else none
theorem wide_Dot.calls (a0 a1 a2 a3 a4 : Int) (r1 : Int) (r2 : Bool) (w : World) (h : wide_Dot.f a0 a1 a2 a3 a4 = some (r1, r2)) :
    Calls Try.prog 64 #[.int .i64 a0, .int .i64 a1, .int .i64 a2, .int .i64 a3, .int .i64 a4] w fun e w' => e = .returned (.tuple #[.int .i64 r1, .bool r2]) ∧ Below w.heap.size w w' := by
  unfold wide_Dot.f at h
  split at h
  · rename_i hc
    cases h
    exact Wide.dot_calls a0 a1 a2 a3 a4 hc.1.1 hc.1.2 hc.2.1.1 hc.2.1.2 hc.2.2.1.1 hc.2.2.1.2 hc.2.2.2.1 hc.2.2.2.2 w
  · cases h
end Go.Proofs.Ytdhegcjclfllmaa.PE

/- Package root's Hypot: a function of numbers, and the call's contract, as the printed texts want them. For all arguments in range. -/
namespace Go.Proofs.Ytdhegcjclfllmaa.PE
open Go Go.RowKit
def root_Hypot.f (a0 a1 : Int) : Option (Int) :=
  if (-9223372036854775808 ≤ a0 ∧ a0 ≤ 9223372036854775807) ∧ (-9223372036854775808 ≤ a1 ∧ a1 ≤ 9223372036854775807) then some (Root.rootL (a0 * a0 + a1 * a1) 0 64) else none
theorem root_Hypot.calls (a0 a1 : Int) (r : Int) (w : World) (h : root_Hypot.f a0 a1 = some r) :
    Calls Try.prog 59 #[.int .i64 a0, .int .i64 a1] w fun e w' => e = .returned (.int .u64 r) ∧ Below w.heap.size w w' := by
  unfold root_Hypot.f at h
  split at h
  · rename_i hc
    cases h
    obtain ⟨p0, p1⟩ := Root.sq_i64 hc.1.1 hc.1.2
    obtain ⟨q0, q1⟩ := Root.sq_i64 hc.2.1 hc.2.2
    exact Root.hypot_calls a0 a1 _ hc.1.1 hc.1.2 hc.2.1 hc.2.2 (Root.isRoot_of (by omega) (by omega)) w
  · cases h
end Go.Proofs.Ytdhegcjclfllmaa.PE

/- Package root's Floor: a function of numbers, and the call's contract, as the printed texts want them. For all arguments in range. -/
namespace Go.Proofs.Ytdhegcjclfllmaa.PE
open Go Go.RowKit
def root_Floor.f (a0 : Int) : Option (Int) :=
  if 0 ≤ a0 ∧ a0 ≤ 18446744073709551615 then some (Root.rootF a0) else none
theorem root_Floor.calls (a0 : Int) (r : Int) (w : World) (h : root_Floor.f a0 = some r) :
    Calls Try.prog 66 #[.int .u64 a0] w fun e w' => e = .returned (.int .u64 r) ∧ Below w.heap.size w w' := by
  unfold root_Floor.f at h
  split at h
  · rename_i hc
    cases h
    exact Root.floor_calls a0 hc.1 (by omega) w
  · cases h
end Go.Proofs.Ytdhegcjclfllmaa.PE
