/- Two numbers side by side, as the rows open them. -/
import Derived.Test.YtejcjonlnijbkaaFlatE
namespace Go.Proofs.Ytejcjonlnijbkaa
open Go Go.RowKit
theorem flatU8b : Open.Flat Try.prog 5 [.u8] := .int Try.underlying5 (by kernel_rfl)
theorem flatIntb : Open.Flat Try.prog 3 [.i64] := .int Try.underlying3 (by kernel_rfl)
theorem flatTwo8 : Open.Flat Try.prog 22 [.u8, .u8] := Open.Flat.array (m := 2) Try.underlying22 (by kernel_rfl) flatU8b
theorem flatTwoI : Open.Flat Try.prog 24 [.i64, .i64] := Open.Flat.array (m := 2) Try.underlying24 (by kernel_rfl) flatIntb
end Go.Proofs.Ytejcjonlnijbkaa
