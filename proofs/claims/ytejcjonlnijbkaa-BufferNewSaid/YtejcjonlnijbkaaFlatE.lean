/- A point's and an edge's numbers, as the rows open them. -/
import Derived.Test.YtejcjonlnijbkaaOpen
import Derived.Test.YtejcjonlnijbkaaProg
import Derived.KernelRfl
namespace Go.Proofs.Ytejcjonlnijbkaa
open Go Go.RowKit
theorem flatI64 : Open.Flat Try.prog 2 [.i64] := .int Try.underlying2 (by kernel_rfl)
theorem flatPoint : Open.Flat Try.prog 36 [.i64, .i64] := Open.Flat.struct Try.underlying36 (by kernel_rfl) (.cons (k1 := [.i64]) (k2 := [.i64]) flatI64 rfl (.cons (k1 := [.i64]) (k2 := []) flatI64 rfl (.nil _)))
theorem flatEdge : Open.Flat Try.prog 38 [.i64, .i64, .i64, .i64] := Open.Flat.struct Try.underlying38 (by kernel_rfl) (.cons (k1 := [.i64, .i64]) (k2 := [.i64, .i64]) flatPoint rfl (.cons (k1 := [.i64, .i64]) (k2 := []) flatPoint rfl (.nil _)))
end Go.Proofs.Ytejcjonlnijbkaa
