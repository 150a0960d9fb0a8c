/- A curve's numbers, as the rows open them. -/
import Derived.Test.YtdhegcjclfllmaaFlatP
namespace Go.Proofs.Ytdhegcjclfllmaa
open Go Go.RowKit
theorem flatCurve : Open.Flat Try.prog 27 [.i64, .i64, .i64, .i64, .i64, .i64, .i64, .i64] := Open.Flat.struct Try.underlying27 (by kernel_rfl) (.cons (k1 := [.i64, .i64]) (k2 := [.i64, .i64, .i64, .i64, .i64, .i64]) flatPoint rfl (.cons (k1 := [.i64, .i64]) (k2 := [.i64, .i64, .i64, .i64]) flatPoint rfl (.cons (k1 := [.i64, .i64]) (k2 := [.i64, .i64]) flatPoint rfl (.cons (k1 := [.i64, .i64]) (k2 := []) flatPoint rfl (.nil _)))))
end Go.Proofs.Ytdhegcjclfllmaa
