/- A strip's numbers, as the rows open them. -/
import Derived.Test.YtjdpmaachehpnaaFlatE
namespace Go.Proofs.Ytjdpmaachehpnaa
open Go Go.RowKit
theorem flatStrip : Open.Flat Try.prog 32 [.i64, .i64, .i64, .i64] := Open.Flat.struct Try.underlying32 (by kernel_rfl) (.cons (k1 := [.i64]) (k2 := [.i64, .i64, .i64]) flatI64 rfl (.cons (k1 := [.i64]) (k2 := [.i64, .i64]) flatI64 rfl (.cons (k1 := [.i64]) (k2 := [.i64]) flatI64 rfl (.cons (k1 := [.i64]) (k2 := []) flatI64 rfl (.nil _)))))
end Go.Proofs.Ytjdpmaachehpnaa
