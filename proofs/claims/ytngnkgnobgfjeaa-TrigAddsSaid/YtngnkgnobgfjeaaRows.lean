/-
  No cell of these rows narrows 'for every input' (looked for: loops, veiled, ifaces, maps, wideKeys, modest, calm, conditions, laid).
  DERIVED. THE GIVEN ROWS OF THIS SEAT. 10 by the template 'for every input the law returns true; each argument reads behind the call as it read before'; 0 by the template 'total and deterministic' (their statements: YtngnkgnobgfjeaaTotals.lean).
  GIVEN WITH THE SEED: the statements are not yours to turn. If you find one false, say at which input.
  Laid BY PROGRAM, IN A SANDBOX (cutbox-rows.mjs): the forced cells as the released guide's own fill.sh prints them over the translation 95039243250f4525… (all of the seat's roots in one cut). By AI agents, Wed Nov 11 2026. No macro, syntax, notation, axiom, sorry.
-/
import Derived.Test.YtngnkgnobgfjeaaChecked
import GoSem.Claim
import GoSem.ClaimJoined
import GoSem.ClaimMapViews
import Derived.JoinedTies
import Derived.KernelRfl
namespace Go.Proofs.Ytngnkgnobgfjeaa
/- THE CELL 'sum', in the pinned program and in every row, IS THE sha256 OF THE DUMP (.gsa) THAT YtngnkgnobgfjeaaProg.lean LOADS. Nothing in Lean hashes anything: it is a label: what it is worth is what the hold of that sum in a sandbox is worth. -/
noncomputable def Try.pinned : Pinned := { name := "ytngnkgnobgfjeaa", sum := "95039243250f4525208249f6d6cdc66b78e0efa95dc6dc378b2119563a580396", checked := Try.checked }
namespace Rows
def none {H : Type} : Left H := { results := [], args := [] }

/-- 'pointillistlaw01.WideMulDivs': WHATEVER THE INPUT: true; the input reads as it did. -/
def wideMulDivsSpec : ChangeSpec := { name := "wideMulDivs", fn := fun _ => fun
  | [d1, d2, d3] => { results := [.lit (.bool true)], args := [d1, d2, d3] }
  | _ => none }
def wideMulDivsRow : OpenClaim := { program := "ytngnkgnobgfjeaa", sum := "95039243250f4525208249f6d6cdc66b78e0efa95dc6dc378b2119563a580396", func := "pointillist/pointillistlaw01.WideMulDivs", spec := "wideMulDivs", inPlace := ["math/bits.Add64"], named := ["math/bits.divideError", "math/bits.overflowError"], apart := false }
def WideMulDivsSaid : Prop := wideMulDivsRow.holds Try.pinned (OpenSpec.ofChange wideMulDivsSpec)

/-- ITS FALSE NEIGHBOUR: 'it returns false'. Refute it at one input. -/
def wideMulDivsWrong : ChangeSpec := { name := "wideMulDivs", fn := fun _ => fun
  | [d1, d2, d3] => { results := [.lit (.bool false)], args := [d1, d2, d3] }
  | _ => none }
def WideMulDivsWrongFalsely : Prop := wideMulDivsRow.holds Try.pinned (OpenSpec.ofChange wideMulDivsWrong)

/-- 'pointillistlaw01.WideDots': WHATEVER THE INPUT: true; the input reads as it did. -/
def wideDotsSpec : ChangeSpec := { name := "wideDots", fn := fun _ => fun
  | [d1, d2] => { results := [.lit (.bool true)], args := [d1, d2] }
  | _ => none }
def wideDotsRow : OpenClaim := { program := "ytngnkgnobgfjeaa", sum := "95039243250f4525208249f6d6cdc66b78e0efa95dc6dc378b2119563a580396", func := "pointillist/pointillistlaw01.WideDots", spec := "wideDots", inPlace := ["math/bits.Add64"], named := ["math/bits.divideError", "math/bits.overflowError"], apart := false }
def WideDotsSaid : Prop := wideDotsRow.holds Try.pinned (OpenSpec.ofChange wideDotsSpec)

/-- ITS FALSE NEIGHBOUR: 'it returns false'. Refute it at one input. -/
def wideDotsWrong : ChangeSpec := { name := "wideDots", fn := fun _ => fun
  | [d1, d2] => { results := [.lit (.bool false)], args := [d1, d2] }
  | _ => none }
def WideDotsWrongFalsely : Prop := wideDotsRow.holds Try.pinned (OpenSpec.ofChange wideDotsWrong)

/-- 'pointillistlaw01.WideNears': WHATEVER THE INPUT: true; the input reads as it did. -/
def wideNearsSpec : ChangeSpec := { name := "wideNears", fn := fun _ => fun
  | [d1, d2, d3] => { results := [.lit (.bool true)], args := [d1, d2, d3] }
  | _ => none }
def wideNearsRow : OpenClaim := { program := "ytngnkgnobgfjeaa", sum := "95039243250f4525208249f6d6cdc66b78e0efa95dc6dc378b2119563a580396", func := "pointillist/pointillistlaw01.WideNears", spec := "wideNears", inPlace := ["math/bits.Add64"], named := ["math/bits.divideError", "math/bits.overflowError"], apart := false }
def WideNearsSaid : Prop := wideNearsRow.holds Try.pinned (OpenSpec.ofChange wideNearsSpec)

/-- ITS FALSE NEIGHBOUR: 'it returns false'. Refute it at one input. -/
def wideNearsWrong : ChangeSpec := { name := "wideNears", fn := fun _ => fun
  | [d1, d2, d3] => { results := [.lit (.bool false)], args := [d1, d2, d3] }
  | _ => none }
def WideNearsWrongFalsely : Prop := wideNearsRow.holds Try.pinned (OpenSpec.ofChange wideNearsWrong)

/-- 'pointillistlaw01.WideTurns': WHATEVER THE INPUT: true; the input reads as it did. -/
def wideTurnsSpec : ChangeSpec := { name := "wideTurns", fn := fun _ => fun
  | [d1, d2, d3] => { results := [.lit (.bool true)], args := [d1, d2, d3] }
  | _ => none }
def wideTurnsRow : OpenClaim := { program := "ytngnkgnobgfjeaa", sum := "95039243250f4525208249f6d6cdc66b78e0efa95dc6dc378b2119563a580396", func := "pointillist/pointillistlaw01.WideTurns", spec := "wideTurns", inPlace := ["math/bits.Add64"], named := ["math/bits.divideError", "math/bits.overflowError"], apart := false }
def WideTurnsSaid : Prop := wideTurnsRow.holds Try.pinned (OpenSpec.ofChange wideTurnsSpec)

/-- ITS FALSE NEIGHBOUR: 'it returns false'. Refute it at one input. -/
def wideTurnsWrong : ChangeSpec := { name := "wideTurns", fn := fun _ => fun
  | [d1, d2, d3] => { results := [.lit (.bool false)], args := [d1, d2, d3] }
  | _ => none }
def WideTurnsWrongFalsely : Prop := wideTurnsRow.holds Try.pinned (OpenSpec.ofChange wideTurnsWrong)

/-- 'pointillistlaw01.WideBounds': WHATEVER THE INPUT: true; the input reads as it did. -/
def wideBoundsSpec : ChangeSpec := { name := "wideBounds", fn := fun _ => fun
  | [d1, d2] => { results := [.lit (.bool true)], args := [d1, d2] }
  | _ => none }
def wideBoundsRow : OpenClaim := { program := "ytngnkgnobgfjeaa", sum := "95039243250f4525208249f6d6cdc66b78e0efa95dc6dc378b2119563a580396", func := "pointillist/pointillistlaw01.WideBounds", spec := "wideBounds", inPlace := ["math/bits.Add64"], named := ["math/bits.divideError", "math/bits.overflowError"], apart := false }
def WideBoundsSaid : Prop := wideBoundsRow.holds Try.pinned (OpenSpec.ofChange wideBoundsSpec)

/-- ITS FALSE NEIGHBOUR: 'it returns false'. Refute it at one input. -/
def wideBoundsWrong : ChangeSpec := { name := "wideBounds", fn := fun _ => fun
  | [d1, d2] => { results := [.lit (.bool false)], args := [d1, d2] }
  | _ => none }
def WideBoundsWrongFalsely : Prop := wideBoundsRow.holds Try.pinned (OpenSpec.ofChange wideBoundsWrong)

/-- 'pointillistlaw03.TrigBoth': WHATEVER THE INPUT: true; the input reads as it did. -/
def trigBothSpec : ChangeSpec := { name := "trigBoth", fn := fun _ => fun
  | [d] => { results := [.lit (.bool true)], args := [d] }
  | _ => none }
def trigBothRow : OpenClaim := { program := "ytngnkgnobgfjeaa", sum := "95039243250f4525208249f6d6cdc66b78e0efa95dc6dc378b2119563a580396", func := "pointillist/pointillistlaw03.TrigBoth", spec := "trigBoth", inPlace := ["math/bits.Add64"], named := ["math/bits.divideError", "math/bits.overflowError"], apart := false }
def TrigBothSaid : Prop := trigBothRow.holds Try.pinned (OpenSpec.ofChange trigBothSpec)

/-- ITS FALSE NEIGHBOUR: 'it returns false'. Refute it at one input. -/
def trigBothWrong : ChangeSpec := { name := "trigBoth", fn := fun _ => fun
  | [d] => { results := [.lit (.bool false)], args := [d] }
  | _ => none }
def TrigBothWrongFalsely : Prop := trigBothRow.holds Try.pinned (OpenSpec.ofChange trigBothWrong)

/-- 'pointillistlaw03.TrigTurns': WHATEVER THE INPUT: true; the input reads as it did. -/
def trigTurnsSpec : ChangeSpec := { name := "trigTurns", fn := fun _ => fun
  | [d] => { results := [.lit (.bool true)], args := [d] }
  | _ => none }
def trigTurnsRow : OpenClaim := { program := "ytngnkgnobgfjeaa", sum := "95039243250f4525208249f6d6cdc66b78e0efa95dc6dc378b2119563a580396", func := "pointillist/pointillistlaw03.TrigTurns", spec := "trigTurns", inPlace := ["math/bits.Add64"], named := ["math/bits.divideError", "math/bits.overflowError"], apart := false }
def TrigTurnsSaid : Prop := trigTurnsRow.holds Try.pinned (OpenSpec.ofChange trigTurnsSpec)

/-- ITS FALSE NEIGHBOUR: 'it returns false'. Refute it at one input. -/
def trigTurnsWrong : ChangeSpec := { name := "trigTurns", fn := fun _ => fun
  | [d] => { results := [.lit (.bool false)], args := [d] }
  | _ => none }
def TrigTurnsWrongFalsely : Prop := trigTurnsRow.holds Try.pinned (OpenSpec.ofChange trigTurnsWrong)

/-- 'pointillistlaw03.TrigCircle': WHATEVER THE INPUT: true; the input reads as it did. -/
def trigCircleSpec : ChangeSpec := { name := "trigCircle", fn := fun _ => fun
  | [d] => { results := [.lit (.bool true)], args := [d] }
  | _ => none }
def trigCircleRow : OpenClaim := { program := "ytngnkgnobgfjeaa", sum := "95039243250f4525208249f6d6cdc66b78e0efa95dc6dc378b2119563a580396", func := "pointillist/pointillistlaw03.TrigCircle", spec := "trigCircle", inPlace := ["math/bits.Add64"], named := ["math/bits.divideError", "math/bits.overflowError"], apart := false }
def TrigCircleSaid : Prop := trigCircleRow.holds Try.pinned (OpenSpec.ofChange trigCircleSpec)

/-- ITS FALSE NEIGHBOUR: 'it returns false'. Refute it at one input. -/
def trigCircleWrong : ChangeSpec := { name := "trigCircle", fn := fun _ => fun
  | [d] => { results := [.lit (.bool false)], args := [d] }
  | _ => none }
def TrigCircleWrongFalsely : Prop := trigCircleRow.holds Try.pinned (OpenSpec.ofChange trigCircleWrong)

/-- 'pointillistlaw03.TrigSigns': WHATEVER THE INPUT: true; the input reads as it did. -/
def trigSignsSpec : ChangeSpec := { name := "trigSigns", fn := fun _ => fun
  | [d] => { results := [.lit (.bool true)], args := [d] }
  | _ => none }
def trigSignsRow : OpenClaim := { program := "ytngnkgnobgfjeaa", sum := "95039243250f4525208249f6d6cdc66b78e0efa95dc6dc378b2119563a580396", func := "pointillist/pointillistlaw03.TrigSigns", spec := "trigSigns", inPlace := ["math/bits.Add64"], named := ["math/bits.divideError", "math/bits.overflowError"], apart := false }
def TrigSignsSaid : Prop := trigSignsRow.holds Try.pinned (OpenSpec.ofChange trigSignsSpec)

/-- ITS FALSE NEIGHBOUR: 'it returns false'. Refute it at one input. -/
def trigSignsWrong : ChangeSpec := { name := "trigSigns", fn := fun _ => fun
  | [d] => { results := [.lit (.bool false)], args := [d] }
  | _ => none }
def TrigSignsWrongFalsely : Prop := trigSignsRow.holds Try.pinned (OpenSpec.ofChange trigSignsWrong)

/-- 'pointillistlaw03.TrigAdds': WHATEVER THE INPUT: true; the input reads as it did. -/
def trigAddsSpec : ChangeSpec := { name := "trigAdds", fn := fun _ => fun
  | [d1, d2] => { results := [.lit (.bool true)], args := [d1, d2] }
  | _ => none }
def trigAddsRow : OpenClaim := { program := "ytngnkgnobgfjeaa", sum := "95039243250f4525208249f6d6cdc66b78e0efa95dc6dc378b2119563a580396", func := "pointillist/pointillistlaw03.TrigAdds", spec := "trigAdds", inPlace := ["math/bits.Add64"], named := ["math/bits.divideError", "math/bits.overflowError"], apart := false }
def TrigAddsSaid : Prop := trigAddsRow.holds Try.pinned (OpenSpec.ofChange trigAddsSpec)

/-- ITS FALSE NEIGHBOUR: 'it returns false'. Refute it at one input. -/
def trigAddsWrong : ChangeSpec := { name := "trigAdds", fn := fun _ => fun
  | [d1, d2] => { results := [.lit (.bool false)], args := [d1, d2] }
  | _ => none }
def TrigAddsWrongFalsely : Prop := trigAddsRow.holds Try.pinned (OpenSpec.ofChange trigAddsWrong)

/- THE SECOND FORM. 'bulk': how many values and letters a reading holds, each counted each time it is reached (what is shared counts as often as it is met; a slice's spare places count too). A statement '..UptoSaid' is the law's where the arguments, and the package variables that the reading takes, are together of bulk at most 1048576: NARROWER than '..Said'. Prove '..Said' where nothing that the law and all that it calls make is longer than what came in: it says more and counts as full. Else prove '..UptoSaid'. A law counts once. -/
mutual
def uptoBulk {H : Type} : DataW H → Nat
  | .lit (.string bytes) => bytes.length + 1
  | .lit _ => 1
  | .nil => 1
  | .ptr d => uptoBulk d + 1
  | .slice elems spare => uptoBulkAll elems + uptoBulkAll spare + 1
  | .agg parts => uptoBulkAll parts + 1
  | .iface _ d => uptoBulk d + 1
  | .map entries => uptoBulkEntries entries + 1
  | .held _ => 1
def uptoBulkAll {H : Type} : List (DataW H) → Nat
  | [] => 0
  | d :: r => uptoBulk d + uptoBulkAll r
def uptoBulkEntries {H : Type} : List (Lit × DataW H) → Nat
  | [] => 0
  | x :: r => uptoBulkEntry x + uptoBulkEntries r
def uptoBulkEntry {H : Type} : Lit × DataW H → Nat
  | (.string bytes, d) => bytes.length + uptoBulk d + 1
  | (_, d) => uptoBulk d + 1
 end
def uptoSmall : (H : Type) → List (DataW H) → Bool := fun _ ds => decide (uptoBulkAll ds ≤ 1048576)
def OpenSpec.upto (s : _root_.Go.ChangeSpec) : _root_.Go.OpenSpec := { _root_.Go.OpenSpec.ofChange s with cond := some uptoSmall }

/-- 'pointillistlaw01.WideMulDivs', WHERE WHAT IT READS IS OF BULK AT MOST 1048576: true; the input reads as it did. -/
def wideMulDivsUptoRow : OpenClaim := { program := "ytngnkgnobgfjeaa", sum := "95039243250f4525208249f6d6cdc66b78e0efa95dc6dc378b2119563a580396", func := "pointillist/pointillistlaw01.WideMulDivs", spec := "wideMulDivs", inPlace := ["math/bits.Add64"], named := ["math/bits.divideError", "math/bits.overflowError"], apart := false, narrowed := true }
def WideMulDivsUptoSaid : Prop := wideMulDivsUptoRow.holds Try.pinned (OpenSpec.upto wideMulDivsSpec)

/-- 'pointillistlaw01.WideDots', WHERE WHAT IT READS IS OF BULK AT MOST 1048576: true; the input reads as it did. -/
def wideDotsUptoRow : OpenClaim := { program := "ytngnkgnobgfjeaa", sum := "95039243250f4525208249f6d6cdc66b78e0efa95dc6dc378b2119563a580396", func := "pointillist/pointillistlaw01.WideDots", spec := "wideDots", inPlace := ["math/bits.Add64"], named := ["math/bits.divideError", "math/bits.overflowError"], apart := false, narrowed := true }
def WideDotsUptoSaid : Prop := wideDotsUptoRow.holds Try.pinned (OpenSpec.upto wideDotsSpec)

/-- 'pointillistlaw01.WideNears', WHERE WHAT IT READS IS OF BULK AT MOST 1048576: true; the input reads as it did. -/
def wideNearsUptoRow : OpenClaim := { program := "ytngnkgnobgfjeaa", sum := "95039243250f4525208249f6d6cdc66b78e0efa95dc6dc378b2119563a580396", func := "pointillist/pointillistlaw01.WideNears", spec := "wideNears", inPlace := ["math/bits.Add64"], named := ["math/bits.divideError", "math/bits.overflowError"], apart := false, narrowed := true }
def WideNearsUptoSaid : Prop := wideNearsUptoRow.holds Try.pinned (OpenSpec.upto wideNearsSpec)

/-- 'pointillistlaw01.WideTurns', WHERE WHAT IT READS IS OF BULK AT MOST 1048576: true; the input reads as it did. -/
def wideTurnsUptoRow : OpenClaim := { program := "ytngnkgnobgfjeaa", sum := "95039243250f4525208249f6d6cdc66b78e0efa95dc6dc378b2119563a580396", func := "pointillist/pointillistlaw01.WideTurns", spec := "wideTurns", inPlace := ["math/bits.Add64"], named := ["math/bits.divideError", "math/bits.overflowError"], apart := false, narrowed := true }
def WideTurnsUptoSaid : Prop := wideTurnsUptoRow.holds Try.pinned (OpenSpec.upto wideTurnsSpec)

/-- 'pointillistlaw01.WideBounds', WHERE WHAT IT READS IS OF BULK AT MOST 1048576: true; the input reads as it did. -/
def wideBoundsUptoRow : OpenClaim := { program := "ytngnkgnobgfjeaa", sum := "95039243250f4525208249f6d6cdc66b78e0efa95dc6dc378b2119563a580396", func := "pointillist/pointillistlaw01.WideBounds", spec := "wideBounds", inPlace := ["math/bits.Add64"], named := ["math/bits.divideError", "math/bits.overflowError"], apart := false, narrowed := true }
def WideBoundsUptoSaid : Prop := wideBoundsUptoRow.holds Try.pinned (OpenSpec.upto wideBoundsSpec)

/-- 'pointillistlaw03.TrigBoth', WHERE WHAT IT READS IS OF BULK AT MOST 1048576: true; the input reads as it did. -/
def trigBothUptoRow : OpenClaim := { program := "ytngnkgnobgfjeaa", sum := "95039243250f4525208249f6d6cdc66b78e0efa95dc6dc378b2119563a580396", func := "pointillist/pointillistlaw03.TrigBoth", spec := "trigBoth", inPlace := ["math/bits.Add64"], named := ["math/bits.divideError", "math/bits.overflowError"], apart := false, narrowed := true }
def TrigBothUptoSaid : Prop := trigBothUptoRow.holds Try.pinned (OpenSpec.upto trigBothSpec)

/-- 'pointillistlaw03.TrigTurns', WHERE WHAT IT READS IS OF BULK AT MOST 1048576: true; the input reads as it did. -/
def trigTurnsUptoRow : OpenClaim := { program := "ytngnkgnobgfjeaa", sum := "95039243250f4525208249f6d6cdc66b78e0efa95dc6dc378b2119563a580396", func := "pointillist/pointillistlaw03.TrigTurns", spec := "trigTurns", inPlace := ["math/bits.Add64"], named := ["math/bits.divideError", "math/bits.overflowError"], apart := false, narrowed := true }
def TrigTurnsUptoSaid : Prop := trigTurnsUptoRow.holds Try.pinned (OpenSpec.upto trigTurnsSpec)

/-- 'pointillistlaw03.TrigCircle', WHERE WHAT IT READS IS OF BULK AT MOST 1048576: true; the input reads as it did. -/
def trigCircleUptoRow : OpenClaim := { program := "ytngnkgnobgfjeaa", sum := "95039243250f4525208249f6d6cdc66b78e0efa95dc6dc378b2119563a580396", func := "pointillist/pointillistlaw03.TrigCircle", spec := "trigCircle", inPlace := ["math/bits.Add64"], named := ["math/bits.divideError", "math/bits.overflowError"], apart := false, narrowed := true }
def TrigCircleUptoSaid : Prop := trigCircleUptoRow.holds Try.pinned (OpenSpec.upto trigCircleSpec)

/-- 'pointillistlaw03.TrigSigns', WHERE WHAT IT READS IS OF BULK AT MOST 1048576: true; the input reads as it did. -/
def trigSignsUptoRow : OpenClaim := { program := "ytngnkgnobgfjeaa", sum := "95039243250f4525208249f6d6cdc66b78e0efa95dc6dc378b2119563a580396", func := "pointillist/pointillistlaw03.TrigSigns", spec := "trigSigns", inPlace := ["math/bits.Add64"], named := ["math/bits.divideError", "math/bits.overflowError"], apart := false, narrowed := true }
def TrigSignsUptoSaid : Prop := trigSignsUptoRow.holds Try.pinned (OpenSpec.upto trigSignsSpec)

/-- 'pointillistlaw03.TrigAdds', WHERE WHAT IT READS IS OF BULK AT MOST 1048576: true; the input reads as it did. -/
def trigAddsUptoRow : OpenClaim := { program := "ytngnkgnobgfjeaa", sum := "95039243250f4525208249f6d6cdc66b78e0efa95dc6dc378b2119563a580396", func := "pointillist/pointillistlaw03.TrigAdds", spec := "trigAdds", inPlace := ["math/bits.Add64"], named := ["math/bits.divideError", "math/bits.overflowError"], apart := false, narrowed := true }
def TrigAddsUptoSaid : Prop := trigAddsUptoRow.holds Try.pinned (OpenSpec.upto trigAddsSpec)

end Rows
end Go.Proofs.Ytngnkgnobgfjeaa
