/-
  No cell of these rows narrows 'for every input' (looked for: loops, veiled, ifaces, maps, wideKeys, modest, calm, conditions, laid).
  DERIVED. THE GIVEN ROWS OF THIS SEAT. 12 by the template 'for every input the law returns true; each argument reads behind the call as it read before'; 0 by the template 'total and deterministic' (their statements: YtejcjonlnijbkaaTotals.lean).
  GIVEN WITH THE SEED: the statements are not yours to turn. If you find one false, say at which input.
  Laid BY PROGRAM, IN A SANDBOX (cutbox-rows.mjs): the forced cells as the released guide's own fill.sh prints them over the translation 08ab3e6a72444cb8… (all of the seat's roots in one cut). By AI agents, Wed Nov 11 2026. No macro, syntax, notation, axiom, sorry.
-/
import Derived.Test.YtejcjonlnijbkaaChecked
import GoSem.Claim
import GoSem.ClaimJoined
import GoSem.ClaimMapViews
import Derived.JoinedTies
import Derived.KernelRfl
namespace Go.Proofs.Ytejcjonlnijbkaa
/- THE CELL 'sum', in the pinned program and in every row, IS THE sha256 OF THE DUMP (.gsa) THAT YtejcjonlnijbkaaProg.lean LOADS. Nothing in Lean hashes anything: it is a label: what it is worth is what the hold of that sum in a sandbox is worth. -/
noncomputable def Try.pinned : Pinned := { name := "ytejcjonlnijbkaa", sum := "08ab3e6a72444cb8f3b8c256e43630a08b2b68c58203b98dc59bd3c2ca226aac", checked := Try.checked }
namespace Rows
def none {H : Type} : Left H := { results := [], args := [] }

/-- 'pointillistlaw17.BufferAt': WHATEVER THE INPUT: true; the input reads as it did. -/
def bufferAtSpec : ChangeSpec := { name := "bufferAt", fn := fun _ => fun
  | [d1, d2, d3] => { results := [.lit (.bool true)], args := [d1, d2, d3] }
  | _ => none }
def bufferAtRow : OpenClaim := { program := "ytejcjonlnijbkaa", sum := "08ab3e6a72444cb8f3b8c256e43630a08b2b68c58203b98dc59bd3c2ca226aac", func := "pointillist/pointillistlaw17.BufferAt", spec := "bufferAt", inPlace := ["math/bits.Add64"], unfollowed := true, recurses := true, named := ["math/bits.divideError", "math/bits.overflowError"], apart := false }
def BufferAtSaid : Prop := bufferAtRow.holds Try.pinned (OpenSpec.ofChange bufferAtSpec)

/-- ITS FALSE NEIGHBOUR: 'it returns false'. Refute it at one input. -/
def bufferAtWrong : ChangeSpec := { name := "bufferAt", fn := fun _ => fun
  | [d1, d2, d3] => { results := [.lit (.bool false)], args := [d1, d2, d3] }
  | _ => none }
def BufferAtWrongFalsely : Prop := bufferAtRow.holds Try.pinned (OpenSpec.ofChange bufferAtWrong)

/-- 'pointillistlaw17.BufferOrder': WHATEVER THE INPUT: true; the input reads as it did. -/
def bufferOrderSpec : ChangeSpec := { name := "bufferOrder", fn := fun _ => fun
  | [d1, d2, d3] => { results := [.lit (.bool true)], args := [d1, d2, d3] }
  | _ => none }
def bufferOrderRow : OpenClaim := { program := "ytejcjonlnijbkaa", sum := "08ab3e6a72444cb8f3b8c256e43630a08b2b68c58203b98dc59bd3c2ca226aac", func := "pointillist/pointillistlaw17.BufferOrder", spec := "bufferOrder", inPlace := ["math/bits.Add64"], unfollowed := true, recurses := true, named := ["math/bits.divideError", "math/bits.overflowError"], apart := false }
def BufferOrderSaid : Prop := bufferOrderRow.holds Try.pinned (OpenSpec.ofChange bufferOrderSpec)

/-- ITS FALSE NEIGHBOUR: 'it returns false'. Refute it at one input. -/
def bufferOrderWrong : ChangeSpec := { name := "bufferOrder", fn := fun _ => fun
  | [d1, d2, d3] => { results := [.lit (.bool false)], args := [d1, d2, d3] }
  | _ => none }
def BufferOrderWrongFalsely : Prop := bufferOrderRow.holds Try.pinned (OpenSpec.ofChange bufferOrderWrong)

/-- 'pointillistlaw17.BufferCloses': WHATEVER THE INPUT: true; the input reads as it did. -/
def bufferClosesSpec : ChangeSpec := { name := "bufferCloses", fn := fun _ => fun
  | [d1, d2] => { results := [.lit (.bool true)], args := [d1, d2] }
  | _ => none }
def bufferClosesRow : OpenClaim := { program := "ytejcjonlnijbkaa", sum := "08ab3e6a72444cb8f3b8c256e43630a08b2b68c58203b98dc59bd3c2ca226aac", func := "pointillist/pointillistlaw17.BufferCloses", spec := "bufferCloses", inPlace := ["math/bits.Add64"], unfollowed := true, recurses := true, named := ["math/bits.divideError", "math/bits.overflowError"], apart := false }
def BufferClosesSaid : Prop := bufferClosesRow.holds Try.pinned (OpenSpec.ofChange bufferClosesSpec)

/-- ITS FALSE NEIGHBOUR: 'it returns false'. Refute it at one input. -/
def bufferClosesWrong : ChangeSpec := { name := "bufferCloses", fn := fun _ => fun
  | [d1, d2] => { results := [.lit (.bool false)], args := [d1, d2] }
  | _ => none }
def BufferClosesWrongFalsely : Prop := bufferClosesRow.holds Try.pinned (OpenSpec.ofChange bufferClosesWrong)

/-- 'pointillistlaw17.BufferAdds': WHATEVER THE INPUT: true; the input reads as it did. -/
def bufferAddsSpec : ChangeSpec := { name := "bufferAdds", fn := fun _ => fun
  | [d1, d2, d3] => { results := [.lit (.bool true)], args := [d1, d2, d3] }
  | _ => none }
def bufferAddsRow : OpenClaim := { program := "ytejcjonlnijbkaa", sum := "08ab3e6a72444cb8f3b8c256e43630a08b2b68c58203b98dc59bd3c2ca226aac", func := "pointillist/pointillistlaw17.BufferAdds", spec := "bufferAdds", inPlace := ["math/bits.Add64"], unfollowed := true, recurses := true, named := ["math/bits.divideError", "math/bits.overflowError"], apart := false }
def BufferAddsSaid : Prop := bufferAddsRow.holds Try.pinned (OpenSpec.ofChange bufferAddsSpec)

/-- ITS FALSE NEIGHBOUR: 'it returns false'. Refute it at one input. -/
def bufferAddsWrong : ChangeSpec := { name := "bufferAdds", fn := fun _ => fun
  | [d1, d2, d3] => { results := [.lit (.bool false)], args := [d1, d2, d3] }
  | _ => none }
def BufferAddsWrongFalsely : Prop := bufferAddsRow.holds Try.pinned (OpenSpec.ofChange bufferAddsWrong)

/-- 'pointillistlaw17.BufferNew': WHATEVER THE INPUT: true; the input reads as it did. -/
def bufferNewSpec : ChangeSpec := { name := "bufferNew", fn := fun _ => fun
  | [d1, d2, d3] => { results := [.lit (.bool true)], args := [d1, d2, d3] }
  | _ => none }
def bufferNewRow : OpenClaim := { program := "ytejcjonlnijbkaa", sum := "08ab3e6a72444cb8f3b8c256e43630a08b2b68c58203b98dc59bd3c2ca226aac", func := "pointillist/pointillistlaw17.BufferNew", spec := "bufferNew", inPlace := ["math/bits.Add64"], unfollowed := true, recurses := true, named := ["math/bits.divideError", "math/bits.overflowError"], apart := false }
def BufferNewSaid : Prop := bufferNewRow.holds Try.pinned (OpenSpec.ofChange bufferNewSpec)

/-- ITS FALSE NEIGHBOUR: 'it returns false'. Refute it at one input. -/
def bufferNewWrong : ChangeSpec := { name := "bufferNew", fn := fun _ => fun
  | [d1, d2, d3] => { results := [.lit (.bool false)], args := [d1, d2, d3] }
  | _ => none }
def BufferNewWrongFalsely : Prop := bufferNewRow.holds Try.pinned (OpenSpec.ofChange bufferNewWrong)

/-- 'pointillistlaw17.BufferWeighs': WHATEVER THE INPUT: true; the input reads as it did. -/
def bufferWeighsSpec : ChangeSpec := { name := "bufferWeighs", fn := fun _ => fun
  | [d1, d2] => { results := [.lit (.bool true)], args := [d1, d2] }
  | _ => none }
def bufferWeighsRow : OpenClaim := { program := "ytejcjonlnijbkaa", sum := "08ab3e6a72444cb8f3b8c256e43630a08b2b68c58203b98dc59bd3c2ca226aac", func := "pointillist/pointillistlaw17.BufferWeighs", spec := "bufferWeighs", inPlace := ["math/bits.Add64"], unfollowed := true, recurses := true, named := ["math/bits.divideError", "math/bits.overflowError"], apart := false }
def BufferWeighsSaid : Prop := bufferWeighsRow.holds Try.pinned (OpenSpec.ofChange bufferWeighsSpec)

/-- ITS FALSE NEIGHBOUR: 'it returns false'. Refute it at one input. -/
def bufferWeighsWrong : ChangeSpec := { name := "bufferWeighs", fn := fun _ => fun
  | [d1, d2] => { results := [.lit (.bool false)], args := [d1, d2] }
  | _ => none }
def BufferWeighsWrongFalsely : Prop := bufferWeighsRow.holds Try.pinned (OpenSpec.ofChange bufferWeighsWrong)

/-- 'pointillistlaw17.BufferBalance': WHATEVER THE INPUT: true; the input reads as it did. -/
def bufferBalanceSpec : ChangeSpec := { name := "bufferBalance", fn := fun _ => fun
  | [d1, d2] => { results := [.lit (.bool true)], args := [d1, d2] }
  | _ => none }
def bufferBalanceRow : OpenClaim := { program := "ytejcjonlnijbkaa", sum := "08ab3e6a72444cb8f3b8c256e43630a08b2b68c58203b98dc59bd3c2ca226aac", func := "pointillist/pointillistlaw17.BufferBalance", spec := "bufferBalance", inPlace := ["math/bits.Add64"], unfollowed := true, recurses := true, named := ["math/bits.divideError", "math/bits.overflowError"], apart := false }
def BufferBalanceSaid : Prop := bufferBalanceRow.holds Try.pinned (OpenSpec.ofChange bufferBalanceSpec)

/-- ITS FALSE NEIGHBOUR: 'it returns false'. Refute it at one input. -/
def bufferBalanceWrong : ChangeSpec := { name := "bufferBalance", fn := fun _ => fun
  | [d1, d2] => { results := [.lit (.bool false)], args := [d1, d2] }
  | _ => none }
def BufferBalanceWrongFalsely : Prop := bufferBalanceRow.holds Try.pinned (OpenSpec.ofChange bufferBalanceWrong)

/-- 'pointillistlaw19.MaskTurns': WHATEVER THE INPUT: true; the input reads as it did. -/
def maskTurnsSpec : ChangeSpec := { name := "maskTurns", fn := fun _ => fun
  | [d1, d2, d3] => { results := [.lit (.bool true)], args := [d1, d2, d3] }
  | _ => none }
def maskTurnsRow : OpenClaim := { program := "ytejcjonlnijbkaa", sum := "08ab3e6a72444cb8f3b8c256e43630a08b2b68c58203b98dc59bd3c2ca226aac", func := "pointillist/pointillistlaw19.MaskTurns", spec := "maskTurns", inPlace := ["math/bits.Add64"], unfollowed := true, recurses := true, named := ["math/bits.divideError", "math/bits.overflowError"], apart := false }
def MaskTurnsSaid : Prop := maskTurnsRow.holds Try.pinned (OpenSpec.ofChange maskTurnsSpec)

/-- ITS FALSE NEIGHBOUR: 'it returns false'. Refute it at one input. -/
def maskTurnsWrong : ChangeSpec := { name := "maskTurns", fn := fun _ => fun
  | [d1, d2, d3] => { results := [.lit (.bool false)], args := [d1, d2, d3] }
  | _ => none }
def MaskTurnsWrongFalsely : Prop := maskTurnsRow.holds Try.pinned (OpenSpec.ofChange maskTurnsWrong)

/-- 'pointillistlaw19.MaskBoxes': WHATEVER THE INPUT: true; the input reads as it did. -/
def maskBoxesSpec : ChangeSpec := { name := "maskBoxes", fn := fun _ => fun
  | [d1, d2] => { results := [.lit (.bool true)], args := [d1, d2] }
  | _ => none }
def maskBoxesRow : OpenClaim := { program := "ytejcjonlnijbkaa", sum := "08ab3e6a72444cb8f3b8c256e43630a08b2b68c58203b98dc59bd3c2ca226aac", func := "pointillist/pointillistlaw19.MaskBoxes", spec := "maskBoxes", inPlace := ["math/bits.Add64"], unfollowed := true, recurses := true, named := ["math/bits.divideError", "math/bits.overflowError"], apart := false }
def MaskBoxesSaid : Prop := maskBoxesRow.holds Try.pinned (OpenSpec.ofChange maskBoxesSpec)

/-- ITS FALSE NEIGHBOUR: 'it returns false'. Refute it at one input. -/
def maskBoxesWrong : ChangeSpec := { name := "maskBoxes", fn := fun _ => fun
  | [d1, d2] => { results := [.lit (.bool false)], args := [d1, d2] }
  | _ => none }
def MaskBoxesWrongFalsely : Prop := maskBoxesRow.holds Try.pinned (OpenSpec.ofChange maskBoxesWrong)

/-- 'pointillistlaw19.MaskAll': WHATEVER THE INPUT: true; the input reads as it did. -/
def maskAllSpec : ChangeSpec := { name := "maskAll", fn := fun _ => fun
  | [d1, d2, d3] => { results := [.lit (.bool true)], args := [d1, d2, d3] }
  | _ => none }
def maskAllRow : OpenClaim := { program := "ytejcjonlnijbkaa", sum := "08ab3e6a72444cb8f3b8c256e43630a08b2b68c58203b98dc59bd3c2ca226aac", func := "pointillist/pointillistlaw19.MaskAll", spec := "maskAll", inPlace := ["math/bits.Add64"], unfollowed := true, recurses := true, named := ["math/bits.divideError", "math/bits.overflowError"], apart := false }
def MaskAllSaid : Prop := maskAllRow.holds Try.pinned (OpenSpec.ofChange maskAllSpec)

/-- ITS FALSE NEIGHBOUR: 'it returns false'. Refute it at one input. -/
def maskAllWrong : ChangeSpec := { name := "maskAll", fn := fun _ => fun
  | [d1, d2, d3] => { results := [.lit (.bool false)], args := [d1, d2, d3] }
  | _ => none }
def MaskAllWrongFalsely : Prop := maskAllRow.holds Try.pinned (OpenSpec.ofChange maskAllWrong)

/-- 'pointillistlaw19.MaskNew': WHATEVER THE INPUT: true; the input reads as it did. -/
def maskNewSpec : ChangeSpec := { name := "maskNew", fn := fun _ => fun
  | [d1, d2, d3] => { results := [.lit (.bool true)], args := [d1, d2, d3] }
  | _ => none }
def maskNewRow : OpenClaim := { program := "ytejcjonlnijbkaa", sum := "08ab3e6a72444cb8f3b8c256e43630a08b2b68c58203b98dc59bd3c2ca226aac", func := "pointillist/pointillistlaw19.MaskNew", spec := "maskNew", inPlace := ["math/bits.Add64"], unfollowed := true, recurses := true, named := ["math/bits.divideError", "math/bits.overflowError"], apart := false }
def MaskNewSaid : Prop := maskNewRow.holds Try.pinned (OpenSpec.ofChange maskNewSpec)

/-- ITS FALSE NEIGHBOUR: 'it returns false'. Refute it at one input. -/
def maskNewWrong : ChangeSpec := { name := "maskNew", fn := fun _ => fun
  | [d1, d2, d3] => { results := [.lit (.bool false)], args := [d1, d2, d3] }
  | _ => none }
def MaskNewWrongFalsely : Prop := maskNewRow.holds Try.pinned (OpenSpec.ofChange maskNewWrong)

/-- 'pointillistlaw19.MaskCovers': WHATEVER THE INPUT: true; the input reads as it did. -/
def maskCoversSpec : ChangeSpec := { name := "maskCovers", fn := fun _ => fun
  | [d1, d2, d3] => { results := [.lit (.bool true)], args := [d1, d2, d3] }
  | _ => none }
def maskCoversRow : OpenClaim := { program := "ytejcjonlnijbkaa", sum := "08ab3e6a72444cb8f3b8c256e43630a08b2b68c58203b98dc59bd3c2ca226aac", func := "pointillist/pointillistlaw19.MaskCovers", spec := "maskCovers", inPlace := ["math/bits.Add64"], unfollowed := true, recurses := true, named := ["math/bits.divideError", "math/bits.overflowError"], apart := false }
def MaskCoversSaid : Prop := maskCoversRow.holds Try.pinned (OpenSpec.ofChange maskCoversSpec)

/-- ITS FALSE NEIGHBOUR: 'it returns false'. Refute it at one input. -/
def maskCoversWrong : ChangeSpec := { name := "maskCovers", fn := fun _ => fun
  | [d1, d2, d3] => { results := [.lit (.bool false)], args := [d1, d2, d3] }
  | _ => none }
def MaskCoversWrongFalsely : Prop := maskCoversRow.holds Try.pinned (OpenSpec.ofChange maskCoversWrong)

/- THE SECOND FORM. 'bulk': how many values and letters a reading holds, each counted each time it is reached (what is shared counts as often as it is met; a slice's spare places count too). A statement '..UptoSaid' is the law's where the arguments, and the package variables that the reading takes, are together of bulk at most 1048576: NARROWER than '..Said'. Prove '..Said' where nothing that the law and all that it calls make is longer than what came in: it says more and counts as full. Else prove '..UptoSaid'. A law counts once. -/
mutual
def uptoBulk {H : Type} : DataW H → Nat
  | .lit (.string bytes) => bytes.length + 1
  | .lit _ => 1
  | .nil => 1
  | .ptr d => uptoBulk d + 1
  | .slice elems spare => uptoBulkAll elems + uptoBulkAll spare + 1
  | .agg parts => uptoBulkAll parts + 1
  | .iface _ d => uptoBulk d + 1
  | .map entries => uptoBulkEntries entries + 1
  | .held _ => 1
def uptoBulkAll {H : Type} : List (DataW H) → Nat
  | [] => 0
  | d :: r => uptoBulk d + uptoBulkAll r
def uptoBulkEntries {H : Type} : List (Lit × DataW H) → Nat
  | [] => 0
  | x :: r => uptoBulkEntry x + uptoBulkEntries r
def uptoBulkEntry {H : Type} : Lit × DataW H → Nat
  | (.string bytes, d) => bytes.length + uptoBulk d + 1
  | (_, d) => uptoBulk d + 1
 end
def uptoSmall : (H : Type) → List (DataW H) → Bool := fun _ ds => decide (uptoBulkAll ds ≤ 1048576)
def OpenSpec.upto (s : _root_.Go.ChangeSpec) : _root_.Go.OpenSpec := { _root_.Go.OpenSpec.ofChange s with cond := some uptoSmall }

/-- 'pointillistlaw17.BufferAt', WHERE WHAT IT READS IS OF BULK AT MOST 1048576: true; the input reads as it did. -/
def bufferAtUptoRow : OpenClaim := { program := "ytejcjonlnijbkaa", sum := "08ab3e6a72444cb8f3b8c256e43630a08b2b68c58203b98dc59bd3c2ca226aac", func := "pointillist/pointillistlaw17.BufferAt", spec := "bufferAt", inPlace := ["math/bits.Add64"], unfollowed := true, recurses := true, named := ["math/bits.divideError", "math/bits.overflowError"], apart := false, narrowed := true }
def BufferAtUptoSaid : Prop := bufferAtUptoRow.holds Try.pinned (OpenSpec.upto bufferAtSpec)

/-- 'pointillistlaw17.BufferOrder', WHERE WHAT IT READS IS OF BULK AT MOST 1048576: true; the input reads as it did. -/
def bufferOrderUptoRow : OpenClaim := { program := "ytejcjonlnijbkaa", sum := "08ab3e6a72444cb8f3b8c256e43630a08b2b68c58203b98dc59bd3c2ca226aac", func := "pointillist/pointillistlaw17.BufferOrder", spec := "bufferOrder", inPlace := ["math/bits.Add64"], unfollowed := true, recurses := true, named := ["math/bits.divideError", "math/bits.overflowError"], apart := false, narrowed := true }
def BufferOrderUptoSaid : Prop := bufferOrderUptoRow.holds Try.pinned (OpenSpec.upto bufferOrderSpec)

/-- 'pointillistlaw17.BufferCloses', WHERE WHAT IT READS IS OF BULK AT MOST 1048576: true; the input reads as it did. -/
def bufferClosesUptoRow : OpenClaim := { program := "ytejcjonlnijbkaa", sum := "08ab3e6a72444cb8f3b8c256e43630a08b2b68c58203b98dc59bd3c2ca226aac", func := "pointillist/pointillistlaw17.BufferCloses", spec := "bufferCloses", inPlace := ["math/bits.Add64"], unfollowed := true, recurses := true, named := ["math/bits.divideError", "math/bits.overflowError"], apart := false, narrowed := true }
def BufferClosesUptoSaid : Prop := bufferClosesUptoRow.holds Try.pinned (OpenSpec.upto bufferClosesSpec)

/-- 'pointillistlaw17.BufferAdds', WHERE WHAT IT READS IS OF BULK AT MOST 1048576: true; the input reads as it did. -/
def bufferAddsUptoRow : OpenClaim := { program := "ytejcjonlnijbkaa", sum := "08ab3e6a72444cb8f3b8c256e43630a08b2b68c58203b98dc59bd3c2ca226aac", func := "pointillist/pointillistlaw17.BufferAdds", spec := "bufferAdds", inPlace := ["math/bits.Add64"], unfollowed := true, recurses := true, named := ["math/bits.divideError", "math/bits.overflowError"], apart := false, narrowed := true }
def BufferAddsUptoSaid : Prop := bufferAddsUptoRow.holds Try.pinned (OpenSpec.upto bufferAddsSpec)

/-- 'pointillistlaw17.BufferNew', WHERE WHAT IT READS IS OF BULK AT MOST 1048576: true; the input reads as it did. -/
def bufferNewUptoRow : OpenClaim := { program := "ytejcjonlnijbkaa", sum := "08ab3e6a72444cb8f3b8c256e43630a08b2b68c58203b98dc59bd3c2ca226aac", func := "pointillist/pointillistlaw17.BufferNew", spec := "bufferNew", inPlace := ["math/bits.Add64"], unfollowed := true, recurses := true, named := ["math/bits.divideError", "math/bits.overflowError"], apart := false, narrowed := true }
def BufferNewUptoSaid : Prop := bufferNewUptoRow.holds Try.pinned (OpenSpec.upto bufferNewSpec)

/-- 'pointillistlaw17.BufferWeighs', WHERE WHAT IT READS IS OF BULK AT MOST 1048576: true; the input reads as it did. -/
def bufferWeighsUptoRow : OpenClaim := { program := "ytejcjonlnijbkaa", sum := "08ab3e6a72444cb8f3b8c256e43630a08b2b68c58203b98dc59bd3c2ca226aac", func := "pointillist/pointillistlaw17.BufferWeighs", spec := "bufferWeighs", inPlace := ["math/bits.Add64"], unfollowed := true, recurses := true, named := ["math/bits.divideError", "math/bits.overflowError"], apart := false, narrowed := true }
def BufferWeighsUptoSaid : Prop := bufferWeighsUptoRow.holds Try.pinned (OpenSpec.upto bufferWeighsSpec)

/-- 'pointillistlaw17.BufferBalance', WHERE WHAT IT READS IS OF BULK AT MOST 1048576: true; the input reads as it did. -/
def bufferBalanceUptoRow : OpenClaim := { program := "ytejcjonlnijbkaa", sum := "08ab3e6a72444cb8f3b8c256e43630a08b2b68c58203b98dc59bd3c2ca226aac", func := "pointillist/pointillistlaw17.BufferBalance", spec := "bufferBalance", inPlace := ["math/bits.Add64"], unfollowed := true, recurses := true, named := ["math/bits.divideError", "math/bits.overflowError"], apart := false, narrowed := true }
def BufferBalanceUptoSaid : Prop := bufferBalanceUptoRow.holds Try.pinned (OpenSpec.upto bufferBalanceSpec)

/-- 'pointillistlaw19.MaskTurns', WHERE WHAT IT READS IS OF BULK AT MOST 1048576: true; the input reads as it did. -/
def maskTurnsUptoRow : OpenClaim := { program := "ytejcjonlnijbkaa", sum := "08ab3e6a72444cb8f3b8c256e43630a08b2b68c58203b98dc59bd3c2ca226aac", func := "pointillist/pointillistlaw19.MaskTurns", spec := "maskTurns", inPlace := ["math/bits.Add64"], unfollowed := true, recurses := true, named := ["math/bits.divideError", "math/bits.overflowError"], apart := false, narrowed := true }
def MaskTurnsUptoSaid : Prop := maskTurnsUptoRow.holds Try.pinned (OpenSpec.upto maskTurnsSpec)

/-- 'pointillistlaw19.MaskBoxes', WHERE WHAT IT READS IS OF BULK AT MOST 1048576: true; the input reads as it did. -/
def maskBoxesUptoRow : OpenClaim := { program := "ytejcjonlnijbkaa", sum := "08ab3e6a72444cb8f3b8c256e43630a08b2b68c58203b98dc59bd3c2ca226aac", func := "pointillist/pointillistlaw19.MaskBoxes", spec := "maskBoxes", inPlace := ["math/bits.Add64"], unfollowed := true, recurses := true, named := ["math/bits.divideError", "math/bits.overflowError"], apart := false, narrowed := true }
def MaskBoxesUptoSaid : Prop := maskBoxesUptoRow.holds Try.pinned (OpenSpec.upto maskBoxesSpec)

/-- 'pointillistlaw19.MaskAll', WHERE WHAT IT READS IS OF BULK AT MOST 1048576: true; the input reads as it did. -/
def maskAllUptoRow : OpenClaim := { program := "ytejcjonlnijbkaa", sum := "08ab3e6a72444cb8f3b8c256e43630a08b2b68c58203b98dc59bd3c2ca226aac", func := "pointillist/pointillistlaw19.MaskAll", spec := "maskAll", inPlace := ["math/bits.Add64"], unfollowed := true, recurses := true, named := ["math/bits.divideError", "math/bits.overflowError"], apart := false, narrowed := true }
def MaskAllUptoSaid : Prop := maskAllUptoRow.holds Try.pinned (OpenSpec.upto maskAllSpec)

/-- 'pointillistlaw19.MaskNew', WHERE WHAT IT READS IS OF BULK AT MOST 1048576: true; the input reads as it did. -/
def maskNewUptoRow : OpenClaim := { program := "ytejcjonlnijbkaa", sum := "08ab3e6a72444cb8f3b8c256e43630a08b2b68c58203b98dc59bd3c2ca226aac", func := "pointillist/pointillistlaw19.MaskNew", spec := "maskNew", inPlace := ["math/bits.Add64"], unfollowed := true, recurses := true, named := ["math/bits.divideError", "math/bits.overflowError"], apart := false, narrowed := true }
def MaskNewUptoSaid : Prop := maskNewUptoRow.holds Try.pinned (OpenSpec.upto maskNewSpec)

/-- 'pointillistlaw19.MaskCovers', WHERE WHAT IT READS IS OF BULK AT MOST 1048576: true; the input reads as it did. -/
def maskCoversUptoRow : OpenClaim := { program := "ytejcjonlnijbkaa", sum := "08ab3e6a72444cb8f3b8c256e43630a08b2b68c58203b98dc59bd3c2ca226aac", func := "pointillist/pointillistlaw19.MaskCovers", spec := "maskCovers", inPlace := ["math/bits.Add64"], unfollowed := true, recurses := true, named := ["math/bits.divideError", "math/bits.overflowError"], apart := false, narrowed := true }
def MaskCoversUptoSaid : Prop := maskCoversUptoRow.holds Try.pinned (OpenSpec.upto maskCoversSpec)

end Rows
end Go.Proofs.Ytejcjonlnijbkaa
