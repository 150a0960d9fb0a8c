/-
  No cell of these rows narrows 'for every input' (looked for: loops, veiled, ifaces, maps, wideKeys, modest, calm, conditions, laid).
  DERIVED. THE GIVEN ROWS OF THIS SEAT. 10 by the template 'for every input the law returns true; each argument reads behind the call as it read before'; 0 by the template 'total and deterministic' (their statements: YtjdpmaachehpnaaTotals.lean).
  GIVEN WITH THE SEED: the statements are not yours to turn. If you find one false, say at which input.
  Laid BY PROGRAM, IN A SANDBOX (cutbox-rows.mjs): the forced cells as the released guide's own fill.sh prints them over the translation f7236fa945988c45… (all of the seat's roots in one cut). By AI agents, Wed Nov 11 2026. No macro, syntax, notation, axiom, sorry.
-/
import Derived.Test.YtjdpmaachehpnaaChecked
import GoSem.Claim
import GoSem.ClaimJoined
import GoSem.ClaimMapViews
import Derived.JoinedTies
import Derived.KernelRfl
namespace Go.Proofs.Ytjdpmaachehpnaa
/- THE CELL 'sum', in the pinned program and in every row, IS THE sha256 OF THE DUMP (.gsa) THAT YtjdpmaachehpnaaProg.lean LOADS. Nothing in Lean hashes anything: it is a label: what it is worth is what the hold of that sum in a sandbox is worth. -/
noncomputable def Try.pinned : Pinned := { name := "ytjdpmaachehpnaa", sum := "f7236fa945988c4566a3ec26f4ce3639e18fab6ac5748ab302ea7969200172f4", checked := Try.checked }
namespace Rows
def none {H : Type} : Left H := { results := [], args := [] }

/-- 'pointillistlaw15.StripAll': WHATEVER THE INPUT: true; the input reads as it did. -/
def stripAllSpec : ChangeSpec := { name := "stripAll", fn := fun _ => fun
  | [d1, d2, d3] => { results := [.lit (.bool true)], args := [d1, d2, d3] }
  | _ => none }
def stripAllRow : OpenClaim := { program := "ytjdpmaachehpnaa", sum := "f7236fa945988c4566a3ec26f4ce3639e18fab6ac5748ab302ea7969200172f4", func := "pointillist/pointillistlaw15.StripAll", spec := "stripAll", inPlace := ["math/bits.Add64"], unfollowed := true, recurses := true, named := ["math/bits.divideError", "math/bits.overflowError"], apart := false }
def StripAllSaid : Prop := stripAllRow.holds Try.pinned (OpenSpec.ofChange stripAllSpec)

/-- ITS FALSE NEIGHBOUR: 'it returns false'. Refute it at one input. -/
def stripAllWrong : ChangeSpec := { name := "stripAll", fn := fun _ => fun
  | [d1, d2, d3] => { results := [.lit (.bool false)], args := [d1, d2, d3] }
  | _ => none }
def StripAllWrongFalsely : Prop := stripAllRow.holds Try.pinned (OpenSpec.ofChange stripAllWrong)

/-- 'pointillistlaw15.StripXs': WHATEVER THE INPUT: true; the input reads as it did. -/
def stripXsSpec : ChangeSpec := { name := "stripXs", fn := fun _ => fun
  | [d1, d2] => { results := [.lit (.bool true)], args := [d1, d2] }
  | _ => none }
def stripXsRow : OpenClaim := { program := "ytjdpmaachehpnaa", sum := "f7236fa945988c4566a3ec26f4ce3639e18fab6ac5748ab302ea7969200172f4", func := "pointillist/pointillistlaw15.StripXs", spec := "stripXs", inPlace := ["math/bits.Add64"], unfollowed := true, recurses := true, named := ["math/bits.divideError", "math/bits.overflowError"], apart := false }
def StripXsSaid : Prop := stripXsRow.holds Try.pinned (OpenSpec.ofChange stripXsSpec)

/-- ITS FALSE NEIGHBOUR: 'it returns false'. Refute it at one input. -/
def stripXsWrong : ChangeSpec := { name := "stripXs", fn := fun _ => fun
  | [d1, d2] => { results := [.lit (.bool false)], args := [d1, d2] }
  | _ => none }
def StripXsWrongFalsely : Prop := stripXsRow.holds Try.pinned (OpenSpec.ofChange stripXsWrong)

/-- 'pointillistlaw15.StripJoins': WHATEVER THE INPUT: true; the input reads as it did. -/
def stripJoinsSpec : ChangeSpec := { name := "stripJoins", fn := fun _ => fun
  | [d1, d2] => { results := [.lit (.bool true)], args := [d1, d2] }
  | _ => none }
def stripJoinsRow : OpenClaim := { program := "ytjdpmaachehpnaa", sum := "f7236fa945988c4566a3ec26f4ce3639e18fab6ac5748ab302ea7969200172f4", func := "pointillist/pointillistlaw15.StripJoins", spec := "stripJoins", inPlace := ["math/bits.Add64"], unfollowed := true, recurses := true, named := ["math/bits.divideError", "math/bits.overflowError"], apart := false }
def StripJoinsSaid : Prop := stripJoinsRow.holds Try.pinned (OpenSpec.ofChange stripJoinsSpec)

/-- ITS FALSE NEIGHBOUR: 'it returns false'. Refute it at one input. -/
def stripJoinsWrong : ChangeSpec := { name := "stripJoins", fn := fun _ => fun
  | [d1, d2] => { results := [.lit (.bool false)], args := [d1, d2] }
  | _ => none }
def StripJoinsWrongFalsely : Prop := stripJoinsRow.holds Try.pinned (OpenSpec.ofChange stripJoinsWrong)

/-- 'pointillistlaw15.StripTurns': WHATEVER THE INPUT: true; the input reads as it did. -/
def stripTurnsSpec : ChangeSpec := { name := "stripTurns", fn := fun _ => fun
  | [d1, d2] => { results := [.lit (.bool true)], args := [d1, d2] }
  | _ => none }
def stripTurnsRow : OpenClaim := { program := "ytjdpmaachehpnaa", sum := "f7236fa945988c4566a3ec26f4ce3639e18fab6ac5748ab302ea7969200172f4", func := "pointillist/pointillistlaw15.StripTurns", spec := "stripTurns", inPlace := ["math/bits.Add64"], unfollowed := true, recurses := true, named := ["math/bits.divideError", "math/bits.overflowError"], apart := false }
def StripTurnsSaid : Prop := stripTurnsRow.holds Try.pinned (OpenSpec.ofChange stripTurnsSpec)

/-- ITS FALSE NEIGHBOUR: 'it returns false'. Refute it at one input. -/
def stripTurnsWrong : ChangeSpec := { name := "stripTurns", fn := fun _ => fun
  | [d1, d2] => { results := [.lit (.bool false)], args := [d1, d2] }
  | _ => none }
def StripTurnsWrongFalsely : Prop := stripTurnsRow.holds Try.pinned (OpenSpec.ofChange stripTurnsWrong)

/-- 'pointillistlaw15.StripMoves': WHATEVER THE INPUT: true; the input reads as it did. -/
def stripMovesSpec : ChangeSpec := { name := "stripMoves", fn := fun _ => fun
  | [d1, d2, d3] => { results := [.lit (.bool true)], args := [d1, d2, d3] }
  | _ => none }
def stripMovesRow : OpenClaim := { program := "ytjdpmaachehpnaa", sum := "f7236fa945988c4566a3ec26f4ce3639e18fab6ac5748ab302ea7969200172f4", func := "pointillist/pointillistlaw15.StripMoves", spec := "stripMoves", inPlace := ["math/bits.Add64"], unfollowed := true, recurses := true, named := ["math/bits.divideError", "math/bits.overflowError"], apart := false }
def StripMovesSaid : Prop := stripMovesRow.holds Try.pinned (OpenSpec.ofChange stripMovesSpec)

/-- ITS FALSE NEIGHBOUR: 'it returns false'. Refute it at one input. -/
def stripMovesWrong : ChangeSpec := { name := "stripMoves", fn := fun _ => fun
  | [d1, d2, d3] => { results := [.lit (.bool false)], args := [d1, d2, d3] }
  | _ => none }
def StripMovesWrongFalsely : Prop := stripMovesRow.holds Try.pinned (OpenSpec.ofChange stripMovesWrong)

/-- 'pointillistlaw16.CellCuts': WHATEVER THE INPUT: true; the input reads as it did. -/
def cellCutsSpec : ChangeSpec := { name := "cellCuts", fn := fun _ => fun
  | [d1, d2, d3] => { results := [.lit (.bool true)], args := [d1, d2, d3] }
  | _ => none }
def cellCutsRow : OpenClaim := { program := "ytjdpmaachehpnaa", sum := "f7236fa945988c4566a3ec26f4ce3639e18fab6ac5748ab302ea7969200172f4", func := "pointillist/pointillistlaw16.CellCuts", spec := "cellCuts", inPlace := ["math/bits.Add64"], unfollowed := true, recurses := true, named := ["math/bits.divideError", "math/bits.overflowError"], apart := false }
def CellCutsSaid : Prop := cellCutsRow.holds Try.pinned (OpenSpec.ofChange cellCutsSpec)

/-- ITS FALSE NEIGHBOUR: 'it returns false'. Refute it at one input. -/
def cellCutsWrong : ChangeSpec := { name := "cellCuts", fn := fun _ => fun
  | [d1, d2, d3] => { results := [.lit (.bool false)], args := [d1, d2, d3] }
  | _ => none }
def CellCutsWrongFalsely : Prop := cellCutsRow.holds Try.pinned (OpenSpec.ofChange cellCutsWrong)

/-- 'pointillistlaw16.CellAll': WHATEVER THE INPUT: true; the input reads as it did. -/
def cellAllSpec : ChangeSpec := { name := "cellAll", fn := fun _ => fun
  | [d1, d2, d3] => { results := [.lit (.bool true)], args := [d1, d2, d3] }
  | _ => none }
def cellAllRow : OpenClaim := { program := "ytjdpmaachehpnaa", sum := "f7236fa945988c4566a3ec26f4ce3639e18fab6ac5748ab302ea7969200172f4", func := "pointillist/pointillistlaw16.CellAll", spec := "cellAll", inPlace := ["math/bits.Add64"], unfollowed := true, recurses := true, named := ["math/bits.divideError", "math/bits.overflowError"], apart := false }
def CellAllSaid : Prop := cellAllRow.holds Try.pinned (OpenSpec.ofChange cellAllSpec)

/-- ITS FALSE NEIGHBOUR: 'it returns false'. Refute it at one input. -/
def cellAllWrong : ChangeSpec := { name := "cellAll", fn := fun _ => fun
  | [d1, d2, d3] => { results := [.lit (.bool false)], args := [d1, d2, d3] }
  | _ => none }
def CellAllWrongFalsely : Prop := cellAllRow.holds Try.pinned (OpenSpec.ofChange cellAllWrong)

/-- 'pointillistlaw16.CellJoins': WHATEVER THE INPUT: true; the input reads as it did. -/
def cellJoinsSpec : ChangeSpec := { name := "cellJoins", fn := fun _ => fun
  | [d1, d2] => { results := [.lit (.bool true)], args := [d1, d2] }
  | _ => none }
def cellJoinsRow : OpenClaim := { program := "ytjdpmaachehpnaa", sum := "f7236fa945988c4566a3ec26f4ce3639e18fab6ac5748ab302ea7969200172f4", func := "pointillist/pointillistlaw16.CellJoins", spec := "cellJoins", inPlace := ["math/bits.Add64"], unfollowed := true, recurses := true, named := ["math/bits.divideError", "math/bits.overflowError"], apart := false }
def CellJoinsSaid : Prop := cellJoinsRow.holds Try.pinned (OpenSpec.ofChange cellJoinsSpec)

/-- ITS FALSE NEIGHBOUR: 'it returns false'. Refute it at one input. -/
def cellJoinsWrong : ChangeSpec := { name := "cellJoins", fn := fun _ => fun
  | [d1, d2] => { results := [.lit (.bool false)], args := [d1, d2] }
  | _ => none }
def CellJoinsWrongFalsely : Prop := cellJoinsRow.holds Try.pinned (OpenSpec.ofChange cellJoinsWrong)

/-- 'pointillistlaw16.CellShifts': WHATEVER THE INPUT: true; the input reads as it did. -/
def cellShiftsSpec : ChangeSpec := { name := "cellShifts", fn := fun _ => fun
  | [d1, d2] => { results := [.lit (.bool true)], args := [d1, d2] }
  | _ => none }
def cellShiftsRow : OpenClaim := { program := "ytjdpmaachehpnaa", sum := "f7236fa945988c4566a3ec26f4ce3639e18fab6ac5748ab302ea7969200172f4", func := "pointillist/pointillistlaw16.CellShifts", spec := "cellShifts", inPlace := ["math/bits.Add64"], unfollowed := true, recurses := true, named := ["math/bits.divideError", "math/bits.overflowError"], apart := false }
def CellShiftsSaid : Prop := cellShiftsRow.holds Try.pinned (OpenSpec.ofChange cellShiftsSpec)

/-- ITS FALSE NEIGHBOUR: 'it returns false'. Refute it at one input. -/
def cellShiftsWrong : ChangeSpec := { name := "cellShifts", fn := fun _ => fun
  | [d1, d2] => { results := [.lit (.bool false)], args := [d1, d2] }
  | _ => none }
def CellShiftsWrongFalsely : Prop := cellShiftsRow.holds Try.pinned (OpenSpec.ofChange cellShiftsWrong)

/-- 'pointillistlaw16.CellSums': WHATEVER THE INPUT: true; the input reads as it did. -/
def cellSumsSpec : ChangeSpec := { name := "cellSums", fn := fun _ => fun
  | [d1, d2] => { results := [.lit (.bool true)], args := [d1, d2] }
  | _ => none }
def cellSumsRow : OpenClaim := { program := "ytjdpmaachehpnaa", sum := "f7236fa945988c4566a3ec26f4ce3639e18fab6ac5748ab302ea7969200172f4", func := "pointillist/pointillistlaw16.CellSums", spec := "cellSums", inPlace := ["math/bits.Add64"], unfollowed := true, recurses := true, named := ["math/bits.divideError", "math/bits.overflowError"], apart := false }
def CellSumsSaid : Prop := cellSumsRow.holds Try.pinned (OpenSpec.ofChange cellSumsSpec)

/-- ITS FALSE NEIGHBOUR: 'it returns false'. Refute it at one input. -/
def cellSumsWrong : ChangeSpec := { name := "cellSums", fn := fun _ => fun
  | [d1, d2] => { results := [.lit (.bool false)], args := [d1, d2] }
  | _ => none }
def CellSumsWrongFalsely : Prop := cellSumsRow.holds Try.pinned (OpenSpec.ofChange cellSumsWrong)

/- THE SECOND FORM. 'bulk': how many values and letters a reading holds, each counted each time it is reached (what is shared counts as often as it is met; a slice's spare places count too). A statement '..UptoSaid' is the law's where the arguments, and the package variables that the reading takes, are together of bulk at most 1048576: NARROWER than '..Said'. Prove '..Said' where nothing that the law and all that it calls make is longer than what came in: it says more and counts as full. Else prove '..UptoSaid'. A law counts once. -/
mutual
def uptoBulk {H : Type} : DataW H → Nat
  | .lit (.string bytes) => bytes.length + 1
  | .lit _ => 1
  | .nil => 1
  | .ptr d => uptoBulk d + 1
  | .slice elems spare => uptoBulkAll elems + uptoBulkAll spare + 1
  | .agg parts => uptoBulkAll parts + 1
  | .iface _ d => uptoBulk d + 1
  | .map entries => uptoBulkEntries entries + 1
  | .held _ => 1
def uptoBulkAll {H : Type} : List (DataW H) → Nat
  | [] => 0
  | d :: r => uptoBulk d + uptoBulkAll r
def uptoBulkEntries {H : Type} : List (Lit × DataW H) → Nat
  | [] => 0
  | x :: r => uptoBulkEntry x + uptoBulkEntries r
def uptoBulkEntry {H : Type} : Lit × DataW H → Nat
  | (.string bytes, d) => bytes.length + uptoBulk d + 1
  | (_, d) => uptoBulk d + 1
 end
def uptoSmall : (H : Type) → List (DataW H) → Bool := fun _ ds => decide (uptoBulkAll ds ≤ 1048576)
def OpenSpec.upto (s : _root_.Go.ChangeSpec) : _root_.Go.OpenSpec := { _root_.Go.OpenSpec.ofChange s with cond := some uptoSmall }

/-- 'pointillistlaw15.StripAll', WHERE WHAT IT READS IS OF BULK AT MOST 1048576: true; the input reads as it did. -/
def stripAllUptoRow : OpenClaim := { program := "ytjdpmaachehpnaa", sum := "f7236fa945988c4566a3ec26f4ce3639e18fab6ac5748ab302ea7969200172f4", func := "pointillist/pointillistlaw15.StripAll", spec := "stripAll", inPlace := ["math/bits.Add64"], unfollowed := true, recurses := true, named := ["math/bits.divideError", "math/bits.overflowError"], apart := false, narrowed := true }
def StripAllUptoSaid : Prop := stripAllUptoRow.holds Try.pinned (OpenSpec.upto stripAllSpec)

/-- 'pointillistlaw15.StripXs', WHERE WHAT IT READS IS OF BULK AT MOST 1048576: true; the input reads as it did. -/
def stripXsUptoRow : OpenClaim := { program := "ytjdpmaachehpnaa", sum := "f7236fa945988c4566a3ec26f4ce3639e18fab6ac5748ab302ea7969200172f4", func := "pointillist/pointillistlaw15.StripXs", spec := "stripXs", inPlace := ["math/bits.Add64"], unfollowed := true, recurses := true, named := ["math/bits.divideError", "math/bits.overflowError"], apart := false, narrowed := true }
def StripXsUptoSaid : Prop := stripXsUptoRow.holds Try.pinned (OpenSpec.upto stripXsSpec)

/-- 'pointillistlaw15.StripJoins', WHERE WHAT IT READS IS OF BULK AT MOST 1048576: true; the input reads as it did. -/
def stripJoinsUptoRow : OpenClaim := { program := "ytjdpmaachehpnaa", sum := "f7236fa945988c4566a3ec26f4ce3639e18fab6ac5748ab302ea7969200172f4", func := "pointillist/pointillistlaw15.StripJoins", spec := "stripJoins", inPlace := ["math/bits.Add64"], unfollowed := true, recurses := true, named := ["math/bits.divideError", "math/bits.overflowError"], apart := false, narrowed := true }
def StripJoinsUptoSaid : Prop := stripJoinsUptoRow.holds Try.pinned (OpenSpec.upto stripJoinsSpec)

/-- 'pointillistlaw15.StripTurns', WHERE WHAT IT READS IS OF BULK AT MOST 1048576: true; the input reads as it did. -/
def stripTurnsUptoRow : OpenClaim := { program := "ytjdpmaachehpnaa", sum := "f7236fa945988c4566a3ec26f4ce3639e18fab6ac5748ab302ea7969200172f4", func := "pointillist/pointillistlaw15.StripTurns", spec := "stripTurns", inPlace := ["math/bits.Add64"], unfollowed := true, recurses := true, named := ["math/bits.divideError", "math/bits.overflowError"], apart := false, narrowed := true }
def StripTurnsUptoSaid : Prop := stripTurnsUptoRow.holds Try.pinned (OpenSpec.upto stripTurnsSpec)

/-- 'pointillistlaw15.StripMoves', WHERE WHAT IT READS IS OF BULK AT MOST 1048576: true; the input reads as it did. -/
def stripMovesUptoRow : OpenClaim := { program := "ytjdpmaachehpnaa", sum := "f7236fa945988c4566a3ec26f4ce3639e18fab6ac5748ab302ea7969200172f4", func := "pointillist/pointillistlaw15.StripMoves", spec := "stripMoves", inPlace := ["math/bits.Add64"], unfollowed := true, recurses := true, named := ["math/bits.divideError", "math/bits.overflowError"], apart := false, narrowed := true }
def StripMovesUptoSaid : Prop := stripMovesUptoRow.holds Try.pinned (OpenSpec.upto stripMovesSpec)

/-- 'pointillistlaw16.CellCuts', WHERE WHAT IT READS IS OF BULK AT MOST 1048576: true; the input reads as it did. -/
def cellCutsUptoRow : OpenClaim := { program := "ytjdpmaachehpnaa", sum := "f7236fa945988c4566a3ec26f4ce3639e18fab6ac5748ab302ea7969200172f4", func := "pointillist/pointillistlaw16.CellCuts", spec := "cellCuts", inPlace := ["math/bits.Add64"], unfollowed := true, recurses := true, named := ["math/bits.divideError", "math/bits.overflowError"], apart := false, narrowed := true }
def CellCutsUptoSaid : Prop := cellCutsUptoRow.holds Try.pinned (OpenSpec.upto cellCutsSpec)

/-- 'pointillistlaw16.CellAll', WHERE WHAT IT READS IS OF BULK AT MOST 1048576: true; the input reads as it did. -/
def cellAllUptoRow : OpenClaim := { program := "ytjdpmaachehpnaa", sum := "f7236fa945988c4566a3ec26f4ce3639e18fab6ac5748ab302ea7969200172f4", func := "pointillist/pointillistlaw16.CellAll", spec := "cellAll", inPlace := ["math/bits.Add64"], unfollowed := true, recurses := true, named := ["math/bits.divideError", "math/bits.overflowError"], apart := false, narrowed := true }
def CellAllUptoSaid : Prop := cellAllUptoRow.holds Try.pinned (OpenSpec.upto cellAllSpec)

/-- 'pointillistlaw16.CellJoins', WHERE WHAT IT READS IS OF BULK AT MOST 1048576: true; the input reads as it did. -/
def cellJoinsUptoRow : OpenClaim := { program := "ytjdpmaachehpnaa", sum := "f7236fa945988c4566a3ec26f4ce3639e18fab6ac5748ab302ea7969200172f4", func := "pointillist/pointillistlaw16.CellJoins", spec := "cellJoins", inPlace := ["math/bits.Add64"], unfollowed := true, recurses := true, named := ["math/bits.divideError", "math/bits.overflowError"], apart := false, narrowed := true }
def CellJoinsUptoSaid : Prop := cellJoinsUptoRow.holds Try.pinned (OpenSpec.upto cellJoinsSpec)

/-- 'pointillistlaw16.CellShifts', WHERE WHAT IT READS IS OF BULK AT MOST 1048576: true; the input reads as it did. -/
def cellShiftsUptoRow : OpenClaim := { program := "ytjdpmaachehpnaa", sum := "f7236fa945988c4566a3ec26f4ce3639e18fab6ac5748ab302ea7969200172f4", func := "pointillist/pointillistlaw16.CellShifts", spec := "cellShifts", inPlace := ["math/bits.Add64"], unfollowed := true, recurses := true, named := ["math/bits.divideError", "math/bits.overflowError"], apart := false, narrowed := true }
def CellShiftsUptoSaid : Prop := cellShiftsUptoRow.holds Try.pinned (OpenSpec.upto cellShiftsSpec)

/-- 'pointillistlaw16.CellSums', WHERE WHAT IT READS IS OF BULK AT MOST 1048576: true; the input reads as it did. -/
def cellSumsUptoRow : OpenClaim := { program := "ytjdpmaachehpnaa", sum := "f7236fa945988c4566a3ec26f4ce3639e18fab6ac5748ab302ea7969200172f4", func := "pointillist/pointillistlaw16.CellSums", spec := "cellSums", inPlace := ["math/bits.Add64"], unfollowed := true, recurses := true, named := ["math/bits.divideError", "math/bits.overflowError"], apart := false, narrowed := true }
def CellSumsUptoSaid : Prop := cellSumsUptoRow.holds Try.pinned (OpenSpec.upto cellSumsSpec)

end Rows
end Go.Proofs.Ytjdpmaachehpnaa
