/-
  No cell of these rows narrows 'for every input' (looked for: loops, veiled, ifaces, maps, wideKeys, modest, calm, conditions, laid).
  DERIVED. THE GIVEN ROWS OF THIS SEAT. 7 by the template 'for every input the law returns true; each argument reads behind the call as it read before'; 0 by the template 'total and deterministic' (their statements: YtdhhkabihmdbnaaTotals.lean).
  GIVEN WITH THE SEED: the statements are not yours to turn. If you find one false, say at which input.
  Laid BY PROGRAM, IN A SANDBOX (cutbox-rows.mjs): the forced cells as the released guide's own fill.sh prints them over the translation 76483d4decae6ba6… (all of the seat's roots in one cut). By AI agents, Wed Nov 11 2026. No macro, syntax, notation, axiom, sorry.
-/
import Derived.Test.YtdhhkabihmdbnaaChecked
import GoSem.Claim
import GoSem.ClaimJoined
import GoSem.ClaimMapViews
import Derived.JoinedTies
import Derived.KernelRfl
namespace Go.Proofs.Ytdhhkabihmdbnaa
/- THE CELL 'sum', in the pinned program and in every row, IS THE sha256 OF THE DUMP (.gsa) THAT YtdhhkabihmdbnaaProg.lean LOADS. Nothing in Lean hashes anything: it is a label: what it is worth is what the hold of that sum in a sandbox is worth. -/
noncomputable def Try.pinned : Pinned := { name := "ytdhhkabihmdbnaa", sum := "76483d4decae6ba6908d70c4e18d99168057fcad4088c12992a2859d5e1fec1f", checked := Try.checked }
namespace Rows
def none {H : Type} : Left H := { results := [], args := [] }

/-- 'pointillistlaw22.CanvasNew': WHATEVER THE INPUT: true; the input reads as it did. -/
def canvasNewSpec : ChangeSpec := { name := "canvasNew", fn := fun _ => fun
  | [d1, d2] => { results := [.lit (.bool true)], args := [d1, d2] }
  | _ => none }
def canvasNewRow : OpenClaim := { program := "ytdhhkabihmdbnaa", sum := "76483d4decae6ba6908d70c4e18d99168057fcad4088c12992a2859d5e1fec1f", func := "pointillist/pointillistlaw22.CanvasNew", spec := "canvasNew", unfollowed := true, recurses := true, apart := false }
def CanvasNewSaid : Prop := canvasNewRow.holds Try.pinned (OpenSpec.ofChange canvasNewSpec)

/-- ITS FALSE NEIGHBOUR: 'it returns false'. Refute it at one input. -/
def canvasNewWrong : ChangeSpec := { name := "canvasNew", fn := fun _ => fun
  | [d1, d2] => { results := [.lit (.bool false)], args := [d1, d2] }
  | _ => none }
def CanvasNewWrongFalsely : Prop := canvasNewRow.holds Try.pinned (OpenSpec.ofChange canvasNewWrong)

/-- 'pointillistlaw22.CanvasSets': WHATEVER THE INPUT: true; the input reads as it did. -/
def canvasSetsSpec : ChangeSpec := { name := "canvasSets", fn := fun _ => fun
  | [d1, d2] => { results := [.lit (.bool true)], args := [d1, d2] }
  | _ => none }
def canvasSetsRow : OpenClaim := { program := "ytdhhkabihmdbnaa", sum := "76483d4decae6ba6908d70c4e18d99168057fcad4088c12992a2859d5e1fec1f", func := "pointillist/pointillistlaw22.CanvasSets", spec := "canvasSets", unfollowed := true, recurses := true, apart := false }
def CanvasSetsSaid : Prop := canvasSetsRow.holds Try.pinned (OpenSpec.ofChange canvasSetsSpec)

/-- ITS FALSE NEIGHBOUR: 'it returns false'. Refute it at one input. -/
def canvasSetsWrong : ChangeSpec := { name := "canvasSets", fn := fun _ => fun
  | [d1, d2] => { results := [.lit (.bool false)], args := [d1, d2] }
  | _ => none }
def CanvasSetsWrongFalsely : Prop := canvasSetsRow.holds Try.pinned (OpenSpec.ofChange canvasSetsWrong)

/-- 'pointillistlaw02.RootFloors': WHATEVER THE INPUT: true; the input reads as it did. -/
def rootFloorsSpec : ChangeSpec := { name := "rootFloors", fn := fun _ => fun
  | [d] => { results := [.lit (.bool true)], args := [d] }
  | _ => none }
def rootFloorsRow : OpenClaim := { program := "ytdhhkabihmdbnaa", sum := "76483d4decae6ba6908d70c4e18d99168057fcad4088c12992a2859d5e1fec1f", func := "pointillist/pointillistlaw02.RootFloors", spec := "rootFloors", inPlace := ["math/bits.Add64"], unfollowed := true, recurses := true, named := ["math/bits.divideError", "math/bits.overflowError"], apart := false }
def RootFloorsSaid : Prop := rootFloorsRow.holds Try.pinned (OpenSpec.ofChange rootFloorsSpec)

/-- ITS FALSE NEIGHBOUR: 'it returns false'. Refute it at one input. -/
def rootFloorsWrong : ChangeSpec := { name := "rootFloors", fn := fun _ => fun
  | [d] => { results := [.lit (.bool false)], args := [d] }
  | _ => none }
def RootFloorsWrongFalsely : Prop := rootFloorsRow.holds Try.pinned (OpenSpec.ofChange rootFloorsWrong)

/-- 'pointillistlaw02.RootWides': WHATEVER THE INPUT: true; the input reads as it did. -/
def rootWidesSpec : ChangeSpec := { name := "rootWides", fn := fun _ => fun
  | [d1, d2] => { results := [.lit (.bool true)], args := [d1, d2] }
  | _ => none }
def rootWidesRow : OpenClaim := { program := "ytdhhkabihmdbnaa", sum := "76483d4decae6ba6908d70c4e18d99168057fcad4088c12992a2859d5e1fec1f", func := "pointillist/pointillistlaw02.RootWides", spec := "rootWides", inPlace := ["math/bits.Add64"], unfollowed := true, recurses := true, named := ["math/bits.divideError", "math/bits.overflowError"], apart := false }
def RootWidesSaid : Prop := rootWidesRow.holds Try.pinned (OpenSpec.ofChange rootWidesSpec)

/-- ITS FALSE NEIGHBOUR: 'it returns false'. Refute it at one input. -/
def rootWidesWrong : ChangeSpec := { name := "rootWides", fn := fun _ => fun
  | [d1, d2] => { results := [.lit (.bool false)], args := [d1, d2] }
  | _ => none }
def RootWidesWrongFalsely : Prop := rootWidesRow.holds Try.pinned (OpenSpec.ofChange rootWidesWrong)

/-- 'pointillistlaw02.RootHypots': WHATEVER THE INPUT: true; the input reads as it did. -/
def rootHypotsSpec : ChangeSpec := { name := "rootHypots", fn := fun _ => fun
  | [d1, d2] => { results := [.lit (.bool true)], args := [d1, d2] }
  | _ => none }
def rootHypotsRow : OpenClaim := { program := "ytdhhkabihmdbnaa", sum := "76483d4decae6ba6908d70c4e18d99168057fcad4088c12992a2859d5e1fec1f", func := "pointillist/pointillistlaw02.RootHypots", spec := "rootHypots", inPlace := ["math/bits.Add64"], unfollowed := true, recurses := true, named := ["math/bits.divideError", "math/bits.overflowError"], apart := false }
def RootHypotsSaid : Prop := rootHypotsRow.holds Try.pinned (OpenSpec.ofChange rootHypotsSpec)

/-- ITS FALSE NEIGHBOUR: 'it returns false'. Refute it at one input. -/
def rootHypotsWrong : ChangeSpec := { name := "rootHypots", fn := fun _ => fun
  | [d1, d2] => { results := [.lit (.bool false)], args := [d1, d2] }
  | _ => none }
def RootHypotsWrongFalsely : Prop := rootHypotsRow.holds Try.pinned (OpenSpec.ofChange rootHypotsWrong)

/-- 'pointillistlaw02.RootSteps': WHATEVER THE INPUT: true; the input reads as it did. -/
def rootStepsSpec : ChangeSpec := { name := "rootSteps", fn := fun _ => fun
  | [d1, d2] => { results := [.lit (.bool true)], args := [d1, d2] }
  | _ => none }
def rootStepsRow : OpenClaim := { program := "ytdhhkabihmdbnaa", sum := "76483d4decae6ba6908d70c4e18d99168057fcad4088c12992a2859d5e1fec1f", func := "pointillist/pointillistlaw02.RootSteps", spec := "rootSteps", inPlace := ["math/bits.Add64"], unfollowed := true, recurses := true, named := ["math/bits.divideError", "math/bits.overflowError"], apart := false }
def RootStepsSaid : Prop := rootStepsRow.holds Try.pinned (OpenSpec.ofChange rootStepsSpec)

/-- ITS FALSE NEIGHBOUR: 'it returns false'. Refute it at one input. -/
def rootStepsWrong : ChangeSpec := { name := "rootSteps", fn := fun _ => fun
  | [d1, d2] => { results := [.lit (.bool false)], args := [d1, d2] }
  | _ => none }
def RootStepsWrongFalsely : Prop := rootStepsRow.holds Try.pinned (OpenSpec.ofChange rootStepsWrong)

/-- 'pointillistlaw02.RootRises': WHATEVER THE INPUT: true; the input reads as it did. -/
def rootRisesSpec : ChangeSpec := { name := "rootRises", fn := fun _ => fun
  | [d1, d2] => { results := [.lit (.bool true)], args := [d1, d2] }
  | _ => none }
def rootRisesRow : OpenClaim := { program := "ytdhhkabihmdbnaa", sum := "76483d4decae6ba6908d70c4e18d99168057fcad4088c12992a2859d5e1fec1f", func := "pointillist/pointillistlaw02.RootRises", spec := "rootRises", inPlace := ["math/bits.Add64"], unfollowed := true, recurses := true, named := ["math/bits.divideError", "math/bits.overflowError"], apart := false }
def RootRisesSaid : Prop := rootRisesRow.holds Try.pinned (OpenSpec.ofChange rootRisesSpec)

/-- ITS FALSE NEIGHBOUR: 'it returns false'. Refute it at one input. -/
def rootRisesWrong : ChangeSpec := { name := "rootRises", fn := fun _ => fun
  | [d1, d2] => { results := [.lit (.bool false)], args := [d1, d2] }
  | _ => none }
def RootRisesWrongFalsely : Prop := rootRisesRow.holds Try.pinned (OpenSpec.ofChange rootRisesWrong)

/- THE SECOND FORM. 'bulk': how many values and letters a reading holds, each counted each time it is reached (what is shared counts as often as it is met; a slice's spare places count too). A statement '..UptoSaid' is the law's where the arguments, and the package variables that the reading takes, are together of bulk at most 1048576: NARROWER than '..Said'. Prove '..Said' where nothing that the law and all that it calls make is longer than what came in: it says more and counts as full. Else prove '..UptoSaid'. A law counts once. -/
mutual
def uptoBulk {H : Type} : DataW H → Nat
  | .lit (.string bytes) => bytes.length + 1
  | .lit _ => 1
  | .nil => 1
  | .ptr d => uptoBulk d + 1
  | .slice elems spare => uptoBulkAll elems + uptoBulkAll spare + 1
  | .agg parts => uptoBulkAll parts + 1
  | .iface _ d => uptoBulk d + 1
  | .map entries => uptoBulkEntries entries + 1
  | .held _ => 1
def uptoBulkAll {H : Type} : List (DataW H) → Nat
  | [] => 0
  | d :: r => uptoBulk d + uptoBulkAll r
def uptoBulkEntries {H : Type} : List (Lit × DataW H) → Nat
  | [] => 0
  | x :: r => uptoBulkEntry x + uptoBulkEntries r
def uptoBulkEntry {H : Type} : Lit × DataW H → Nat
  | (.string bytes, d) => bytes.length + uptoBulk d + 1
  | (_, d) => uptoBulk d + 1
 end
def uptoSmall : (H : Type) → List (DataW H) → Bool := fun _ ds => decide (uptoBulkAll ds ≤ 1048576)
def OpenSpec.upto (s : _root_.Go.ChangeSpec) : _root_.Go.OpenSpec := { _root_.Go.OpenSpec.ofChange s with cond := some uptoSmall }

/-- 'pointillistlaw22.CanvasNew', WHERE WHAT IT READS IS OF BULK AT MOST 1048576: true; the input reads as it did. -/
def canvasNewUptoRow : OpenClaim := { program := "ytdhhkabihmdbnaa", sum := "76483d4decae6ba6908d70c4e18d99168057fcad4088c12992a2859d5e1fec1f", func := "pointillist/pointillistlaw22.CanvasNew", spec := "canvasNew", unfollowed := true, recurses := true, apart := false, narrowed := true }
def CanvasNewUptoSaid : Prop := canvasNewUptoRow.holds Try.pinned (OpenSpec.upto canvasNewSpec)

/-- 'pointillistlaw22.CanvasSets', WHERE WHAT IT READS IS OF BULK AT MOST 1048576: true; the input reads as it did. -/
def canvasSetsUptoRow : OpenClaim := { program := "ytdhhkabihmdbnaa", sum := "76483d4decae6ba6908d70c4e18d99168057fcad4088c12992a2859d5e1fec1f", func := "pointillist/pointillistlaw22.CanvasSets", spec := "canvasSets", unfollowed := true, recurses := true, apart := false, narrowed := true }
def CanvasSetsUptoSaid : Prop := canvasSetsUptoRow.holds Try.pinned (OpenSpec.upto canvasSetsSpec)

/-- 'pointillistlaw02.RootFloors', WHERE WHAT IT READS IS OF BULK AT MOST 1048576: true; the input reads as it did. -/
def rootFloorsUptoRow : OpenClaim := { program := "ytdhhkabihmdbnaa", sum := "76483d4decae6ba6908d70c4e18d99168057fcad4088c12992a2859d5e1fec1f", func := "pointillist/pointillistlaw02.RootFloors", spec := "rootFloors", inPlace := ["math/bits.Add64"], unfollowed := true, recurses := true, named := ["math/bits.divideError", "math/bits.overflowError"], apart := false, narrowed := true }
def RootFloorsUptoSaid : Prop := rootFloorsUptoRow.holds Try.pinned (OpenSpec.upto rootFloorsSpec)

/-- 'pointillistlaw02.RootWides', WHERE WHAT IT READS IS OF BULK AT MOST 1048576: true; the input reads as it did. -/
def rootWidesUptoRow : OpenClaim := { program := "ytdhhkabihmdbnaa", sum := "76483d4decae6ba6908d70c4e18d99168057fcad4088c12992a2859d5e1fec1f", func := "pointillist/pointillistlaw02.RootWides", spec := "rootWides", inPlace := ["math/bits.Add64"], unfollowed := true, recurses := true, named := ["math/bits.divideError", "math/bits.overflowError"], apart := false, narrowed := true }
def RootWidesUptoSaid : Prop := rootWidesUptoRow.holds Try.pinned (OpenSpec.upto rootWidesSpec)

/-- 'pointillistlaw02.RootHypots', WHERE WHAT IT READS IS OF BULK AT MOST 1048576: true; the input reads as it did. -/
def rootHypotsUptoRow : OpenClaim := { program := "ytdhhkabihmdbnaa", sum := "76483d4decae6ba6908d70c4e18d99168057fcad4088c12992a2859d5e1fec1f", func := "pointillist/pointillistlaw02.RootHypots", spec := "rootHypots", inPlace := ["math/bits.Add64"], unfollowed := true, recurses := true, named := ["math/bits.divideError", "math/bits.overflowError"], apart := false, narrowed := true }
def RootHypotsUptoSaid : Prop := rootHypotsUptoRow.holds Try.pinned (OpenSpec.upto rootHypotsSpec)

/-- 'pointillistlaw02.RootSteps', WHERE WHAT IT READS IS OF BULK AT MOST 1048576: true; the input reads as it did. -/
def rootStepsUptoRow : OpenClaim := { program := "ytdhhkabihmdbnaa", sum := "76483d4decae6ba6908d70c4e18d99168057fcad4088c12992a2859d5e1fec1f", func := "pointillist/pointillistlaw02.RootSteps", spec := "rootSteps", inPlace := ["math/bits.Add64"], unfollowed := true, recurses := true, named := ["math/bits.divideError", "math/bits.overflowError"], apart := false, narrowed := true }
def RootStepsUptoSaid : Prop := rootStepsUptoRow.holds Try.pinned (OpenSpec.upto rootStepsSpec)

/-- 'pointillistlaw02.RootRises', WHERE WHAT IT READS IS OF BULK AT MOST 1048576: true; the input reads as it did. -/
def rootRisesUptoRow : OpenClaim := { program := "ytdhhkabihmdbnaa", sum := "76483d4decae6ba6908d70c4e18d99168057fcad4088c12992a2859d5e1fec1f", func := "pointillist/pointillistlaw02.RootRises", spec := "rootRises", inPlace := ["math/bits.Add64"], unfollowed := true, recurses := true, named := ["math/bits.divideError", "math/bits.overflowError"], apart := false, narrowed := true }
def RootRisesUptoSaid : Prop := rootRisesUptoRow.holds Try.pinned (OpenSpec.upto rootRisesSpec)

end Rows
end Go.Proofs.Ytdhhkabihmdbnaa
