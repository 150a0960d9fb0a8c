/-
  NARROWER THAN 'FOR EVERY INPUT', by the rows' own cells (each row's printed sentence says how): OpFactors: laid · OpTurns: laid · BlendPixels: laid · BlendNear: laid · BlendPlain: laid · BlendRises: laid · OpAll: laid · OpNames: laid · BlendRows: laid.
  DERIVED. THE GIVEN ROWS OF THIS SEAT. 9 by the template 'for every input the law returns true; each argument reads behind the call as it read before'; 0 by the template 'total and deterministic' (their statements: YtpmfcedhmfgkiaaDoorTotals.lean).
  GIVEN WITH THE SEED: the statements are not yours to turn. If you find one false, say at which input.
  Laid BY PROGRAM, IN A SANDBOX (cutbox-rows.mjs): the forced cells as the released guide's own fill.sh prints them over the translation d32e87c2acb5ed90… (all of the seat's roots in one cut). By AI agents, Wed Nov 11 2026. No macro, syntax, notation, axiom, sorry.
-/
import Derived.Test.YtpmfcedhmfgkiaaDoorChecked
import GoSem.Claim
import GoSem.ClaimJoined
import GoSem.ClaimMapViews
import Derived.JoinedTies
import Derived.KernelRfl
namespace Go.Proofs.YtpmfcedhmfgkiaaDoor
/- THE CELL 'sum', in the pinned program and in every row, IS THE sha256 OF THE DUMP (.gsa) THAT YtpmfcedhmfgkiaaDoorProg.lean LOADS. Nothing in Lean hashes anything: it is a label: what it is worth is what the hold of that sum in a sandbox is worth. -/
noncomputable def Tryd.pinned : Pinned := { name := "ytpmfcedhmfgkiaadoor", sum := "d32e87c2acb5ed90dd3d76261eb91016a4de56adec7fd9d3d4c05e0b9bbe9d4b", checked := Tryd.checked }
namespace Rows
def none {H : Type} : Left H := { results := [], args := [] }

/- WHAT THE LISTED PACKAGE-LEVEL VARIABLES READ AS WHEN THE CALL BEGINS. Each datum BY PROGRAM (the guide's laid-datum.mjs) off the statement by which the dump's own 'gosem.cut.vars' lays the variable. In a bare row this is a premise. The card (YtpmfcedhmfgkiaaDoorCards.lean) ties it to the program's text. -/
def laid_pointillist_op_kinds {H : Type} : DataW H := .agg [.agg [.lit (.string [99, 108, 101, 97, 114]), .lit (.string [48, 48])], .agg [.lit (.string [115, 114, 99]), .lit (.string [49, 48])], .agg [.lit (.string [100, 115, 116]), .lit (.string [48, 49])], .agg [.lit (.string [115, 114, 99, 111, 118, 101, 114]), .lit (.string [49, 83])], .agg [.lit (.string [100, 115, 116, 111, 118, 101, 114]), .lit (.string [68, 49])], .agg [.lit (.string [115, 114, 99, 105, 110]), .lit (.string [100, 48])], .agg [.lit (.string [100, 115, 116, 105, 110]), .lit (.string [48, 115])], .agg [.lit (.string [115, 114, 99, 111, 117, 116]), .lit (.string [68, 48])], .agg [.lit (.string [100, 115, 116, 111, 117, 116]), .lit (.string [48, 83])], .agg [.lit (.string [115, 114, 99, 97, 116, 111, 112]), .lit (.string [100, 83])], .agg [.lit (.string [100, 115, 116, 97, 116, 111, 112]), .lit (.string [68, 115])], .agg [.lit (.string [120, 111, 114]), .lit (.string [68, 83])]]

/-- 'pointillistlaw20.OpFactors': WHATEVER THE INPUT: true; the input reads as it did. -/
def opFactorsSpec : ChangeSpec := { name := "opFactors", fn := fun _ => fun
  | [d1, d2, d3] => { results := [.lit (.bool true)], args := [d1, d2, d3] }
  | _ => none }
def opFactorsRow : OpenClaim := { program := "ytpmfcedhmfgkiaadoor", sum := "d32e87c2acb5ed90dd3d76261eb91016a4de56adec7fd9d3d4c05e0b9bbe9d4b", func := "pointillist/pointillistlaw20.OpFactors", spec := "opFactors", named := ["pointillist/op.kinds"], apart := false, laid := [("pointillist/op.kinds", laid_pointillist_op_kinds)] }
def OpFactorsSaid : Prop := opFactorsRow.holds Tryd.pinned (OpenSpec.ofChange opFactorsSpec)

/-- ITS FALSE NEIGHBOUR: 'it returns false'. Refute it at one input. -/
def opFactorsWrong : ChangeSpec := { name := "opFactors", fn := fun _ => fun
  | [d1, d2, d3] => { results := [.lit (.bool false)], args := [d1, d2, d3] }
  | _ => none }
def OpFactorsWrongFalsely : Prop := opFactorsRow.holds Tryd.pinned (OpenSpec.ofChange opFactorsWrong)

/-- 'pointillistlaw20.OpTurns': WHATEVER THE INPUT: true; the input reads as it did. -/
def opTurnsSpec : ChangeSpec := { name := "opTurns", fn := fun _ => fun
  | [d1, d2, d3] => { results := [.lit (.bool true)], args := [d1, d2, d3] }
  | _ => none }
def opTurnsRow : OpenClaim := { program := "ytpmfcedhmfgkiaadoor", sum := "d32e87c2acb5ed90dd3d76261eb91016a4de56adec7fd9d3d4c05e0b9bbe9d4b", func := "pointillist/pointillistlaw20.OpTurns", spec := "opTurns", named := ["pointillist/op.kinds"], apart := false, laid := [("pointillist/op.kinds", laid_pointillist_op_kinds)] }
def OpTurnsSaid : Prop := opTurnsRow.holds Tryd.pinned (OpenSpec.ofChange opTurnsSpec)

/-- ITS FALSE NEIGHBOUR: 'it returns false'. Refute it at one input. -/
def opTurnsWrong : ChangeSpec := { name := "opTurns", fn := fun _ => fun
  | [d1, d2, d3] => { results := [.lit (.bool false)], args := [d1, d2, d3] }
  | _ => none }
def OpTurnsWrongFalsely : Prop := opTurnsRow.holds Tryd.pinned (OpenSpec.ofChange opTurnsWrong)

/-- 'pointillistlaw21.BlendPixels': WHATEVER THE INPUT: true; the input reads as it did. -/
def blendPixelsSpec : ChangeSpec := { name := "blendPixels", fn := fun _ => fun
  | [d] => { results := [.lit (.bool true)], args := [d] }
  | _ => none }
def blendPixelsRow : OpenClaim := { program := "ytpmfcedhmfgkiaadoor", sum := "d32e87c2acb5ed90dd3d76261eb91016a4de56adec7fd9d3d4c05e0b9bbe9d4b", func := "pointillist/pointillistlaw21.BlendPixels", spec := "blendPixels", named := ["pointillist/op.kinds"], apart := false, laid := [("pointillist/op.kinds", laid_pointillist_op_kinds)] }
def BlendPixelsSaid : Prop := blendPixelsRow.holds Tryd.pinned (OpenSpec.ofChange blendPixelsSpec)

/-- ITS FALSE NEIGHBOUR: 'it returns false'. Refute it at one input. -/
def blendPixelsWrong : ChangeSpec := { name := "blendPixels", fn := fun _ => fun
  | [d] => { results := [.lit (.bool false)], args := [d] }
  | _ => none }
def BlendPixelsWrongFalsely : Prop := blendPixelsRow.holds Tryd.pinned (OpenSpec.ofChange blendPixelsWrong)

/-- 'pointillistlaw21.BlendNear': WHATEVER THE INPUT: true; the input reads as it did. -/
def blendNearSpec : ChangeSpec := { name := "blendNear", fn := fun _ => fun
  | [d] => { results := [.lit (.bool true)], args := [d] }
  | _ => none }
def blendNearRow : OpenClaim := { program := "ytpmfcedhmfgkiaadoor", sum := "d32e87c2acb5ed90dd3d76261eb91016a4de56adec7fd9d3d4c05e0b9bbe9d4b", func := "pointillist/pointillistlaw21.BlendNear", spec := "blendNear", named := ["pointillist/op.kinds"], apart := false, laid := [("pointillist/op.kinds", laid_pointillist_op_kinds)] }
def BlendNearSaid : Prop := blendNearRow.holds Tryd.pinned (OpenSpec.ofChange blendNearSpec)

/-- ITS FALSE NEIGHBOUR: 'it returns false'. Refute it at one input. -/
def blendNearWrong : ChangeSpec := { name := "blendNear", fn := fun _ => fun
  | [d] => { results := [.lit (.bool false)], args := [d] }
  | _ => none }
def BlendNearWrongFalsely : Prop := blendNearRow.holds Tryd.pinned (OpenSpec.ofChange blendNearWrong)

/-- 'pointillistlaw21.BlendPlain': WHATEVER THE INPUT: true; the input reads as it did. -/
def blendPlainSpec : ChangeSpec := { name := "blendPlain", fn := fun _ => fun
  | [d] => { results := [.lit (.bool true)], args := [d] }
  | _ => none }
def blendPlainRow : OpenClaim := { program := "ytpmfcedhmfgkiaadoor", sum := "d32e87c2acb5ed90dd3d76261eb91016a4de56adec7fd9d3d4c05e0b9bbe9d4b", func := "pointillist/pointillistlaw21.BlendPlain", spec := "blendPlain", named := ["pointillist/op.kinds"], apart := false, laid := [("pointillist/op.kinds", laid_pointillist_op_kinds)] }
def BlendPlainSaid : Prop := blendPlainRow.holds Tryd.pinned (OpenSpec.ofChange blendPlainSpec)

/-- ITS FALSE NEIGHBOUR: 'it returns false'. Refute it at one input. -/
def blendPlainWrong : ChangeSpec := { name := "blendPlain", fn := fun _ => fun
  | [d] => { results := [.lit (.bool false)], args := [d] }
  | _ => none }
def BlendPlainWrongFalsely : Prop := blendPlainRow.holds Tryd.pinned (OpenSpec.ofChange blendPlainWrong)

/-- 'pointillistlaw21.BlendRises': WHATEVER THE INPUT: true; the input reads as it did. -/
def blendRisesSpec : ChangeSpec := { name := "blendRises", fn := fun _ => fun
  | [d1, d2] => { results := [.lit (.bool true)], args := [d1, d2] }
  | _ => none }
def blendRisesRow : OpenClaim := { program := "ytpmfcedhmfgkiaadoor", sum := "d32e87c2acb5ed90dd3d76261eb91016a4de56adec7fd9d3d4c05e0b9bbe9d4b", func := "pointillist/pointillistlaw21.BlendRises", spec := "blendRises", named := ["pointillist/op.kinds"], apart := false, laid := [("pointillist/op.kinds", laid_pointillist_op_kinds)] }
def BlendRisesSaid : Prop := blendRisesRow.holds Tryd.pinned (OpenSpec.ofChange blendRisesSpec)

/-- ITS FALSE NEIGHBOUR: 'it returns false'. Refute it at one input. -/
def blendRisesWrong : ChangeSpec := { name := "blendRises", fn := fun _ => fun
  | [d1, d2] => { results := [.lit (.bool false)], args := [d1, d2] }
  | _ => none }
def BlendRisesWrongFalsely : Prop := blendRisesRow.holds Tryd.pinned (OpenSpec.ofChange blendRisesWrong)

/-- 'pointillistlaw20.OpAll': WHATEVER THE INPUT: true; the input reads as it did. -/
def opAllSpec : ChangeSpec := { name := "opAll", fn := fun _ => fun
  | [d] => { results := [.lit (.bool true)], args := [d] }
  | _ => none }
def opAllRow : OpenClaim := { program := "ytpmfcedhmfgkiaadoor", sum := "d32e87c2acb5ed90dd3d76261eb91016a4de56adec7fd9d3d4c05e0b9bbe9d4b", func := "pointillist/pointillistlaw20.OpAll", spec := "opAll", unfollowed := true, recurses := true, named := ["pointillist/op.kinds"], apart := false, laid := [("pointillist/op.kinds", laid_pointillist_op_kinds)] }
def OpAllSaid : Prop := opAllRow.holds Tryd.pinned (OpenSpec.ofChange opAllSpec)

/-- ITS FALSE NEIGHBOUR: 'it returns false'. Refute it at one input. -/
def opAllWrong : ChangeSpec := { name := "opAll", fn := fun _ => fun
  | [d] => { results := [.lit (.bool false)], args := [d] }
  | _ => none }
def OpAllWrongFalsely : Prop := opAllRow.holds Tryd.pinned (OpenSpec.ofChange opAllWrong)

/-- 'pointillistlaw20.OpNames': WHATEVER THE INPUT: true; the input reads as it did. -/
def opNamesSpec : ChangeSpec := { name := "opNames", fn := fun _ => fun
  | [d1, d2] => { results := [.lit (.bool true)], args := [d1, d2] }
  | _ => none }
def opNamesRow : OpenClaim := { program := "ytpmfcedhmfgkiaadoor", sum := "d32e87c2acb5ed90dd3d76261eb91016a4de56adec7fd9d3d4c05e0b9bbe9d4b", func := "pointillist/pointillistlaw20.OpNames", spec := "opNames", unfollowed := true, recurses := true, named := ["pointillist/op.kinds"], apart := false, laid := [("pointillist/op.kinds", laid_pointillist_op_kinds)] }
def OpNamesSaid : Prop := opNamesRow.holds Tryd.pinned (OpenSpec.ofChange opNamesSpec)

/-- ITS FALSE NEIGHBOUR: 'it returns false'. Refute it at one input. -/
def opNamesWrong : ChangeSpec := { name := "opNames", fn := fun _ => fun
  | [d1, d2] => { results := [.lit (.bool false)], args := [d1, d2] }
  | _ => none }
def OpNamesWrongFalsely : Prop := opNamesRow.holds Tryd.pinned (OpenSpec.ofChange opNamesWrong)

/-- 'pointillistlaw21.BlendRows': WHATEVER THE INPUT: true; the input reads as it did. -/
def blendRowsSpec : ChangeSpec := { name := "blendRows", fn := fun _ => fun
  | [d1, d2, d3] => { results := [.lit (.bool true)], args := [d1, d2, d3] }
  | _ => none }
def blendRowsRow : OpenClaim := { program := "ytpmfcedhmfgkiaadoor", sum := "d32e87c2acb5ed90dd3d76261eb91016a4de56adec7fd9d3d4c05e0b9bbe9d4b", func := "pointillist/pointillistlaw21.BlendRows", spec := "blendRows", named := ["pointillist/op.kinds"], apart := false, laid := [("pointillist/op.kinds", laid_pointillist_op_kinds)] }
def BlendRowsSaid : Prop := blendRowsRow.holds Tryd.pinned (OpenSpec.ofChange blendRowsSpec)

/-- ITS FALSE NEIGHBOUR: 'it returns false'. Refute it at one input. -/
def blendRowsWrong : ChangeSpec := { name := "blendRows", fn := fun _ => fun
  | [d1, d2, d3] => { results := [.lit (.bool false)], args := [d1, d2, d3] }
  | _ => none }
def BlendRowsWrongFalsely : Prop := blendRowsRow.holds Tryd.pinned (OpenSpec.ofChange blendRowsWrong)

/- THE SECOND FORM. 'bulk': how many values and letters a reading holds, each counted each time it is reached (what is shared counts as often as it is met; a slice's spare places count too). A statement '..UptoSaid' is the law's where the arguments, and the package variables that the reading takes, are together of bulk at most 1048576: NARROWER than '..Said'. Prove '..Said' where nothing that the law and all that it calls make is longer than what came in: it says more and counts as full. Else prove '..UptoSaid'. A law counts once. -/
mutual
def uptoBulk {H : Type} : DataW H → Nat
  | .lit (.string bytes) => bytes.length + 1
  | .lit _ => 1
  | .nil => 1
  | .ptr d => uptoBulk d + 1
  | .slice elems spare => uptoBulkAll elems + uptoBulkAll spare + 1
  | .agg parts => uptoBulkAll parts + 1
  | .iface _ d => uptoBulk d + 1
  | .map entries => uptoBulkEntries entries + 1
  | .held _ => 1
def uptoBulkAll {H : Type} : List (DataW H) → Nat
  | [] => 0
  | d :: r => uptoBulk d + uptoBulkAll r
def uptoBulkEntries {H : Type} : List (Lit × DataW H) → Nat
  | [] => 0
  | x :: r => uptoBulkEntry x + uptoBulkEntries r
def uptoBulkEntry {H : Type} : Lit × DataW H → Nat
  | (.string bytes, d) => bytes.length + uptoBulk d + 1
  | (_, d) => uptoBulk d + 1
 end
def uptoSmall : (H : Type) → List (DataW H) → Bool := fun _ ds => decide (uptoBulkAll ds ≤ 1048576)
def OpenSpec.upto (s : _root_.Go.ChangeSpec) : _root_.Go.OpenSpec := { _root_.Go.OpenSpec.ofChange s with cond := some uptoSmall }

/-- 'pointillistlaw20.OpFactors', WHERE WHAT IT READS IS OF BULK AT MOST 1048576: true; the input reads as it did. -/
def opFactorsUptoRow : OpenClaim := { program := "ytpmfcedhmfgkiaadoor", sum := "d32e87c2acb5ed90dd3d76261eb91016a4de56adec7fd9d3d4c05e0b9bbe9d4b", func := "pointillist/pointillistlaw20.OpFactors", spec := "opFactors", named := ["pointillist/op.kinds"], apart := false, laid := [("pointillist/op.kinds", laid_pointillist_op_kinds)], narrowed := true }
def OpFactorsUptoSaid : Prop := opFactorsUptoRow.holds Tryd.pinned (OpenSpec.upto opFactorsSpec)

/-- 'pointillistlaw20.OpTurns', WHERE WHAT IT READS IS OF BULK AT MOST 1048576: true; the input reads as it did. -/
def opTurnsUptoRow : OpenClaim := { program := "ytpmfcedhmfgkiaadoor", sum := "d32e87c2acb5ed90dd3d76261eb91016a4de56adec7fd9d3d4c05e0b9bbe9d4b", func := "pointillist/pointillistlaw20.OpTurns", spec := "opTurns", named := ["pointillist/op.kinds"], apart := false, laid := [("pointillist/op.kinds", laid_pointillist_op_kinds)], narrowed := true }
def OpTurnsUptoSaid : Prop := opTurnsUptoRow.holds Tryd.pinned (OpenSpec.upto opTurnsSpec)

/-- 'pointillistlaw21.BlendPixels', WHERE WHAT IT READS IS OF BULK AT MOST 1048576: true; the input reads as it did. -/
def blendPixelsUptoRow : OpenClaim := { program := "ytpmfcedhmfgkiaadoor", sum := "d32e87c2acb5ed90dd3d76261eb91016a4de56adec7fd9d3d4c05e0b9bbe9d4b", func := "pointillist/pointillistlaw21.BlendPixels", spec := "blendPixels", named := ["pointillist/op.kinds"], apart := false, laid := [("pointillist/op.kinds", laid_pointillist_op_kinds)], narrowed := true }
def BlendPixelsUptoSaid : Prop := blendPixelsUptoRow.holds Tryd.pinned (OpenSpec.upto blendPixelsSpec)

/-- 'pointillistlaw21.BlendNear', WHERE WHAT IT READS IS OF BULK AT MOST 1048576: true; the input reads as it did. -/
def blendNearUptoRow : OpenClaim := { program := "ytpmfcedhmfgkiaadoor", sum := "d32e87c2acb5ed90dd3d76261eb91016a4de56adec7fd9d3d4c05e0b9bbe9d4b", func := "pointillist/pointillistlaw21.BlendNear", spec := "blendNear", named := ["pointillist/op.kinds"], apart := false, laid := [("pointillist/op.kinds", laid_pointillist_op_kinds)], narrowed := true }
def BlendNearUptoSaid : Prop := blendNearUptoRow.holds Tryd.pinned (OpenSpec.upto blendNearSpec)

/-- 'pointillistlaw21.BlendPlain', WHERE WHAT IT READS IS OF BULK AT MOST 1048576: true; the input reads as it did. -/
def blendPlainUptoRow : OpenClaim := { program := "ytpmfcedhmfgkiaadoor", sum := "d32e87c2acb5ed90dd3d76261eb91016a4de56adec7fd9d3d4c05e0b9bbe9d4b", func := "pointillist/pointillistlaw21.BlendPlain", spec := "blendPlain", named := ["pointillist/op.kinds"], apart := false, laid := [("pointillist/op.kinds", laid_pointillist_op_kinds)], narrowed := true }
def BlendPlainUptoSaid : Prop := blendPlainUptoRow.holds Tryd.pinned (OpenSpec.upto blendPlainSpec)

/-- 'pointillistlaw21.BlendRises', WHERE WHAT IT READS IS OF BULK AT MOST 1048576: true; the input reads as it did. -/
def blendRisesUptoRow : OpenClaim := { program := "ytpmfcedhmfgkiaadoor", sum := "d32e87c2acb5ed90dd3d76261eb91016a4de56adec7fd9d3d4c05e0b9bbe9d4b", func := "pointillist/pointillistlaw21.BlendRises", spec := "blendRises", named := ["pointillist/op.kinds"], apart := false, laid := [("pointillist/op.kinds", laid_pointillist_op_kinds)], narrowed := true }
def BlendRisesUptoSaid : Prop := blendRisesUptoRow.holds Tryd.pinned (OpenSpec.upto blendRisesSpec)

/-- 'pointillistlaw20.OpAll', WHERE WHAT IT READS IS OF BULK AT MOST 1048576: true; the input reads as it did. -/
def opAllUptoRow : OpenClaim := { program := "ytpmfcedhmfgkiaadoor", sum := "d32e87c2acb5ed90dd3d76261eb91016a4de56adec7fd9d3d4c05e0b9bbe9d4b", func := "pointillist/pointillistlaw20.OpAll", spec := "opAll", unfollowed := true, recurses := true, named := ["pointillist/op.kinds"], apart := false, laid := [("pointillist/op.kinds", laid_pointillist_op_kinds)], narrowed := true }
def OpAllUptoSaid : Prop := opAllUptoRow.holds Tryd.pinned (OpenSpec.upto opAllSpec)

/-- 'pointillistlaw20.OpNames', WHERE WHAT IT READS IS OF BULK AT MOST 1048576: true; the input reads as it did. -/
def opNamesUptoRow : OpenClaim := { program := "ytpmfcedhmfgkiaadoor", sum := "d32e87c2acb5ed90dd3d76261eb91016a4de56adec7fd9d3d4c05e0b9bbe9d4b", func := "pointillist/pointillistlaw20.OpNames", spec := "opNames", unfollowed := true, recurses := true, named := ["pointillist/op.kinds"], apart := false, laid := [("pointillist/op.kinds", laid_pointillist_op_kinds)], narrowed := true }
def OpNamesUptoSaid : Prop := opNamesUptoRow.holds Tryd.pinned (OpenSpec.upto opNamesSpec)

/-- 'pointillistlaw21.BlendRows', WHERE WHAT IT READS IS OF BULK AT MOST 1048576: true; the input reads as it did. -/
def blendRowsUptoRow : OpenClaim := { program := "ytpmfcedhmfgkiaadoor", sum := "d32e87c2acb5ed90dd3d76261eb91016a4de56adec7fd9d3d4c05e0b9bbe9d4b", func := "pointillist/pointillistlaw21.BlendRows", spec := "blendRows", named := ["pointillist/op.kinds"], apart := false, laid := [("pointillist/op.kinds", laid_pointillist_op_kinds)], narrowed := true }
def BlendRowsUptoSaid : Prop := blendRowsUptoRow.holds Tryd.pinned (OpenSpec.upto blendRowsSpec)

end Rows
end Go.Proofs.YtpmfcedhmfgkiaaDoor
