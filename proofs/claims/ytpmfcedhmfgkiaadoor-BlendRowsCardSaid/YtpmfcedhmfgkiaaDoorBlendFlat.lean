/- How the arguments of the laws on package blend are opened. Over the program. -/
import Derived.Test.YtpmfcedhmfgkiaaDoorBlendA
import Derived.Test.YtpmfcedhmfgkiaaDoorBlendB
import Derived.Test.YtpmfcedhmfgkiaaDoorOpen
import Derived.ProofKit
import Derived.OpenShut
import Derived.ShutString
import Derived.ChangeOld
import Derived.SizedLaws
namespace Go.Proofs.YtpmfcedhmfgkiaaDoor
open Go Go.RowKit
set_option linter.unusedVariables false
theorem flatU8 : Open.Flat Tryd.prog 5 [.u8] := Open.Flat.int Tryd.underlying5 (by kernel_rfl)
theorem flatInt : Open.Flat Tryd.prog 3 [.i64] := Open.Flat.int Tryd.underlying3 (by kernel_rfl)
theorem flatColour : Open.Flat Tryd.prog 31 [.u8, .u8, .u8, .u8] := Open.Flat.array Tryd.underlying31 (by kernel_rfl) flatU8
theorem flatPair : Open.Flat Tryd.prog 33 [.i64, .u8, .u8, .u8, .u8, .u8, .u8, .u8, .u8, .u8] := by
  refine Open.Flat.struct Tryd.underlying33 (by kernel_rfl) ?_
  show Open.Fields _ _ 0 ([.i64] ++ ([.u8] ++ ([.u8, .u8, .u8, .u8] ++ ([.u8, .u8, .u8, .u8] ++ []))))
  exact Open.Fields.cons flatInt rfl (Open.Fields.cons flatU8 rfl (Open.Fields.cons flatColour rfl (Open.Fields.cons flatColour rfl (Open.Fields.nil _))))
theorem col {a b c d : Int} (ha : (Lit.int .u8 a).wf = true) (hb : (Lit.int .u8 b).wf = true) (hc : (Lit.int .u8 c).wf = true) (hd : (Lit.int .u8 d).wf = true) : Ops.Col a b c d :=
  ⟨(Num.wf_u8 ha).1, (Num.wf_u8 ha).2, (Num.wf_u8 hb).1, (Num.wf_u8 hb).2, (Num.wf_u8 hc).1, (Num.wf_u8 hc).2, (Num.wf_u8 hd).1, (Num.wf_u8 hd).2⟩
end Go.Proofs.YtpmfcedhmfgkiaaDoor
