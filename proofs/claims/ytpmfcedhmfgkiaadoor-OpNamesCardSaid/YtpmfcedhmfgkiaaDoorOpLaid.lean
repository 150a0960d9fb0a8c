/- The table of package op, as a row's list gives it, for the witness: a world whose table holds what its initialiser lays. -/
import Derived.Test.YtpmfcedhmfgkiaaDoorOpW
namespace Go.Proofs.YtpmfcedhmfgkiaaDoor.Ops
open Go Go.RowKit Go.ChangeShapes Go.WideShapes Go.ChangeAt
theorem laid_in {W : World} (h : laidMetH Tryd.prog [("pointillist/op.kinds", Rows.laid_pointillist_op_kinds)] W) : Kinds W :=
  have h2 := Tab.table h
  ⟨World.block_lt_of_cell? W _ (h2 0 _ rfl).1, h2⟩
noncomputable def laidWorld (os : Os) : World :=
  { World.holding Tryd.prog os ⟨#[], #[], []⟩ with heap := (World.holding Tryd.prog os ⟨#[], #[], []⟩).heap.modify 0 fun
      | .cells _ t frozen => .cells (Tab.kinds.flatMap fun r => [.string ⟨r.1.toArray⟩, .string ⟨r.2.toArray⟩]).toArray t frozen
      | o => o }
theorem laid_met (os : Os) (args : Array Value) : laidMetH Tryd.prog [("pointillist/op.kinds", Rows.laid_pointillist_op_kinds)] ((laidWorld os).forCall (fun _ _ => 0) ⟨#[], args, []⟩).memory :=
  laidMet_of_run' 8 (by kernel_rfl) (by kernel_rfl)
end Go.Proofs.YtpmfcedhmfgkiaaDoor.Ops
