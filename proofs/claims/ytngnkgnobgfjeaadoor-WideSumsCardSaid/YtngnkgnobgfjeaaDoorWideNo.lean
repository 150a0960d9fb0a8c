/- The package variable nought, as a row's list gives it: what its cells hold; and a world whose cells hold that, for the witness. -/
import Derived.Test.YtngnkgnobgfjeaaDoorWideAd
import Derived.Test.YtngnkgnobgfjeaaDoorCards
import Derived.Test.YtngnkgnobgfjeaaDoorTie
import Derived.WalkKit
import Derived.ProofKit
import Derived.OpenShut
import Derived.Deep.DeepHandedRow
namespace Go.Proofs.YtngnkgnobgfjeaaDoor.Wide
open Go Go.ChangeShapes Go.WideShapes Go.ChangeAt Go.RowKit
set_option linter.unusedVariables false
theorem gNo : Tryd.prog.globalNamed "pointillist/wide.nought" = some 0 := by kernel_rfl
theorem gNoType : (Tryd.prog.globals[0]?).map (·.type) = some 32 := by kernel_rfl
theorem two_cells {H : Type} {enc : TypeId × Value → H} {P : Program} {w : World} {base : Nat} {sp : Nat → Bool} {held : Bool} {fuel : Nat} {t T : TypeId} {f0 f1 : Field} {cs : List Value} {a b : Int} {p : List MemPlace}
    (he : P.underlying t = some (.struct #[f0, f1])) (t0 : f0.type = T) (t1 : f1.type = T) (o0 : f0.offset = 0) (o1 : f1.offset = 1) (hT : P.underlying T = some (.int .u64)) (hcT : P.cellsOf T = 1)
    (h : DataW.trod enc P w base sp held fuel t cs = some (.agg [.lit (.int .u64 a), .lit (.int .u64 b)], p)) : cs[0]? = some (.int .u64 a) ∧ cs[1]? = some (.int .u64 b) := by
  obtain ⟨ys, m, hm', hb', hl, hyl, hy⟩ := DataW.trod_struct he h
  have y0 := hy 0 f0 rfl
  have y1 := hy 1 f1 rfl
  rw [t0, o0, hcT] at y0
  rw [t1, o1, hcT] at y1
  obtain ⟨u0, z0⟩ : ∃ u, ys[0]? = some u := ⟨_, List.getElem?_eq_getElem (by simp at hyl; omega)⟩
  obtain ⟨u1, z1⟩ : ∃ u, ys[1]? = some u := ⟨_, List.getElem?_eq_getElem (by simp at hyl; omega)⟩
  rw [z0] at y0
  rw [z1] at y1
  obtain ⟨s0, c0, g0, _⟩ := DataW.trod_int hT y0
  obtain ⟨s1, c1, g1, _⟩ := DataW.trod_int hT y1
  match ys, hyl with
  | [v0, v1], _ =>
    simp at z0 z1
    subst z0 z1 g0 g1
    simp at hb'
    obtain ⟨q0, q1⟩ := hb'.1
    constructor
    · have := congrArg (·[0]?) c0
      simpa [List.getElem?_take, List.getElem?_drop, q0] using this
    · have := congrArg (·[0]?) c1
      simpa [List.getElem?_take, List.getElem?_drop, q1] using this
theorem nought_in {W : World} (h : laidMet Tryd.prog [("pointillist/wide.nought", Rows.laid_pointillist_wide_nought)] W) : W.cell? ⟨0, 0, none⟩ = some (.int .u64 0) ∧ W.cell? ⟨0, 1, none⟩ = some (.int .u64 0) := by
  obtain ⟨ps, ⟨g', t', cs, fuel, p, q, hg', ht', hvar, hd, _, _⟩, _⟩ := h
  obtain rfl := Option.some.inj (gNo.symm.trans hg')
  obtain rfl := Option.some.inj (gNoType.symm.trans ht')
  obtain ⟨h1, h2⟩ := two_cells Tryd.underlying32 rfl rfl rfl rfl Tryd.underlying30 (by kernel_rfl) hd
  have c1 := World.var?_cell gNo hvar 0
  have c2 := World.var?_cell gNo hvar 1
  exact ⟨by rw [c1, ← Array.getElem?_toList]; exact h1, by rw [c2, ← Array.getElem?_toList]; exact h2⟩
theorem laid_in {W : World} (h : laidMetH Tryd.prog [("pointillist/wide.nought", Rows.laid_pointillist_wide_nought)] W) : Nought W :=
  have h2 := nought_in h
  ⟨World.block_lt_of_cell? W _ h2.1, h2⟩
noncomputable def laidWorld (os : Os) : World :=
  { World.holding Tryd.prog os ⟨#[], #[], []⟩ with heap := (World.holding Tryd.prog os ⟨#[], #[], []⟩).heap.modify 0 fun
      | .cells _ t frozen => .cells #[.int .u64 0, .int .u64 0] t frozen
      | o => o }
theorem laid_met (os : Os) (args : Array Value) : laidMetH Tryd.prog [("pointillist/wide.nought", Rows.laid_pointillist_wide_nought)] ((laidWorld os).forCall (fun _ _ => 0) ⟨#[], args, []⟩).memory :=
  laidMet_of_run' 8 (by kernel_rfl) (by kernel_rfl)
end Go.Proofs.YtngnkgnobgfjeaaDoor.Wide
