/- Blocks of eight numbers: a box of a curve, or of four points: asked whether it is such a block, and stored as a whole. -/
import Derived.Test.YtdhegcjclfllmaaCurQ
import Derived.Test.YtdhegcjclfllmaaProg
import Derived.Laws.Tables
import Derived.Laws.CopyOwn
import Derived.Deep.WholeRow
import Derived.WalkKit
import Derived.OwnWalk
import Derived.KernelRfl
import Derived.Below
import Derived.WideLaws
namespace Go.Proofs.Ytdhegcjclfllmaa.PC
open Go Go.RowKit
set_option maxRecDepth 100000
set_option linter.unusedVariables false
set_option linter.unusedSimpArgs false
/-- Is block g of eight cells, none of them frozen? -/
def row8 (w : World) (g : Nat) : Bool := match w.heap[g]? with | some (.cells cs _ fr) => cs.size == 8 && fr == (0, 0) | _ => false
theorem row8_iff {w : World} {g : Nat} : row8 w g = true ↔ ∃ cs t, w.heap[g]? = some (.cells cs t (0, 0)) ∧ cs.size = 8 := by
  unfold row8
  constructor
  · intro h
    split at h
    case h_1 cs t fr e =>
      simp at h
      obtain ⟨h1, rfl⟩ := h
      exact ⟨cs, t, e, h1⟩
    case h_2 => cases h
  · rintro ⟨cs, t, e, h⟩
    simp [e, h]
theorem row8_congr {w w1 : World} {g : Nat} (h : w1.heap[g]? = w.heap[g]?) : row8 w1 g = row8 w g := by unfold row8; rw [h]
theorem row8_drew {w : World} {g : Nat} : row8 w.drew g = row8 w g := rfl
theorem row8_new (w : World) (v0 v1 v2 v3 v4 v5 v6 v7 : Value) (t : TypeId) : row8 (w.alloc (.cells #[v0, v1, v2, v3, v4, v5, v6, v7] t)) w.heap.size = true := row8_iff.2 ⟨_, t, heap_alloc_new w _, rfl⟩
theorem row8_at {w : World} (n : Nat) (v0 v1 v2 v3 v4 v5 v6 v7 : Value) (t : TypeId) (hn : n = w.heap.size) : row8 (w.alloc (.cells #[v0, v1, v2, v3, v4, v5, v6, v7] t)) n = true := by subst hn; exact row8_new w v0 v1 v2 v3 v4 v5 v6 v7 t
theorem row8_old {w : World} {g : Nat} (o : Obj) (h : g < w.heap.size) : row8 (w.alloc o) g = row8 w g := row8_congr (Below.heap_alloc w o g h)
theorem row8_set {w : World} {g : Nat} (b i : Nat) (v : Value) (h : row8 w g = true) : row8 (w.setCell ⟨b, i, none⟩ v) g = true := by
  obtain ⟨cs, t, e, hs⟩ := row8_iff.1 h
  by_cases hg : g = b
  · subst hg
    exact row8_iff.2 ⟨_, t, heap_setCell_same w g i cs t v e, by simpa using hs⟩
  · exact row8_iff.2 ⟨cs, t, (Below.heap_setCell w ⟨b, i, none⟩ v g hg).trans e, hs⟩
theorem row8_below {W w1 : World} {g : Nat} (hb : Below W.heap.size W w1) (h : g < W.heap.size) : row8 w1 g = row8 W g := row8_congr (hb.block g h)
theorem row8_frozen {w : World} {g : Nat} (h : row8 w g = true) (i : Nat) : w.frozen? ⟨g, i, none⟩ = false := by
  obtain ⟨cs, t, e, _⟩ := row8_iff.1 h
  simp [World.frozen?, e]
/-- Block g stored as a whole, if it is of eight cells. -/
def put8 (w : World) (g : Nat) (x0 x1 x2 x3 x4 x5 x6 x7 : Int) : World := if row8 w g = true then w.setRow g #[.int .i64 x0, .int .i64 x1, .int .i64 x2, .int .i64 x3, .int .i64 x4, .int .i64 x5, .int .i64 x6, .int .i64 x7] else w
section
variable {w : World} {g : Nat} {x0 x1 x2 x3 x4 x5 x6 x7 : Int}
theorem put8_yes (h : row8 w g = true) : put8 w g x0 x1 x2 x3 x4 x5 x6 x7 = w.setRow g #[.int .i64 x0, .int .i64 x1, .int .i64 x2, .int .i64 x3, .int .i64 x4, .int .i64 x5, .int .i64 x6, .int .i64 x7] := if_pos h
theorem put8_size : (put8 w g x0 x1 x2 x3 x4 x5 x6 x7).heap.size = w.heap.size := by unfold put8; split; exact setRow_size _ _ _; rfl
theorem put8_far {b o : Nat} (h : b ≠ g) : (put8 w g x0 x1 x2 x3 x4 x5 x6 x7).cell? ⟨b, o, none⟩ = w.cell? ⟨b, o, none⟩ := by unfold put8; split; exact cell_setRow_other _ _ _ _ h; rfl
theorem put8_heap {b : Nat} (h : b ≠ g) : (put8 w g x0 x1 x2 x3 x4 x5 x6 x7).heap[b]? = w.heap[b]? := by unfold put8; split; exact setRow_other _ _ _ _ h; rfl
theorem put8_row {b : Nat} : row8 (put8 w g x0 x1 x2 x3 x4 x5 x6 x7) b = row8 w b := by
  by_cases hb : b = g
  · subst hb
    by_cases h : row8 w b = true
    · obtain ⟨cs, t, e, _⟩ := row8_iff.1 h
      rw [h, put8_yes h]
      exact row8_iff.2 ⟨_, t, setRow_heap _ _ _ _ _ _ e, rfl⟩
    · rw [put8, if_neg h]
  · exact row8_congr (put8_heap hb)
theorem put8_frozen {b o : Nat} : (put8 w g x0 x1 x2 x3 x4 x5 x6 x7).frozen? ⟨b, o, none⟩ = w.frozen? ⟨b, o, none⟩ := by
  by_cases h : row8 w g = true
  · by_cases hb : b = g
    · subst hb
      rw [row8_frozen h, row8_frozen (put8_row.trans h)]
    · unfold World.frozen?
      show (match (put8 w g x0 x1 x2 x3 x4 x5 x6 x7).heap[b]? with | _ => _) = _
      rw [put8_heap hb]
  · rw [put8, if_neg h]
theorem put8_cells (h : row8 w g = true) (i : Nat) : (put8 w g x0 x1 x2 x3 x4 x5 x6 x7).cell? ⟨g, i, none⟩ = (#[.int .i64 x0, .int .i64 x1, .int .i64 x2, .int .i64 x3, .int .i64 x4, .int .i64 x5, .int .i64 x6, .int .i64 x7] : Array Value)[i]? := by
  obtain ⟨cs, t, e, _⟩ := row8_iff.1 h
  rw [put8_yes h]
  exact cell_of_row _ g i _ t (0, 0) (setRow_heap _ _ _ _ _ _ e)
theorem put8_c0 (h : row8 w g = true) : (put8 w g x0 x1 x2 x3 x4 x5 x6 x7).cell? ⟨g, 0, none⟩ = some (.int .i64 x0) := put8_cells h 0
theorem put8_c1 (h : row8 w g = true) : (put8 w g x0 x1 x2 x3 x4 x5 x6 x7).cell? ⟨g, 1, none⟩ = some (.int .i64 x1) := put8_cells h 1
theorem put8_c2 (h : row8 w g = true) : (put8 w g x0 x1 x2 x3 x4 x5 x6 x7).cell? ⟨g, 2, none⟩ = some (.int .i64 x2) := put8_cells h 2
theorem put8_c3 (h : row8 w g = true) : (put8 w g x0 x1 x2 x3 x4 x5 x6 x7).cell? ⟨g, 3, none⟩ = some (.int .i64 x3) := put8_cells h 3
theorem put8_c4 (h : row8 w g = true) : (put8 w g x0 x1 x2 x3 x4 x5 x6 x7).cell? ⟨g, 4, none⟩ = some (.int .i64 x4) := put8_cells h 4
theorem put8_c5 (h : row8 w g = true) : (put8 w g x0 x1 x2 x3 x4 x5 x6 x7).cell? ⟨g, 5, none⟩ = some (.int .i64 x5) := put8_cells h 5
theorem put8_c6 (h : row8 w g = true) : (put8 w g x0 x1 x2 x3 x4 x5 x6 x7).cell? ⟨g, 6, none⟩ = some (.int .i64 x6) := put8_cells h 6
theorem put8_c7 (h : row8 w g = true) : (put8 w g x0 x1 x2 x3 x4 x5 x6 x7).cell? ⟨g, 7, none⟩ = some (.int .i64 x7) := put8_cells h 7
theorem put8_below {B : Nat} {w0 : World} (h : Below B w0 w) (hg : B ≤ g) : Below B w0 (put8 w g x0 x1 x2 x3 x4 x5 x6 x7) := by unfold put8; split; exact below_setRow h hg _; exact h
theorem put8_store (ty : TypeId) (hi : (Try.prog.info? ty).map (·.size) = some 8) (h : row8 w g = true) : (storeVar ty ⟨g, 0, none⟩ (.agg #[.int .i64 x0, .int .i64 x1, .int .i64 x2, .int .i64 x3, .int .i64 x4, .int .i64 x5, .int .i64 x6, .int .i64 x7])).run Try.prog w = .ok () (put8 w g x0 x1 x2 x3 x4 x5 x6 x7) := by
  obtain ⟨cs, t, e, hs⟩ := row8_iff.1 h
  rw [put8_yes h]
  exact run_storeVar_row w g t ty cs #[.int .i64 x0, .int .i64 x1, .int .i64 x2, .int .i64 x3, .int .i64 x4, .int .i64 x5, .int .i64 x6, .int .i64 x7] e hi hs (by simp [Value.oneCell'])
/-- A store of eight numbers, not laid open. -/
def st8 (ty : TypeId) (p v : Value) : Sem Unit := Instr.storeAt ty p v
theorem st8_curve (p v : Value) : Instr.storeAt 27 p v = st8 27 p v := rfl
theorem st8_points (p v : Value) : Instr.storeAt 56 p v = st8 56 p v := rfl
theorem st8_run (ty : TypeId) (hi : (Try.prog.info? ty).map (·.size) = some 8) (h : row8 w g = true) : (st8 ty (.pointer (some ⟨g, 0, none⟩)) (.agg #[.int .i64 x0, .int .i64 x1, .int .i64 x2, .int .i64 x3, .int .i64 x4, .int .i64 x5, .int .i64 x6, .int .i64 x7])).run Try.prog w = .ok () (put8 w g x0 x1 x2 x3 x4 x5 x6 x7) := by
  unfold st8
  simp only [Instr.storeAt, Instr.sureAddr, Sem.run_bind, Sem.run_pure, Result.andThen_ok, put8_store ty hi h]
theorem run_curve (h : row8 w g = true) : (st8 27 (.pointer (some ⟨g, 0, none⟩)) (.agg #[.int .i64 x0, .int .i64 x1, .int .i64 x2, .int .i64 x3, .int .i64 x4, .int .i64 x5, .int .i64 x6, .int .i64 x7])).run Try.prog w = .ok () (put8 w g x0 x1 x2 x3 x4 x5 x6 x7) := st8_run _ (by kernel_rfl) h
theorem run_points (h : row8 w g = true) : (st8 56 (.pointer (some ⟨g, 0, none⟩)) (.agg #[.int .i64 x0, .int .i64 x1, .int .i64 x2, .int .i64 x3, .int .i64 x4, .int .i64 x5, .int .i64 x6, .int .i64 x7])).run Try.prog w = .ok () (put8 w g x0 x1 x2 x3 x4 x5 x6 x7) := st8_run _ (by kernel_rfl) h
end
end Go.Proofs.Ytdhegcjclfllmaa.PC
