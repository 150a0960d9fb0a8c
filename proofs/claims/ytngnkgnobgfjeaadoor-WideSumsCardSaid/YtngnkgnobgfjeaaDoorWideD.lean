/- Package wide's MulDiv, walked: a product divided is the nearest whole number, of two the greater one, if it is one of 64 bits; of the divisor 0 there is none. For all arguments. -/
import Derived.Test.YtngnkgnobgfjeaaDoorWideC
namespace Go.Proofs.YtngnkgnobgfjeaaDoor.Wide
open Go Go.RowKit
set_option maxRecDepth 100000
set_option linter.unusedVariables false
set_option linter.unusedSimpArgs false

set_option maxHeartbeats 2000000 in
theorem muldiv_zero (a b : Int) (w : World) : Calls Tryd.prog 7 #[.int .i64 a, .int .i64 b, .int .i64 0] w fun e w' => e = .returned (.tuple #[.int .i64 0, .bool false]) ∧ Below w.heap.size w w' := by
  have h : ((0 : Int) == 0) = true := by decide
  go_enter Tryd.func7, Tryd.ntmps7
  go_wp2
  go_ret2
  exact ⟨rfl, Below.refl _ _⟩

/-- The words of a size: the upper one is none, the lower one is the size. -/
theorem Big.abs_i64 {V hi lo : Int} (A : Big V hi lo) (h0 : 0 ≤ V) (h1 : V ≤ 9223372036854775808) : lo = V := by
  obtain ⟨a1, a2, a3, a4, ae⟩ := A; omega
theorem prod_bound {a b : Int} (a0 : -9223372036854775808 ≤ a) (a1 : a ≤ 9223372036854775807) (b0 : -9223372036854775808 ≤ b) (b1 : b ≤ 9223372036854775807) :
    -85070591730234615865843651857942052864 ≤ a * b ∧ a * b ≤ 85070591730234615865843651857942052864 := by
  have h1 : (if a < 0 then -a else a) * (if b < 0 then -b else b) ≤ 9223372036854775808 * 9223372036854775808 :=
    Int.mul_le_mul (Wide.abs_i64 a0 a1).2 (Wide.abs_i64 b0 b1).2 (Wide.abs_i64 b0 b1).1 (by omega)
  have h0 : 0 ≤ (if a < 0 then -a else a) * (if b < 0 then -b else b) := Int.mul_nonneg (Wide.abs_i64 a0 a1).1 (Wide.abs_i64 b0 b1).1
  by_cases ha : a < 0 <;> by_cases hb : b < 0 <;> simp only [ha, hb, if_true, if_false, Int.neg_mul, Int.mul_neg, Int.neg_neg] at h0 h1 <;> omega

/-- A box of two cells. -/
def Holds2 (W : World) (b : Nat) (x0 x1 : Value) : Prop :=
  W.cell? ⟨b, 0, none⟩ = some x0 ∧ W.cell? ⟨b, 1, none⟩ = some x1 ∧ W.frozen? ⟨b, 0, none⟩ = false ∧ W.frozen? ⟨b, 1, none⟩ = false ∧ b < W.heap.size
theorem Holds2.new (w : World) (x0 x1 : Value) (t : TypeId) : Holds2 (w.alloc (.cells #[x0, x1] t)) w.heap.size x0 x1 := by
  refine ⟨?_, ?_, ?_, ?_, ?_⟩ <;> simp [go_sem]
theorem Holds2.below {W W' : World} {b : Nat} {x0 x1 : Value} (h : Holds2 W b x0 x1) (hb : Below W.heap.size W W') : Holds2 W' b x0 x1 := by
  obtain ⟨h1, h2, h3, h4, h5⟩ := h
  obtain ⟨hc, hf⟩ := bcell hb
  exact ⟨(hc _ _ h5).trans h1, (hc _ _ h5).trans h2, (hf _ _ h5).trans h3, (hf _ _ h5).trans h4, Nat.lt_of_lt_of_le h5 hb.size⟩
theorem Holds2.alloc {W : World} {b : Nat} {x0 x1 : Value} (h : Holds2 W b x0 x1) (o : Obj) : Holds2 (W.alloc o) b x0 x1 := h.below (below_a1 _ _)
theorem Holds2.set {W : World} {b : Nat} {x0 x1 : Value} (h : Holds2 W b x0 x1) (y0 y1 : Value) : Holds2 ((W.setCell ⟨b, 0, none⟩ y0).setCell ⟨b, 1, none⟩ y1) b y0 y1 := by
  obtain ⟨h1, h2, h3, h4, h5⟩ := h
  refine ⟨?_, ?_, ?_, ?_, ?_⟩ <;> simp [go_sem, h1, h2, h3, h4, h5]
theorem Holds2.other {W : World} {b b' : Nat} {x0 x1 : Value} (h : Holds2 W b x0 x1) (hne : b' ≠ b) (y0 y1 : Value) : Holds2 ((W.setCell ⟨b', 0, none⟩ y0).setCell ⟨b', 1, none⟩ y1) b x0 x1 := by
  obtain ⟨h1, h2, h3, h4, h5⟩ := h
  refine ⟨?_, ?_, ?_, ?_, by simpa using h5⟩
  · rw [World.cell?_setCell_other _ _ _ _ (by simp [hne]), World.cell?_setCell_other _ _ _ _ (by simp [hne])]; exact h1
  · rw [World.cell?_setCell_other _ _ _ _ (by simp [hne]), World.cell?_setCell_other _ _ _ _ (by simp [hne])]; exact h2
  · rw [World.frozen?_setCell, World.frozen?_setCell]; exact h3
  · rw [World.frozen?_setCell, World.frozen?_setCell]; exact h4

theorem field_lo (x0 x1 : Int) (w : World) : (Instr.field 32 (.agg #[.int .u64 x0, .int .u64 x1]) 1).run Tryd.prog w = .ok (.int .u64 x1) w := by kernel_rfl

theorem drewN_below (w : World) (n : Nat) : Below w.heap.size w (w.drewN n) := ⟨rfl, rfl, rfl, Nat.le_refl _, fun _ _ => rfl⟩

end Go.Proofs.YtngnkgnobgfjeaaDoor.Wide
