/- The laws TrigCircle and TrigAdds, walked. For all arguments. -/
import Derived.Test.YtngnkgnobgfjeaaTrigG
namespace Go.Proofs.Ytngnkgnobgfjeaa.Trig
open Go Go.RowKit Wide
set_option maxRecDepth 100000
set_option linter.unusedVariables false
set_option linter.unusedSimpArgs false

theorem wid {x : Int} (h0 : -9223372036854775808 ≤ x) (h1 : x ≤ 9223372036854775807) : IntKind.i64.wrap x = x ∧ wrap64 x = x := ⟨(IntKind.wrap_i64 x).trans (by omega), by unfold wrap64; omega⟩
theorem sq_bd {s : Int} (h : Bd s 1073741824) : 0 ≤ s * s ∧ s * s ≤ 1152921504606846976 := by
  have := h.mul h
  refine ⟨?_, by unfold Bd at this; omega⟩
  rcases Int.le_total 0 s with h | h
  · exact Int.mul_nonneg h h
  · have := Int.mul_nonneg (show 0 ≤ -s by omega) (show 0 ≤ -s by omega); rwa [Int.neg_mul_neg] at this
set_option maxHeartbeats 4000000 in
theorem circle_calls (d : Int) (d0 : -9223372036854775808 ≤ d) (d1 : d ≤ 9223372036854775807) (w : World) :
    Calls Try.prog 10 #[.int .i64 d] w fun e w' => e = .returned (.bool true) ∧ Below w.heap.size w w' := by
  have A := fun w => both_calls d d0 d1 w
  obtain ⟨h1, h2, h3⟩ := both_circ d
  generalize (bothV d).1 = s at *
  generalize (bothV d).2 = c at *
  obtain ⟨s0, s1⟩ := sq_bd h1
  obtain ⟨c0, c1⟩ := sq_bd h2
  have f1 := wid (x := s * s) (by omega) (by omega)
  have f2 := wid (x := c * c) (by omega) (by omega)
  have f3 := wid (x := s * s + c * c) (by omega) (by omega)
  have f4 := wid (x := s * s + c * c - 1152921504606846976) (by omega) (by omega)
  obtain ⟨g1, g2⟩ := h3
  obtain ⟨u1, u2⟩ := h1
  obtain ⟨v1, v2⟩ := h2
  obtain ⟨f1, f1'⟩ := f1
  obtain ⟨f2, f2'⟩ := f2
  obtain ⟨f3, f3'⟩ := f3
  obtain ⟨f4, f4'⟩ := f4
  have AA := Lib.hid A
  clear A
  go_enter Try.func10, Try.ntmps10
  go_wp2_with (first
    | (go_at_call 20; ((with_reducible refine (wakes03_calls _).mono ?_); rintro e w1 ⟨rfl, hb1⟩))
    | (go_at_call 21; ((with_reducible refine (AA.out _).mono ?_); rintro e w2 ⟨rfl, hb2⟩)))
  all_goals
    go_ret
    exact ⟨by simp, below_more hb1 hb2⟩
end Go.Proofs.Ytngnkgnobgfjeaa.Trig
