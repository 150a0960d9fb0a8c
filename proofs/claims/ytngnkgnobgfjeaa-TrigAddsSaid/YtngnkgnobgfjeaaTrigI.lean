/- The law TrigAdds, walked. For all arguments. -/
import Derived.Test.YtngnkgnobgfjeaaTrigH
namespace Go.Proofs.Ytngnkgnobgfjeaa.Trig
open Go Go.RowKit Wide
set_option maxRecDepth 100000
set_option linter.unusedVariables false
set_option linter.unusedSimpArgs false

theorem mul_bd {s c : Int} (h1 : Bd s 1073741824) (h2 : Bd c 1073741824) : Bd (s * c) 1152921504606846976 := h1.mul h2
set_option maxHeartbeats 4000000 in
theorem adds_calls (a b : Int) (a0 : -2147483648 ≤ a) (a1 : a ≤ 2147483647) (b0 : -2147483648 ≤ b) (b1 : b ≤ 2147483647) (w : World) :
    Calls Try.prog 12 #[.int .i32 a, .int .i32 b] w fun e w' => e = .returned (.bool true) ∧ Below w.heap.size w w' := by
  have A := Lib.hid (fun w => both_calls a (by omega) (by omega) w)
  have B := Lib.hid (fun w => both_calls b (by omega) (by omega) w)
  have C := Lib.hid (fun w => both_calls (a + b) (by omega) (by omega) w)
  have k1 := wid (x := a) (by omega) (by omega)
  have k2 := wid (x := b) (by omega) (by omega)
  have k3 := wid (x := a + b) (by omega) (by omega)
  obtain ⟨n1, n2⟩ := both_adds a b
  obtain ⟨p1, p2, _⟩ := both_circ a
  obtain ⟨p3, p4, _⟩ := both_circ b
  obtain ⟨p5, p6, _⟩ := both_circ (a + b)
  generalize (bothV a).1 = s at *
  generalize (bothV a).2 = c at *
  generalize (bothV b).1 = t at *
  generalize (bothV b).2 = d at *
  generalize (bothV (a + b)).1 = u at *
  generalize (bothV (a + b)).2 = e at *
  have m1 := mul_bd p1 p4
  have m2 := mul_bd p2 p3
  have m3 := mul_bd p2 p4
  have m4 := mul_bd p1 p3
  unfold Bd at *
  have f1 := wid (x := s * d) (by omega) (by omega)
  have f2 := wid (x := c * t) (by omega) (by omega)
  have f3 := wid (x := c * d) (by omega) (by omega)
  have f4 := wid (x := s * t) (by omega) (by omega)
  have f5 := wid (x := s * d + c * t) (by omega) (by omega)
  have f6 := wid (x := c * d - s * t) (by omega) (by omega)
  obtain ⟨X, hX⟩ : ∃ X, (s * d + c * t) / 1073741824 = X := ⟨_, rfl⟩
  obtain ⟨Y, hY⟩ : ∃ Y, (c * d - s * t) / 1073741824 = Y := ⟨_, rfl⟩
  have o1 : -5 ≤ u - X ∧ u - X ≤ 4 ∧ -4 ≤ u - X := by omega
  have o2 : -5 ≤ e - Y ∧ e - Y ≤ 4 ∧ -4 ≤ e - Y := by omega
  have g1 := wid (x := u - X) (by omega) (by omega)
  have g2 := wid (x := X - u) (by omega) (by omega)
  have g3 := wid (x := e - Y) (by omega) (by omega)
  have g4 := wid (x := Y - e) (by omega) (by omega)
  have l1 : u - X ≤ 4 := o1.2.1
  have l2 : X - u ≤ 4 := by omega
  have l3 : e - Y ≤ 4 := o2.2.1
  have l4 : Y - e ≤ 4 := by omega
  clear n1 n2 m1 m2 m3 m4 o1 o2 p1 p2 p3 p4 p5 p6
  obtain ⟨f1, f1'⟩ := f1
  obtain ⟨f2, f2'⟩ := f2
  obtain ⟨f3, f3'⟩ := f3
  obtain ⟨f4, f4'⟩ := f4
  obtain ⟨f5, f5'⟩ := f5
  obtain ⟨f6, f6'⟩ := f6
  obtain ⟨g1, g1'⟩ := g1
  obtain ⟨g2, g2'⟩ := g2
  obtain ⟨g3, g3'⟩ := g3
  obtain ⟨g4, g4'⟩ := g4
  obtain ⟨k1, k1'⟩ := k1
  obtain ⟨k2, k2'⟩ := k2
  obtain ⟨k3, k3'⟩ := k3
  go_enter Try.func12, Try.ntmps12
  go_wp2_with (first
    | (go_at_call 20; ((with_reducible refine (wakes03_calls _).mono ?_); rintro e w1 ⟨rfl, hb1⟩))
    | (go_at_call 21; ((with_reducible refine (A.out _).mono ?_); rintro e w2 ⟨rfl, hb2⟩))
    | (go_at_call 21; ((with_reducible refine (B.out _).mono ?_); rintro e w3 ⟨rfl, hb3⟩))
    | (go_at_call 21; ((with_reducible refine (C.out _).mono ?_); rintro e w4 ⟨rfl, hb4⟩)))
  all_goals
    go_ret
    exact ⟨by simp, below_more hb1 (below_more hb2 (below_more hb3 hb4))⟩
end Go.Proofs.Ytngnkgnobgfjeaa.Trig
