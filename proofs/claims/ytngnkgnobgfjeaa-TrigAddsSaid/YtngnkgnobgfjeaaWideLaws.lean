/- The walks of the laws of package wide that need no reference: WideNears, WideTurns. For all arguments. -/
import Derived.Test.YtngnkgnobgfjeaaWideH
namespace Go.Proofs.Ytngnkgnobgfjeaa.Wide
open Go Go.RowKit
set_option maxRecDepth 100000
set_option linter.unusedVariables false
set_option linter.unusedSimpArgs false

theorem wakes01_calls (w : World) : Calls Try.prog 13 #[] w fun e w' => e = .returned (.bool true) ∧ Below w.heap.size w w' := by
  have M1 := fun w => muldiv_calls 7 3 2 (by omega) (by omega) (by omega) (by omega) (by omega) (by omega) w
  have M2 := fun w => muldiv_calls (-7) 3 2 (by omega) (by omega) (by omega) (by omega) (by omega) (by omega) w
  have M3 := fun w => mulshift_calls (-5) 1 1 (by omega) (by omega) (by omega) (by omega) w
  rw [show mulDivV 7 3 2 = 11 by decide, show mulDivB 7 3 2 = true by decide] at M1
  rw [show mulDivV (-7) 3 2 = -10 by decide, show mulDivB (-7) 3 2 = true by decide] at M2
  rw [show dotV (-5) 1 0 0 1 = -2 by decide, show dotB (-5) 1 0 0 1 = true by decide] at M3
  go_enter Try.func13, Try.ntmps13
  go_wp2_with (first
    | (go_at_call 14; ((with_reducible refine (M1 _).mono ?_); rintro e w1 ⟨rfl, hb1⟩))
    | (go_at_call 14; ((with_reducible refine (M2 _).mono ?_); rintro e w2 ⟨rfl, hb2⟩))
    | (go_at_call 18; ((with_reducible refine (M3 _).mono ?_); rintro e w3 ⟨rfl, hb3⟩)))
  go_ret
  exact ⟨rfl, below_more (below_more hb1 hb2) hb3⟩

/-- Twice the nearest number, times the divisor, lies within the divisor of twice the product. -/
theorem near_bounds {p d : Int} (hd : 1 ≤ d) : 2 * (near p d * d - p) ≤ d ∧ -d < 2 * (near p d * d - p) := by
  have e := Int.mul_ediv_add_emod (2 * p + d) (2 * d)
  have m0 := Int.emod_nonneg (2 * p + d) (show 2 * d ≠ 0 by omega)
  have m1 := Int.emod_lt_of_pos (2 * p + d) (show 0 < 2 * d by omega)
  have h : 2 * d * near p d = 2 * (near p d * d) := by rw [Int.mul_assoc, Int.mul_comm d]
  unfold near at *
  omega
theorem near_size {p d : Int} (hd : 1 ≤ d) (h0 : -4611686018427387904 ≤ p) (h1 : p ≤ 4611686018427387904) : -4611686018427387905 ≤ near p d ∧ near p d ≤ 4611686018427387905 := by
  unfold near
  constructor
  · apply Int.le_ediv_of_mul_le (by omega)
    omega
  · have : (2 * p + d) / (2 * d) < 4611686018427387906 := by
      apply Int.ediv_lt_of_lt_mul (by omega)
      omega
    omega

set_option maxHeartbeats 2000000 in
theorem nears_calls (a b c : Int) (a0 : -2147483648 ≤ a) (a1 : a ≤ 2147483647) (b0 : -2147483648 ≤ b) (b1 : b ≤ 2147483647) (c0 : -2147483648 ≤ c) (c1 : c ≤ 2147483647) (w : World) :
    Calls Try.prog 5 #[.int .i32 a, .int .i32 b, .int .i32 c] w fun e w' => e = .returned (.bool true) ∧ Below w.heap.size w w' := by
  by_cases hz : c = 0
  · subst hz
    have hz : ((0 : Int) == 0) = true := by decide
    go_enter Try.func5, Try.ntmps5
    go_wp2_with (go_at_call 13; ((with_reducible refine (wakes01_calls _).mono ?_); rintro e w1 ⟨rfl, hb1⟩))
    go_ret
    exact ⟨rfl, hb1⟩
  · have hc : (c == 0) = false := by simpa using hz
    have M := fun w => muldiv_calls a b c (by omega) (by omega) (by omega) (by omega) (by omega) (by omega) w
    have hp : -4611686018427387904 ≤ a * b ∧ a * b ≤ 4611686018427387904 := by
      have h1 : (if a < 0 then -a else a) * (if b < 0 then -b else b) ≤ 2147483648 * 2147483648 := Int.mul_le_mul (by split <;> omega) (by split <;> omega) (by split <;> omega) (by omega)
      have h0 : 0 ≤ (if a < 0 then -a else a) * (if b < 0 then -b else b) := Int.mul_nonneg (by split <;> omega) (by split <;> omega)
      by_cases ha : a < 0 <;> by_cases hb : b < 0 <;> simp only [ha, hb, if_true, if_false, Int.neg_mul, Int.mul_neg, Int.neg_neg] at h0 h1 <;> omega
    obtain ⟨p0, p1⟩ := hp
    unfold mulDivV mulDivB at M
    rw [if_neg hz, if_neg hz] at M
    by_cases hn : c < 0
    · rw [if_pos hn, if_pos hn] at M
      obtain ⟨d, rfl⟩ : ∃ d, c = -d := ⟨-c, by omega⟩
      rw [Int.neg_neg] at M
      obtain ⟨n1, n2⟩ := near_bounds (p := -(a * b)) (d := d) (by omega)
      have hs := near_size (p := -(a * b)) (d := d) (by omega) (by omega) (by omega)
      obtain ⟨v1, v2⟩ := fit_yes (V := near (-(a * b)) d) (by omega)
      rw [v1, v2] at M
      clear v1 v2
      generalize near (-(a * b)) d = N at *
      go_enter Try.func5, Try.ntmps5
      go_wp2_with (first
        | (go_at_call 13; ((with_reducible refine (wakes01_calls _).mono ?_); rintro e w1 ⟨rfl, hb1⟩))
        | (go_at_call 14; ((with_reducible refine (M _).mono ?_); rintro e w2 ⟨rfl, hb2⟩)))
      go_ret
      exact ⟨by simp; omega, below_more hb1 hb2⟩
    · rw [if_neg hn, if_neg hn] at M
      obtain ⟨n1, n2⟩ := near_bounds (p := a * b) (d := c) (by omega)
      have hs := near_size (p := a * b) (d := c) (by omega) (by omega) (by omega)
      obtain ⟨v1, v2⟩ := fit_yes (V := near (a * b) c) (by omega)
      rw [v1, v2] at M
      clear v1 v2
      generalize near (a * b) c = N at *
      go_enter Try.func5, Try.ntmps5
      go_wp2_with (first
        | (go_at_call 13; ((with_reducible refine (wakes01_calls _).mono ?_); rintro e w1 ⟨rfl, hb1⟩))
        | (go_at_call 14; ((with_reducible refine (M _).mono ?_); rintro e w2 ⟨rfl, hb2⟩)))
      go_ret
      exact ⟨rfl, below_more hb1 hb2⟩

theorem near_self {a b : Int} (hb : b ≠ 0) : near (if b < 0 then -(a * b) else a * b) (if b < 0 then -b else b) = a := by
  have key : ∀ a d : Int, 1 ≤ d → near (a * d) d = a := by
    intro a d hd
    unfold near
    have : 2 * (a * d) + d = d + 2 * d * a := by
      rw [Int.mul_comm a d, Int.mul_assoc]; omega
    rw [this, Int.add_mul_ediv_left _ _ (by omega), Int.ediv_eq_zero_of_lt (by omega) (by omega)]
    omega
  by_cases h : b < 0
  · rw [if_pos h, if_pos h, ← Int.mul_neg]
    exact key a (-b) (by omega)
  · rw [if_neg h, if_neg h]
    exact key a b (by omega)

set_option maxHeartbeats 2000000 in
theorem turns_calls (a b s : Int) (a0 : -9223372036854775808 ≤ a) (a1 : a ≤ 9223372036854775807) (b0 : -9223372036854775808 ≤ b) (b1 : b ≤ 9223372036854775807) (w : World) :
    Calls Try.prog 6 #[.int .i64 a, .int .i64 b, .int .i64 s] w fun e w' => e = .returned (.bool true) ∧ Below w.heap.size w w' := by
  have M := fun w => muldiv_calls a b b a0 a1 b0 b1 b0 b1 w
  have S1 := fun w => mulshift_calls a b s a0 a1 b0 b1 w
  have S2 := fun w => mulshift_calls b a s b0 b1 a0 a1 w
  have e1 : dotV b a 0 0 s = dotV a b 0 0 s := by unfold dotV; rw [Int.mul_comm b a]
  have e2 : dotB b a 0 0 s = dotB a b 0 0 s := by unfold dotB; rw [Int.mul_comm b a]
  rw [e1, e2] at S2
  clear e1 e2
  generalize dotV a b 0 0 s = x at *
  generalize dotB a b 0 0 s = y at *
  by_cases hz : b = 0
  · have hb : (b == 0) = true := by simpa using hz
    generalize mulDivV a b b = v at *
    generalize mulDivB a b b = u at *
    clear hz
    go_enter Try.func6, Try.ntmps6
    go_wp2_with (first
      | (go_at_call 13; ((with_reducible refine (wakes01_calls _).mono ?_); rintro e w1 ⟨rfl, hb1⟩))
      | (go_at_call 14; ((with_reducible refine (M _).mono ?_); rintro e w2 ⟨rfl, hb2⟩))
      | (go_at_call 18; ((with_reducible refine (S1 _).mono ?_); rintro e w3 ⟨rfl, hb3⟩; clear S1))
      | (go_at_call 18; ((with_reducible refine (S2 _).mono ?_); rintro e w4 ⟨rfl, hb4⟩; clear S2)))
    all_goals
      go_ret
      exact ⟨by simp, below_more (below_more (below_more hb1 hb2) hb3) hb4⟩
  · have hb : (b == 0) = false := by simpa using hz
    unfold mulDivV mulDivB at M
    rw [if_neg hz, if_neg hz, near_self hz] at M
    obtain ⟨v1, v2⟩ := fit_yes (V := a) ⟨a0, a1⟩
    rw [v1, v2] at M
    clear v1 v2
    go_enter Try.func6, Try.ntmps6
    go_wp2_with (first
      | (go_at_call 13; ((with_reducible refine (wakes01_calls _).mono ?_); rintro e w1 ⟨rfl, hb1⟩))
      | (go_at_call 14; ((with_reducible refine (M _).mono ?_); rintro e w2 ⟨rfl, hb2⟩))
      | (go_at_call 18; ((with_reducible refine (S1 _).mono ?_); rintro e w3 ⟨rfl, hb3⟩; clear S1))
      | (go_at_call 18; ((with_reducible refine (S2 _).mono ?_); rintro e w4 ⟨rfl, hb4⟩; clear S2)))
    all_goals
      go_ret
      exact ⟨by simp, below_more (below_more (below_more hb1 hb2) hb3) hb4⟩
end Go.Proofs.Ytngnkgnobgfjeaa.Wide
