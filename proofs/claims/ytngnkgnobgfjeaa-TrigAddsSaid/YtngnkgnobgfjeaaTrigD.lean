/- The law TrigSigns: the other sign, half a turn, a quarter's turn, and what is left to a quarter, change sine and cosine as they should. For all arguments. -/
import Derived.Test.YtngnkgnobgfjeaaTrigB
namespace Go.Proofs.Ytngnkgnobgfjeaa.Trig
open Go Go.RowKit Wide
set_option maxRecDepth 100000
set_option linter.unusedVariables false
set_option linter.unusedSimpArgs false

theorem ser45 : (serV 2949120).1 = (serV 2949120).2 := by decide +kernel
theorem rest0 : restV 0 = (0, 1073741824) := by decide +kernel
theorem rest_swap {r : Int} (h0 : 0 < r) (h1 : r < 5898240) : restV (5898240 - r) = ((restV r).2, (restV r).1) := by
  unfold restV
  rcases Int.lt_trichotomy r 2949120 with h | h | h
  · rw [if_pos (by omega), if_neg (by omega), show 5898240 - (5898240 - r) = r by omega]
  · subst h
    rw [if_neg (by omega), if_neg (by omega), show (5898240 : Int) - 2949120 = 2949120 by omega]
    exact Prod.ext ser45 ser45.symm
  · rw [if_neg (by omega), if_pos (by omega)]
/-- Sine and cosine, of a quarter and what is left of it. -/
def quad (q : Int) (p : Int × Int) : Int × Int :=
  if q = 0 then p else if q = 1 then (p.2, wrap64 (-p.1)) else if q = 2 then (wrap64 (-p.1), wrap64 (-p.2)) else (wrap64 (-p.2), p.1)
theorem both_quad (d : Int) : bothV d = quad (turn d / 5898240) (restV (turn d % 5898240)) := rfl
/-- What any number of quarters makes of it. -/
theorem both_at {d q r : Int} (h : d = 5898240 * q + r) (r0 : 0 ≤ r) (r1 : r < 5898240) : bothV d = quad (q % 4) (restV r) := by
  have e1 : turn d / 5898240 = q % 4 := by unfold turn; omega
  have e2 : turn d % 5898240 = r := by unfold turn; omega
  rw [both_quad, e1, e2]

structure Ok2 (p : Int × Int) : Prop where
  a0 : -9223372036854775808 ≤ p.1
  a1 : p.1 ≤ 9223372036854775807
  b0 : -9223372036854775808 ≤ p.2
  b1 : p.2 ≤ 9223372036854775807
theorem wrap_id {x : Int} (h0 : -9223372036854775808 ≤ x) (h1 : x ≤ 9223372036854775807) : wrap64 x = x := by unfold wrap64; omega
theorem quad_ok {q : Int} {p : Int × Int} (h : Ok2 p) : Ok2 (quad q p) := by
  obtain ⟨a0, a1, b0, b1⟩ := h
  unfold quad
  split
  · exact ⟨a0, a1, b0, b1⟩
  split
  · exact ⟨b0, b1, (wrap_ok _).1, (wrap_ok _).2⟩
  split
  · exact ⟨(wrap_ok _).1, (wrap_ok _).2, (wrap_ok _).1, (wrap_ok _).2⟩
  · exact ⟨(wrap_ok _).1, (wrap_ok _).2, a0, a1⟩
theorem rest_ok2 (r : Int) : Ok2 (restV r) := ⟨(restV_ok r).1.1, (restV_ok r).1.2, (restV_ok r).2.1, (restV_ok r).2.2⟩
theorem quad_next {q : Int} {p : Int × Int} (h : Ok2 p) (hq : q = 0 ∨ q = 1 ∨ q = 2 ∨ q = 3) : quad ((q + 1) % 4) p = ((quad q p).2, wrap64 (-(quad q p).1)) := by
  obtain ⟨a0, a1, b0, b1⟩ := h
  have e1 := wrap_neg_neg ⟨a0, a1⟩
  have e2 := wrap_neg_neg ⟨b0, b1⟩
  rcases hq with rfl | rfl | rfl | rfl <;> simp [quad, e1, e2]
theorem both_quarter (d : Int) : bothV (d + 5898240) = ((bothV d).2, wrap64 (-(bothV d).1)) := by
  have h := Int.mul_ediv_add_emod d 5898240
  have h0 := Int.emod_nonneg d (show (5898240 : Int) ≠ 0 by omega)
  have h1 := Int.emod_lt_of_pos d (show (0 : Int) < 5898240 by omega)
  rw [both_at (d := d) (q := d / 5898240) (r := d % 5898240) h.symm h0 h1, both_at (d := d + 5898240) (q := d / 5898240 + 1) (r := d % 5898240) (by omega) h0 h1]
  rw [show (d / 5898240 + 1) % 4 = (d / 5898240 % 4 + 1) % 4 by omega]
  exact quad_next (rest_ok2 _) (by omega)
theorem both_ok (d : Int) : Ok2 (bothV d) := by rw [both_quad]; exact quad_ok (rest_ok2 _)
theorem both_half (d : Int) : bothV (d + 11796480) = (wrap64 (-(bothV d).1), wrap64 (-(bothV d).2)) := by
  rw [show d + 11796480 = d + 5898240 + 5898240 by omega, both_quarter, both_quarter]
theorem quad_neg_swap {q q' : Int} {p : Int × Int} (h : Ok2 p) (hq : q = 0 ∨ q = 1 ∨ q = 2 ∨ q = 3) (hq' : q' = 3 - q) : quad q' (p.2, p.1) = (wrap64 (-(quad q p).1), (quad q p).2) := by
  obtain ⟨a0, a1, b0, b1⟩ := h
  have e1 := wrap_neg_neg ⟨a0, a1⟩
  have e2 := wrap_neg_neg ⟨b0, b1⟩
  subst hq'
  rcases hq with rfl | rfl | rfl | rfl <;> simp [quad, e1, e2]
theorem both_neg (d : Int) : bothV (-d) = (wrap64 (-(bothV d).1), (bothV d).2) := by
  have h := Int.mul_ediv_add_emod d 5898240
  have h0 := Int.emod_nonneg d (show (5898240 : Int) ≠ 0 by omega)
  have h1 := Int.emod_lt_of_pos d (show (0 : Int) < 5898240 by omega)
  rw [both_at (d := d) (q := d / 5898240) (r := d % 5898240) h.symm h0 h1]
  rcases Int.lt_or_eq_of_le h0 with hr | hr
  · rw [both_at (d := -d) (q := -(d / 5898240) - 1) (r := 5898240 - d % 5898240) (by omega) (by omega) (by omega), rest_swap hr h1]
    exact quad_neg_swap (rest_ok2 _) (by omega) (by omega)
  · rw [both_at (d := -d) (q := -(d / 5898240)) (r := 0) (by omega) (by omega) (by omega), ← hr, rest0]
    have hq : d / 5898240 % 4 = 0 ∨ d / 5898240 % 4 = 1 ∨ d / 5898240 % 4 = 2 ∨ d / 5898240 % 4 = 3 := by omega
    have hq' : -(d / 5898240) % 4 = (4 - d / 5898240 % 4) % 4 := by omega
    rw [hq']
    generalize d / 5898240 % 4 = q at *
    rcases hq with rfl | rfl | rfl | rfl <;> decide +kernel

set_option maxHeartbeats 8000000 in
theorem signs_calls (d : Int) (d0 : -2147483648 ≤ d) (d1 : d ≤ 2147483647) (w : World) :
    Calls Try.prog 11 #[.int .i32 d] w fun e w' => e = .returned (.bool true) ∧ Below w.heap.size w w' := by
  have A := fun w => both_calls d (by omega) (by omega) w
  have B := fun w => both_calls (-d) (by omega) (by omega) w
  have C := fun w => both_calls (d + 11796480) (by omega) (by omega) w
  have D := fun w => both_calls (d + 5898240) (by omega) (by omega) w
  have E := fun w => both_calls (5898240 - d) (by omega) (by omega) w
  have hok := both_ok d
  rw [both_neg] at B
  rw [both_half] at C
  rw [both_quarter] at D
  rw [show 5898240 - d = -d + 5898240 by omega, both_quarter, both_neg, ← show 5898240 - d = -d + 5898240 by omega] at E
  have e1 := wrap_neg_neg ⟨hok.a0, hok.a1⟩
  simp only [e1] at E
  generalize bothV d = p at *
  obtain ⟨s, c⟩ := p
  simp only at *
  have AA := Lib.hid A
  have BB := Lib.hid B
  have CC := Lib.hid C
  have DD := Lib.hid D
  have EE := Lib.hid E
  clear A B C D E
  have q1 : (wrap64 (-s) == wrap64 (-s)) = true := by simp
  have q2 : (c == c) = true := by simp
  have q3 : (wrap64 (-c) == wrap64 (-c)) = true := by simp
  have q4 : (s == s) = true := by simp
  obtain ⟨hs0, hs1, hc0, hc1⟩ := hok
  clear e1
  go_enter Try.func11, Try.ntmps11
  go_wp2_with (first
    | (go_at_call 20; ((with_reducible refine (wakes03_calls _).mono ?_); rintro e w1 ⟨rfl, hb1⟩))
    | (go_at_call 21; ((with_reducible refine (AA.out _).mono ?_); rintro e w2 ⟨rfl, hb2⟩))
    | (go_at_call 21; ((with_reducible refine (BB.out _).mono ?_); rintro e w3 ⟨rfl, hb3⟩))
    | (go_at_call 21; ((with_reducible refine (CC.out _).mono ?_); rintro e w4 ⟨rfl, hb4⟩))
    | (go_at_call 21; ((with_reducible refine (DD.out _).mono ?_); rintro e w5 ⟨rfl, hb5⟩))
    | (go_at_call 21; ((with_reducible refine (EE.out _).mono ?_); rintro e w6 ⟨rfl, hb6⟩)))
  all_goals
    go_ret
    exact ⟨by simp, below_more hb1 (below_more hb2 (below_more hb3 (below_more hb4 (below_more hb5 hb6))))⟩
end Go.Proofs.Ytngnkgnobgfjeaa.Trig
