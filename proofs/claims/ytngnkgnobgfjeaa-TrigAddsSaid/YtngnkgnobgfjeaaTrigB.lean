/- Package trig, walked: series, rest, Quarter, Both, Sin, Cos, and layer 3's examples. For all arguments. -/
import Derived.Test.YtngnkgnobgfjeaaTrigA
namespace Go.Proofs.Ytngnkgnobgfjeaa.Trig
open Go Go.RowKit Wide
set_option maxRecDepth 100000
set_option linter.unusedVariables false
set_option linter.unusedSimpArgs false

set_option maxHeartbeats 4000000 in
theorem series_calls (r : Int) (r0 : -9223372036854775808 ≤ r) (r1 : r ≤ 9223372036854775807) (w : World) :
    Calls Try.prog 52 #[.int .i64 r] w fun e w' => e = .returned (.tuple #[.int .i64 (serV r).1, .int .i64 (serV r).2]) ∧ Below w.heap.size w w' := by
  unfold serV
  have hM := fun w => muldiv_calls r 3622009729038561421 11796480 r0 r1 (by omega) (by omega) (by omega) (by omega) w
  have hx := md_ok r 3622009729038561421 11796480
  generalize mulDivV r 3622009729038561421 11796480 = x at *
  have hS := fun w => mulshift_calls x x 60 hx.1 hx.2 hx.1 hx.2 w
  have hz := do_ok x x 0 0 60
  generalize dotV x x 0 0 60 = z at *
  have hA := fun w => terms_calls x z 0 hx.1 hx.2 hz.1 hz.2 (Or.inl rfl) w
  have hB := fun w => terms_calls 1152921504606846976 z (-1) (by omega) (by omega) hz.1 hz.2 (Or.inr rfl) w
  generalize termsV x z 0 = s at *
  generalize termsV 1152921504606846976 z (-1) = c at *
  have MM := Lib.hid hM
  have SS := Lib.hid hS
  have AA := Lib.hid hA
  have BB := Lib.hid hB
  clear hM hS hA hB
  go_enter Try.func52, Try.ntmps52
  go_wp2_with (first
    | (go_at_call 14; ((with_reducible refine (MM.out _).mono ?_); rintro e w1 ⟨rfl, hb1⟩))
    | (go_at_call 18; ((with_reducible refine (SS.out _).mono ?_); rintro e w2 ⟨rfl, hb2⟩))
    | (go_at_call 56; ((with_reducible refine (AA.out _).mono ?_); rintro e w3 ⟨rfl, hb3⟩))
    | (go_at_call 56; ((with_reducible refine (BB.out _).mono ?_); rintro e w4 ⟨rfl, hb4⟩)))
  go_ret2
  exact ⟨rfl, below_more hb1 (below_more hb2 (below_more hb3 hb4))⟩

set_option maxHeartbeats 4000000 in
theorem rest_calls (r : Int) (r0 : 0 ≤ r) (r1 : r ≤ 5898240) (w : World) :
    Calls Try.prog 42 #[.int .i64 r] w fun e w' => e = .returned (.tuple #[.int .i64 (restV r).1, .int .i64 (restV r).2]) ∧ Below w.heap.size w w' := by
  unfold restV
  by_cases h : 2949120 < r
  · rw [if_pos h]
    have hS := fun w => series_calls (5898240 - r) (by omega) (by omega) w
    generalize serV (5898240 - r) = p at *
    have SS := Lib.hid hS
    clear hS
    go_enter Try.func42, Try.ntmps42
    go_wp2_with (go_at_call 52; ((with_reducible refine (SS.out _).mono ?_); rintro e w1 ⟨rfl, hb1⟩))
    go_ret2
    exact ⟨rfl, hb1⟩
  · rw [if_neg h]
    have hS := fun w => series_calls r (by omega) (by omega) w
    generalize serV r = p at *
    have SS := Lib.hid hS
    clear hS
    go_enter Try.func42, Try.ntmps42
    go_wp2_with (go_at_call 52; ((with_reducible refine (SS.out _).mono ?_); rintro e w1 ⟨rfl, hb1⟩))
    go_ret2
    exact ⟨rfl, hb1⟩

theorem turn_lt (d : Int) : 0 ≤ turn d ∧ turn d < 23592960 := by unfold turn; omega
theorem turn_mod (d : Int) : (0 ≤ d.tmod 23592960 → turn d = d.tmod 23592960) ∧ (d.tmod 23592960 < 0 → turn d = d.tmod 23592960 + 23592960) ∧ -23592960 < d.tmod 23592960 ∧ d.tmod 23592960 < 23592960 := by
  have h := Int.tmod_eq_emod (a := d) (b := 23592960)
  unfold turn
  by_cases hd : 0 ≤ d
  · rw [Int.tmod_eq_emod_of_nonneg hd]
    refine ⟨fun _ => rfl, fun h => by omega, by omega, by omega⟩
  · have e : d.tmod 23592960 = -((-d) % 23592960) := by
      rw [← Int.neg_neg d, Int.neg_tmod, Int.neg_neg, Int.tmod_eq_emod_of_nonneg (by omega)]
    rw [e]
    refine ⟨fun h => by omega, fun h => by omega, by omega, by omega⟩

set_option maxHeartbeats 4000000 in
theorem quarter_calls (d : Int) (d0 : -9223372036854775808 ≤ d) (d1 : d ≤ 9223372036854775807) (w : World) :
    Calls Try.prog 25 #[.int .i64 d] w fun e w' => e = .returned (.tuple #[.int .i64 (turn d / 5898240), .int .i64 (turn d % 5898240)]) ∧ Below w.heap.size w w' := by
  obtain ⟨h1, h2, h3, h4⟩ := turn_mod d
  have h5 := turn_lt d
  have e1 : (turn d).tdiv 5898240 = turn d / 5898240 := Int.tdiv_eq_ediv_of_nonneg h5.1
  have e2 : (turn d).tmod 5898240 = turn d % 5898240 := Int.tmod_eq_emod_of_nonneg h5.1
  by_cases hs : 0 ≤ d.tmod 23592960
  · rw [h1 hs] at *
    generalize hm : d.tmod 23592960 = m at *
    have e3 := h1 hs
    have E1 := Lib.hid e1
    clear h1 h2
    go_enter Try.func25, Try.ntmps25
    go_wp2
    go_ret2
    exact ⟨by simp [e1, e2], Below.refl _ _⟩
  · have e3 := h2 (by omega)
    generalize hm : d.tmod 23592960 = m at *
    rw [e3] at *
    clear h1 h2
    go_enter Try.func25, Try.ntmps25
    go_wp2
    go_ret2
    exact ⟨by simp [e1, e2], Below.refl _ _⟩

set_option maxHeartbeats 4000000 in
theorem refturn_calls (d : Int) (d0 : -9223372036854775808 ≤ d) (d1 : d ≤ 9223372036854775807) (w : World) :
    Calls Try.prog 26 #[.int .i64 d] w fun e w' => e = .returned (.int .i64 (turn d)) ∧ Below w.heap.size w w' := by
  obtain ⟨h1, h2, h3, h4⟩ := turn_mod d
  by_cases hs : 0 ≤ d.tmod 23592960
  · rw [h1 hs]
    generalize hm : d.tmod 23592960 = m at *
    clear h1 h2
    go_enter Try.func26, Try.ntmps26
    go_wp2
    go_ret
    exact ⟨by simp, Below.refl _ _⟩
  · have e3 := h2 (by omega)
    rw [e3]
    generalize hm : d.tmod 23592960 = m at *
    clear h1 h2 e3
    go_enter Try.func26, Try.ntmps26
    go_wp2
    go_ret
    exact ⟨by simp, Below.refl _ _⟩

theorem wrap_neg_neg {x : Int} (h : -9223372036854775808 ≤ x ∧ x ≤ 9223372036854775807) : wrap64 (-(wrap64 (-x))) = x := by unfold wrap64; omega

set_option maxHeartbeats 8000000 in
theorem both_calls (d : Int) (d0 : -9223372036854775808 ≤ d) (d1 : d ≤ 9223372036854775807) (w : World) :
    Calls Try.prog 21 #[.int .i64 d] w fun e w' => e = .returned (.tuple #[.int .i64 (bothV d).1, .int .i64 (bothV d).2]) ∧ Below w.heap.size w w' := by
  have h5 := turn_lt d
  have hQ := fun w => quarter_calls d d0 d1 w
  have hR := fun w => rest_calls (turn d % 5898240) (by omega) (by omega) w
  have hok := restV_ok (turn d % 5898240)
  have hq : turn d / 5898240 = 0 ∨ turn d / 5898240 = 1 ∨ turn d / 5898240 = 2 ∨ turn d / 5898240 = 3 := by omega
  unfold bothV
  generalize restV (turn d % 5898240) = p at *
  generalize turn d % 5898240 = rr at *
  generalize turn d / 5898240 = q at *
  have QQ := Lib.hid hQ
  have RR := Lib.hid hR
  clear hQ hR h5
  obtain ⟨s, c⟩ := p
  simp only at *
  have hnn := wrap_neg_neg hok.1
  rcases hq with rfl | rfl | rfl | rfl
  all_goals
    simp only [if_true, if_false, reduceIte, Int.reduceEq]
    go_enter Try.func21, Try.ntmps21
    go_wp2_with (first
      | (go_at_call 25; ((with_reducible refine (QQ.out _).mono ?_); rintro e w1 ⟨rfl, hb1⟩))
      | (go_at_call 42; ((with_reducible refine (RR.out _).mono ?_); rintro e w2 ⟨rfl, hb2⟩)))
    go_ret2
    exact ⟨by simp [hnn], below_more hb1 hb2⟩

set_option maxHeartbeats 4000000 in
theorem sin_calls (d : Int) (d0 : -9223372036854775808 ≤ d) (d1 : d ≤ 9223372036854775807) (w : World) :
    Calls Try.prog 23 #[.int .i64 d] w fun e w' => e = .returned (.int .i64 (bothV d).1) ∧ Below w.heap.size w w' := by
  have BB := Lib.hid (fun w => both_calls d d0 d1 w)
  generalize bothV d = p at *
  go_enter Try.func23, Try.ntmps23
  go_wp2_with (go_at_call 21; ((with_reducible refine (BB.out _).mono ?_); rintro e w1 ⟨rfl, hb1⟩))
  go_ret
  exact ⟨rfl, hb1⟩
set_option maxHeartbeats 4000000 in
theorem cos_calls (d : Int) (d0 : -9223372036854775808 ≤ d) (d1 : d ≤ 9223372036854775807) (w : World) :
    Calls Try.prog 24 #[.int .i64 d] w fun e w' => e = .returned (.int .i64 (bothV d).2) ∧ Below w.heap.size w w' := by
  have BB := Lib.hid (fun w => both_calls d d0 d1 w)
  generalize bothV d = p at *
  go_enter Try.func24, Try.ntmps24
  go_wp2_with (go_at_call 21; ((with_reducible refine (BB.out _).mono ?_); rintro e w1 ⟨rfl, hb1⟩))
  go_ret
  exact ⟨rfl, hb1⟩

theorem ex30 : (bothV 1966080).1 = 536870912 := by decide +kernel
theorem ex60 : (bothV 3932160).2 = 536870912 := by decide +kernel
theorem exm90 : (bothV (-5898240)).1 = -1073741824 := by decide +kernel

set_option maxHeartbeats 4000000 in
theorem wakes03_calls (w : World) : Calls Try.prog 20 #[] w fun e w' => e = .returned (.bool true) ∧ Below w.heap.size w w' := by
  have A := fun w => sin_calls 1966080 (by omega) (by omega) w
  have B := fun w => cos_calls 3932160 (by omega) (by omega) w
  have C := fun w => sin_calls (-5898240) (by omega) (by omega) w
  rw [ex30] at A
  rw [ex60] at B
  rw [exm90] at C
  have AA := Lib.hid A
  have BB := Lib.hid B
  have CC := Lib.hid C
  clear A B C
  go_enter Try.func20, Try.ntmps20
  go_wp2_with (first
    | (go_at_call 23; ((with_reducible refine (AA.out _).mono ?_); rintro e w1 ⟨rfl, hb1⟩))
    | (go_at_call 24; ((with_reducible refine (BB.out _).mono ?_); rintro e w2 ⟨rfl, hb2⟩))
    | (go_at_call 23; ((with_reducible refine (CC.out _).mono ?_); rintro e w3 ⟨rfl, hb3⟩)))
  go_ret
  exact ⟨rfl, below_more hb1 (below_more hb2 hb3)⟩

set_option maxHeartbeats 4000000 in
theorem turns_calls (d : Int) (d0 : -9223372036854775808 ≤ d) (d1 : d ≤ 9223372036854775807) (w : World) :
    Calls Try.prog 9 #[.int .i64 d] w fun e w' => e = .returned (.bool true) ∧ Below w.heap.size w w' := by
  have h5 := turn_lt d
  have QQ := Lib.hid (fun w => quarter_calls d d0 d1 w)
  have TT := Lib.hid (fun w => refturn_calls d d0 d1 w)
  have hd := Int.mul_ediv_add_emod (turn d) 5898240
  have hq : 0 ≤ turn d / 5898240 ∧ turn d / 5898240 ≤ 3 := by omega
  have hr : 0 ≤ turn d % 5898240 ∧ turn d % 5898240 < 5898240 := by omega
  generalize turn d % 5898240 = r at *
  generalize turn d / 5898240 = q at *
  generalize turn d = t at *
  have hqt : (q * 90 * 65536 + r == t) = true := by rw [beq_iff_eq]; omega
  go_enter Try.func9, Try.ntmps9
  go_wp2_with (first
    | (go_at_call 20; ((with_reducible refine (wakes03_calls _).mono ?_); rintro e w1 ⟨rfl, hb1⟩))
    | (go_at_call 25; ((with_reducible refine (QQ.out _).mono ?_); rintro e w2 ⟨rfl, hb2⟩))
    | (go_at_call 26; ((with_reducible refine (TT.out _).mono ?_); rintro e w3 ⟨rfl, hb3⟩)))
  all_goals
    go_ret
    exact ⟨rfl, below_more hb1 (below_more hb2 hb3)⟩
end Go.Proofs.Ytngnkgnobgfjeaa.Trig
