/- Package ref03, walked: near, Series, Both: the same words as package trig's; the law TrigBoth. For all arguments. -/
import Derived.Test.YtngnkgnobgfjeaaTrigB
import Derived.Test.YtngnkgnobgfjeaaWideMd
namespace Go.Proofs.Ytngnkgnobgfjeaa.Trig
open Go Go.RowKit Wide
set_option maxRecDepth 100000
set_option linter.unusedVariables false
set_option linter.unusedSimpArgs false

theorem md_do60 (a b : Int) : mulDivV a b 1152921504606846976 = dotV a b 0 0 60 := by
  unfold mulDivV dotV
  simp only [Int.mul_zero, Int.add_zero]
  rfl
theorem md_do30 (a b : Int) : mulDivV a b 1073741824 = dotV a b 0 0 30 := by
  unfold mulDivV dotV
  simp only [Int.mul_zero, Int.add_zero]
  rfl
set_option maxHeartbeats 4000000 in
theorem refnear_calls (a b c : Int) (a0 : -9223372036854775808 ≤ a) (a1 : a ≤ 9223372036854775807) (b0 : -9223372036854775808 ≤ b) (b1 : b ≤ 9223372036854775807) (c0 : -9223372036854775808 ≤ c) (c1 : c ≤ 9223372036854775807) (w : World) :
    Calls Try.prog 53 #[.int .i64 a, .int .i64 b, .int .i64 c] w fun e w' => e = .returned (.int .i64 (mulDivV a b c)) ∧ Below w.heap.size w w' := by
  have R := fun w => Ref.muldiv_calls a b c a0 a1 b0 b1 c0 c1 w
  rw [(md_ref a b c).1, (md_ref a b c).2] at R
  generalize mulDivV a b c = n at *
  generalize mulDivB a b c = ok at *
  have RR := Lib.hid R
  clear R
  go_enter Try.func53, Try.ntmps53
  go_wp2_with (go_at_call 15; ((with_reducible refine (RR.out _).mono ?_); rintro e w1 ⟨rfl, hb1⟩))
  go_ret
  exact ⟨rfl, hb1⟩

set_option maxHeartbeats 16000000 in
theorem refseries_calls (r : Int) (r0 : -9223372036854775808 ≤ r) (r1 : r ≤ 9223372036854775807) (w : World) :
    Calls Try.prog 43 #[.int .i64 r] w fun e w' => e = .returned (.tuple #[.int .i64 (serV r).1, .int .i64 (serV r).2]) ∧ Below w.heap.size w w' := by
  unfold serV termsV
  have hM := fun w => refnear_calls r 3622009729038561421 11796480 r0 r1 (by omega) (by omega) (by omega) (by omega) w
  have hx := md_ok r 3622009729038561421 11796480
  generalize mulDivV r 3622009729038561421 11796480 = x at *
  have hS := fun w => refnear_calls x x 1152921504606846976 hx.1 hx.2 hx.1 hx.2 (by omega) (by omega) w
  rw [md_do60] at hS
  have hz := do_ok x x 0 0 60
  generalize dotV x x 0 0 60 = z at *
  have hTA := fun k => T_ok (z := z) (f := 0) hx.1 hx.2 k
  have hTB := fun k => T_ok (z := z) (f := -1) (first := 1152921504606846976) (by omega) (by omega) k
  have hSA : ∀ k, T x z 0 (k + 1) = (if (k + 1) % 2 = 1 then wrap64 ((T x z 0 k).1 - mulDivV (dotV (T x z 0 k).2 z 0 0 60) 1 (den 0 (k + 1))) else wrap64 ((T x z 0 k).1 + mulDivV (dotV (T x z 0 k).2 z 0 0 60) 1 (den 0 (k + 1))),
      mulDivV (dotV (T x z 0 k).2 z 0 0 60) 1 (den 0 (k + 1))) := fun k => rfl
  have hSB : ∀ k, T 1152921504606846976 z (-1) (k + 1) = (if (k + 1) % 2 = 1 then wrap64 ((T 1152921504606846976 z (-1) k).1 - mulDivV (dotV (T 1152921504606846976 z (-1) k).2 z 0 0 60) 1 (den (-1) (k + 1))) else wrap64 ((T 1152921504606846976 z (-1) k).1 + mulDivV (dotV (T 1152921504606846976 z (-1) k).2 z 0 0 60) 1 (den (-1) (k + 1))),
      mulDivV (dotV (T 1152921504606846976 z (-1) k).2 z 0 0 60) 1 (den (-1) (k + 1))) := fun k => rfl
  have MM := Lib.hid hM
  have SS := Lib.hid hS
  have HTA := Lib.hid hTA
  have HTB := Lib.hid hTB
  have HSA := Lib.hid hSA
  have HSB := Lib.hid hSB
  clear hM hS hTA hTB hSA hSB
  go_enter Try.func43, Try.ntmps43
  go_wp2_with (first
    | (go_at_call 53; ((with_reducible refine (MM.out _).mono ?_); rintro e w1 ⟨rfl, hb1⟩))
    | (go_at_call 53; ((with_reducible refine (SS.out _).mono ?_); rintro e w2 ⟨rfl, hb2⟩)))
  have hb12 := below_more hb1 hb2
  go_loopw [6, 7, 8, 9, 10] (fun s c a b i wr => ∃ k : Nat, k ≤ 9 ∧ i = .int .i64 ((k : Int) + 1) ∧ s = .int .i64 (T x z 0 k).1 ∧ a = .int .i64 (T x z 0 k).2 ∧ c = .int .i64 (T 1152921504606846976 z (-1) k).1 ∧ b = .int .i64 (T 1152921504606846976 z (-1) k).2 ∧ Below w.heap.size w wr) (fun _ _ _ _ i _ => 20 - (intOf i).toNat)
  case atStart => exact ⟨0, by omega, rfl, rfl, rfl, rfl, rfl, hb12⟩
  case round =>
    obtain ⟨k, hk, rfl, rfl, rfl, rfl, rfl, hbel⟩ := hrel
    obtain ⟨t1, t2⟩ := HTA.out k
    obtain ⟨t3, t4⟩ := HTB.out k
    by_cases hp : k < 9
    · have hs := HSA.out k
      have hs' := HSB.out k
      have hsh := fun w => refnear_calls (T x z 0 k).2 z 1152921504606846976 t2.1 t2.2 hz.1 hz.2 (by omega) (by omega) w
      have hsh' := fun w => refnear_calls (T 1152921504606846976 z (-1) k).2 z 1152921504606846976 t4.1 t4.2 hz.1 hz.2 (by omega) (by omega) w
      rw [md_do60] at hsh hsh'
      have hu := do_ok (T x z 0 k).2 z 0 0 60
      have hv := do_ok (T 1152921504606846976 z (-1) k).2 z 0 0 60
      generalize hp1 : T x z 0 (k + 1) = p1 at *
      generalize hq1 : T 1152921504606846976 z (-1) (k + 1) = q1 at *
      generalize T x z 0 k = p at *
      generalize T 1152921504606846976 z (-1) k = q at *
      generalize dotV p.2 z 0 0 60 = u at *
      generalize dotV q.2 z 0 0 60 = v at *
      have HSH := Lib.hid hsh
      have HSH' := Lib.hid hsh'
      have HN := Lib.hid hs
      have HN' := Lib.hid hs'
      have HP := Lib.hid hp1
      have HQ := Lib.hid hq1
      clear hsh hsh' hs hs' HTA HTB HSA HSB hp1 hq1 MM SS
      rcases (show k = 0 ∨ k = 1 ∨ k = 2 ∨ k = 3 ∨ k = 4 ∨ k = 5 ∨ k = 6 ∨ k = 7 ∨ k = 8 by omega) with rfl | rfl | rfl | rfl | rfl | rfl | rfl | rfl | rfl
      · go_wp2_with (first
          | (go_at_call 53; ((with_reducible refine (HSH.out _).mono ?_); rintro e w2 ⟨rfl, hb2⟩; clear HSH))
          | (go_at_call 53; ((with_reducible refine (refnear_calls u 1 6 hu.1 hu.2 (by omega) (by omega) (by omega) (by omega) _).mono ?_); rintro e w3 ⟨rfl, hb3⟩; have hv1 := md_ok u 1 6))
          | (go_at_call 53; ((with_reducible refine (HSH'.out _).mono ?_); rintro e w4 ⟨rfl, hb4⟩))
          | (go_at_call 53; ((with_reducible refine (refnear_calls v 1 2 hv.1 hv.2 (by omega) (by omega) (by omega) (by omega) _).mono ?_); rintro e w5 ⟨rfl, hb5⟩; have hv2 := md_ok v 1 2)))
        go_roundw
        case rel => exact ⟨1, by omega, rfl, by rw [HP.out, HN.out]; rfl, by rw [HP.out, HN.out]; rfl, by rw [HQ.out, HN'.out]; rfl, by rw [HQ.out, HN'.out]; rfl, hbel.trans ((below_more hb2 (below_more hb3 (below_more hb4 hb5))).mono hbel.size)⟩
        case measure => simp [intOf]
      · go_wp2_with (first
          | (go_at_call 53; ((with_reducible refine (HSH.out _).mono ?_); rintro e w2 ⟨rfl, hb2⟩; clear HSH))
          | (go_at_call 53; ((with_reducible refine (refnear_calls u 1 20 hu.1 hu.2 (by omega) (by omega) (by omega) (by omega) _).mono ?_); rintro e w3 ⟨rfl, hb3⟩; have hv1 := md_ok u 1 20))
          | (go_at_call 53; ((with_reducible refine (HSH'.out _).mono ?_); rintro e w4 ⟨rfl, hb4⟩))
          | (go_at_call 53; ((with_reducible refine (refnear_calls v 1 12 hv.1 hv.2 (by omega) (by omega) (by omega) (by omega) _).mono ?_); rintro e w5 ⟨rfl, hb5⟩; have hv2 := md_ok v 1 12)))
        go_roundw
        case rel => exact ⟨2, by omega, rfl, by rw [HP.out, HN.out]; rfl, by rw [HP.out, HN.out]; rfl, by rw [HQ.out, HN'.out]; rfl, by rw [HQ.out, HN'.out]; rfl, hbel.trans ((below_more hb2 (below_more hb3 (below_more hb4 hb5))).mono hbel.size)⟩
        case measure => simp [intOf]
      · go_wp2_with (first
          | (go_at_call 53; ((with_reducible refine (HSH.out _).mono ?_); rintro e w2 ⟨rfl, hb2⟩; clear HSH))
          | (go_at_call 53; ((with_reducible refine (refnear_calls u 1 42 hu.1 hu.2 (by omega) (by omega) (by omega) (by omega) _).mono ?_); rintro e w3 ⟨rfl, hb3⟩; have hv1 := md_ok u 1 42))
          | (go_at_call 53; ((with_reducible refine (HSH'.out _).mono ?_); rintro e w4 ⟨rfl, hb4⟩))
          | (go_at_call 53; ((with_reducible refine (refnear_calls v 1 30 hv.1 hv.2 (by omega) (by omega) (by omega) (by omega) _).mono ?_); rintro e w5 ⟨rfl, hb5⟩; have hv2 := md_ok v 1 30)))
        go_roundw
        case rel => exact ⟨3, by omega, rfl, by rw [HP.out, HN.out]; rfl, by rw [HP.out, HN.out]; rfl, by rw [HQ.out, HN'.out]; rfl, by rw [HQ.out, HN'.out]; rfl, hbel.trans ((below_more hb2 (below_more hb3 (below_more hb4 hb5))).mono hbel.size)⟩
        case measure => simp [intOf]
      · go_wp2_with (first
          | (go_at_call 53; ((with_reducible refine (HSH.out _).mono ?_); rintro e w2 ⟨rfl, hb2⟩; clear HSH))
          | (go_at_call 53; ((with_reducible refine (refnear_calls u 1 72 hu.1 hu.2 (by omega) (by omega) (by omega) (by omega) _).mono ?_); rintro e w3 ⟨rfl, hb3⟩; have hv1 := md_ok u 1 72))
          | (go_at_call 53; ((with_reducible refine (HSH'.out _).mono ?_); rintro e w4 ⟨rfl, hb4⟩))
          | (go_at_call 53; ((with_reducible refine (refnear_calls v 1 56 hv.1 hv.2 (by omega) (by omega) (by omega) (by omega) _).mono ?_); rintro e w5 ⟨rfl, hb5⟩; have hv2 := md_ok v 1 56)))
        go_roundw
        case rel => exact ⟨4, by omega, rfl, by rw [HP.out, HN.out]; rfl, by rw [HP.out, HN.out]; rfl, by rw [HQ.out, HN'.out]; rfl, by rw [HQ.out, HN'.out]; rfl, hbel.trans ((below_more hb2 (below_more hb3 (below_more hb4 hb5))).mono hbel.size)⟩
        case measure => simp [intOf]
      · go_wp2_with (first
          | (go_at_call 53; ((with_reducible refine (HSH.out _).mono ?_); rintro e w2 ⟨rfl, hb2⟩; clear HSH))
          | (go_at_call 53; ((with_reducible refine (refnear_calls u 1 110 hu.1 hu.2 (by omega) (by omega) (by omega) (by omega) _).mono ?_); rintro e w3 ⟨rfl, hb3⟩; have hv1 := md_ok u 1 110))
          | (go_at_call 53; ((with_reducible refine (HSH'.out _).mono ?_); rintro e w4 ⟨rfl, hb4⟩))
          | (go_at_call 53; ((with_reducible refine (refnear_calls v 1 90 hv.1 hv.2 (by omega) (by omega) (by omega) (by omega) _).mono ?_); rintro e w5 ⟨rfl, hb5⟩; have hv2 := md_ok v 1 90)))
        go_roundw
        case rel => exact ⟨5, by omega, rfl, by rw [HP.out, HN.out]; rfl, by rw [HP.out, HN.out]; rfl, by rw [HQ.out, HN'.out]; rfl, by rw [HQ.out, HN'.out]; rfl, hbel.trans ((below_more hb2 (below_more hb3 (below_more hb4 hb5))).mono hbel.size)⟩
        case measure => simp [intOf]
      · go_wp2_with (first
          | (go_at_call 53; ((with_reducible refine (HSH.out _).mono ?_); rintro e w2 ⟨rfl, hb2⟩; clear HSH))
          | (go_at_call 53; ((with_reducible refine (refnear_calls u 1 156 hu.1 hu.2 (by omega) (by omega) (by omega) (by omega) _).mono ?_); rintro e w3 ⟨rfl, hb3⟩; have hv1 := md_ok u 1 156))
          | (go_at_call 53; ((with_reducible refine (HSH'.out _).mono ?_); rintro e w4 ⟨rfl, hb4⟩))
          | (go_at_call 53; ((with_reducible refine (refnear_calls v 1 132 hv.1 hv.2 (by omega) (by omega) (by omega) (by omega) _).mono ?_); rintro e w5 ⟨rfl, hb5⟩; have hv2 := md_ok v 1 132)))
        go_roundw
        case rel => exact ⟨6, by omega, rfl, by rw [HP.out, HN.out]; rfl, by rw [HP.out, HN.out]; rfl, by rw [HQ.out, HN'.out]; rfl, by rw [HQ.out, HN'.out]; rfl, hbel.trans ((below_more hb2 (below_more hb3 (below_more hb4 hb5))).mono hbel.size)⟩
        case measure => simp [intOf]
      · go_wp2_with (first
          | (go_at_call 53; ((with_reducible refine (HSH.out _).mono ?_); rintro e w2 ⟨rfl, hb2⟩; clear HSH))
          | (go_at_call 53; ((with_reducible refine (refnear_calls u 1 210 hu.1 hu.2 (by omega) (by omega) (by omega) (by omega) _).mono ?_); rintro e w3 ⟨rfl, hb3⟩; have hv1 := md_ok u 1 210))
          | (go_at_call 53; ((with_reducible refine (HSH'.out _).mono ?_); rintro e w4 ⟨rfl, hb4⟩))
          | (go_at_call 53; ((with_reducible refine (refnear_calls v 1 182 hv.1 hv.2 (by omega) (by omega) (by omega) (by omega) _).mono ?_); rintro e w5 ⟨rfl, hb5⟩; have hv2 := md_ok v 1 182)))
        go_roundw
        case rel => exact ⟨7, by omega, rfl, by rw [HP.out, HN.out]; rfl, by rw [HP.out, HN.out]; rfl, by rw [HQ.out, HN'.out]; rfl, by rw [HQ.out, HN'.out]; rfl, hbel.trans ((below_more hb2 (below_more hb3 (below_more hb4 hb5))).mono hbel.size)⟩
        case measure => simp [intOf]
      · go_wp2_with (first
          | (go_at_call 53; ((with_reducible refine (HSH.out _).mono ?_); rintro e w2 ⟨rfl, hb2⟩; clear HSH))
          | (go_at_call 53; ((with_reducible refine (refnear_calls u 1 272 hu.1 hu.2 (by omega) (by omega) (by omega) (by omega) _).mono ?_); rintro e w3 ⟨rfl, hb3⟩; have hv1 := md_ok u 1 272))
          | (go_at_call 53; ((with_reducible refine (HSH'.out _).mono ?_); rintro e w4 ⟨rfl, hb4⟩))
          | (go_at_call 53; ((with_reducible refine (refnear_calls v 1 240 hv.1 hv.2 (by omega) (by omega) (by omega) (by omega) _).mono ?_); rintro e w5 ⟨rfl, hb5⟩; have hv2 := md_ok v 1 240)))
        go_roundw
        case rel => exact ⟨8, by omega, rfl, by rw [HP.out, HN.out]; rfl, by rw [HP.out, HN.out]; rfl, by rw [HQ.out, HN'.out]; rfl, by rw [HQ.out, HN'.out]; rfl, hbel.trans ((below_more hb2 (below_more hb3 (below_more hb4 hb5))).mono hbel.size)⟩
        case measure => simp [intOf]
      · go_wp2_with (first
          | (go_at_call 53; ((with_reducible refine (HSH.out _).mono ?_); rintro e w2 ⟨rfl, hb2⟩; clear HSH))
          | (go_at_call 53; ((with_reducible refine (refnear_calls u 1 342 hu.1 hu.2 (by omega) (by omega) (by omega) (by omega) _).mono ?_); rintro e w3 ⟨rfl, hb3⟩; have hv1 := md_ok u 1 342))
          | (go_at_call 53; ((with_reducible refine (HSH'.out _).mono ?_); rintro e w4 ⟨rfl, hb4⟩))
          | (go_at_call 53; ((with_reducible refine (refnear_calls v 1 306 hv.1 hv.2 (by omega) (by omega) (by omega) (by omega) _).mono ?_); rintro e w5 ⟨rfl, hb5⟩; have hv2 := md_ok v 1 306)))
        go_roundw
        case rel => exact ⟨9, by omega, rfl, by rw [HP.out, HN.out]; rfl, by rw [HP.out, HN.out]; rfl, by rw [HQ.out, HN'.out]; rfl, by rw [HQ.out, HN'.out]; rfl, hbel.trans ((below_more hb2 (below_more hb3 (below_more hb4 hb5))).mono hbel.size)⟩
        case measure => simp [intOf]
    · obtain rfl : k = 9 := by omega
      have hsh := fun w => refnear_calls (T x z 0 9).1 1 1073741824 t1.1 t1.2 (by omega) (by omega) (by omega) (by omega) w
      have hsh' := fun w => refnear_calls (T 1152921504606846976 z (-1) 9).1 1 1073741824 t3.1 t3.2 (by omega) (by omega) (by omega) (by omega) w
      rw [md_do30] at hsh hsh'
      have HSH := Lib.hid hsh
      have HSH' := Lib.hid hsh'
      clear HTA HTB HSA HSB hsh hsh' MM SS
      go_wp2_with (first
        | (go_at_call 53; ((with_reducible refine (HSH.out _).mono ?_); rintro e w2 ⟨rfl, hb2⟩; clear HSH))
        | (go_at_call 53; ((with_reducible refine (HSH'.out _).mono ?_); rintro e w4 ⟨rfl, hb4⟩)))
      go_ret2
      exact ⟨rfl, hbel.trans ((below_more hb2 hb4).mono hbel.size)⟩

set_option maxHeartbeats 8000000 in
theorem refboth_calls (d : Int) (d0 : -9223372036854775808 ≤ d) (d1 : d ≤ 9223372036854775807) (w : World) :
    Calls Try.prog 22 #[.int .i64 d] w fun e w' => e = .returned (.tuple #[.int .i64 (bothV d).1, .int .i64 (bothV d).2]) ∧ Below w.heap.size w w' := by
  have h5 := turn_lt d
  have TT := Lib.hid (fun w => refturn_calls d d0 d1 w)
  unfold bothV
  have e2 : (turn d).tmod 5898240 = turn d % 5898240 := Int.tmod_eq_emod_of_nonneg h5.1
  have hr : 0 ≤ turn d % 5898240 ∧ turn d % 5898240 < 5898240 := by omega
  have hq : (turn d / 5898240 = 0 ∧ turn d < 5898240) ∨ (turn d / 5898240 = 1 ∧ 5898240 ≤ turn d ∧ turn d < 11796480) ∨ (turn d / 5898240 = 2 ∧ 11796480 ≤ turn d ∧ turn d < 17694720) ∨ (turn d / 5898240 = 3 ∧ 17694720 ≤ turn d) := by omega
  have hS := fun w => refseries_calls (turn d % 5898240) (by omega) (by omega) w
  have hS' := fun w => refseries_calls (5898240 - turn d % 5898240) (by omega) (by omega) w
  unfold restV
  generalize turn d % 5898240 = r at *
  generalize turn d / 5898240 = q at *
  generalize turn d = t at *
  generalize serV r = p at *
  generalize serV (5898240 - r) = p' at *
  have SS := Lib.hid hS
  have SS' := Lib.hid hS'
  clear hS hS'
  by_cases h : 2949120 < r
  · simp only [if_pos h]
    rcases hq with ⟨rfl, hq⟩ | ⟨rfl, hq⟩ | ⟨rfl, hq⟩ | ⟨rfl, hq⟩
    all_goals
      simp only [if_true, if_false, reduceIte, Int.reduceEq]
      go_enter Try.func22, Try.ntmps22
      go_wp2_with (first
        | (go_at_call 26; ((with_reducible refine (TT.out _).mono ?_); rintro e w1 ⟨rfl, hb1⟩))
        | (go_at_call 43; ((with_reducible refine (SS'.out _).mono ?_); rintro e w2 ⟨rfl, hb2⟩)))
      go_ret2
      exact ⟨by simp, below_more hb1 hb2⟩
  · simp only [if_neg h]
    rcases hq with ⟨rfl, hq⟩ | ⟨rfl, hq⟩ | ⟨rfl, hq⟩ | ⟨rfl, hq⟩
    all_goals
      simp only [if_true, if_false, reduceIte, Int.reduceEq]
      go_enter Try.func22, Try.ntmps22
      go_wp2_with (first
        | (go_at_call 26; ((with_reducible refine (TT.out _).mono ?_); rintro e w1 ⟨rfl, hb1⟩))
        | (go_at_call 43; ((with_reducible refine (SS.out _).mono ?_); rintro e w2 ⟨rfl, hb2⟩)))
      go_ret2
      exact ⟨by simp, below_more hb1 hb2⟩

set_option maxHeartbeats 4000000 in
theorem boths_calls (d : Int) (d0 : -9223372036854775808 ≤ d) (d1 : d ≤ 9223372036854775807) (w : World) :
    Calls Try.prog 8 #[.int .i64 d] w fun e w' => e = .returned (.bool true) ∧ Below w.heap.size w w' := by
  have BB := Lib.hid (fun w => both_calls d d0 d1 w)
  have RR := Lib.hid (fun w => refboth_calls d d0 d1 w)
  have SS := Lib.hid (fun w => sin_calls d d0 d1 w)
  have CC := Lib.hid (fun w => cos_calls d d0 d1 w)
  generalize bothV d = p at *
  have q1 : (p.1 == p.1) = true := by simp
  have q2 : (p.2 == p.2) = true := by simp
  go_enter Try.func8, Try.ntmps8
  go_wp2_with (first
    | (go_at_call 20; ((with_reducible refine (wakes03_calls _).mono ?_); rintro e w1 ⟨rfl, hb1⟩))
    | (go_at_call 21; ((with_reducible refine (BB.out _).mono ?_); rintro e w2 ⟨rfl, hb2⟩))
    | (go_at_call 22; ((with_reducible refine (RR.out _).mono ?_); rintro e w3 ⟨rfl, hb3⟩))
    | (go_at_call 23; ((with_reducible refine (SS.out _).mono ?_); rintro e w4 ⟨rfl, hb4⟩))
    | (go_at_call 24; ((with_reducible refine (CC.out _).mono ?_); rintro e w5 ⟨rfl, hb5⟩)))
  all_goals
    go_ret
    exact ⟨rfl, below_more hb1 (below_more hb2 (below_more hb3 (below_more hb4 hb5)))⟩
end Go.Proofs.Ytngnkgnobgfjeaa.Trig
