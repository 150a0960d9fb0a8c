/- The statement RootHypots, walked. -/
import Derived.Test.YtdhhkabihmdbnaaRootV
import Derived.Test.YtdhhkabihmdbnaaRef4
import Derived.Test.YtdhhkabihmdbnaaRef5
namespace Go.Proofs.Ytdhhkabihmdbnaa.Root
open Go Go.RowKit
set_option maxRecDepth 100000
set_option linter.unusedVariables false
set_option linter.unusedSimpArgs false

theorem hypot_calls (x y R : Int) (x0 : -9223372036854775808 ≤ x) (x1 : x ≤ 9223372036854775807) (y0 : -9223372036854775808 ≤ y) (y1 : y ≤ 9223372036854775807) (hR : IsRoot (x * x + y * y) R) (w : World) :
    Calls Try.prog 28 #[.int .i64 x, .int .i64 y] w fun e w' => e = .returned (.int .u64 R) ∧ Below w.heap.size w w' := by
  obtain ⟨p0, p1⟩ := sq_i64 x0 x1
  obtain ⟨q0, q1⟩ := sq_i64 y0 y1
  refine hypot_of x y x0 x1 y0 y1 R w fun w => ?_
  generalize x * x = p at *
  generalize y * y = q at *
  exact wide_any (p + q) _ _ R (by omega) (by omega) (by omega) (by omega) (by omega) hR w

set_option maxHeartbeats 4000000 in
theorem roothypots_calls (x y : Int) (x0 : -9223372036854775808 ≤ x) (x1 : x ≤ 9223372036854775807) (y0 : -9223372036854775808 ≤ y) (y1 : y ≤ 9223372036854775807) (w : World) : Calls Try.prog 7 #[.int .i64 x, .int .i64 y] w fun e w' => e = .returned (.bool true) ∧ Below w.heap.size w w' := by
  have WK := Lib.hid wakes02_calls
  obtain ⟨p0, p1⟩ := sq_i64 x0 x1
  obtain ⟨q0, q1⟩ := sq_i64 y0 y1
  obtain ⟨V, hV⟩ : ∃ V, V = x * x + y * y := ⟨_, rfl⟩
  have V0 : 0 ≤ V := by omega
  have V1 : V < 340282366920938463463374607431768211456 := by omega
  have hI := isRoot_of V0 V1
  have HA := Lib.hid (fun w => hypot_calls x y (rootL V 0 64) x0 x1 y0 y1 (hV ▸ hI) w)
  have HB := Lib.hid (fun w => hypot_calls y x (rootL V 0 64) y0 y1 x0 x1 (by rw [Int.add_comm, ← hV]; exact hI) w)
  have HC := Lib.hid (fun (h : ¬ x = -9223372036854775808) w => hypot_calls (-x) y (rootL V 0 64) (by omega) (by omega) y0 y1 (by rw [Int.neg_mul_neg, ← hV]; exact hI) w)
  have SQ := Lib.hid (fun w => Ref.squares2_calls x y x0 x1 y0 y1 w)
  rw [← hV] at SQ
  have RR := Lib.hid (fun s A ps ca hs w hA ha => Ref.root2_calls s A ps ca V hs V1 w hA ha)
  generalize rootL V 0 64 = R at *
  clear hV hI p0 p1 q0 q1
  have hB := Below.refl w.heap.size w
  by_cases hx : x = -9223372036854775808
  · have hx2 : (x == -9223372036854775808) = true := by simp [hx]
    clear hx HC
    go_enter Try.func7, Try.ntmps7
    go_wp2_with (first
      | ((go_at_call 23; ((with_reducible refine (WK.out _).mono ?_); rintro e w1 ⟨rfl, hb1⟩)); replace hB := hB.trans (hb1.mono hB.size))
      | ((go_at_call 28; ((with_reducible refine (HA.out _).mono ?_); rintro e w2 ⟨rfl, hb2⟩)); replace hB := hB.trans (hb2.mono hB.size))
      | (go_at_call 29; ((with_reducible refine (SQ.out _).mono ?_); rintro e w3 h; obtain ⟨r3, C3, d3, c3, rfl, o3, e3⟩ := h.pos V0; replace hB := hB.trans (o3.bel.mono hB.size)))
      | (go_at_call 26; ((with_reducible refine (RR.out _ _ _ _ e3 _ o3.row o3.says).mono ?_); rintro e w4 ⟨rfl, hb4⟩; replace hB := hB.trans (hb4.mono hB.size)))
      | ((go_at_call 28; ((with_reducible refine (HB.out _).mono ?_); rintro e w5 ⟨rfl, hb5⟩)); replace hB := hB.trans (hb5.mono hB.size)))
    all_goals
      go_ret
      exact ⟨by simp, hB⟩
  · have HD := Lib.hid (HC.out hx)
    have hx2 : (x == -9223372036854775808) = false := by simp [hx]
    clear HC
    go_enter Try.func7, Try.ntmps7
    go_wp2_with (first
      | ((go_at_call 23; ((with_reducible refine (WK.out _).mono ?_); rintro e w1 ⟨rfl, hb1⟩)); replace hB := hB.trans (hb1.mono hB.size))
      | ((go_at_call 28; ((with_reducible refine (HA.out _).mono ?_); rintro e w2 ⟨rfl, hb2⟩)); replace hB := hB.trans (hb2.mono hB.size))
      | (go_at_call 29; ((with_reducible refine (SQ.out _).mono ?_); rintro e w3 h; obtain ⟨r3, C3, d3, c3, rfl, o3, e3⟩ := h.pos V0; replace hB := hB.trans (o3.bel.mono hB.size)))
      | (go_at_call 26; ((with_reducible refine (RR.out _ _ _ _ e3 _ o3.row o3.says).mono ?_); rintro e w4 ⟨rfl, hb4⟩; replace hB := hB.trans (hb4.mono hB.size)))
      | ((go_at_call 28; ((with_reducible refine (HB.out _).mono ?_); rintro e w5 ⟨rfl, hb5⟩)); replace hB := hB.trans (hb5.mono hB.size))
      | ((go_at_call 28; ((with_reducible refine (HD.out _).mono ?_); rintro e w6 ⟨rfl, hb6⟩)); replace hB := hB.trans (hb6.mono hB.size)))
    all_goals
      go_ret
      exact ⟨by simp, hB⟩
end Go.Proofs.Ytdhhkabihmdbnaa.Root
