/- Package root's Wide, for every number of two words, and the statement RootRises, walked. -/
import Derived.Test.YtdhhkabihmdbnaaRootW
namespace Go.Proofs.Ytdhhkabihmdbnaa.Root
open Go Go.RowKit
set_option maxRecDepth 100000
set_option linter.unusedVariables false
set_option linter.unusedSimpArgs false

theorem wide_any (V hi lo R : Int) (e : V = hi * 18446744073709551616 + lo) (h0 : 0 ≤ hi) (h1 : hi ≤ 18446744073709551615) (l0 : 0 ≤ lo) (l1 : lo ≤ 18446744073709551615) (hR : IsRoot V R) (w : World) :
    Calls Try.prog 25 #[.int .u64 hi, .int .u64 lo] w fun e w' => e = .returned (.int .u64 R) ∧ Below w.heap.size w w' := by
  subst e
  by_cases h : 1 ≤ hi
  · exact wide_calls hi lo R h h1 l0 l1 hR w
  · obtain rfl : hi = 0 := by omega
    have : R = rootF lo := hR.only (by rw [show (0 : Int) * 18446744073709551616 + lo = lo by omega]; exact isRoot_floor l0 (by omega))
    subst this
    exact wide0_calls lo l0 (by omega) w

set_option maxHeartbeats 4000000 in
theorem rootrises_calls (a b : Int) (a0 : 0 ≤ a) (a1 : a ≤ 18446744073709551615) (b0 : 0 ≤ b) (b1 : b ≤ 18446744073709551615) (w : World) : Calls Try.prog 9 #[.int .u64 a, .int .u64 b] w fun e w' => e = .returned (.bool true) ∧ Below w.heap.size w w' := by
  have WK := Lib.hid wakes02_calls
  obtain ⟨p, q, hp0, hp1, hq0, hq1, hpq, hc⟩ : ∃ p q : Int, 0 ≤ p ∧ p ≤ 18446744073709551615 ∧ 0 ≤ q ∧ q ≤ 18446744073709551615 ∧ p ≤ q ∧ ((a ≤ b ∧ p = a ∧ q = b) ∨ (b < a ∧ p = b ∧ q = a)) := by
    by_cases h : a ≤ b
    · exact ⟨a, b, a0, a1, b0, b1, h, .inl ⟨h, rfl, rfl⟩⟩
    · exact ⟨b, a, b0, b1, a0, a1, by omega, .inr ⟨by omega, rfl, rfl⟩⟩
  have FP := Lib.hid (fun w => floor_calls p hp0 (by omega) w)
  have FQ := Lib.hid (fun w => floor_calls q hq0 (by omega) w)
  have iP := isRoot_floor hp0 (by omega)
  have iQ := isRoot_floor hq0 (by omega)
  have hl := iP.rise iQ hpq
  have iS := isRoot_of (N := 4 * p) (by omega) (by omega)
  have hf := iP.four iS
  have hr1 := (rootF_spec hp0 (by omega)).2.2.2
  have hr0 := iP.r0
  have FW := Lib.hid (fun w => wide_any (4 * p) (p / 4611686018427387904) (IntKind.u64.wrap (p * 4)) (rootL (4 * p) 0 64) (by rw [Num.wrap_u64]; omega) (by omega) (by omega) (by rw [Num.wrap_u64]; omega) (by rw [Num.wrap_u64]; omega) iS w)
  generalize rootL (4 * p) 0 64 = s at *
  generalize rootF p = r at *
  generalize rootF q = t at *
  clear iP iQ iS
  rcases hc with ⟨hc, rfl, rfl⟩ | ⟨hc, rfl, rfl⟩
  all_goals
    have hB := Below.refl w.heap.size w
    go_enter Try.func9, Try.ntmps9
    go_wp2_with (first
      | ((go_at_call 23; ((with_reducible refine (WK.out _).mono ?_); rintro e w1 ⟨rfl, hb1⟩)); replace hB := hB.trans (hb1.mono hB.size))
      | ((go_at_call 24; ((with_reducible refine (FP.out _).mono ?_); rintro e w2 ⟨rfl, hb2⟩)); replace hB := hB.trans (hb2.mono hB.size))
      | ((go_at_call 24; ((with_reducible refine (FQ.out _).mono ?_); rintro e w3 ⟨rfl, hb3⟩)); replace hB := hB.trans (hb3.mono hB.size))
      | ((go_at_call 25; ((with_reducible refine (FW.out _).mono ?_); rintro e w4 ⟨rfl, hb4⟩)); replace hB := hB.trans (hb4.mono hB.size)))
    all_goals
      go_ret
      exact ⟨by simp; try omega, hB⟩
end Go.Proofs.Ytdhhkabihmdbnaa.Root
