/- Package wide's MulDiv as one contract, and Dot and MulShift, walked: the nearest whole number, of two the greater one, if it is one of 64 bits. For all arguments. -/
import Derived.Test.YtngnkgnobgfjeaaDoorWideE
import Derived.Test.YtngnkgnobgfjeaaDoorWideF
namespace Go.Proofs.YtngnkgnobgfjeaaDoor.Wide
open Go Go.RowKit
set_option maxRecDepth 100000
set_option linter.unusedVariables false
set_option linter.unusedSimpArgs false

/-- What the divided size of the product is, for either sign of the divisor. -/
theorem div_words {M d q r : Int} (d0 : 1 ≤ d) (d1 : d ≤ 9223372036854775808) (m0 : 0 ≤ M) (hlt : M < d * 18446744073709551616) (hq : M / d = q) (hr : M % d = r) :
    (0 ≤ q ∧ q ≤ 18446744073709551615 ∧ 0 ≤ r ∧ r < d) ∧ ∀ nh nl, Big M nh nl → ∀ w, Calls Tryd.prog 18 #[.int .u64 nh, .int .u64 nl, .int .u64 d] w fun e w' => e = .returned (.tuple #[.int .u64 q, .int .u64 r]) ∧ Below w.heap.size w w' := by
  constructor
  · subst hq hr
    refine ⟨Int.ediv_nonneg m0 (by omega), ?_, Int.emod_nonneg _ (by omega), Int.emod_lt_of_pos _ (by omega)⟩
    have : M / d < 18446744073709551616 := Int.ediv_lt_of_lt_mul (by omega) (by rw [Int.mul_comm]; exact hlt)
    omega
  · intro nh nl B w
    have hN := B.unsigned m0 (by omega)
    have b1 := B.l0
    have b0 := B.h0
    refine (div64_calls nh nl d b0 (by omega) (by omega) b1 B.l1 w).mono ?_
    rintro e w' ⟨rfl, n, rfl⟩
    rw [hN, hq, hr]
    exact ⟨rfl, drewN_below _ _⟩

/-- The ways through MulDiv, put together: P the product with the divisor's sign taken in, d its size. -/
theorem near_big {P d M : Int} (d0 : 1 ≤ d) (hM : M = if P < 0 then -P else P) (hbig : d * 18446744073709551616 ≤ M) : ¬ (-9223372036854775808 ≤ near P d ∧ near P d ≤ 9223372036854775807) := by
  unfold near
  intro ⟨h1, h2⟩
  by_cases hp : P < 0
  · rw [if_pos hp] at hM
    have h3 := Int.mul_le_of_le_ediv (show 0 < 2 * d by omega) h1
    have h4 : -9223372036854775808 * (2 * d) = -18446744073709551616 * d := by omega
    omega
  · rw [if_neg hp] at hM
    have h3 : (2 * P + d) / (2 * d) < 9223372036854775808 := by omega
    have h4 := Int.lt_mul_of_ediv_lt (show 0 < 2 * d by omega) h3
    omega

theorem muldiv_calls (a b c : Int) (a0 : -9223372036854775808 ≤ a) (a1 : a ≤ 9223372036854775807) (b0 : -9223372036854775808 ≤ b) (b1 : b ≤ 9223372036854775807) (c0 : -9223372036854775808 ≤ c) (c1 : c ≤ 9223372036854775807) (w : World) :
    Calls Tryd.prog 7 #[.int .i64 a, .int .i64 b, .int .i64 c] w fun e w' => e = .returned (.tuple #[.int .i64 (mulDivV a b c), .bool (mulDivB a b c)]) ∧ Below w.heap.size w w' := by
  by_cases hz : c = 0
  · subst hz
    exact muldiv_zero a b w
  · have h0 : (c == 0) = false := by simpa using hz
    unfold mulDivV mulDivB
    rw [if_neg hz, if_neg hz]
    have T := fun w => times_calls a b a0 a1 b0 b1 w
    have O := fun w => of_calls c w
    have C := Big.of c0 c1
    have S := fun w => size_calls C (by omega) (by omega) w
    obtain ⟨p0, p1⟩ := prod_bound a0 a1 b0 b1
    by_cases hc : c < 0
    · rw [if_pos hc, if_pos hc]
      rw [if_pos hc] at S
      obtain ⟨P, hP⟩ : ∃ P, P = -(a * b) := ⟨_, rfl⟩
      obtain ⟨d, hd⟩ : ∃ d, d = -c := ⟨_, rfl⟩
      rw [show a * b = -P by omega] at T
      rw [← hP, ← hd]
      rw [← hd] at S
      obtain ⟨M, hM⟩ : ∃ M, M = if P < 0 then -P else P := ⟨_, rfl⟩
      have m0 : 0 ≤ M ∧ M ≤ 85070591730234615865843651857942052864 := by rw [hM]; split <;> omega
      have SP : ∀ ph pl, Big (- -P) ph pl → ∀ w, Calls Tryd.prog 17 #[.agg #[.int .u64 ph, .int .u64 pl]] w (GivesBig M w) := by
        intro ph pl B w
        rw [Int.neg_neg] at B
        have := size_calls B (by omega) (by omega) w
        rwa [← hM] at this
      have BL : ∀ ph pl, Big (- -P) ph pl → ∀ w, Calls Tryd.prog 19 #[.agg #[.int .u64 ph, .int .u64 pl]] w fun e w' => e = .returned (.bool (decide (P < 0))) ∧ Below w.heap.size w w' := by
        intro ph pl B w
        rw [Int.neg_neg] at B
        exact below_calls B (by omega) (by omega) w
      by_cases hbig : d * 18446744073709551616 ≤ M
      · obtain ⟨v1, v2⟩ := fit_no (near_big (by omega) hM hbig)
        rw [v1, v2]
        exact md_neg_big a b c P M 0 0 d w h0 (by omega) T O S (by omega) (by omega) SP m0.1 m0.2 hbig
      · obtain ⟨q, hq⟩ : ∃ q, M / d = q := ⟨_, rfl⟩
        obtain ⟨r, hr⟩ : ∃ r, M % d = r := ⟨_, rfl⟩
        obtain ⟨⟨q0, q1, r0, r1⟩, DV⟩ := div_words (by omega) (by omega) m0.1 (by omega) hq hr
        have hn := near_qr (by omega) hM hq hr
        by_cases hp : P < 0
        · rw [if_pos hp] at hn
          rw [decide_eq_true hp] at BL
          by_cases h1 : d < 2 * r
          · rw [if_pos h1] at hn; rw [hn]
            exact md_neg_am a b c P M q r d w h0 (by omega) T O S (by omega) (by omega) SP m0.1 m0.2 (by omega) DV q0 q1 r0 r1 BL h1
          · rw [if_neg h1, Int.add_zero] at hn; rw [hn]
            by_cases h2 : 2 * r < d
            · exact md_neg_cm a b c P M q r d w h0 (by omega) T O S (by omega) (by omega) SP m0.1 m0.2 (by omega) DV q0 q1 r0 r1 BL (by simp; omega) h2
            · exact md_neg_bm a b c P M q r d w h0 (by omega) T O S (by omega) (by omega) SP m0.1 m0.2 (by omega) DV q0 q1 r0 r1 BL (by simp; omega) (by omega) (by omega)
        · rw [if_neg hp] at hn
          rw [decide_eq_false hp] at BL
          by_cases h1 : d ≤ 2 * r
          · rw [if_pos h1] at hn; rw [hn]
            by_cases h2 : d < 2 * r
            · exact md_neg_ap a b c P M q r d w h0 (by omega) T O S (by omega) (by omega) SP m0.1 m0.2 (by omega) DV q0 q1 r0 r1 BL h2
            · exact md_neg_bp a b c P M q r d w h0 (by omega) T O S (by omega) (by omega) SP m0.1 m0.2 (by omega) DV q0 q1 r0 r1 BL (by simp; omega) (by omega) (by omega)
          · rw [if_neg h1, Int.add_zero] at hn; rw [hn]
            exact md_neg_cp a b c P M q r d w h0 (by omega) T O S (by omega) (by omega) SP m0.1 m0.2 (by omega) DV q0 q1 r0 r1 BL (by simp; omega) (by omega)
    · rw [if_neg hc, if_neg hc]
      rw [if_neg hc] at S
      obtain ⟨P, hP⟩ : ∃ P, P = a * b := ⟨_, rfl⟩
      rw [← hP] at T p0 p1 ⊢
      obtain ⟨M, hM⟩ : ∃ M, M = if P < 0 then -P else P := ⟨_, rfl⟩
      have m0 : 0 ≤ M ∧ M ≤ 85070591730234615865843651857942052864 := by rw [hM]; split <;> omega
      have SP : ∀ ph pl, Big P ph pl → ∀ w, Calls Tryd.prog 17 #[.agg #[.int .u64 ph, .int .u64 pl]] w (GivesBig M w) := by
        intro ph pl B w
        have := size_calls B (by omega) (by omega) w
        rwa [← hM] at this
      have BL : ∀ ph pl, Big P ph pl → ∀ w, Calls Tryd.prog 19 #[.agg #[.int .u64 ph, .int .u64 pl]] w fun e w' => e = .returned (.bool (decide (P < 0))) ∧ Below w.heap.size w w' := by
        intro ph pl B w
        exact below_calls B (by omega) (by omega) w
      by_cases hbig : c * 18446744073709551616 ≤ M
      · obtain ⟨v1, v2⟩ := fit_no (near_big (by omega) hM hbig)
        rw [v1, v2]
        exact md_pos_big a b c P M 0 0 c w h0 (by omega) T O S (by omega) (by omega) SP m0.1 m0.2 hbig
      · obtain ⟨q, hq⟩ : ∃ q, M / c = q := ⟨_, rfl⟩
        obtain ⟨r, hr⟩ : ∃ r, M % c = r := ⟨_, rfl⟩
        obtain ⟨⟨q0, q1, r0, r1⟩, DV⟩ := div_words (by omega) (by omega) m0.1 (by omega) hq hr
        have hn := near_qr (by omega) hM hq hr
        by_cases hp : P < 0
        · rw [if_pos hp] at hn
          rw [decide_eq_true hp] at BL
          by_cases h1 : c < 2 * r
          · rw [if_pos h1] at hn; rw [hn]
            exact md_pos_am a b c P M q r c w h0 (by omega) T O S (by omega) (by omega) SP m0.1 m0.2 (by omega) DV q0 q1 r0 r1 BL h1
          · rw [if_neg h1, Int.add_zero] at hn; rw [hn]
            by_cases h2 : 2 * r < c
            · exact md_pos_cm a b c P M q r c w h0 (by omega) T O S (by omega) (by omega) SP m0.1 m0.2 (by omega) DV q0 q1 r0 r1 BL (by simp; omega) h2
            · exact md_pos_bm a b c P M q r c w h0 (by omega) T O S (by omega) (by omega) SP m0.1 m0.2 (by omega) DV q0 q1 r0 r1 BL (by simp; omega) (by omega) (by omega)
        · rw [if_neg hp] at hn
          rw [decide_eq_false hp] at BL
          by_cases h1 : c ≤ 2 * r
          · rw [if_pos h1] at hn; rw [hn]
            by_cases h2 : c < 2 * r
            · exact md_pos_ap a b c P M q r c w h0 (by omega) T O S (by omega) (by omega) SP m0.1 m0.2 (by omega) DV q0 q1 r0 r1 BL h2
            · exact md_pos_bp a b c P M q r c w h0 (by omega) T O S (by omega) (by omega) SP m0.1 m0.2 (by omega) DV q0 q1 r0 r1 BL (by simp; omega) (by omega) (by omega)
          · rw [if_neg h1, Int.add_zero] at hn; rw [hn]
            exact md_pos_cp a b c P M q r c w h0 (by omega) T O S (by omega) (by omega) SP m0.1 m0.2 (by omega) DV q0 q1 r0 r1 BL (by simp; omega) (by omega)
end Go.Proofs.YtngnkgnobgfjeaaDoor.Wide
