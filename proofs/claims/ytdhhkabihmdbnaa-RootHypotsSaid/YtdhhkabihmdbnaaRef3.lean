/- Package ref02, walked: Wide. For all arguments. -/
import Derived.Test.YtdhhkabihmdbnaaRef2
import Derived.Test.YtdhhkabihmdbnaaRootN
namespace Go.Proofs.Ytdhhkabihmdbnaa.Ref
open Go Go.RowKit Open
set_option maxRecDepth 100000
set_option linter.unusedVariables false
set_option linter.unusedSimpArgs false

theorem Num0.pos {w w' : World} {z : Int} {e : Ending} (h : Num0 w z e w') (h0 : 0 ≤ z) : ∃ r C cs cc, e = .returned (.agg #[.bool r, .slice C cs.length cc]) ∧ Out w w' C cs z ∧ sg r z = z := by
  obtain ⟨r, C, cs, cc, n, rfl, o, e⟩ := h
  have n0 := o.says.nonneg
  cases r
  · rw [sg_false] at e
    subst e
    exact ⟨_, C, cs, cc, rfl, o, rfl⟩
  · rw [sg_true] at e
    obtain rfl : n = 0 := by omega
    obtain rfl : z = 0 := by omega
    exact ⟨_, C, cs, cc, rfl, o, by simp [sg]⟩

set_option maxHeartbeats 4000000 in
theorem wide2_calls (hi lo : Int) (h0 : 0 ≤ hi) (h1 : hi < 18446744073709551616) (l0 : 0 ≤ lo) (l1 : lo < 18446744073709551616) (w : World) : Calls Try.prog 27 #[.int .u64 hi, .int .u64 lo] w (Num0 w (hi * 18446744073709551616 + lo)) := by
  have OA := Lib.hid (of2_calls hi h0 h1)
  have OB := Lib.hid (of2_calls lo l0 l1)
  have p4 := pw4_val
  have p8 := pw8_val
  have p5 : pw 5 = 1208925819614629174706176 := by decide
  have hm : 0 ≤ hi * 18446744073709551616 ∧ hi * 18446744073709551616 ≤ 340282366920938463463374607431768211455 := by omega
  have e64 : (2 : Int) ^ 64 = 18446744073709551616 := by decide
  have PP : Hid (∀ w, Calls Try.prog 42 #[.int .i64 64] w (Num0 w 18446744073709551616)) := Lib.hid fun w => by have := power_calls 64 (by decide) w; rw [e64] at this; exact this
  go_enter Try.func27, Try.ntmps27
  go_wp2_with (first
    | (go_at_call 38; ((with_reducible refine (OA.out _).mono ?_); rintro e w1 ⟨r1, C1, d1, x1, n1, rfl, o1, e1⟩; clear OA; have g1 := sg_len (M := 18446744073709551615) (m := 4) o1 e1 (by omega) (by omega)))
    | (go_at_call 42; ((with_reducible refine (PP.out _).mono ?_); rintro e w2 ⟨r2, C2, d2, x2, n2, rfl, o2, e2⟩; clear PP; have g2 := sg_len (M := 18446744073709551616) (m := 5) o2 e2 (by omega) (by omega); have y1 := o1.row.below o2.bel))
    | (go_at_call 40; ((with_reducible refine (mul_num y1 o2.row o1.says o2.says (by omega) (by omega) e1 e2).mono ?_); rintro e w3 ⟨r3, C3, d3, x3, n3, rfl, o3, e3⟩; have g3 := sg_len (M := 340282366920938463463374607431768211455) (m := 8) o3 e3 (by omega) (by omega)))
    | (go_at_call 38; ((with_reducible refine (OB.out _).mono ?_); rintro e w4 ⟨r4, C4, d4, x4, n4, rfl, o4, e4⟩; clear OB; have g4 := sg_len (M := 18446744073709551615) (m := 4) o4 e4 (by omega) (by omega); have y3 := o3.row.below o4.bel))
    | (go_at_call 41; ((with_reducible refine (add_num y3 o4.row o3.says o4.says (by omega) (by omega) e3 e4).mono ?_); rintro e w5 ⟨r5, C5, d5, x5, n5, rfl, o5, e5⟩; have hO : Out (w.alloc (.cells #[.bool false, .slice none 0 0] 60)) w5 C5 d5 n5 := ⟨o5.row, o5.says, below_more o1.bel (below_more o2.bel (below_more o3.bel (below_more o4.bel o5.bel))), fun a ha => Nat.le_trans (below_more o1.bel (below_more o2.bel (below_more o3.bel o4.bel))).size (o5.new a ha)⟩; obtain ⟨hc, hf⟩ := bcell hO.bel; have k0 := (hc w.heap.size 0 (by simp)).trans (show _ = some (Value.bool false) by simp [go_sem]); have k1 := (hc w.heap.size 1 (by simp)).trans (show _ = some (Value.slice none 0 0) by simp [go_sem]); have k2 := (hf w.heap.size 0 (by simp)).trans (show _ = false by simp [go_sem]); have k3 := (hf w.heap.size 1 (by simp)).trans (show _ = false by simp [go_sem]))))
  refine bodyPost_ret (v := .agg #[.bool r5, .slice C5 d5.length x5]) (by simp [results, Try.results27, go_sem, k0, k1]) rfl ⟨r5, C5, d5, x5, n5, rfl, ?_, e5⟩
  exact Out.store (X := (w.alloc (.cells #[.bool false, .slice none 0 0] 60))) hO (below_a1 _ _) (Nat.le_refl _) (by simp) _ _

end Go.Proofs.Ytdhhkabihmdbnaa.Ref
