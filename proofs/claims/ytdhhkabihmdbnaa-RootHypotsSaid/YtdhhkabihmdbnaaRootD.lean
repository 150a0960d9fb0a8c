/- Package root's square and Hypot, walked, and the examples of law02. For all numbers. -/
import Derived.Test.YtdhhkabihmdbnaaRootC
import Derived.Test.YtdhhkabihmdbnaaShelf
import Derived.Laws.Externs
namespace Go.Proofs.Ytdhhkabihmdbnaa.Root
open Go Go.RowKit
set_option maxRecDepth 100000
set_option linter.unusedVariables false
set_option linter.unusedSimpArgs false

theorem mul64_calls (x y : Int) (x0 : 0 ≤ x) (x1 : x ≤ 18446744073709551615) (y0 : 0 ≤ y) (y1 : y ≤ 18446744073709551615) (w : World) :
    Calls Try.prog 52 #[.int .u64 x, .int .u64 y] w fun e w' => e = .returned (.tuple #[.int .u64 (x * y / 18446744073709551616), .int .u64 (x * y % 18446744073709551616)]) ∧ w = w' := by
  obtain ⟨X, rfl⟩ := Int.eq_ofNat_of_zero_le x0
  obtain ⟨Y, rfl⟩ := Int.eq_ofNat_of_zero_le y0
  refine (Try.bits_Mul64 X Y (by omega) (by omega) w).mono ?_
  rintro e w' ⟨rfl, rfl⟩
  exact ⟨by simp, rfl⟩
theorem add64_law (x y c : Int) (hx : 0 ≤ x) (hy : 0 ≤ y) (hc0 : 0 ≤ c) (hc : c ≤ 1) (w : World) :
    (callFunc 44 #[.int .u64 x, .int .u64 y, .int .u64 c]).run Try.prog w =
      .ok (.value (.tuple #[.int .u64 ((x + y + c) % 18446744073709551616), .int .u64 ((x + y + c) / 18446744073709551616)])) w := by
  rw [run_callFunc_extern (f := 44) (fn := Try.f44) (by kernel_rfl) (by kernel_rfl) (by kernel_rfl) (by kernel_rfl) (e := add64Entry) (by kernel_rfl), run_add64 x y c hx hy hc0 hc]
  rfl

set_option maxHeartbeats 4000000 in
theorem square_calls (a : Int) (a0 : -9223372036854775808 ≤ a) (a1 : a ≤ 9223372036854775807) (w : World) :
    Calls Try.prog 43 #[.int .i64 a] w fun e w' => e = .returned (.tuple #[.int .u64 (a * a / 18446744073709551616), .int .u64 (a * a % 18446744073709551616)]) ∧ w = w' := by
  by_cases h : a < 0
  · have M := Lib.hid (fun w => by have := mul64_calls (-a) (-a) (by omega) (by omega) (by omega) (by omega) w; rw [Int.neg_mul_neg] at this; exact this)
    have e1 : a % 18446744073709551616 = a + 18446744073709551616 := by omega
    have e2 : IntKind.u64.wrap a = a + 18446744073709551616 := by rw [Num.wrap_u64]; omega
    have e3 : IntKind.u64.wrap (-(a + 18446744073709551616)) = -a := by rw [Num.wrap_u64]; omega
    have e4 : (-(a + 18446744073709551616)) % 18446744073709551616 = -a := by omega
    go_enter Try.func43, Try.ntmps43
    go_wp2_with (go_at_call 52; ((with_reducible refine (M.out _).mono ?_); rintro e w1 ⟨rfl, rfl⟩))
    go_ret2
    exact ⟨rfl, rfl⟩
  · have M := Lib.hid (fun w => mul64_calls a a (by omega) (by omega) (by omega) (by omega) w)
    have h' : 0 ≤ a := by omega
    clear h a0
    go_enter Try.func43, Try.ntmps43
    go_wp2_with (go_at_call 52; ((with_reducible refine (M.out _).mono ?_); rintro e w1 ⟨rfl, rfl⟩))
    go_ret2
    exact ⟨rfl, rfl⟩

set_option maxHeartbeats 4000000 in
theorem wide0_calls (N : Int) (N0 : 0 ≤ N) (N1 : N < 18446744073709551616) (w : World) : Calls Try.prog 25 #[.int .u64 0, .int .u64 N] w fun e w' => e = .returned (.int .u64 (rootF N)) ∧ Below w.heap.size w w' := by
  have F := Lib.hid (fun w => floor_calls N N0 N1 w)
  go_enter Try.func25, Try.ntmps25
  go_wp2_with (go_at_call 24; ((with_reducible refine (F.out _).mono ?_); rintro e w1 ⟨rfl, hb1⟩))
  go_ret
  exact ⟨rfl, hb1⟩

/-- The sum of two squares, as two words. -/
theorem hyp_hi {p q : Int} : (p / 18446744073709551616 + q / 18446744073709551616 + (p % 18446744073709551616 + q % 18446744073709551616 + 0) / 18446744073709551616) = (p + q) / 18446744073709551616 := by omega
theorem hyp_lo {p q : Int} : (p % 18446744073709551616 + q % 18446744073709551616 + 0) % 18446744073709551616 = (p + q) % 18446744073709551616 := by omega
theorem sq_i64 {a : Int} (a0 : -9223372036854775808 ≤ a) (a1 : a ≤ 9223372036854775807) : 0 ≤ a * a ∧ a * a ≤ 85070591730234615865843651857942052864 := by
  by_cases h : a < 0
  · have := sq_le (a := -a) (b := 9223372036854775808) (by omega) (by omega)
    rw [Int.neg_mul_neg] at this
    exact ⟨by have := Int.mul_nonneg (show 0 ≤ -a by omega) (show 0 ≤ -a by omega); rwa [Int.neg_mul_neg] at this, by omega⟩
  · have := sq_le (a := a) (b := 9223372036854775808) (by omega) (by omega)
    exact ⟨Int.mul_nonneg (by omega) (by omega), by omega⟩

set_option maxHeartbeats 4000000 in
/-- Hypot: Wide of the sum's two words. -/
theorem hypot_of (x y : Int) (x0 : -9223372036854775808 ≤ x) (x1 : x ≤ 9223372036854775807) (y0 : -9223372036854775808 ≤ y) (y1 : y ≤ 9223372036854775807) (r : Int) (w : World)
    (H : ∀ w, Calls Try.prog 25 #[.int .u64 ((x * x + y * y) / 18446744073709551616), .int .u64 ((x * x + y * y) % 18446744073709551616)] w fun e w' => e = .returned (.int .u64 r) ∧ Below w.heap.size w w') :
    Calls Try.prog 28 #[.int .i64 x, .int .i64 y] w fun e w' => e = .returned (.int .u64 r) ∧ Below w.heap.size w w' := by
  have SX := Lib.hid (fun w => square_calls x x0 x1 w)
  have SY := Lib.hid (fun w => square_calls y y0 y1 w)
  have HH := Lib.hid H
  obtain ⟨p0, p1⟩ := sq_i64 x0 x1
  obtain ⟨q0, q1⟩ := sq_i64 y0 y1
  generalize x * x = p at *
  generalize y * y = q at *
  have A1 := fun w => add64_law (p % 18446744073709551616) (q % 18446744073709551616) 0 (by omega) (by omega) (by omega) (by omega) w
  have A2 := fun w => add64_law (p / 18446744073709551616) (q / 18446744073709551616) ((p % 18446744073709551616 + q % 18446744073709551616 + 0) / 18446744073709551616) (by omega) (by omega) (by omega) (by omega) w
  rw [hyp_lo] at A1
  rw [hyp_hi, show (p + q) / 18446744073709551616 % 18446744073709551616 = (p + q) / 18446744073709551616 by omega] at A2
  generalize (p % 18446744073709551616 + q % 18446744073709551616 + 0) / 18446744073709551616 = cc at A1 A2
  clear H p0 p1 q0 q1
  go_enter Try.func28, Try.ntmps28
  go_wp2_with (first
    | (go_at_call 43; ((with_reducible refine (SX.out _).mono ?_); rintro e w1 ⟨rfl, rfl⟩))
    | (go_at_call 43; ((with_reducible refine (SY.out _).mono ?_); rintro e w2 ⟨rfl, rfl⟩))
    | (go_at_call 25; ((with_reducible refine (HH.out _).mono ?_); rintro e w3 ⟨rfl, hb3⟩)))
  go_ret
  exact ⟨rfl, hb3⟩

set_option maxHeartbeats 4000000 in
theorem wakes02_calls (w : World) : Calls Try.prog 23 #[] w fun e w' => e = .returned (.bool true) ∧ Below w.heap.size w w' := by
  have TD : ∀ w, Calls Try.prog 30 #[.int .u64 17, .int .i64 9] w fun e w' => ∃ v k, e = .returned v ∧ k = min 9 (steps 17).length ∧ Row.OwnR 53 1 w.heap.size w w' v k (mk ((steps 17).take k)) := fun w => told_calls 17 (by decide) (by decide) 9 (by decide) w
  have FL := fun w => floor_calls 17 (by decide) (by decide) w
  have HY := fun w => hypot_of (-3) 4 (by decide) (by decide) (by decide) (by decide) 5 w (fun w => by have := wide0_calls 25 (by decide) (by decide) w; rw [show rootF 25 = 5 by decide +kernel] at this; exact this)
  rw [show rootF 17 = 4 by decide +kernel] at FL
  rw [show steps 17 = [4] by decide +kernel] at TD
  have HT := Lib.hid TD
  have HF := Lib.hid FL
  have HH := Lib.hid HY
  clear TD FL HY
  go_enter Try.func23, Try.ntmps23
  go_wp2_with (first
    | (go_at_call 30; ((with_reducible refine (HT.out _).mono ?_); rintro e w1 ⟨v, k, rfl, hk, hO⟩; obtain rfl : k = 1 := hk; obtain ⟨A, cap, rfl, hc1, hc2, hrd, hA⟩ := hO.read; obtain ⟨g, rfl, hg1, hg2, hg3⟩ := hrd 0 0 (by decide) (by decide); have hB1 := hO.bel; have hg4 : w1.cell? ⟨g, 0, none⟩ = some (.int .u64 4) := hg3; clear hg3 hrd hA))
    | (go_at_call 24; ((with_reducible refine (HF.out _).mono ?_); rintro e w2 ⟨rfl, hb2⟩; have hg5 : w2.cell? ⟨g, 0, none⟩ = some (.int .u64 4) := (hb2.cell (p := ⟨g, 0, none⟩) hg2).trans hg4; have hl2 := Nat.lt_of_lt_of_le hg2 hb2.size))
    | (go_at_call 28; ((with_reducible refine (HH.out _).mono ?_); rintro e w3 ⟨rfl, hb3⟩; have hg6 : w3.cell? ⟨g, 0, none⟩ = some (.int .u64 4) := (hb3.cell (p := ⟨g, 0, none⟩) hl2).trans hg5)))
  go_ret
  exact ⟨rfl, hB1.trans ((hb2.mono hB1.size).trans (hb3.mono (Nat.le_trans hB1.size hb2.size)))⟩

set_option maxHeartbeats 4000000 in
theorem rootfloors_calls (N : Int) (N0 : 0 ≤ N) (N1 : N < 18446744073709551616) (w : World) : Calls Try.prog 5 #[.int .u64 N] w fun e w' => e = .returned (.bool true) ∧ Below w.heap.size w w' := by
  have WK := Lib.hid wakes02_calls
  have F := Lib.hid (fun w => floor_calls N N0 N1 w)
  obtain ⟨r0, r1, r2, r3⟩ := rootF_spec N0 N1
  generalize rootF N = r at *
  have m0 : 0 ≤ r * r := Int.mul_nonneg r0 r0
  by_cases h : r = 4294967295
  · subst h
    go_enter Try.func5, Try.ntmps5
    go_wp2_with (first
      | (go_at_call 23; ((with_reducible refine (WK.out _).mono ?_); rintro e w1 ⟨rfl, hb1⟩))
      | (go_at_call 24; ((with_reducible refine (F.out _).mono ?_); rintro e w2 ⟨rfl, hb2⟩)))
    all_goals
      go_ret
      exact ⟨by simp, by have z_hb1 := hb1.size; (try simp at z_hb1); have z_hb2 := hb2.size; (try simp at z_hb2); (repeat' (first | (with_reducible exact Below.refl _ _) | (with_reducible refine Below.drew ?_) | (with_reducible refine below_drewN ?_ _) | ((with_reducible refine Below.setCell ?_ ?side_ _); case side_ => (first | (with_reducible exact Nat.le_refl _) | (with_reducible assumption) | omega | (simp; done) | (simp; omega))) | ((with_reducible refine Below.alloc ?_ ?side_ _); case side_ => (first | (with_reducible exact Nat.le_refl _) | (with_reducible assumption) | omega | (simp; done) | (simp; omega))) | ((with_reducible refine Below.trans ?_ (hb1.mono ?side_)); case side_ => (first | (with_reducible exact Nat.le_refl _) | (with_reducible assumption) | omega | (simp; done) | (simp; omega))) | ((with_reducible refine Below.trans ?_ (hb2.mono ?side_)); case side_ => (first | (with_reducible exact Nat.le_refl _) | (with_reducible assumption) | omega | (simp; done) | (simp; omega)))))⟩
  · have hr : r < 4294967295 := by omega
    have m1 : (r + 1) * (r + 1) ≤ 4294967295 * 4294967295 := sq_le (by omega) (by omega)
    have m2 : 0 ≤ (r + 1) * (r + 1) := Int.mul_nonneg (by omega) (by omega)
    clear r3
    go_enter Try.func5, Try.ntmps5
    go_wp2_with (first
      | (go_at_call 23; ((with_reducible refine (WK.out _).mono ?_); rintro e w1 ⟨rfl, hb1⟩))
      | (go_at_call 24; ((with_reducible refine (F.out _).mono ?_); rintro e w2 ⟨rfl, hb2⟩)))
    all_goals
      go_ret
      exact ⟨by simp; try omega, by have z_hb1 := hb1.size; (try simp at z_hb1); have z_hb2 := hb2.size; (try simp at z_hb2); (repeat' (first | (with_reducible exact Below.refl _ _) | (with_reducible refine Below.drew ?_) | (with_reducible refine below_drewN ?_ _) | ((with_reducible refine Below.setCell ?_ ?side_ _); case side_ => (first | (with_reducible exact Nat.le_refl _) | (with_reducible assumption) | omega | (simp; done) | (simp; omega))) | ((with_reducible refine Below.alloc ?_ ?side_ _); case side_ => (first | (with_reducible exact Nat.le_refl _) | (with_reducible assumption) | omega | (simp; done) | (simp; omega))) | ((with_reducible refine Below.trans ?_ (hb1.mono ?side_)); case side_ => (first | (with_reducible exact Nat.le_refl _) | (with_reducible assumption) | omega | (simp; done) | (simp; omega))) | ((with_reducible refine Below.trans ?_ (hb2.mono ?side_)); case side_ => (first | (with_reducible exact Nat.le_refl _) | (with_reducible assumption) | omega | (simp; done) | (simp; omega)))))⟩
end Go.Proofs.Ytdhhkabihmdbnaa.Root
