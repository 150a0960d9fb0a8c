/- The law RootSteps, walked. For all numbers. -/
import Derived.Test.YtdhhkabihmdbnaaRootD
import Derived.Deep.QuietTactic
import Derived.BigQuiet
import Derived.WalkSmall
namespace Go.Proofs.Ytdhhkabihmdbnaa.Root
open Go Go.RowKit
set_option maxRecDepth 100000
set_option linter.unusedVariables false
set_option linter.unusedSimpArgs false

theorem u64_wf {x : Int} (h0 : 0 ≤ x) (h1 : x ≤ 4294967295) : (Lit.int .u64 x).wf = true := by
  simp [Lit.wf, IntKind.min, IntKind.max, IntKind.signed, IntKind.bits]; omega
theorem take_get {xs : List Int} {m k : Nat} (h : k < m) : (xs.take m)[k]?.getD 0 = xs[k]?.getD 0 := by simp [h]

theorem told_ints (N : Int) (N0 : 0 ≤ N) (N1 : N < 18446744073709551616) (m : Nat) (hm : m ≤ 1000) (w : World) : Calls Try.prog 30 #[.int .u64 N, .int .i64 (m : Int)] w fun e w' => ∃ A n cap, e = .returned (.slice A n cap) ∧ n = min m (steps N).length ∧ Open.IntRow w' .u64 A ((steps N).take n) ∧ Below w.heap.size w w' := by
  refine (told_calls N N0 N1 m hm w).mono fun e w' ⟨v, n, he, hn, hO⟩ => ?_
  obtain ⟨A, cap, rfl, _, _, hI⟩ := hO.ints (fun z hz => by
    obtain ⟨h0, h1⟩ := stepsL_mem (At.start N0 N1) z (List.mem_of_mem_take hz)
    exact u64_wf h0 h1)
  have hl : ((steps N).take n).length = n := by simp; omega
  exact ⟨A, n, cap, by rw [he, hl], hn, hI, hO.bel⟩

set_option maxHeartbeats 8000000 in
theorem rootsteps_calls (N s : Int) (N0 : 0 ≤ N) (N1 : N < 18446744073709551616) (s0 : 0 ≤ s) (s1 : s ≤ 255) (w : World) : Calls Try.prog 8 #[.int .u64 N, .int .u8 s] w fun e w' => e = .returned (.bool true) ∧ Below w.heap.size w w' := by
  obtain ⟨m, rfl⟩ := Int.eq_ofNat_of_zero_le s0
  have WK := Lib.hid wakes02_calls
  have F := Lib.hid (fun w => floor_calls N N0 N1 w)
  have TD := Lib.hid (fun w => told_ints N N0 N1 m (by omega) w)
  have hmem : ∀ z ∈ steps N, (Lit.int .u64 z).wf = true := fun z hz => by
    obtain ⟨h0, h1⟩ := stepsL_mem (At.start N0 N1) z hz
    exact u64_wf h0 h1
  have HM := Lib.hid hmem
  have hlen : (steps N).length ≤ 32 := stepsL_length
  have HR : Hid (rootL N 0 32 = rootF N) := Lib.hid rfl
  have HS : Hid ((steps N).drop 0 = stepsL N 0 32) := Lib.hid rfl
  have HA0 := Lib.hid (At.start N0 N1)
  generalize rootF N = r at *
  generalize steps N = xs at *
  clear hmem
  go_enter Try.func8, Try.ntmps8
  go_wp2_with (go_at_call 23; ((with_reducible refine (WK.out _).mono ?_); rintro e w1 ⟨rfl, hb1⟩))
  go_loopw [5, 6, 7] (fun v r0 b wr => ∃ (j : Nat) (R : Int) (k : Nat), r0 = .int .u64 R ∧ b = .int .u64 (bt j) ∧ At N R j ∧ j ≤ 32 ∧ xs.drop k = stepsL N R j ∧ k ≤ xs.length ∧ rootL N R j = r ∧ Row.OwnR 53 1 w1.heap.size w1 wr v k (mk (xs.take k))) (fun _ _ b _ => (intOf b).toNat)
  case atStart => exact ⟨32, 0, 0, rfl, rfl, HA0.out, by omega, HS.out, Nat.zero_le _, HR.out, Row.OwnR.nil (Below.refl _ _) (Nat.le_refl _) (Nat.le_refl _)⟩
  case round =>
    obtain ⟨j, R, k, rfl, rfl, hA, hj, hd, hk, hr, hO⟩ := hrel
    cases j with
    | zero =>
      have hl : k = xs.length := by
        have := congrArg List.length hd
        simp [stepsL] at this; omega
      subst hl
      rw [List.take_length] at hO
      obtain rfl : R = r := hr
      rw [show bt 0 = 0 from rfl]
      obtain ⟨A, cap, rfl, hc1, hc2, hI⟩ := hO.ints HM.out
      unfold maxLen at hc2
      have hB2 := hO.bel
      clear hA hd hO
      have hI := hI
      have hmin : (if xs.length < m then xs.length else m) = min m xs.length := by rw [Nat.min_def]; split <;> split <;> omega
      go_wp2_with (go_at_call 30; ((with_reducible refine (TD.out _).mono ?_); rintro e w2 ⟨A2, n2, cap2, rfl, hn2, hI2, hb2⟩))
      have hI3 := hI.below hb2
      have hB3 := hB2.trans (hb2.mono hB2.size)
      have hn3 : n2 ≤ xs.length := by omega
      clear hI hb2 hB2 hmin
      obtain ⟨wo, rfl⟩ : ∃ wo : World, wo = wr := ⟨_, rfl⟩
      go_loopw [46] (fun i wr => ∃ k : Nat, k ≤ n2 ∧ i = .int .i64 k ∧ Below w2.heap.size w2 wr) (fun i _ => n2 - (intOf i).toNat)
      case atStart => exact ⟨0, Nat.zero_le _, rfl, Below.refl _ _⟩
      case round =>
        obtain ⟨k, hk, rfl, hB⟩ := hrel
        by_cases hlt : k < n2
        · obtain ⟨b2, o2, rfl, hb2, hc2⟩ := (hI2.below hB).cell k (by simp; omega)
          obtain ⟨b3, o3, rfl, hb3, hc3⟩ := (hI3.below hB).cell k (by omega)
          rw [take_get hlt] at hc2
          generalize xs[k]?.getD 0 = z at *
          have i2 : (k : Int) < (n2 : Int) := by omega
          have i3 : (k : Int) < (xs.length : Int) := by omega
          clear hI2 hI3
          go_wp2
          go_quiet (fail)
          go_wp2
          go_roundw
          case rel => exact ⟨k + 1, by omega, by go_num, by have z_hB := hB.size; (try simp at z_hB); (repeat' (first | (with_reducible exact Below.refl _ _) | (with_reducible refine Below.drew ?_) | (with_reducible refine below_drewN ?_ _) | ((with_reducible refine Below.setCell ?_ ?side_ _); case side_ => (first | (with_reducible exact Nat.le_refl _) | (with_reducible assumption) | omega | (simp; done) | (simp; omega))) | ((with_reducible refine Below.alloc ?_ ?side_ _); case side_ => (first | (with_reducible exact Nat.le_refl _) | (with_reducible assumption) | omega | (simp; done) | (simp; omega))) | ((with_reducible refine Below.trans ?_ (hB.mono ?side_)); case side_ => (first | (with_reducible exact Nat.le_refl _) | (with_reducible assumption) | omega | (simp; done) | (simp; omega)))))⟩
          case measure => simp [intOf]; omega
        · obtain rfl : k = n2 := by omega
          clear hI2 hI3
          go_wp2_with (go_at_call 24; ((with_reducible refine (F.out _).mono ?_); rintro e w4 ⟨rfl, hb4⟩))
          go_ret
          exact ⟨by simp, by have z_hb1 := hb1.size; (try simp at z_hb1); have z_hB3 := hB3.size; (try simp at z_hB3); have z_hB := hB.size; (try simp at z_hB); have z_hb4 := hb4.size; (try simp at z_hb4); (repeat' (first | (with_reducible exact Below.refl _ _) | (with_reducible refine Below.drew ?_) | (with_reducible refine below_drewN ?_ _) | ((with_reducible refine Below.setCell ?_ ?side_ _); case side_ => (first | (with_reducible exact Nat.le_refl _) | (with_reducible assumption) | omega | (simp; done) | (simp; omega))) | ((with_reducible refine Below.alloc ?_ ?side_ _); case side_ => (first | (with_reducible exact Nat.le_refl _) | (with_reducible assumption) | omega | (simp; done) | (simp; omega))) | ((with_reducible refine Below.trans ?_ (hb1.mono ?side_)); case side_ => (first | (with_reducible exact Nat.le_refl _) | (with_reducible assumption) | omega | (simp; done) | (simp; omega))) | ((with_reducible refine Below.trans ?_ (hB3.mono ?side_)); case side_ => (first | (with_reducible exact Nat.le_refl _) | (with_reducible assumption) | omega | (simp; done) | (simp; omega))) | ((with_reducible refine Below.trans ?_ (hB.mono ?side_)); case side_ => (first | (with_reducible exact Nat.le_refl _) | (with_reducible assumption) | omega | (simp; done) | (simp; omega))) | ((with_reducible refine Below.trans ?_ (hb4.mono ?side_)); case side_ => (first | (with_reducible exact Nat.le_refl _) | (with_reducible assumption) | omega | (simp; done) | (simp; omega)))))⟩
    | succ j =>
      have hp := pw_pos j
      have hpl := pw_le (show j ≤ 31 by omega)
      have e31 : pw 31 = 2147483648 := by decide
      rw [e31] at hpl
      have hr0 := hA.r0
      have hfit := hA.fits
      rw [pw_succ] at hfit
      have m0 : 0 ≤ (R + pw j) * (R + pw j) := Int.mul_nonneg (by omega) (by omega)
      have m1 : (R + pw j) * (R + pw j) ≤ 4294967295 * 4294967295 := sq_le (by omega) (by omega)
      have HA := Lib.hid hA
      have HB := Lib.hid (bt_half j)
      have HD := Lib.hid hd
      have HRR := Lib.hid hr
      clear hA hd e31 hr
      rw [show bt (j + 1) = pw j from rfl]
      by_cases hy : (R + pw j) * (R + pw j) ≤ N
      · have hd := HD.out
        unfold stepsL at hd
        rw [if_pos hy] at hd
        have hx : xs[k]? = some (R + pw j) := by
          have := congrArg (·[0]?) hd
          simpa using this
        have hd2 : xs.drop (k + 1) = stepsL N (R + pw j) j := by
          have := congrArg List.tail hd
          simpa using this
        have hkl := (List.getElem?_eq_some_iff.1 hx).1
        have HD2 := Lib.hid hd2
        have HA2 := Lib.hid (HA.out.yes hy)
        have HX := Lib.hid (mk_snoc hx)
        have HR2 : Hid (rootL N (R + pw j) j = r) := Lib.hid (by
          have := HRR.out
          unfold rootL at this
          rwa [if_pos hy] at this)
        clear hd hd2 hx
        generalize pw j = b at *
        go_wp2_with (at_builtin; refine Row.app rfl _ _ rfl Try.underlying66 info_u64 rfl (by decide) (by decide) rfl (hO.alloc _) _ _ rfl (new1 _ _ _) rfl (one1 _ _) (by omega) ?_; intro v' w3 hO3 hg3)
        go_roundw
        case rel => exact ⟨j, R + b, k + 1, rfl, by rw [HB.out], HA2.out, by omega, HD2.out, hkl, HR2.out, by rw [HX.out]; exact hO3⟩
        case measure => simp [intOf]; omega
      · have HA2 := Lib.hid (HA.out.no hy)
        have HD2 : Hid (xs.drop k = stepsL N R j) := Lib.hid (by
          have := HD.out
          unfold stepsL at this
          rwa [if_neg hy] at this)
        have HR2 : Hid (rootL N R j = r) := Lib.hid (by
          have := HRR.out
          unfold rootL at this
          rwa [if_neg hy] at this)
        have hy' : N < (R + pw j) * (R + pw j) := by omega
        clear hy
        generalize pw j = b at *
        go_wp2
        go_roundw
        case rel => exact ⟨j, R, k, rfl, by rw [HB.out], HA2.out, by omega, HD2.out, hk, HR2.out, hO⟩
        case measure => simp [intOf]; omega
end Go.Proofs.Ytdhhkabihmdbnaa.Root
