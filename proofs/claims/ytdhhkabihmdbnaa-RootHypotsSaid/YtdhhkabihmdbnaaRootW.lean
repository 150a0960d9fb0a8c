/- Package root's Wide, walked: Newton's way ends at the root of hi 2^64 + lo. For all words. -/
import Derived.Test.YtdhhkabihmdbnaaRootN
import Derived.Test.YtdhhkabihmdbnaaRootD
import Derived.Test.YtdhhkabihmdbnaaDivQ
namespace Go.Proofs.Ytdhhkabihmdbnaa.Root
open Go Go.RowKit
set_option maxRecDepth 100000
set_option linter.unusedVariables false
set_option linter.unusedSimpArgs false

theorem bitLen_pos {x : Nat} (h0 : 1 ≤ x) (h1 : x ≤ 18446744073709551615) : 1 ≤ Lib.bitLen x ∧ Lib.bitLen x ≤ 64 ∧ x < 2 ^ Lib.bitLen x := by
  have hb := Lib.bitLenAux_bounds 64 x (by omega) (by omega)
  obtain ⟨b1, b2, b3⟩ := hb
  obtain ⟨m, hm⟩ : ∃ m, Lib.bitLen x = m := ⟨_, rfl⟩
  have hm' : Lib.bitLenAux 64 x = m := hm
  rw [hm'] at b1 b2 b3
  rw [hm]
  refine ⟨by omega, ?_, b3⟩
  rcases Nat.lt_or_ge 64 m with h | h
  · exfalso
    have h1 : 2 ^ 64 ≤ 2 ^ (m - 1) := Nat.pow_le_pow_right (by omega) (by omega)
    omega
  · exact h

theorem drewN_below (w : World) (n : Nat) : Below w.heap.size w (w.drewN n) := ⟨rfl, rfl, rfl, Nat.le_refl _, fun _ _ => rfl⟩

set_option maxHeartbeats 8000000 in
theorem wide_calls (hi lo R : Int) (h0 : 1 ≤ hi) (h1 : hi ≤ 18446744073709551615) (l0 : 0 ≤ lo) (l1 : lo ≤ 18446744073709551615) (hR : IsRoot (hi * 18446744073709551616 + lo) R) (w : World) :
    Calls Try.prog 25 #[.int .u64 hi, .int .u64 lo] w fun e w' => e = .returned (.int .u64 R) ∧ Below w.heap.size w w' := by
  obtain ⟨x, rfl⟩ := Int.eq_ofNat_of_zero_le (show 0 ≤ hi by omega)
  obtain ⟨b1, b2, b3⟩ := bitLen_pos (x := x) (by omega) (by omega)
  have LN : ∀ w, Calls Try.prog 36 #[.int .u64 x] w fun e w' => e = .returned (.int .i64 (Lib.bitLen x : Nat)) ∧ w = w' := by
    intro w
    have := Try.bits_Len64 (x : Int) w (by omega) h1
    rw [Int.toNat_natCast] at this
    refine this.mono ?_
    rintro e w' ⟨rfl, rfl⟩
    exact ⟨rfl, rfl⟩
  generalize Lib.bitLen x = n at *
  have LH := Lib.hid LN
  have hN : (x : Int) * 18446744073709551616 + lo < 2 ^ (n + 64) := by
    have : ((x : Nat) : Int) + 1 ≤ ((2 ^ n : Nat) : Int) := Int.ofNat_le.2 b3
    rw [Int.pow_add]
    have e : ((2 ^ n : Nat) : Int) = (2 : Int) ^ n := by simp
    rw [e] at this
    have k : ((x : Int) + 1) * 18446744073709551616 ≤ 2 ^ n * 18446744073709551616 := Int.mul_le_mul_of_nonneg_right this (by decide)
    rw [show (2 : Int) ^ 64 = 18446744073709551616 by decide]
    omega
  obtain ⟨k, hk⟩ : ∃ k : Nat, k = (n + 65) / 2 := ⟨_, rfl⟩
  have hB : R < 2 ^ k := hR.begin hN (by omega)
  have hr0 := hR.r0
  have hR1 : 0 < R := by
    rcases Int.lt_or_le 0 R with h | h
    · exact h
    · have := hR.lt
      obtain rfl : R = 0 := by omega
      omega
  have hRH := Lib.hid hR
  have D := Lib.hid (fun r h2 h3 w => Wide.div64_calls (x : Int) lo r (by omega) h2 h3 l0 l1 w)
  clear hR hN LN
  rw [show k = (64 + n + 1) / 2 by omega] at hB
  have hn : (64 + n + 1) / 2 < 64 → (2 : Int) ^ ((64 + n + 1) / 2) ≤ 9223372036854775808 ∧ 0 < (2 : Int) ^ ((64 + n + 1) / 2) := by
    intro h
    have h1 := Nat.pow_le_pow_right (n := 2) (by decide) (show (64 + n + 1) / 2 ≤ 63 by omega)
    have h2 : ((2 ^ ((64 + n + 1) / 2) : Nat) : Int) ≤ ((2 ^ 63 : Nat) : Int) := Int.ofNat_le.2 h1
    exact ⟨by simpa using h2, Int.pow_pos (by decide)⟩
  have hw : (64 + n + 1) / 2 < 64 → IntKind.u64.wrap ((2 : Int) ^ ((64 + n + 1) / 2)) = (2 : Int) ^ ((64 + n + 1) / 2) := by
    intro h
    obtain ⟨h1, h2⟩ := hn h
    rw [Num.wrap_u64, Int.emod_eq_of_lt (by omega) (by omega)]
  have hm : ¬ (64 + n + 1) / 2 < 64 → R ≤ 18446744073709551615 := by
    intro h
    have := hRH.out.below (b := 18446744073709551616) (by decide) (by omega)
    omega
  clear hk
  obtain ⟨p, hp⟩ : ∃ p, p = (2 : Int) ^ ((64 + n + 1) / 2) := ⟨_, rfl⟩
  rw [← hp] at hn hw hB
  have hwp : (64 + n + 1) / 2 < 64 → IntKind.u64.wrap ((2 : Int) ^ ((64 + n + 1) / 2)) = p := by rw [← hp]; exact hw
  clear hw
  go_enter Try.func25, Try.ntmps25
  go_wp2_with (go_at_call 36; ((with_reducible refine (LH.out _).mono ?_); rintro e w1 ⟨rfl, rfl⟩))
  all_goals
    clear LH b3
    rename_i hcc
    replace hcc := Lib.hid hcc
    go_loopw [6] (fun r wr => ∃ r0 : Int, r = .int .u64 r0 ∧ R ≤ r0 ∧ r0 ≤ 18446744073709551615 ∧ 0 < r0 ∧ Below w.heap.size w wr) (fun r _ => (intOf r).toNat)
    case atStart =>
      have hcc := hcc.out
      by_cases hc : (64 + n + 1) / 2 < 64
      · obtain ⟨g1, g2⟩ := hn hc
        have g3 := hwp hc
        first
        | (exfalso; omega)
        | exact ⟨p, by first | rw [hp] | rw [g3], by omega, by omega, g2, Below.refl _ _⟩
      · have g1 := hm hc
        first
        | (exfalso; omega)
        | exact ⟨18446744073709551615, rfl, g1, by omega, by omega, Below.refl _ _⟩
    case round =>
      obtain ⟨r, rfl, g1, g2, g3, hB1⟩ := hrel
      by_cases c1 : r ≤ x
      · have hX : r = R := hRH.out.high (hi := x) (lo := lo) rfl l0 g1 g2 c1
        subst hX
        clear hn hwp hm hB
        go_wp2
        go_ret
        exact ⟨rfl, hB1⟩
      · have c2 : (x : Int) < r := by omega
        have hq0 : 0 ≤ (x * 18446744073709551616 + lo) / r := Int.ediv_nonneg (by omega) (by omega)
        have hq1 : (x * 18446744073709551616 + lo) / r ≤ 18446744073709551615 := by
          have : (x * 18446744073709551616 + lo) / r < 18446744073709551616 := Int.ediv_lt_of_lt_mul g3 (by
            have : (x + 1) * 18446744073709551616 ≤ r * 18446744073709551616 := Int.mul_le_mul_of_nonneg_right (by omega) (by decide)
            rw [Int.mul_comm]; omega)
          omega
        have hs := Lib.hid (hRH.out.stop g1 g3)
        have ht := Lib.hid (hRH.out.step g1 g3)
        have D2 := Lib.hid (D.out r c2 g2)
        unfold Wide.Div64Is at D2
        generalize ((x : Int) * 18446744073709551616 + lo) % r = rest at *
        generalize ((x : Int) * 18446744073709551616 + lo) / r = q at *
        obtain ⟨wo, rfl⟩ : ∃ wo : World, wo = wr := ⟨_, rfl⟩
        by_cases c3 : r ≤ q
        · obtain rfl : r = R := hs.out c3
          clear hn hwp hm hB D hRH hs ht
          go_wp2_with (go_at_call 37; ((with_reducible refine (D2.out _).mono ?_); rintro e w2 ⟨rfl, m, rfl⟩))
          go_ret
          exact ⟨rfl, hB1.trans ((drewN_below _ _).mono hB1.size)⟩
        · obtain ⟨g4, g5⟩ := ht.out (by omega)
          clear hn hwp hm hB D hRH hs ht
          go_wp2_with (go_at_call 37; ((with_reducible refine (D2.out _).mono ?_); rintro e w2 ⟨rfl, m, rfl⟩))
          go_round
          case rel => exact ⟨q + (r - q) / 2, rfl, g4, by omega, by omega, hB1.trans ((drewN_below _ _).mono hB1.size)⟩
          case measure => simp [intOf]; omega
end Go.Proofs.Ytdhhkabihmdbnaa.Root
