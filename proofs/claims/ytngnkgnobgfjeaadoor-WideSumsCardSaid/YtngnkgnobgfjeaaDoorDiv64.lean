/- math/bits.Div64, walked: the quotient and the rest of a number of two words, the upper one less than the divisor. -/
import Derived.Test.YtngnkgnobgfjeaaDoorKnuth
import Derived.Test.YtngnkgnobgfjeaaDoorWideB
import Derived.Lib.ItoaNum
namespace Go.Proofs.YtngnkgnobgfjeaaDoor.Wide
open Go Go.RowKit
set_option maxRecDepth 100000
set_option linter.unusedVariables false
set_option linter.unusedSimpArgs false
/-- What Div64 answers. -/
def Div64Is (hi lo y : Int) (w : World) (e : Ending) (w' : World) : Prop :=
  e = .returned (.tuple #[.int .u64 ((hi * 18446744073709551616 + lo) / y), .int .u64 ((hi * 18446744073709551616 + lo) % y)]) ∧ ∃ n, w' = w.drewN n

set_option maxHeartbeats 16000000 in
theorem div64_slow (hi lo y Y U un yn1 yn0 un1 un0 q1 U2 q2 RR D1 D0 : Int) (n : Nat) (h0 : 1 ≤ hi) (hy : hi < y) (hy1 : y ≤ 18446744073709551615) (l0 : 0 ≤ lo) (l1 : lo ≤ 18446744073709551615) (hn : n ≤ 63)
    (Z : ∀ w, Calls Tryd.prog 27 #[.int .u64 y] w fun e w' => e = .returned (.int .i64 n) ∧ w' = w)
    (E1 : IntKind.u64.wrap (y * 2 ^ n) = Y) (E2 : Y / 4294967296 = yn1) (E3 : bits .and .u64 Y 4294967295 = yn0)
    (E4 : bits .or .u64 (IntKind.u64.wrap (hi * 2 ^ n)) (lo / 2 ^ (64 - n)) = U) (E5 : IntKind.u64.wrap (lo * 2 ^ n) = un) (E6 : un / 4294967296 = un1) (E7 : bits .and .u64 un 4294967295 = un0)
    (E8 : U / yn1 = q1) (E10 : IntKind.u64.wrap (IntKind.u64.wrap (IntKind.u64.wrap (U * 4294967296) + un1) - IntKind.u64.wrap (D1 * Y)) = U2)
    (G1 : Digit Y yn1 yn0 U un1 D1) (G2 : Digit Y yn1 yn0 U2 un0 D0) (E9 : U2 / yn1 = q2)
    (E11 : IntKind.u64.wrap (IntKind.u64.wrap (IntKind.u64.wrap (U2 * 4294967296) + un0) - IntKind.u64.wrap (D0 * Y)) = RR)
    (F1 : Hid ((hi * 18446744073709551616 + lo) / y = D1 * 4294967296 + D0)) (F2 : Hid ((hi * 18446744073709551616 + lo) % y = RR / 2 ^ n))
    (w : World) :
    Calls Tryd.prog 18 #[.int .u64 hi, .int .u64 lo, .int .u64 y] w (Div64Is hi lo y w) := by
  have t1 : (y == 0) = false := by simp; omega
  have t2 : decide (y ≤ hi) = false := by simp; omega
  have t3 : (hi == 0) = false := by simp; omega
  have g1 := G1.y1
  have g2 := G1.y1'
  have g3 := G1.y0
  have g4 := G1.y0'
  have g5 := G1.u
  have g6 : U ≤ 18446744073709551615 := by have := G1.u'; have := G1.y; omega
  have g7 := G1.v
  have g8 := G1.v'
  have g9 := G2.u
  have g10 : U2 ≤ 18446744073709551615 := by have := G2.u'; have := G2.y; omega
  have g11 := G2.v
  have g12 := G2.v'
  have s1 := G1.start
  rw [E8] at s1
  obtain ⟨s1, s2, s3, s4, s5, s6, s7⟩ := s1
  have S1 := Lib.hid s1
  clear s1
  have p1 := G2.start
  rw [E9] at p1
  obtain ⟨p1, p2, p3, p4, p5, p6, p7⟩ := p1
  have P1 := Lib.hid p1
  clear p1
  obtain ⟨-, -, dd0, dd1⟩ := G2.dY
  go_enter Tryd.func18, Tryd.ntmps18
  go_wp2_with (go_at_call 27; ((with_reducible refine (Z _).mono ?_); rintro e w1 ⟨rfl, rfl⟩))
  go_loop [15, 16] (fun q r => ∃ Q R : Int, q = .int .u64 Q ∧ r = .int .u64 R ∧ D1 ≤ Q ∧ Q ≤ 4294967297 ∧ 0 ≤ R ∧ R < 4294967296 ∧ Hid (Q * yn1 + R = U)) (fun q _ => (intOf q).toNat)
  case atStart => exact ⟨q1, U - q1 * yn1, (by rw [E8]), rfl, s2, s3, s4, s5, S1⟩
  case round =>
    obtain ⟨Q, R, rfl, rfl, hQ0, hQ1, hR0, hR1, hE⟩ := hrel
    obtain ⟨-, -, d2, d3⟩ := G1.dY
    obtain ⟨m0, m1⟩ := G1.mulb (Int.le_trans d2 hQ0) hQ1
    by_cases c1 : 4294967296 ≤ Q
    · have hs := G1.step hE.out hQ0 (.inl c1)
      by_cases c3 : 4294967296 ≤ R + yn1
      · have hq : Q = D1 + 1 := by
          have := G1.exit2 (Q := Q - 1) (R := R + yn1) (by have := hE.out; rw [Int.sub_mul]; omega) hs (by omega) c3
          omega
        subst hq
        clear hE hs hQ0
        go_wp2
        go_loop [16, 18] (fun r q => ∃ Q R : Int, q = .int .u64 Q ∧ r = .int .u64 R ∧ D0 ≤ Q ∧ Q ≤ 4294967297 ∧ 0 ≤ R ∧ R < 4294967296 ∧ Hid (Q * yn1 + R = U2)) (fun _ q => (intOf q).toNat)
        case atStart => exact ⟨q2, U2 - q2 * yn1, rfl, rfl, p2, p3, p4, p5, P1⟩
        case round =>
          obtain ⟨Q, R, rfl, rfl, hQ0, hQ1, hR0, hR1, hE⟩ := hrel
          obtain ⟨-, -, d2, d3⟩ := G2.dY
          obtain ⟨m0, m1⟩ := G2.mulb (Int.le_trans d2 hQ0) hQ1
          by_cases c1 : 4294967296 ≤ Q
          · have hs := G2.step hE.out hQ0 (.inl c1)
            by_cases c3 : 4294967296 ≤ R + yn1
            · have hq : Q = D0 + 1 := by
                have := G2.exit2 (Q := Q - 1) (R := R + yn1) (by have := hE.out; rw [Int.sub_mul]; omega) hs (by omega) c3
                omega
              subst hq
              clear hE hs hQ0
              go_wp2
              go_ret2
              exact ⟨by rw [F1.out, F2.out]; simp, 0, by simp [World.drewN]⟩
            · go_wp2
              go_round
              case rel => exact ⟨Q - 1, R + yn1, rfl, rfl, hs, by omega, by omega, by omega, Lib.hid (by have := hE.out; rw [Int.sub_mul]; omega)⟩
              case measure => simp [intOf]; omega
          · by_cases c2 : 4294967296 * R + un0 < Q * yn0
            · have hs := G2.step hE.out hQ0 (.inr c2)
              by_cases c3 : 4294967296 ≤ R + yn1
              · have hq : Q = D0 + 1 := by
                  have := G2.exit2 (Q := Q - 1) (R := R + yn1) (by have := hE.out; rw [Int.sub_mul]; omega) hs (by omega) c3
                  omega
                subst hq
                clear hE hs hQ0
                go_wp2
                go_ret2
                exact ⟨by rw [F1.out, F2.out]; simp, 0, by simp [World.drewN]⟩
              · go_wp2
                go_round
                case rel => exact ⟨Q - 1, R + yn1, rfl, rfl, hs, by omega, by omega, by omega, Lib.hid (by have := hE.out; rw [Int.sub_mul]; omega)⟩
                case measure => simp [intOf]; omega
            · obtain rfl : Q = D0 := G2.exit1 hE.out hQ0 c2
              go_wp2
              go_ret2
              exact ⟨by rw [F1.out, F2.out]; simp, 0, by simp [World.drewN]⟩
      · go_wp2
        go_round
        case rel => exact ⟨Q - 1, R + yn1, rfl, rfl, hs, by omega, by omega, by omega, Lib.hid (by have := hE.out; rw [Int.sub_mul]; omega)⟩
        case measure => simp [intOf]; omega
    · by_cases c2 : 4294967296 * R + un1 < Q * yn0
      · have hs := G1.step hE.out hQ0 (.inr c2)
        by_cases c3 : 4294967296 ≤ R + yn1
        · have hq : Q = D1 + 1 := by
            have := G1.exit2 (Q := Q - 1) (R := R + yn1) (by have := hE.out; rw [Int.sub_mul]; omega) hs (by omega) c3
            omega
          subst hq
          clear hE hs hQ0
          go_wp2
          go_loop [16, 18] (fun r q => ∃ Q R : Int, q = .int .u64 Q ∧ r = .int .u64 R ∧ D0 ≤ Q ∧ Q ≤ 4294967297 ∧ 0 ≤ R ∧ R < 4294967296 ∧ Hid (Q * yn1 + R = U2)) (fun _ q => (intOf q).toNat)
          case atStart => exact ⟨q2, U2 - q2 * yn1, rfl, rfl, p2, p3, p4, p5, P1⟩
          case round =>
            obtain ⟨Q, R, rfl, rfl, hQ0, hQ1, hR0, hR1, hE⟩ := hrel
            obtain ⟨-, -, d2, d3⟩ := G2.dY
            obtain ⟨m0, m1⟩ := G2.mulb (Int.le_trans d2 hQ0) hQ1
            by_cases c1 : 4294967296 ≤ Q
            · have hs := G2.step hE.out hQ0 (.inl c1)
              by_cases c3 : 4294967296 ≤ R + yn1
              · have hq : Q = D0 + 1 := by
                  have := G2.exit2 (Q := Q - 1) (R := R + yn1) (by have := hE.out; rw [Int.sub_mul]; omega) hs (by omega) c3
                  omega
                subst hq
                clear hE hs hQ0
                go_wp2
                go_ret2
                exact ⟨by rw [F1.out, F2.out]; simp, 0, by simp [World.drewN]⟩
              · go_wp2
                go_round
                case rel => exact ⟨Q - 1, R + yn1, rfl, rfl, hs, by omega, by omega, by omega, Lib.hid (by have := hE.out; rw [Int.sub_mul]; omega)⟩
                case measure => simp [intOf]; omega
            · by_cases c2 : 4294967296 * R + un0 < Q * yn0
              · have hs := G2.step hE.out hQ0 (.inr c2)
                by_cases c3 : 4294967296 ≤ R + yn1
                · have hq : Q = D0 + 1 := by
                    have := G2.exit2 (Q := Q - 1) (R := R + yn1) (by have := hE.out; rw [Int.sub_mul]; omega) hs (by omega) c3
                    omega
                  subst hq
                  clear hE hs hQ0
                  go_wp2
                  go_ret2
                  exact ⟨by rw [F1.out, F2.out]; simp, 0, by simp [World.drewN]⟩
                · go_wp2
                  go_round
                  case rel => exact ⟨Q - 1, R + yn1, rfl, rfl, hs, by omega, by omega, by omega, Lib.hid (by have := hE.out; rw [Int.sub_mul]; omega)⟩
                  case measure => simp [intOf]; omega
              · obtain rfl : Q = D0 := G2.exit1 hE.out hQ0 c2
                go_wp2
                go_ret2
                exact ⟨by rw [F1.out, F2.out]; simp, 0, by simp [World.drewN]⟩
        · go_wp2
          go_round
          case rel => exact ⟨Q - 1, R + yn1, rfl, rfl, hs, by omega, by omega, by omega, Lib.hid (by have := hE.out; rw [Int.sub_mul]; omega)⟩
          case measure => simp [intOf]; omega
      · obtain rfl : Q = D1 := G1.exit1 hE.out hQ0 c2
        clear hE hQ0
        go_wp2
        go_loop [16, 18] (fun r q => ∃ Q R : Int, q = .int .u64 Q ∧ r = .int .u64 R ∧ D0 ≤ Q ∧ Q ≤ 4294967297 ∧ 0 ≤ R ∧ R < 4294967296 ∧ Hid (Q * yn1 + R = U2)) (fun _ q => (intOf q).toNat)
        case atStart => exact ⟨q2, U2 - q2 * yn1, rfl, rfl, p2, p3, p4, p5, P1⟩
        case round =>
          obtain ⟨Q, R, rfl, rfl, hQ0, hQ1, hR0, hR1, hE⟩ := hrel
          obtain ⟨-, -, d2, d3⟩ := G2.dY
          obtain ⟨m0, m1⟩ := G2.mulb (Int.le_trans d2 hQ0) hQ1
          by_cases c1 : 4294967296 ≤ Q
          · have hs := G2.step hE.out hQ0 (.inl c1)
            by_cases c3 : 4294967296 ≤ R + yn1
            · have hq : Q = D0 + 1 := by
                have := G2.exit2 (Q := Q - 1) (R := R + yn1) (by have := hE.out; rw [Int.sub_mul]; omega) hs (by omega) c3
                omega
              subst hq
              clear hE hs hQ0
              go_wp2
              go_ret2
              exact ⟨by rw [F1.out, F2.out]; simp, 0, by simp [World.drewN]⟩
            · go_wp2
              go_round
              case rel => exact ⟨Q - 1, R + yn1, rfl, rfl, hs, by omega, by omega, by omega, Lib.hid (by have := hE.out; rw [Int.sub_mul]; omega)⟩
              case measure => simp [intOf]; omega
          · by_cases c2 : 4294967296 * R + un0 < Q * yn0
            · have hs := G2.step hE.out hQ0 (.inr c2)
              by_cases c3 : 4294967296 ≤ R + yn1
              · have hq : Q = D0 + 1 := by
                  have := G2.exit2 (Q := Q - 1) (R := R + yn1) (by have := hE.out; rw [Int.sub_mul]; omega) hs (by omega) c3
                  omega
                subst hq
                clear hE hs hQ0
                go_wp2
                go_ret2
                exact ⟨by rw [F1.out, F2.out]; simp, 0, by simp [World.drewN]⟩
              · go_wp2
                go_round
                case rel => exact ⟨Q - 1, R + yn1, rfl, rfl, hs, by omega, by omega, by omega, Lib.hid (by have := hE.out; rw [Int.sub_mul]; omega)⟩
                case measure => simp [intOf]; omega
            · obtain rfl : Q = D0 := G2.exit1 hE.out hQ0 c2
              go_wp2
              go_ret2
              exact ⟨by rw [F1.out, F2.out]; simp, 0, by simp [World.drewN]⟩

set_option maxHeartbeats 4000000 in
theorem div64_fast (lo y : Int) (hy0 : 1 ≤ y) (hy1 : y ≤ 18446744073709551615) (l0 : 0 ≤ lo) (l1 : lo ≤ 18446744073709551615) (w : World) :
    Calls Tryd.prog 18 #[.int .u64 0, .int .u64 lo, .int .u64 y] w (Div64Is 0 lo y w) := by
  have t1 : (y == 0) = false := by simp; omega
  have t2 : decide (y ≤ 0) = false := by simp; omega
  have q1 : lo.tdiv y = lo / y := Int.tdiv_eq_ediv_of_nonneg l0
  have q2 : lo.tmod y = lo % y := Int.tmod_eq_emod_of_nonneg l0
  have q3 : IntKind.u64.wrap (lo / y) = lo / y := by
    rw [Num.wrap_u64]; exact Int.emod_eq_of_lt (Int.ediv_nonneg l0 (by omega)) (by have := Int.ediv_le_self y l0; omega)
  go_enter Tryd.func18, Tryd.ntmps18
  go_wp2_with fail
  go_quiet (fail)
  go_wp2
  go_ret2
  exact ⟨by simp, _, rfl⟩

theorem div64_calls (hi lo y : Int) (h0 : 0 ≤ hi) (hy : hi < y) (hy1 : y ≤ 18446744073709551615) (l0 : 0 ≤ lo) (l1 : lo ≤ 18446744073709551615) (w : World) :
    Calls Tryd.prog 18 #[.int .u64 hi, .int .u64 lo, .int .u64 y] w (Div64Is hi lo y w) := by
  rcases Int.lt_or_le 0 hi with hp | hp
  · obtain ⟨y', rfl⟩ := Int.eq_ofNat_of_zero_le (show 0 ≤ y by omega)
    obtain ⟨n, hn, hn1, hY0, hY1⟩ : ∃ n : Nat, n ≤ 63 ∧ (64 - (Lib.bitLen y' : Int)) = n ∧ 9223372036854775808 ≤ (y' : Int) * 2 ^ n ∧ (y' : Int) * 2 ^ n ≤ 18446744073709551615 := by
      have hb := Lib.bitLenAux_bounds 64 y' (by omega) (by omega)
      have hb2 : Lib.bitLen y' ≤ 64 := by
        rcases Nat.lt_or_ge 64 (Lib.bitLen y') with h | h
        · exfalso
          have h1 : 2 ^ 64 ≤ 2 ^ (Lib.bitLenAux 64 y' - 1) := Nat.pow_le_pow_right (by omega) (by show 64 ≤ Lib.bitLen y' - 1; omega)
          omega
        · exact h
      obtain ⟨b1, b2, b3⟩ := hb
      obtain ⟨m, hm⟩ : ∃ m, Lib.bitLen y' = m := ⟨_, rfl⟩
      have hm' : Lib.bitLenAux 64 y' = m := hm
      rw [hm'] at b1 b2 b3
      rw [hm] at hb2 ⊢
      refine ⟨64 - m, by omega, by omega, ?_, ?_⟩
      · have h1 : 2 ^ (m - 1) * 2 ^ (64 - m) ≤ y' * 2 ^ (64 - m) := Nat.mul_le_mul_right _ b2
        rw [← Nat.pow_add, show m - 1 + (64 - m) = 63 by omega] at h1
        have h2 : ((9223372036854775808 : Nat) : Int) ≤ ((y' * 2 ^ (64 - m) : Nat) : Int) := Int.ofNat_le.2 h1
        simpa using h2
      · have h1 : y' * 2 ^ (64 - m) < 2 ^ m * 2 ^ (64 - m) := Nat.mul_lt_mul_of_pos_right b3 (Nat.two_pow_pos _)
        rw [← Nat.pow_add, show m + (64 - m) = 64 by omega] at h1
        have h2 : ((y' * 2 ^ (64 - m) : Nat) : Int) < ((18446744073709551616 : Nat) : Int) := Int.ofNat_lt.2 h1
        have h3 : ((y' * 2 ^ (64 - m) : Nat) : Int) = (y' : Int) * 2 ^ (64 - m) := by simp
        omega
    have Z : ∀ w, Calls Tryd.prog 27 #[.int .u64 (y' : Int)] w fun e w' => e = .returned (.int .i64 n) ∧ w' = w := by
      intro w
      have := Tryd.bits_LeadingZeros64 (y' : Int) w (by omega) hy1
      rw [Int.toNat_natCast, hn1] at this
      exact this
    obtain ⟨Y, hY⟩ : ∃ Y, Y = (y' : Int) * 2 ^ n := ⟨_, rfl⟩
    obtain ⟨U, hU⟩ : ∃ U, U = hi * 2 ^ n + lo / 2 ^ (64 - n) := ⟨_, rfl⟩
    obtain ⟨un, hun⟩ : ∃ un, un = lo * 2 ^ n % 18446744073709551616 := ⟨_, rfl⟩
    have N : Norm hi lo y' n Y U un := ⟨hY, hU, hun⟩
    obtain ⟨u0, u1, d0, d1, m0, v0, v1⟩ := N.below hn h0 hy l0 l1
    rw [← hY] at hY0 hY1
    have hM := pow_pos' n
    have and_low : ∀ x : Int, 0 ≤ x → x ≤ 18446744073709551615 → bits .and .u64 x 4294967295 = x % 4294967296 := fun x x0 x1 =>
      bits_mask .u64 64 (by decide) (fun n h0 h1 => by rw [Num.wrap_u64]; exact Int.emod_eq_of_lt h0 (by simpa using h1)) 32 (by decide) x x0 (by omega)
    have G1 : Digit Y (Y / 4294967296) (Y % 4294967296) U (un / 4294967296) ((U * 4294967296 + un / 4294967296) / Y) :=
      ⟨by omega, by omega, by omega, by omega, by omega, u0, u1, by omega, by omega, rfl⟩
    generalize hD1 : (U * 4294967296 + un / 4294967296) / Y = D1 at G1
    have r1 := G1.rest
    have G2 : Digit Y (Y / 4294967296) (Y % 4294967296) (U * 4294967296 + un / 4294967296 - D1 * Y) (un % 4294967296) (((U * 4294967296 + un / 4294967296 - D1 * Y) * 4294967296 + un % 4294967296) / Y) :=
      ⟨by omega, by omega, by omega, by omega, by omega, r1.1, r1.2, by omega, by omega, rfl⟩
    generalize hD0 : ((U * 4294967296 + un / 4294967296 - D1 * Y) * 4294967296 + un % 4294967296) / Y = D0 at G2
    have r2 := G2.rest
    obtain ⟨td1, td2⟩ := two_digits G1 G2
    obtain ⟨nd1, nd2⟩ := N.done hn
    rw [show un / 4294967296 * 4294967296 + un % 4294967296 = un by omega] at td1 td2
    have or1 : bits .or .u64 (IntKind.u64.wrap (hi * 2 ^ n)) (lo / 2 ^ (64 - n)) = U := by
      have hw : IntKind.u64.wrap (hi * 2 ^ n) = hi * 2 ^ n := by
        rw [Num.wrap_u64]; exact Int.emod_eq_of_lt m0 (by omega)
      rw [hw, hU]
      exact or_join (i := n) m0 (Int.mul_emod_left _ _) (by omega) d0 d1 (by omega)
    have wr : ∀ a b c : Int, 0 ≤ a - b → a - b ≤ 18446744073709551615 → (18446744073709551616 ∣ c - a) → IntKind.u64.wrap (IntKind.u64.wrap c - IntKind.u64.wrap b) = a - b := by
      intro a b c h1 h2 h3
      rw [Num.wrap_u64, Num.wrap_u64, Num.wrap_u64]
      omega
    refine div64_slow hi lo y' Y U un _ _ _ _ _ _ _ D1 D0 n (by omega) hy hy1 l0 l1 hn Z ?_ rfl ?_ or1 ?_ rfl ?_ rfl ?_ G1 G2 rfl (RR := (U * 4294967296 + un / 4294967296 - D1 * Y) * 4294967296 + un % 4294967296 - D0 * Y) ?_ ?_ ?_ w
    · rw [Num.wrap_u64, ← hY]; omega
    · exact and_low Y (by omega) (by omega)
    · rw [Num.wrap_u64]; exact hun.symm
    · exact and_low un v0 v1
    · refine wr _ _ _ (by omega) (by omega) ?_
      rw [Num.wrap_u64]; omega
    · refine wr _ _ _ (by omega) (by omega) ?_
      rw [Num.wrap_u64]; omega
    · exact Lib.hid (by rw [← nd1, td1])
    · exact Lib.hid (by rw [← nd2, td2])
  · obtain rfl : hi = 0 := by omega
    exact div64_fast lo y (by omega) hy1 l0 l1 w
end Go.Proofs.YtngnkgnobgfjeaaDoor.Wide
