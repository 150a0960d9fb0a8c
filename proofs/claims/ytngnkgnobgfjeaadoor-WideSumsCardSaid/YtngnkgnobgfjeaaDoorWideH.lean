/- Package wide's Dot and MulShift, walked: a sum of two products, divided by a power of two, is the nearest whole number, rounded once, if it is one of 64 bits. For all arguments. -/
import Derived.Test.YtngnkgnobgfjeaaDoorWideG
import Derived.Test.YtngnkgnobgfjeaaDoorWideS
namespace Go.Proofs.YtngnkgnobgfjeaaDoor.Wide
open Go Go.RowKit
set_option maxRecDepth 100000
set_option linter.unusedVariables false
set_option linter.unusedSimpArgs false

def dotV (a b c d s : Int) : Int := if 0 ≤ s ∧ s ≤ 62 then fitV (near (a * b + c * d) (2 ^ s.toNat)) else 0
def dotB (a b c d s : Int) : Bool := if 0 ≤ s ∧ s ≤ 62 then fitB (near (a * b + c * d) (2 ^ s.toNat)) else false

theorem near_pow {V : Int} {n : Nat} (n0 : 1 ≤ n) : near V (2 ^ n) = (V + 2 ^ (n - 1)) / 2 ^ n := by
  obtain ⟨m, rfl⟩ : ∃ m, n = m + 1 := ⟨n - 1, by omega⟩
  unfold near
  rw [Nat.add_sub_cancel, Int.pow_succ]
  have hp := pow_pos' m
  generalize (2 : Int) ^ m = p at *
  rw [show 2 * V + p * 2 = 2 * (V + p) by omega, Int.mul_ediv_mul_of_pos _ _ (by omega)]
theorem near_one {V : Int} : near V (2 ^ 0) = V := by unfold near; simp; omega

theorem prod_less {a b : Int} (a0 : -9223372036854775808 ≤ a) (a1 : a ≤ 9223372036854775807) (b0 : -9223372036854775808 ≤ b) (b1 : b ≤ 9223372036854775807)
    (h : ¬ (a = -9223372036854775808 ∧ b = -9223372036854775808)) : a * b ≤ 85070591730234615856620279821087277056 := by
  by_cases ha : a < 0 <;> by_cases hb : b < 0
  · rw [← Int.neg_mul_neg]
    by_cases e : a = -9223372036854775808
    · have : -a * -b ≤ 9223372036854775808 * 9223372036854775807 := Int.mul_le_mul (by omega) (by omega) (by omega) (by omega)
      omega
    · have : -a * -b ≤ 9223372036854775807 * 9223372036854775808 := Int.mul_le_mul (by omega) (by omega) (by omega) (by omega)
      omega
  · have : a * b ≤ 0 := Int.mul_nonpos_of_nonpos_of_nonneg (by omega) (by omega)
    omega
  · have : a * b ≤ 0 := Int.mul_nonpos_of_nonneg_of_nonpos (by omega) (by omega)
    omega
  · have : a * b ≤ 9223372036854775807 * 9223372036854775807 := Int.mul_le_mul (by omega) (by omega) (by omega) (by omega)
    omega

/-- The walk where no guard stands in the way; which of the four comparisons fails is one of four ways. -/
theorem dot_go (a b c d : Int) (s : Int) (w : World) (X Y : Int) (T1 : ∀ w, Calls Tryd.prog 15 #[.int .i64 a, .int .i64 b] w (GivesBig X w)) (T2 : ∀ w, Calls Tryd.prog 15 #[.int .i64 c, .int .i64 d] w (GivesBig Y w))
    (S : ∀ hi lo, Big (X + Y) hi lo → ∀ w, Calls Tryd.prog 28 #[.agg #[.int .u64 hi, .int .u64 lo], .int .i64 s] w (GivesBig (near (X + Y) (2 ^ s.toNat)) w))
    (s0 : 0 ≤ s) (s1 : s ≤ 62) (P : ∀ hi lo, Big (near (X + Y) (2 ^ s.toNat)) hi lo → ∀ w, Calls Tryd.prog 11 #[.agg #[.int .u64 hi, .int .u64 lo]] w fun e w' => e = .returned (.tuple #[.int .i64 (fitV (near (X + Y) (2 ^ s.toNat))), .bool (fitB (near (X + Y) (2 ^ s.toNat)))]) ∧ Below w.heap.size w w')
    (h : (a == -9223372036854775808) = false ∨ ((a == -9223372036854775808) = true ∧ (b == a) = false) ∨ ((a == -9223372036854775808) = true ∧ (b == a) = true ∧ (c == a) = false) ∨ ((a == -9223372036854775808) = true ∧ (b == a) = true ∧ (c == a) = true ∧ (d == a) = false)) :
    Calls Tryd.prog 20 #[.int .i64 a, .int .i64 b, .int .i64 c, .int .i64 d, .int .i64 s] w fun e w' => e = .returned (.tuple #[.int .i64 (fitV (near (X + Y) (2 ^ s.toNat))), .bool (fitB (near (X + Y) (2 ^ s.toNat)))]) ∧ Below w.heap.size w w' := by
  generalize hN : near (X + Y) (2 ^ s.toNat) = N at *
  clear hN
  rcases h with e1 | ⟨e1, e2⟩ | ⟨e1, e2, e3⟩ | ⟨e1, e2, e3, e4⟩
  all_goals
    go_enter Tryd.func20, Tryd.ntmps20
    go_wp2_with (first
      | (go_at_call 15; ((with_reducible refine (T1 _).mono ?_); rintro e w1 ⟨xh, xl, BX, rfl, hb1⟩; clear T1))
      | (go_at_call 15; ((with_reducible refine (T2 _).mono ?_); rintro e w2 ⟨yh, yl, BY, rfl, hb2⟩; clear T2))
      | (go_at_call 9; ((with_reducible refine (add_calls BX BY _).mono ?_); rintro e w3 ⟨zh, zl, BZ, rfl, hb3⟩))
      | (go_at_call 28; ((with_reducible refine (S _ _ BZ _).mono ?_); rintro e w4 ⟨rh, rl, BR, rfl, hb4⟩; clear S))
      | (go_at_call 11; ((with_reducible refine (P _ _ BR _).mono ?_); rintro e w5 ⟨rfl, hb5⟩)))
    go_ret2
    exact ⟨rfl, below_more (below_more (below_more (below_more hb1 hb2) hb3) hb4) hb5⟩

theorem dot_out (a b c d s : Int) (w : World) (hs : s < 0 ∨ 62 < s) :
    Calls Tryd.prog 20 #[.int .i64 a, .int .i64 b, .int .i64 c, .int .i64 d, .int .i64 s] w fun e w' => e = .returned (.tuple #[.int .i64 0, .bool false]) ∧ Below w.heap.size w w' := by
  rcases hs with hs | hs
  · go_enter Tryd.func20, Tryd.ntmps20
    go_wp2
    go_ret2
    exact ⟨rfl, Below.refl _ _⟩
  · have hs' : ¬ s < 0 := by omega
    go_enter Tryd.func20, Tryd.ntmps20
    go_wp2
    go_ret2
    exact ⟨rfl, Below.refl _ _⟩

theorem dot_min (s : Int) (w : World) (s0 : 0 ≤ s) (s1 : s ≤ 62) :
    Calls Tryd.prog 20 #[.int .i64 (-9223372036854775808), .int .i64 (-9223372036854775808), .int .i64 (-9223372036854775808), .int .i64 (-9223372036854775808), .int .i64 s] w fun e w' => e = .returned (.tuple #[.int .i64 0, .bool false]) ∧ Below w.heap.size w w' := by
  have e : ((-9223372036854775808 : Int) == -9223372036854775808) = true := by decide
  go_enter Tryd.func20, Tryd.ntmps20
  go_wp2
  go_ret2
  exact ⟨rfl, Below.refl _ _⟩

theorem dot_calls (a b c d s : Int) (a0 : -9223372036854775808 ≤ a) (a1 : a ≤ 9223372036854775807) (b0 : -9223372036854775808 ≤ b) (b1 : b ≤ 9223372036854775807)
    (c0 : -9223372036854775808 ≤ c) (c1 : c ≤ 9223372036854775807) (d0 : -9223372036854775808 ≤ d) (d1 : d ≤ 9223372036854775807) (w : World) :
    Calls Tryd.prog 20 #[.int .i64 a, .int .i64 b, .int .i64 c, .int .i64 d, .int .i64 s] w fun e w' => e = .returned (.tuple #[.int .i64 (dotV a b c d s), .bool (dotB a b c d s)]) ∧ Below w.heap.size w w' := by
  unfold dotV dotB
  by_cases hs : 0 ≤ s ∧ s ≤ 62
  · rw [if_pos hs, if_pos hs]
    obtain ⟨s0, s1⟩ := hs
    have hp : (1 : Int) ≤ 2 ^ s.toNat ∧ (2 : Int) ^ s.toNat ≤ 4611686018427387904 := by
      have h1 := pow_pos' s.toNat
      have : 2 ^ s.toNat ≤ 2 ^ 62 := Nat.pow_le_pow_right (by decide) (by omega)
      have h2 : ((2 ^ s.toNat : Nat) : Int) ≤ ((2 ^ 62 : Nat) : Int) := Int.ofNat_le.2 this
      have h3 : ((2 ^ s.toNat : Nat) : Int) = (2 : Int) ^ s.toNat := by simp
      have h4 : ((2 ^ 62 : Nat) : Int) = 4611686018427387904 := by decide
      omega
    by_cases hmin : (a = -9223372036854775808 ∧ b = a ∧ c = a ∧ d = a)
    · obtain ⟨rfl, rfl, rfl, rfl⟩ := hmin
      have hno : ¬ (-9223372036854775808 ≤ near ((-9223372036854775808) * (-9223372036854775808) + (-9223372036854775808) * (-9223372036854775808)) (2 ^ s.toNat) ∧ near ((-9223372036854775808) * (-9223372036854775808) + (-9223372036854775808) * (-9223372036854775808)) (2 ^ s.toNat) ≤ 9223372036854775807) := by
        intro ⟨_, h⟩
        unfold near at h
        generalize (2 : Int) ^ s.toNat = p at *
        have h3 := Int.lt_mul_of_ediv_lt (show 0 < 2 * p by omega) (Int.lt_of_le_of_lt h (show (9223372036854775807 : Int) < 9223372036854775808 by omega))
        omega
      obtain ⟨v1, v2⟩ := fit_no hno
      rw [v1, v2]
      exact dot_min s w s0 s1
    · have pa := prod_bound a0 a1 b0 b1
      have pc := prod_bound c0 c1 d0 d1
      have hV : a * b + c * d ≤ 170141183460469231722463931679029329920 := by
        by_cases h1 : a = -9223372036854775808 ∧ b = -9223372036854775808
        · have := prod_less c0 c1 d0 d1 (by omega)
          omega
        · have := prod_less a0 a1 b0 b1 h1
          omega
      have T1 := fun w => times_calls a b a0 a1 b0 b1 w
      have T2 := fun w => times_calls c d c0 c1 d0 d1 w
      have hV0 : -170141183460469231731687303715884105728 ≤ a * b + c * d := by omega
      generalize a * b = X at *
      generalize c * d = Y at *
      have hnear : -170141183460469231731687303715884105728 ≤ near (X + Y) (2 ^ s.toNat) ∧ near (X + Y) (2 ^ s.toNat) < 170141183460469231731687303715884105728 := by
        unfold near
        generalize (2 : Int) ^ s.toNat = p at *
        constructor
        · apply Int.le_ediv_of_mul_le (by omega)
          have : -170141183460469231731687303715884105728 * (2 * p) ≤ -170141183460469231731687303715884105728 * 2 := by omega
          omega
        · apply Int.ediv_lt_of_lt_mul (by omega)
          omega
      refine dot_go a b c d s w X Y T1 T2 ?_ s0 s1 ?_ ?_
      · intro hi lo B w
        obtain ⟨n, rfl⟩ := Int.eq_ofNat_of_zero_le s0
        rw [Int.toNat_natCast]
        rcases Nat.eq_zero_or_pos n with h | h
        · subst h
          rw [near_one]
          exact shifted_zero B w
        · rw [near_pow h]
          have h1 := pow_pos' (n - 1)
          have h2 : (2 : Int) ^ n = 2 ^ (n - 1) * 2 := by rw [← Int.pow_succ]; congr 1; omega
          rw [Int.toNat_natCast] at hp
          exact shifted_pos B n h (by omega) (by omega) (by omega) w
      · intro hi lo B w
        exact plain_calls B hnear.1 hnear.2 w
      · by_cases e1 : a = -9223372036854775808
        · by_cases e2 : b = a
          · by_cases e3 : c = a
            · right; right; right
              exact ⟨by simpa using e1, by simpa using e2, by simpa using e3, by simp; omega⟩
            · right; right; left
              exact ⟨by simpa using e1, by simpa using e2, by simpa using e3⟩
          · right; left
            exact ⟨by simpa using e1, by simpa using e2⟩
        · left; simpa using e1
  · rw [if_neg hs, if_neg hs]
    exact dot_out a b c d s w (by omega)

theorem mulshift_calls (a b s : Int) (a0 : -9223372036854775808 ≤ a) (a1 : a ≤ 9223372036854775807) (b0 : -9223372036854775808 ≤ b) (b1 : b ≤ 9223372036854775807) (w : World) :
    Calls Tryd.prog 8 #[.int .i64 a, .int .i64 b, .int .i64 s] w fun e w' => e = .returned (.tuple #[.int .i64 (dotV a b 0 0 s), .bool (dotB a b 0 0 s)]) ∧ Below w.heap.size w w' := by
  have D := fun w => dot_calls a b 0 0 s a0 a1 b0 b1 (by omega) (by omega) (by omega) (by omega) w
  go_enter Tryd.func8, Tryd.ntmps8
  go_wp2_with (go_at_call 20; ((with_reducible refine (D _).mono ?_); rintro e w1 ⟨rfl, hb1⟩))
  go_ret2
  exact ⟨rfl, hb1⟩
end Go.Proofs.YtngnkgnobgfjeaaDoor.Wide
