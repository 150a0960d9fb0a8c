/- What the snapping's mask comes to: a number of 64 bits, without its last ten, is 1024 times its quotient. For every number of that kind. -/
import Derived.Test.YtdepcbgjoegkkaaNum
namespace Go.Proofs.Ytdepcbgjoegkkaa.Num
open Go Go.RowKit
theorem nat_high10 (x : Nat) (hx : x < 18446744073709551616) : x &&& 18446744073709550592 = x / 1024 * 1024 := by
  apply Nat.eq_of_testBit_eq
  intro i
  have e : (18446744073709550592 : Nat) = (2 ^ 54 - 1) <<< 10 := by decide
  have e2 : x / 1024 * 1024 = (x >>> 10) <<< 10 := by rw [Nat.shiftLeft_eq, Nat.shiftRight_eq_div_pow]
  rw [Nat.testBit_and, e, e2, Nat.testBit_shiftLeft, Nat.testBit_shiftLeft, Nat.testBit_two_pow_sub_one, Nat.testBit_shiftRight]
  by_cases h : 10 ≤ i
  · have e3 : 10 + (i - 10) = i := by omega
    simp only [h, decide_true, Bool.true_and, e3]
    by_cases h2 : i - 10 < 54
    · simp [h2]
    · have : x.testBit i = false := Nat.testBit_lt_two_pow (Nat.lt_of_lt_of_le hx (by
        have : 2 ^ 64 ≤ 2 ^ i := Nat.pow_le_pow_right (by omega) (by omega)
        simpa using this))
      simp [this]
  · simp [h]

theorem i64_andNot1023 (x : Int) (h0 : -9223372036854775808 ≤ x) (h1 : x ≤ 9223372036854775807) : bits .andNot .i64 x 1023 = x / 1024 * 1024 := by
  show IntKind.i64.wrap ((BitVec.ofInt 64 x &&& ~~~BitVec.ofInt 64 1023).toNat : Int) = _
  have h2 : (BitVec.ofInt 64 1023).toNat = 1023 := by decide
  rw [BitVec.toNat_and, BitVec.toNat_not, h2, show 2 ^ 64 - 1 - 1023 = 18446744073709550592 by decide]
  have h3 : ((BitVec.ofInt 64 x).toNat : Int) = x % 18446744073709551616 := by
    rw [BitVec.toNat_ofInt]; omega
  have h4 := (BitVec.ofInt 64 x).isLt
  rw [nat_high10 _ (by omega), IntKind.wrap_i64]
  generalize (BitVec.ofInt 64 x).toNat = m at *
  omega

/-- What snap.Number answers. -/
def snapN (n : Int) : Int := (n + 512) / 1024 * 1024
theorem snap_bits {n : Int} (h0 : -9223372036854775808 ≤ n) (h1 : n ≤ 9223372036854775295) : bits .andNot .i64 (wrap64 (n + 512)) 1023 = snapN n := by
  rw [wrap64_in (by omega) (by omega), i64_andNot1023 _ (by omega) (by omega)]; rfl
end Go.Proofs.Ytdepcbgjoegkkaa.Num
