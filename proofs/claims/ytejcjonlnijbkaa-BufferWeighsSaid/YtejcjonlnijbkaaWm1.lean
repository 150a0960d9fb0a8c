/- Small laws on numbers that a machine word holds: what is well formed lies between its kind's bounds, and a sum that fits isn't turned by the wrap. For every number. -/
import Derived.Laws.BitsAllLaws
import Derived.Laws.BitsLemmas
import Derived.RowKit
namespace Go.Proofs.Ytejcjonlnijbkaa.Num
open Go Go.RowKit
theorem wf_i64 {x : Int} (h : (Lit.int .i64 x).wf = true) : -9223372036854775808 ≤ x ∧ x ≤ 9223372036854775807 := by
  simp [Lit.wf, IntKind.min, IntKind.max, IntKind.signed, IntKind.bits] at h; omega
theorem wf_u8 {x : Int} (h : (Lit.int .u8 x).wf = true) : 0 ≤ x ∧ x ≤ 255 := by
  simp [Lit.wf, IntKind.min, IntKind.max, IntKind.signed, IntKind.bits] at h; omega
theorem wrap_u64 (n : Int) : IntKind.u64.wrap n = n % 18446744073709551616 := by simp [IntKind.wrap, IntKind.bits, IntKind.signed]
theorem u64_compl (n : Int) (h0 : 0 ≤ n) (h1 : n ≤ 18446744073709551615) : bits .xor .u64 18446744073709551615 n = 18446744073709551615 - n := by
  show IntKind.u64.wrap ((BitVec.ofInt 64 18446744073709551615 ^^^ BitVec.ofInt 64 n).toNat : Int) = _
  have e : BitVec.ofInt 64 18446744073709551615 = BitVec.allOnes 64 := by decide
  rw [e, BitVec.allOnes_xor, BitVec.toNat_not]
  have h3 : ((BitVec.ofInt 64 n).toNat : Int) = n := by
    rw [BitVec.toNat_ofInt]; omega
  have h4 := (BitVec.ofInt 64 n).isLt
  rw [wrap_u64]
  generalize (BitVec.ofInt 64 n).toNat = m at *
  omega
theorem u64_compl' (n : Int) (h0 : 0 ≤ n) (h1 : n ≤ 18446744073709551615) : bits .xor .u64 IntKind.u64.max n = 18446744073709551615 - n := by
  rw [show IntKind.u64.max = 18446744073709551615 by decide, u64_compl n h0 h1]
end Go.Proofs.Ytejcjonlnijbkaa.Num

/- Numbers of 128 bits as two words, two's complement: what the two words of a sum, of a number with the other sign, of a shifted number are. For every number in range. -/
namespace Go.Proofs.Ytejcjonlnijbkaa.Wide
open Go Go.RowKit
/-- The words hi, lo hold V modulo 2^128. -/
structure Big (V hi lo : Int) : Prop where
  h0 : 0 ≤ hi
  h1 : hi ≤ 18446744073709551615
  l0 : 0 ≤ lo
  l1 : lo ≤ 18446744073709551615
  e : hi * 18446744073709551616 + lo = V % 340282366920938463463374607431768211456
theorem Big.of {a : Int} (h0 : -9223372036854775808 ≤ a) (h1 : a ≤ 9223372036854775807) :
    Big a (a / 9223372036854775808 % 18446744073709551616) (a % 18446744073709551616) := by
  constructor <;> omega
theorem Big.small {V : Int} (h0 : 0 ≤ V) (h1 : V ≤ 18446744073709551615) : Big V 0 V := by
  constructor <;> omega
theorem Big.add {V U h1 l1 h2 l2 : Int} (a : Big V h1 l1) (b : Big U h2 l2) :
    Big (V + U) ((h1 + h2 + (l1 + l2) / 18446744073709551616) % 18446744073709551616) ((l1 + l2) % 18446744073709551616) := by
  obtain ⟨a1, a2, a3, a4, ae⟩ := a
  obtain ⟨b1, b2, b3, b4, be⟩ := b
  constructor <;> omega
theorem Big.not {V hi lo : Int} (a : Big V hi lo) : Big (-V - 1) (18446744073709551615 - hi) (18446744073709551615 - lo) := by
  obtain ⟨a1, a2, a3, a4, ae⟩ := a
  constructor <;> omega
theorem Big.neg_iff {V hi lo : Int} (a : Big V hi lo) (h0 : -170141183460469231731687303715884105728 ≤ V) (h1 : V < 170141183460469231731687303715884105728) :
    hi / 9223372036854775808 = 1 ↔ V < 0 := by
  obtain ⟨a1, a2, a3, a4, ae⟩ := a
  omega
theorem Big.unsigned {V hi lo : Int} (a : Big V hi lo) (h0 : 0 ≤ V) (h1 : V < 340282366920938463463374607431768211456) :
    hi * 18446744073709551616 + lo = V := by
  rw [a.e]; exact Int.emod_eq_of_lt h0 h1
/-- Do the words hold a number of 64 bits? -/
theorem Big.fits_iff {V hi lo : Int} (a : Big V hi lo) (h0 : -170141183460469231731687303715884105728 ≤ V) (h1 : V < 170141183460469231731687303715884105728) (x : Int)
    (hx : x = (lo + 9223372036854775808) % 18446744073709551616 - 9223372036854775808) :
    (x / 9223372036854775808 % 18446744073709551616 = hi ∧ x % 18446744073709551616 = lo) ↔ (-9223372036854775808 ≤ V ∧ V ≤ 9223372036854775807) := by
  obtain ⟨a1, a2, a3, a4, ae⟩ := a
  have hV : V % 340282366920938463463374607431768211456 = V ∨ V % 340282366920938463463374607431768211456 = V + 340282366920938463463374607431768211456 ∧ V < 0 := by
    rcases Int.lt_or_le V 0 with h | h
    · right; omega
    · left; omega
  generalize V % 340282366920938463463374607431768211456 = M at *
  have hx' : (x / 9223372036854775808 % 18446744073709551616 = 0 ∧ 0 ≤ x ∧ x % 18446744073709551616 = x) ∨ (x / 9223372036854775808 % 18446744073709551616 = 18446744073709551615 ∧ x < 0 ∧ x % 18446744073709551616 = x + 18446744073709551616) := by
    have hb : -9223372036854775808 ≤ x ∧ x ≤ 9223372036854775807 := by omega
    clear hx ae hV
    omega
  have hlo : lo = x ∧ lo ≤ 9223372036854775807 ∨ lo = x + 18446744073709551616 ∧ 9223372036854775808 ≤ lo := by clear ae hV hx'; omega
  clear hx
  rcases hx' with ⟨e1, e2, e3⟩ | ⟨e1, e2, e3⟩ <;> rw [e1, e3] <;> clear e1 e3 <;> omega
theorem Big.fits {V hi lo : Int} (a : Big V hi lo) (h0 : -9223372036854775808 ≤ V) (h1 : V ≤ 9223372036854775807) :
    (lo + 9223372036854775808) % 18446744073709551616 - 9223372036854775808 = V := by
  obtain ⟨a1, a2, a3, a4, ae⟩ := a
  omega
end Go.Proofs.Ytejcjonlnijbkaa.Wide

/- A number of 128 bits, shifted to the right by a count: the two words that the code puts together. For every number in range. -/
namespace Go.Proofs.Ytejcjonlnijbkaa.Wide
open Go Go.RowKit
theorem pow_split (n : Nat) (n1 : n ≤ 64) : (2 : Int) ^ n * 2 ^ (64 - n) = 18446744073709551616 := by
  rw [← Int.pow_add, show n + (64 - n) = 64 by omega]; decide
theorem pow_pos' (n : Nat) : (0 : Int) < 2 ^ n := Int.pow_pos (by decide)
theorem or_join {i : Nat} {x y : Int} (hx0 : 0 ≤ x) (hx : x % 2 ^ i = 0) (hx1 : x < 18446744073709551616) (hy0 : 0 ≤ y) (hy : y < 2 ^ i) (hy1 : y < 18446744073709551616) :
    bits .or .u64 x y = x + y :=
  bits_join .u64 64 (by decide) (fun n h0 h1 => by rw [Num.wrap_u64]; exact Int.emod_eq_of_lt h0 (by simpa using h1)) i x y hx0 hx (by simpa using hx1) hy0 hy (by simpa using hy1)
end Go.Proofs.Ytejcjonlnijbkaa.Wide

/- Long division of a number of two words by one of one word, digit by digit (base 2^32): each digit that the loop stops at is the true one, and the two together are the quotient. For all words, the upper one less than the divisor. -/
namespace Go.Proofs.Ytejcjonlnijbkaa.Wide
open Go Go.RowKit

/-- What a digit's search knows: the divisor Y with its upper digit at least 2^31, the rest U below it, the next digit u1, and the true digit D. -/
structure Digit (Y yn1 yn0 U u1 D : Int) : Prop where
  y : Y = yn1 * 4294967296 + yn0
  y1 : 2147483648 ≤ yn1
  y1' : yn1 ≤ 4294967295
  y0 : 0 ≤ yn0
  y0' : yn0 ≤ 4294967295
  u : 0 ≤ U
  u' : U < Y
  v : 0 ≤ u1
  v' : u1 ≤ 4294967295
  d : D = (U * 4294967296 + u1) / Y

theorem Digit.dY {Y yn1 yn0 U u1 D : Int} (h : Digit Y yn1 yn0 U u1 D) : D * Y ≤ U * 4294967296 + u1 ∧ U * 4294967296 + u1 < D * Y + Y ∧ 0 ≤ D ∧ D ≤ 4294967295 := by
  obtain ⟨y, y1, y1', y0, y0', u, u', v, v', d⟩ := h
  have hY : 0 < Y := by omega
  have e := Int.mul_ediv_add_emod (U * 4294967296 + u1) Y
  rw [← d, Int.mul_comm] at e
  have m0 := Int.emod_nonneg (U * 4294967296 + u1) (show Y ≠ 0 by omega)
  have m1 := Int.emod_lt_of_pos (U * 4294967296 + u1) hY
  have d0 : 0 ≤ D := by rw [d]; exact Int.ediv_nonneg (by omega) (by omega)
  refine ⟨by omega, by omega, d0, ?_⟩
  have : D < 4294967296 := by
    rw [d]; apply Int.ediv_lt_of_lt_mul hY
    omega
  omega

theorem Digit.start {Y yn1 yn0 U u1 D : Int} (h : Digit Y yn1 yn0 U u1 D) : U / yn1 * yn1 + (U - U / yn1 * yn1) = U ∧ D ≤ U / yn1 ∧ U / yn1 ≤ 4294967297 ∧ 0 ≤ U - U / yn1 * yn1 ∧ U - U / yn1 * yn1 < 4294967296 ∧ U / yn1 * yn1 ≤ U ∧ 0 ≤ U / yn1 * yn1 := by
  obtain ⟨d1, d2, d3, d4⟩ := h.dY
  obtain ⟨y, y1, y1', y0, y0', u, u', v, v', d⟩ := h
  have e := Int.mul_ediv_add_emod U yn1
  rw [Int.mul_comm] at e
  have m0 := Int.emod_nonneg U (show yn1 ≠ 0 by omega)
  have m1 := Int.emod_lt_of_pos U (show 0 < yn1 by omega)
  have q0 : 0 ≤ U / yn1 := Int.ediv_nonneg u (by omega)
  have q1 : 0 ≤ U / yn1 * yn1 := Int.mul_nonneg q0 (by omega)
  refine ⟨by omega, ?_, ?_, by omega, by omega, by omega, q1⟩
  · apply Int.le_ediv_of_mul_le (by omega)
    have h1 : D * Y = D * yn1 * 4294967296 + D * yn0 := by rw [y, Int.mul_add, Int.mul_assoc]
    have h2 : 0 ≤ D * yn0 := Int.mul_nonneg d3 y0
    omega
  · have : U / yn1 < 4294967298 := by
      apply Int.ediv_lt_of_lt_mul (by omega)
      omega
    omega

theorem Digit.step {Y yn1 yn0 U u1 D Q R : Int} (h : Digit Y yn1 yn0 U u1 D) (e : Q * yn1 + R = U) (hD : D ≤ Q) (ht : 4294967296 ≤ Q ∨ 4294967296 * R + u1 < Q * yn0) : D ≤ Q - 1 := by
  obtain ⟨d1, d2, d3, d4⟩ := h.dY
  rcases ht with ht | ht
  · omega
  · rcases Int.lt_or_le D Q with hl | hl
    · omega
    · have hq : Q = D := by omega
      subst hq
      have h1 : Q * Y = Q * yn1 * 4294967296 + Q * yn0 := by rw [h.y, Int.mul_add, Int.mul_assoc]
      omega

theorem Digit.exit1 {Y yn1 yn0 U u1 D Q R : Int} (h : Digit Y yn1 yn0 U u1 D) (e : Q * yn1 + R = U) (hD : D ≤ Q) (ht : ¬ 4294967296 * R + u1 < Q * yn0) : Q = D := by
  have h1 : Q * Y = Q * yn1 * 4294967296 + Q * yn0 := by rw [h.y, Int.mul_add, Int.mul_assoc]
  have hY : 0 < Y := by have := h.y; have := h.y1; have := h.y0; omega
  have : Q ≤ D := by
    rw [h.d]; apply Int.le_ediv_of_mul_le hY
    omega
  omega

theorem Digit.exit2 {Y yn1 yn0 U u1 D Q R : Int} (h : Digit Y yn1 yn0 U u1 D) (e : Q * yn1 + R = U) (hD : D ≤ Q) (hQ : Q ≤ 4294967296) (hR : 4294967296 ≤ R) : Q = D := by
  have h1 : Q * Y = Q * yn1 * 4294967296 + Q * yn0 := by rw [h.y, Int.mul_add, Int.mul_assoc]
  have hY : 0 < Y := by have := h.y; have := h.y1; have := h.y0; omega
  have hd := h.dY
  have h2 : Q * yn0 ≤ 4294967296 * 4294967295 := Int.mul_le_mul hQ h.y0' h.y0 (by omega)
  have : Q ≤ D := by
    have hv := h.v
    rw [h.d]; apply Int.le_ediv_of_mul_le hY
    omega
  omega

/-- The rest behind a digit. -/
theorem Digit.rest {Y yn1 yn0 U u1 D : Int} (h : Digit Y yn1 yn0 U u1 D) : 0 ≤ U * 4294967296 + u1 - D * Y ∧ U * 4294967296 + u1 - D * Y < Y := by
  have := h.dY; omega

theorem Digit.mulb {Y yn1 yn0 U u1 D Q : Int} (h : Digit Y yn1 yn0 U u1 D) (q0 : 0 ≤ Q) (q1 : Q ≤ 4294967297) : 0 ≤ Q * yn0 ∧ Q * yn0 ≤ 18446744073709551615 :=
  ⟨Int.mul_nonneg q0 h.y0, Int.le_trans (Int.mul_le_mul q1 h.y0' h.y0 (by omega)) (by omega)⟩

/-- Two digits make the quotient and the rest: of U 2^64 + u1 2^32 + u0. -/
theorem two_digits {Y yn1 yn0 U u1 u0 D1 D0 : Int} (h : Digit Y yn1 yn0 U u1 D1) (k : Digit Y yn1 yn0 (U * 4294967296 + u1 - D1 * Y) u0 D0) :
    (U * 18446744073709551616 + (u1 * 4294967296 + u0)) / Y = D1 * 4294967296 + D0 ∧
    (U * 18446744073709551616 + (u1 * 4294967296 + u0)) % Y = (U * 4294967296 + u1 - D1 * Y) * 4294967296 + u0 - D0 * Y := by
  have r := k.rest
  have hY : 0 < Y := by have := h.y; have := h.y1; have := h.y0; omega
  have e : U * 18446744073709551616 + (u1 * 4294967296 + u0) = ((U * 4294967296 + u1 - D1 * Y) * 4294967296 + u0 - D0 * Y) + Y * (D1 * 4294967296 + D0) := by
    have : Y * (D1 * 4294967296 + D0) = D1 * Y * 4294967296 + D0 * Y := by
      rw [Int.mul_add, Int.mul_comm Y D0, ← Int.mul_assoc, Int.mul_comm Y D1]
    rw [this]; omega
  constructor
  · rw [e, Int.add_mul_ediv_left _ _ (by omega), Int.ediv_eq_zero_of_lt r.1 r.2]; omega
  · rw [e, Int.add_mul_emod_self_left]; exact Int.emod_eq_of_lt r.1 r.2

/-- The divisor and the dividend, shifted so that the divisor's highest bit is its word's. -/
structure Norm (hi lo y : Int) (n : Nat) (Y U un : Int) : Prop where
  Y : Y = y * 2 ^ n
  U : U = hi * 2 ^ n + lo / 2 ^ (64 - n)
  un : un = lo * 2 ^ n % 18446744073709551616

theorem Norm.total {hi lo y : Int} {n : Nat} {Y U un : Int} (N : Norm hi lo y n Y U un) (n1 : n ≤ 63) :
    U * 18446744073709551616 + un = (hi * 18446744073709551616 + lo) * 2 ^ n := by
  have hMK := pow_split n (by omega)
  have hM := pow_pos' n
  have hK := pow_pos' (64 - n)
  rw [N.U, N.un]
  have e1 : lo * 2 ^ n / 18446744073709551616 = lo / 2 ^ (64 - n) := by
    rw [← hMK, Int.mul_comm lo, Int.mul_ediv_mul_of_pos _ _ hM]
  have e2 := Int.mul_ediv_add_emod (lo * 2 ^ n) 18446744073709551616
  rw [e1] at e2
  rw [Int.add_mul, Int.add_mul, Int.mul_right_comm hi]
  omega

theorem Norm.below {hi lo y : Int} {n : Nat} {Y U un : Int} (N : Norm hi lo y n Y U un) (n1 : n ≤ 63) (h0 : 0 ≤ hi) (hy : hi < y) (l0 : 0 ≤ lo) (l1 : lo ≤ 18446744073709551615) : 0 ≤ U ∧ U < Y ∧ 0 ≤ lo / 2 ^ (64 - n) ∧ lo / 2 ^ (64 - n) < 2 ^ n ∧ 0 ≤ hi * 2 ^ n ∧ 0 ≤ un ∧ un ≤ 18446744073709551615 := by
  have hMK := pow_split n (by omega)
  have hM := pow_pos' n
  have hK := pow_pos' (64 - n)
  have d0 : 0 ≤ lo / 2 ^ (64 - n) := Int.ediv_nonneg l0 (by omega)
  have d1 : lo / 2 ^ (64 - n) < 2 ^ n := by
    apply Int.ediv_lt_of_lt_mul hK
    rw [hMK]; omega
  have h2 : 0 ≤ hi * 2 ^ n := Int.mul_nonneg h0 (by omega)
  have h3 : (hi + 1) * 2 ^ n ≤ y * 2 ^ n := Int.mul_le_mul_of_nonneg_right (by omega) (by omega)
  rw [Int.add_mul] at h3
  have hU := N.U
  have hYe := N.Y
  have hun := N.un
  refine ⟨by omega, by omega, d0, d1, h2, by omega, by omega⟩

theorem Norm.done {hi lo y : Int} {n : Nat} {Y U un : Int} (N : Norm hi lo y n Y U un) (n1 : n ≤ 63) :
    (U * 18446744073709551616 + un) / Y = (hi * 18446744073709551616 + lo) / y ∧ (U * 18446744073709551616 + un) % Y / 2 ^ n = (hi * 18446744073709551616 + lo) % y := by
  have hM := pow_pos' n
  rw [N.total n1, N.Y]
  constructor
  · exact Int.mul_ediv_mul_of_pos_left _ _ hM
  · rw [Int.mul_comm _ (2 ^ n), Int.mul_comm y, Int.mul_emod_mul_of_pos _ _ hM, Int.mul_ediv_cancel_left _ (by omega)]
end Go.Proofs.Ytejcjonlnijbkaa.Wide
