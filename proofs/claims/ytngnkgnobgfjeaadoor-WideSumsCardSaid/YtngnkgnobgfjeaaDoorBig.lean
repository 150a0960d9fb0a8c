/- Numbers of 128 bits as two words, two's complement: what the two words of a sum, of a number with the other sign, of a shifted number are. For every number in range. -/
import Derived.Test.YtngnkgnobgfjeaaDoorNum
namespace Go.Proofs.YtngnkgnobgfjeaaDoor.Wide
open Go Go.RowKit
/-- The words hi, lo hold V modulo 2^128. -/
structure Big (V hi lo : Int) : Prop where
  h0 : 0 ≤ hi
  h1 : hi ≤ 18446744073709551615
  l0 : 0 ≤ lo
  l1 : lo ≤ 18446744073709551615
  e : hi * 18446744073709551616 + lo = V % 340282366920938463463374607431768211456
theorem Big.of {a : Int} (h0 : -9223372036854775808 ≤ a) (h1 : a ≤ 9223372036854775807) :
    Big a (a / 9223372036854775808 % 18446744073709551616) (a % 18446744073709551616) := by
  constructor <;> omega
theorem Big.small {V : Int} (h0 : 0 ≤ V) (h1 : V ≤ 18446744073709551615) : Big V 0 V := by
  constructor <;> omega
theorem Big.add {V U h1 l1 h2 l2 : Int} (a : Big V h1 l1) (b : Big U h2 l2) :
    Big (V + U) ((h1 + h2 + (l1 + l2) / 18446744073709551616) % 18446744073709551616) ((l1 + l2) % 18446744073709551616) := by
  obtain ⟨a1, a2, a3, a4, ae⟩ := a
  obtain ⟨b1, b2, b3, b4, be⟩ := b
  constructor <;> omega
theorem Big.not {V hi lo : Int} (a : Big V hi lo) : Big (-V - 1) (18446744073709551615 - hi) (18446744073709551615 - lo) := by
  obtain ⟨a1, a2, a3, a4, ae⟩ := a
  constructor <;> omega
theorem Big.neg_iff {V hi lo : Int} (a : Big V hi lo) (h0 : -170141183460469231731687303715884105728 ≤ V) (h1 : V < 170141183460469231731687303715884105728) :
    hi / 9223372036854775808 = 1 ↔ V < 0 := by
  obtain ⟨a1, a2, a3, a4, ae⟩ := a
  omega
theorem Big.unsigned {V hi lo : Int} (a : Big V hi lo) (h0 : 0 ≤ V) (h1 : V < 340282366920938463463374607431768211456) :
    hi * 18446744073709551616 + lo = V := by
  rw [a.e]; exact Int.emod_eq_of_lt h0 h1
/-- Do the words hold a number of 64 bits? -/
theorem Big.fits_iff {V hi lo : Int} (a : Big V hi lo) (h0 : -170141183460469231731687303715884105728 ≤ V) (h1 : V < 170141183460469231731687303715884105728) (x : Int)
    (hx : x = (lo + 9223372036854775808) % 18446744073709551616 - 9223372036854775808) :
    (x / 9223372036854775808 % 18446744073709551616 = hi ∧ x % 18446744073709551616 = lo) ↔ (-9223372036854775808 ≤ V ∧ V ≤ 9223372036854775807) := by
  obtain ⟨a1, a2, a3, a4, ae⟩ := a
  have hV : V % 340282366920938463463374607431768211456 = V ∨ V % 340282366920938463463374607431768211456 = V + 340282366920938463463374607431768211456 ∧ V < 0 := by
    rcases Int.lt_or_le V 0 with h | h
    · right; omega
    · left; omega
  generalize V % 340282366920938463463374607431768211456 = M at *
  have hx' : (x / 9223372036854775808 % 18446744073709551616 = 0 ∧ 0 ≤ x ∧ x % 18446744073709551616 = x) ∨ (x / 9223372036854775808 % 18446744073709551616 = 18446744073709551615 ∧ x < 0 ∧ x % 18446744073709551616 = x + 18446744073709551616) := by
    have hb : -9223372036854775808 ≤ x ∧ x ≤ 9223372036854775807 := by omega
    clear hx ae hV
    omega
  have hlo : lo = x ∧ lo ≤ 9223372036854775807 ∨ lo = x + 18446744073709551616 ∧ 9223372036854775808 ≤ lo := by clear ae hV hx'; omega
  clear hx
  rcases hx' with ⟨e1, e2, e3⟩ | ⟨e1, e2, e3⟩ <;> rw [e1, e3] <;> clear e1 e3 <;> omega
theorem Big.fits {V hi lo : Int} (a : Big V hi lo) (h0 : -9223372036854775808 ≤ V) (h1 : V ≤ 9223372036854775807) :
    (lo + 9223372036854775808) % 18446744073709551616 - 9223372036854775808 = V := by
  obtain ⟨a1, a2, a3, a4, ae⟩ := a
  omega
end Go.Proofs.YtngnkgnobgfjeaaDoor.Wide
