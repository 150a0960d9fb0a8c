/- The root of a number of 128 bits by Newton's way, from above: what stops it is the root, and no step goes below the root. Plain; for every number. -/
import Derived.Test.YtdhhkabihmdbnaaRootNum
namespace Go.Proofs.Ytdhhkabihmdbnaa.Root
open Go

/-- R is the root of N, rounded down. -/
structure IsRoot (N R : Int) : Prop where
  r0 : 0 ≤ R
  le : R * R ≤ N
  lt : N < (R + 1) * (R + 1)

theorem IsRoot.only {N R S : Int} (a : IsRoot N R) (b : IsRoot N S) : R = S := root_unique a.r0 b.r0 a.le a.lt b.le b.lt
/-- What is not less than the root, and whose square is not above the number, is the root. -/
theorem IsRoot.top {N R r : Int} (h : IsRoot N R) (hr : R ≤ r) (hs : r * r ≤ N) : r = R := by
  have h0 := h.r0
  have : r < R + 1 := lt_of_sq (by omega) (Int.lt_of_le_of_lt hs h.lt)
  omega
theorem IsRoot.high {N R r hi lo : Int} (h : IsRoot N R) (e : N = hi * 18446744073709551616 + lo) (l0 : 0 ≤ lo) (hr : R ≤ r) (hr1 : r ≤ 18446744073709551615) (hh : r ≤ hi) : r = R := by
  refine h.top hr ?_
  have h0 := h.r0
  have h1 : r * r ≤ hi * 18446744073709551616 := Int.mul_le_mul hh (by omega) (by omega) (by omega)
  omega
theorem IsRoot.stop {N R r : Int} (h : IsRoot N R) (hr : R ≤ r) (hp : 0 < r) (hq : r ≤ N / r) : r = R := by
  refine h.top hr ?_
  exact (Int.le_ediv_iff_mul_le hp).1 hq
theorem IsRoot.step {N R r : Int} (h : IsRoot N R) (hr : R ≤ r) (hp : 0 < r) (hq : N / r < r) : R ≤ N / r + (r - N / r) / 2 ∧ N / r + (r - N / r) / 2 < r := by
  refine ⟨?_, by omega⟩
  apply Classical.byContradiction
  intro hn
  have h1 : N / r + 1 ≤ 2 * R - r := by omega
  have h2 : N < (N / r + 1) * r := Int.lt_ediv_add_one_mul_self N hp
  have h3 : (N / r + 1) * r ≤ (2 * R - r) * r := Int.mul_le_mul_of_nonneg_right h1 (by omega)
  have h4 : 0 ≤ (r - R) * (r - R) := Int.mul_nonneg (by omega) (by omega)
  have h5 := h.le
  simp only [Int.sub_mul, Int.mul_sub, Int.mul_assoc] at h3 h4
  have h6 : R * r = r * R := Int.mul_comm _ _
  omega

/-- The root of a number below 2^128: bit by bit, 64 bits. -/
structure At64 (N r : Int) (j : Nat) : Prop where
  r0 : 0 ≤ r
  le : r * r ≤ N
  lt : N < (r + pw j) * (r + pw j)
  hi : r + pw j ≤ 18446744073709551616
theorem At64.yes {N r : Int} {j : Nat} (h : At64 N r (j + 1)) (hy : (r + pw j) * (r + pw j) ≤ N) : At64 N (r + pw j) j := by
  have := pw_pos j
  have e := h.lt
  rw [pw_succ] at e
  exact ⟨by have := h.r0; omega, hy, by rw [show r + pw j + pw j = r + 2 * pw j by omega]; exact e, by have := h.hi; rw [pw_succ] at this; omega⟩
theorem At64.no {N r : Int} {j : Nat} (h : At64 N r (j + 1)) (hn : ¬ (r + pw j) * (r + pw j) ≤ N) : At64 N r j := ⟨h.r0, h.le, by omega, by have := pw_pos j; have := h.hi; rw [pw_succ] at this; omega⟩
theorem At64.root {N : Int} : ∀ {r : Int} {j : Nat}, At64 N r j → IsRoot N (rootL N r j)
  | r, 0, h => ⟨h.r0, h.le, h.lt⟩
  | r, j + 1, h => by
    show IsRoot N (rootL N r (j + 1))
    unfold rootL
    split
    · rename_i c; exact At64.root (h.yes c)
    · rename_i c; exact At64.root (h.no c)
theorem At64.start {N : Int} (h0 : 0 ≤ N) (h1 : N < 340282366920938463463374607431768211456) : At64 N 0 64 := ⟨by decide, by omega, by simpa [pw] using h1, by decide⟩
theorem isRoot_of {N : Int} (h0 : 0 ≤ N) (h1 : N < 340282366920938463463374607431768211456) : IsRoot N (rootL N 0 64) := (At64.start h0 h1).root
theorem isRoot_floor {N : Int} (h0 : 0 ≤ N) (h1 : N < 18446744073709551616) : IsRoot N (rootF N) := by
  obtain ⟨a, b, c, _⟩ := rootF_spec h0 h1
  exact ⟨a, b, c⟩
theorem IsRoot.below {N R b : Int} (h : IsRoot N R) (b0 : 0 ≤ b) (hb : N < b * b) : R < b := lt_of_sq b0 (Int.lt_of_le_of_lt h.le hb)
/-- Where Newton's way begins. -/
theorem IsRoot.begin {N R : Int} {k m : Nat} (h : IsRoot N R) (hk : N < 2 ^ k) (hm : k ≤ 2 * m) : R < 2 ^ m := by
  refine h.below (Int.le_of_lt (Int.pow_pos (by decide))) ?_
  rw [← Int.pow_add]
  refine Int.lt_of_lt_of_le hk ?_
  have := Nat.pow_le_pow_right (n := 2) (by decide) (show k ≤ m + m by omega)
  exact_mod_cast this
/-- Four times as great: twice as great, or one more. -/
theorem IsRoot.four {N R S : Int} (h : IsRoot N R) (k : IsRoot (4 * N) S) : S = 2 * R ∨ S = 2 * R + 1 := by
  have h0 := h.r0
  have k0 := k.r0
  have e1 : R * (2 * R) = 2 * (R * R) := by rw [← Int.mul_assoc, Int.mul_comm R 2, Int.mul_assoc]
  have e2 : 2 * R * (2 * R) = 4 * (R * R) := by rw [Int.mul_assoc, e1]; omega
  have e3 : (2 * R + 2) * (2 * R + 2) = 4 * ((R + 1) * (R + 1)) := by
    simp only [Int.add_mul, Int.mul_add, Int.mul_assoc]
    omega
  have hl := h.lt
  have he := h.le
  have kl := k.lt
  have a : S < 2 * R + 2 := k.below (by omega) (by rw [e3]; omega)
  have b : 2 * R < S + 1 := lt_of_sq (by omega) (by rw [e2]; omega)
  omega
theorem IsRoot.rise {N M R S : Int} (h : IsRoot N R) (k : IsRoot M S) (hl : N ≤ M) : R ≤ S := by
  have := h.r0
  have := k.r0
  have : R < S + 1 := lt_of_sq (by omega) (Int.lt_of_le_of_lt h.le (Int.lt_of_le_of_lt hl k.lt))
  omega
end Go.Proofs.Ytdhhkabihmdbnaa.Root
