/- Sine and cosine of package trig lie on the circle. No program in sight. -/
import Derived.Test.YtngnkgnobgfjeaaTrigD
import Derived.Test.YtngnkgnobgfjeaaTrigE
namespace Go.Proofs.Ytngnkgnobgfjeaa.Trig
open Go Go.RowKit Wide Poly
set_option maxRecDepth 100000
set_option linter.unusedVariables false
set_option linter.unusedSimpArgs false

theorem LM : L = M * Q := by decide +kernel
theorem Bd.tiny {w : Int} (h : w.natAbs ≤ Poly.tiny) : Bd w (M * M * (Q * 33554432)) := by
  have e : (Poly.tiny : Int) = M * M * (Q * 33554432) := by decide +kernel
  exact Bd.of (by rw [← e]; exact Int.ofNat_le.2 h)
theorem cs_zero : cs 0 = L := by decide +kernel
/-- How large sine and cosine are at most, up to 8/5, and up to 4/5. -/
theorem size_sn {x : Int} (h : x.natAbs ≤ A8) : Bd (sn x) (M * (Q * 3)) := by
  have h1 := Nat.le_trans (ev_bound h pS) (show nrm pS A8 ≤ (M * (Q * 3)).natAbs by decide +kernel)
  have h2 : 0 ≤ M * (Q * 3) := by decide +kernel
  exact Bd.of (by have := Int.ofNat_le.2 h1; unfold sn; omega)
theorem size_cs {x : Int} (h : x.natAbs ≤ A8) : Bd (cs x) (M * (Q * 3)) := by
  have h1 := Nat.le_trans (ev_bound h pC) (show nrm pC A8 ≤ (M * (Q * 3)).natAbs by decide +kernel)
  have h2 : 0 ≤ M * (Q * 3) := by decide +kernel
  exact Bd.of (by have := Int.ofNat_le.2 h1; unfold cs; omega)
theorem half_sn {x : Int} (h : x.natAbs ≤ A4) : Bd (sn x) (M * Q) := by
  have h1 := Nat.le_trans (ev_bound h pS) (show nrm pS A4 ≤ (M * Q).natAbs by decide +kernel)
  have h2 : 0 ≤ M * Q := by decide +kernel
  exact Bd.of (by have := Int.ofNat_le.2 h1; unfold sn; omega)
theorem circle {x : Int} (h : x.natAbs ≤ A4) : Bd (sn x * sn x + cs x * cs x - L * L) (M * M * (Q * 33554432)) := by
  have h8 : x.natAbs ≤ A8 := Nat.le_trans h (by decide)
  have := Bd.tiny (add_C h8 (show (-x).natAbs ≤ A4 by rw [Int.natAbs_neg]; exact h))
  rw [sn_neg, cs_neg, show x + -x = 0 by omega, cs_zero] at this
  rw [show sn x * sn x + cs x * cs x - L * L = cs x * cs x - sn x * -sn x - L * L by rw [Int.mul_neg]; omega]
  exact this
/-- A side of the circle's triangle is at most as long as its radius. -/
theorem side {p q : Int} (h : Bd (p * p + q * q - L * L) (M * M * (Q * 33554432))) : Bd p (M * (Q + 16777216)) := by
  have m0 := Mpos
  have hq : 0 ≤ q * q := by
    rcases Int.le_total 0 q with h | h
    · exact Int.mul_nonneg h h
    · have := Int.mul_nonneg (show 0 ≤ -q by omega) (show 0 ≤ -q by omega); rwa [Int.neg_mul_neg] at this
  have hL : L = M * Q := LM
  apply Bd.of
  apply Int.not_lt.1
  intro hn
  have hp : (p.natAbs : Int) * p.natAbs = p * p := Int.natAbs_mul_self
  have h0 : 0 ≤ M * (Q + 16777216) := by decide +kernel
  have h2 := Int.mul_le_mul (Int.le_of_lt hn) (Int.le_of_lt hn) h0 (by omega)
  rw [hp] at h2
  have e : M * (Q + 16777216) * (M * (Q + 16777216)) = L * L + M * M * (Q * 33554432) + M * M * 281474976710656 := by rw [hL]; grind
  have hm : 0 < M * M := Int.mul_pos m0 m0
  unfold Bd at h
  omega
/-- What is told of an angle of up to 45 degrees: on the circle, and at most 1. -/
def Circ (s c : Int) : Prop := Bd s 1073741824 ∧ Bd c 1073741824 ∧ Bd (s * s + c * c - 1152921504606846976) 4294967296
theorem told_one {o P : Int} (h : Told o P) (hP : Bd P (M * (Q + 16777216))) : Bd o 1073741824 := by
  unfold Told at h
  have m0 := Mpos
  have k := h.add hP
  rw [show 1073741824 * (M * o) - P + P = M * (1073741824 * o) by grind, ← Int.mul_add] at k
  have := Bd.div m0 k
  rw [Qval] at this
  unfold Bd at *
  omega
theorem told_circ {s c x : Int} (hx : x.natAbs ≤ A4) (hs : Told s (sn x)) (hc : Told c (cs x)) : Circ s c := by
  have h := circle hx
  have p1 := side h
  have q1 := side (p := cs x) (q := sn x) (by rw [Int.add_comm (cs x * cs x)]; exact h)
  have b1 := told_one hs p1
  have b2 := told_one hc q1
  refine ⟨b1, b2, ?_⟩
  have m0 := Mpos
  unfold Told at hs hc
  generalize sn x = p at *
  generalize cs x = q at *
  have hL : L = M * Q := LM
  -- K s = p + e, K c = q + f
  have e1 := hs.mul hs
  have f1 := hc.mul hc
  have e2 := p1.mul hs
  have f2 := q1.mul hc
  apply Bd.div (K := M * M * 1152921504606846976) (by have := Int.mul_pos m0 m0; omega)
  have id : M * M * 1152921504606846976 * (s * s + c * c - 1152921504606846976) = (p * p + q * q - L * L) + 2 * (p * (1073741824 * (M * s) - p)) + 2 * (q * (1073741824 * (M * c) - q)) + (1073741824 * (M * s) - p) * (1073741824 * (M * s) - p) + (1073741824 * (M * c) - q) * (1073741824 * (M * c) - q) := by
    rw [hL, Qval]; grind
  rw [id]
  have g1 : M * (Q + 16777216) * (M * 536870932) = M * M * ((Q + 16777216) * 536870932) := by grind
  have g2 : M * 536870932 * (M * 536870932) = M * M * (536870932 * 536870932) := by grind
  rw [g1] at e2 f2
  rw [g2] at e1 f1
  rw [Qval] at *
  have hm : 0 < M * M := Int.mul_pos m0 m0
  rw [Int.mul_assoc (M * M) 1152921504606846976 4294967296]
  generalize M * M = mm at *
  generalize p * (1073741824 * (M * s) - p) = u1 at *
  generalize q * (1073741824 * (M * c) - q) = u2 at *
  generalize (1073741824 * (M * s) - p) * (1073741824 * (M * s) - p) = u3 at *
  generalize (1073741824 * (M * c) - q) * (1073741824 * (M * c) - q) = u4 at *
  generalize p * p + q * q - L * L = u5 at *
  clear id g1 g2 hs hc hx hL b1 b2 p1 q1
  unfold Bd at *
  omega
theorem Circ.swap {s c : Int} (h : Circ s c) : Circ c s := ⟨h.2.1, h.1, by rw [Int.add_comm (c * c)]; exact h.2.2⟩
theorem Circ.quarter {s c : Int} (h : Circ s c) : Circ c (wrap64 (-s)) := by
  have e : wrap64 (-s) = -s := by have := h.1; unfold Bd at this; unfold wrap64; omega
  rw [e]
  exact ⟨h.2.1, h.1.neg, by rw [Int.neg_mul_neg, Int.add_comm (c * c)]; exact h.2.2⟩
theorem rest_circ {r : Int} (r0 : 0 ≤ r) (r1 : r < 5898240) : Circ (restV r).1 (restV r).2 := by
  unfold restV
  split
  · obtain ⟨x0, x1⟩ := ang_half (r := 5898240 - r) (by omega) (by omega)
    obtain ⟨h1, h2⟩ := ser_told (r := 5898240 - r) (by omega) (by omega)
    exact (told_circ (by unfold A4; omega) h1 h2).swap
  · obtain ⟨x0, x1⟩ := ang_half (r := r) (by omega) (by omega)
    obtain ⟨h1, h2⟩ := ser_told (r := r) (by omega) (by omega)
    exact told_circ (by unfold A4; omega) h1 h2
theorem quad_circ {q : Int} {p : Int × Int} (h : Circ p.1 p.2) : Circ (quad q p).1 (quad q p).2 := by
  have e1 : wrap64 (-p.1) = -p.1 := by have := h.1; unfold Bd at this; unfold wrap64; omega
  have e2 : wrap64 (-p.2) = -p.2 := by have := h.2.1; unfold Bd at this; unfold wrap64; omega
  unfold quad
  split
  · exact h
  split
  · exact h.quarter
  split
  · have := h.quarter.quarter
    exact this
  · have := h.quarter.quarter.quarter
    simp only at this ⊢
    rw [e1, show wrap64 (- -p.1) = p.1 by have := h.1; unfold Bd at this; unfold wrap64; omega] at this
    exact this
theorem both_circ (d : Int) : Circ (bothV d).1 (bothV d).2 := by
  have h := Int.mul_ediv_add_emod d 5898240
  have h0 := Int.emod_nonneg d (show (5898240 : Int) ≠ 0 by omega)
  have h1 := Int.emod_lt_of_pos d (show (0 : Int) < 5898240 by omega)
  rw [both_at h.symm h0 h1]
  exact quad_circ (rest_circ h0 h1)
end Go.Proofs.Ytngnkgnobgfjeaa.Trig
