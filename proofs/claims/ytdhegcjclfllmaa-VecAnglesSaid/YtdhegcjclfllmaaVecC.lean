/- Dot and Cross of package vec as numbers: the quotient by 2^30. For all inputs. -/
import Derived.Test.YtdhegcjclfllmaaEx1
import Derived.Test.YtdhegcjclfllmaaVecK
import Derived.Test.YtdhegcjclfllmaaPEx2
import Derived.Test.YtdhegcjclfllmaaPEx3
namespace Go.Proofs.Ytdhegcjclfllmaa.Vec
open Go Go.RowKit Go.Proofs.Ytdhegcjclfllmaa.PE
set_option linter.unusedVariables false
def quo (z : Int) : Int := Wide.fitV (Wide.near z 1073741824)
theorem dot_q {a b c d : Int} (ha : I64 a) (hb : I64 b) (hc : I64 c) (hd : I64 d) : vec_Dot.f a b c d = some (quo (a * c + b * d)) := by
  unfold vec_Dot.f wide_Dot.f
  rw [if_pos ⟨ha, hc, hb, hd⟩]
  simp only [Option.bind_some, Wide.dotV]
  rw [if_pos (by decide)]; rfl
theorem cross_q {a b c d : Int} (ha : I64 a) (hb : -4611686018427387904 ≤ b ∧ b ≤ 4611686018427387904) (hc : I64 c) (hd : I64 d) : vec_Cross.f a b c d = some (quo (a * d - b * c)) := by
  unfold vec_Cross.f wide_Dot.f
  rw [VecT.w64 (x := -b) (by omega) (by omega), if_pos ⟨ha, hd, by omega, hc⟩]
  simp only [Option.bind_some, Wide.dotV]
  rw [if_pos (by decide), Int.neg_mul, ← Int.sub_eq_add_neg]; rfl
theorem quo_in {z : Int} (h0 : -4611686018427387904 ≤ z) (h1 : z ≤ 4611686018427387904) : -536870912 ≤ 1073741824 * quo z - z ∧ 1073741824 * quo z - z ≤ 536870912 := by
  unfold quo Wide.fitV Wide.near
  rw [if_pos (by omega)]; omega
theorem mul_in' {u w A B : Int} (h1 : -A ≤ u) (h2 : u ≤ A) (h3 : -B ≤ w) (h4 : w ≤ B) : -(A * B) ≤ u * w ∧ u * w ≤ A * B := by
  have h : (u * w).natAbs ≤ (A * B).natAbs := by rw [Int.natAbs_mul, Int.natAbs_mul]; exact Nat.mul_le_mul (by omega) (by omega)
  have := Int.mul_nonneg (a := A) (b := B) (by omega) (by omega)
  omega
/-- The squares of the two come to 1 together, near enough. -/
theorem circle {a b c d : Int} (H : One a b) (T : One c d) : ∃ t u, quo (a * c + b * d) = t ∧ quo (a * d - b * c) = u ∧ 1152920405095219200 ≤ t * t + u * u ∧ t * t + u * u ≤ 1152922604118474752 := by
  have ha0 := H.a0
  have ha1 := H.a1
  have hb0 := H.b0
  have hb1 := H.b1
  have hc0 := T.a0
  have hc1 := T.a1
  have hd0 := T.b0
  have hd1 := T.b1
  have lo1 := H.lo
  have hi1 := H.hi
  have lo2 := T.lo
  have hi2 := T.hi
  obtain ⟨x1, x2⟩ := mul_in' (A := 1073741888) (B := 1073741888) ha0 ha1 hc0 hc1
  obtain ⟨x3, x4⟩ := mul_in' (A := 1073741888) (B := 1073741888) hb0 hb1 hd0 hd1
  obtain ⟨x5, x6⟩ := mul_in' (A := 1073741888) (B := 1073741888) ha0 ha1 hd0 hd1
  obtain ⟨x7, x8⟩ := mul_in' (A := 1073741888) (B := 1073741888) hb0 hb1 hc0 hc1
  obtain ⟨e1, e2⟩ := quo_in (z := a * c + b * d) (by omega) (by omega)
  obtain ⟨f1, f2⟩ := quo_in (z := a * d - b * c) (by omega) (by omega)
  refine ⟨_, _, rfl, rfl, ?_⟩
  generalize quo (a * c + b * d) = t at *
  generalize quo (a * d - b * c) = u at *
  have p1 : 1152921367167897600 * 1152921367167897600 ≤ (a * a + b * b) * (c * c + d * d) := Int.mul_le_mul lo1 lo2 (by decide) (by omega)
  have p2 : (a * a + b * b) * (c * c + d * d) ≤ 1152921644193288321 * 1152921644193288321 := Int.mul_le_mul (by omega) (by omega) (by omega) (by decide)
  have id : (a * c + b * d) * (a * c + b * d) + (a * d - b * c) * (a * d - b * c) = (a * a + b * b) * (c * c + d * d) := by grind
  obtain ⟨D, hD⟩ : ∃ D, D = a * c + b * d := ⟨_, rfl⟩
  obtain ⟨C, hC⟩ : ∃ C, C = a * d - b * c := ⟨_, rfl⟩
  rw [← hD, ← hC] at id
  rw [← hD] at e1 e2
  rw [← hC] at f1 f2
  obtain ⟨e, he⟩ : ∃ e, e = 1073741824 * t - D := ⟨_, rfl⟩
  obtain ⟨f, hf⟩ : ∃ f, f = 1073741824 * u - C := ⟨_, rfl⟩
  rw [← he] at e1 e2
  rw [← hf] at f1 f2
  have g1 := mul_in' (u := D) (w := e) (A := 4611686018427387904) (B := 536870912) (by omega) (by omega) e1 e2
  have g2 := mul_in' (u := C) (w := f) (A := 4611686018427387904) (B := 536870912) (by omega) (by omega) f1 f2
  have g3 := mul_in' (u := e) (w := e) e1 e2 e1 e2
  have g4 := mul_in' (u := f) (w := f) f1 f2 f1 f2
  have q1 : 1152921504606846976 * (t * t) = D * D + 2 * (D * e) + e * e := by
    have h : 1073741824 * t = D + e := by omega
    have h2 : (1073741824 * t) * (1073741824 * t) = (D + e) * (D + e) := by rw [h]
    have h3 : (1073741824 * t) * (1073741824 * t) = 1152921504606846976 * (t * t) := by grind
    have h4 : (D + e) * (D + e) = D * D + 2 * (D * e) + e * e := by grind
    omega
  have q2 : 1152921504606846976 * (u * u) = C * C + 2 * (C * f) + f * f := by
    have h : 1073741824 * u = C + f := by omega
    have h2 : (1073741824 * u) * (1073741824 * u) = (C + f) * (C + f) := by rw [h]
    have h3 : (1073741824 * u) * (1073741824 * u) = 1152921504606846976 * (u * u) := by grind
    have h4 : (C + f) * (C + f) = C * C + 2 * (C * f) + f * f := by grind
    omega
  clear hD hC he hf x1 x2 x3 x4 x5 x6 x7 x8
  generalize (a * a + b * b) * (c * c + d * d) = AB at *
  generalize t * t = tt at *
  generalize u * u = uu at *
  generalize D * D = DD at *
  generalize C * C = CC at *
  generalize D * e = De at *
  generalize C * f = Cf at *
  generalize e * e = ee at *
  generalize f * f = ff at *
  omega
end Go.Proofs.Ytdhegcjclfllmaa.Vec
