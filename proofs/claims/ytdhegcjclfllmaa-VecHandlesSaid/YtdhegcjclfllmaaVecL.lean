/- The directions' functions as numbers: Dot, Cross, Half, Handle, Right; and what the document says of them is the same. For all inputs. -/
import Derived.Test.YtdhegcjclfllmaaVecH
import Derived.Test.YtdhegcjclfllmaaVecT
import Derived.Test.YtdhegcjclfllmaaVecRh
import Derived.Test.YtdhegcjclfllmaaEx2
import Derived.KernelRfl
import Derived.Test.YtdhegcjclfllmaaPEx3
import Derived.Test.YtdhegcjclfllmaaPEx17
import Derived.Test.YtdhegcjclfllmaaPEx8
import Derived.Test.YtdhegcjclfllmaaPEx19
import Derived.Test.YtdhegcjclfllmaaPEx10
import Derived.Test.YtdhegcjclfllmaaPEx13
namespace Go.Proofs.Ytdhegcjclfllmaa.Vec
open Go Go.RowKit Go.Proofs.Ytdhegcjclfllmaa.PE Go.Proofs.YtdhegcjclfllmaaW.PrintWords Go.Proofs.YtdhegcjclfllmaaW.PrintLast Go.Proofs.YtdhegcjclfllmaaW.PrintMore
set_option linter.unusedVariables false
set_option linter.unusedSimpArgs false
def I64 (a : Int) : Prop := -9223372036854775808 ≤ a ∧ a ≤ 9223372036854775807
theorem nr_pow (z : Int) (n : Nat) : Ref.nr z (2 ^ n) = Wide.near z (2 ^ n) := by
  have : (0 : Int) < 2 ^ n := Int.pow_pos (by decide)
  rw [MdEq.nr_near, if_neg (by omega), if_neg (by omega)]
theorem do_eq (a b c d s : Int) : Ref.doV a b c d s = Wide.dotV a b c d s := by
  unfold Ref.doV Wide.dotV
  rw [nr_pow]; rfl
theorem rdot_f {a b c d : Int} (ha : I64 a) (hb : I64 b) (hc : I64 c) (hd : I64 d) : pointillistref09_Dot.f a b c d = some (dot a b c d) := by
  rw [VecR.dot_f a b c d ⟨ha, hb, hc, hd⟩, do_eq]; rfl
theorem vdot_f {a b c d : Int} (ha : I64 a) (hb : I64 b) (hc : I64 c) (hd : I64 d) : vec_Dot.f a b c d = some (dot a b c d) := dot_f a b c d ⟨ha, hb, hc, hd⟩
def crs (a b c d : Int) : Int := Wide.dotV a d (wrap64 (-b)) c 30
theorem wrap_in (x : Int) : I64 (wrap64 x) := by unfold wrap64 I64; omega
theorem cross_f {a b c d : Int} (ha : I64 a) (hb : I64 b) (hc : I64 c) (hd : I64 d) : vec_Cross.f a b c d = some (crs a b c d) := by
  have hw := wrap_in (-b)
  unfold vec_Cross.f wide_Dot.f
  rw [if_pos ⟨ha, hd, hw, hc⟩]; rfl
theorem rcross_f {a b c d : Int} (ha : I64 a) (hb : I64 b) (hc : I64 c) (hd : I64 d) : pointillistref09_Cross.f a b c d = some (crs a b c d) := by
  have hw := wrap_in (-b)
  unfold pointillistref09_Cross.f
  rw [rdot_f ha hw hd hc]; rfl
theorem vhalf_f {a b c d : Int} (ha : I64 a) (hb : I64 b) (hc : I64 c) (hd : I64 d) : vec_Half.f a b c d = some (halfS (dot a b c d), halfC (dot a b c d)) := by
  unfold vec_Half.f; rw [if_pos ⟨ha, hb, hc, hd⟩]
theorem cut_eq (D : Int) : VecR.cut D = cut D := by unfold VecR.cut cut mn mx; (repeat' split) <;> omega
theorem rhalf_f {a b c d : Int} (ha : I64 a) (hb : I64 b) (hc : I64 c) (hd : I64 d) : pointillistref09_Half.f a b c d = some (halfS (dot a b c d), halfC (dot a b c d)) := by
  unfold pointillistref09_Half.f VecR.halfS VecR.halfC halfS halfC
  rw [if_pos ⟨ha, hb, hc, hd⟩, cut_eq, do_eq]; rfl
def hnd (D : Int) : Int := Wide.mulDivV (4 * halfS D) 1073741824 (3 * (1073741824 + halfC D))
theorem half_in (D : Int) : (0 ≤ halfS D ∧ halfS D ≤ 4294967295) ∧ 0 ≤ halfC D ∧ halfC D ≤ 4294967295 := by
  have h := cut_in D
  exact ⟨rootF_in (by omega) (by omega), rootF_in (by omega) (by omega)⟩
theorem handle_f {a b c d : Int} (ha : I64 a) (hb : I64 b) (hc : I64 c) (hd : I64 d) : vec_Handle.f a b c d = some (hnd (dot a b c d)) := by
  unfold vec_Handle.f
  rw [vhalf_f ha hb hc hd]
  obtain ⟨⟨h0, h1⟩, h2, h3⟩ := half_in (dot a b c d)
  unfold hnd
  generalize halfS (dot a b c d) = S at *
  generalize halfC (dot a b c d) = C at *
  simp only [Option.bind_some]
  rw [w64 (x := 4 * S) (by omega) (by omega), w64 (x := 1073741824 + C) (by omega) (by omega), w64 (x := 3 * (1073741824 + C)) (by omega) (by omega)]
  unfold wide_MulDiv.f
  rw [if_pos (by omega)]; rfl
theorem rhandle_f {a b c d : Int} (ha : I64 a) (hb : I64 b) (hc : I64 c) (hd : I64 d) : pointillistref09_Handle.f a b c d = some (hnd (dot a b c d)) := by
  unfold pointillistref09_Handle.f
  rw [rhalf_f ha hb hc hd]
  obtain ⟨⟨h0, h1⟩, h2, h3⟩ := half_in (dot a b c d)
  unfold hnd
  generalize halfS (dot a b c d) = S at *
  generalize halfC (dot a b c d) = C at *
  simp only [Option.bind_some]
  rw [w64 (x := 4 * S) (by omega) (by omega), w64 (x := 3 * C) (by omega) (by omega), w64 (x := 3221225472 + 3 * C) (by omega) (by omega)]
  unfold pointillistref09_near.f pointillistref01_MulDiv.f
  rw [if_pos (by omega), MdEq.mdV, show 3221225472 + 3 * C = 3 * (1073741824 + C) by omega]; rfl
/-- A direction that is right: near to 1 long. -/
structure One (a b : Int) : Prop where
  a0 : -1073741888 ≤ a
  a1 : a ≤ 1073741888
  b0 : -1073741888 ≤ b
  b1 : b ≤ 1073741888
  lo : 1152921367167897600 ≤ a * a + b * b
  hi : a * a + b * b < 1152921644193288321
theorem sq_in {a : Int} (h0 : -1073741888 ≤ a) (h1 : a ≤ 1073741888) : 0 ≤ a * a ∧ a * a ≤ 1152921642045804544 := by
  have h : (a * a).natAbs ≤ 1073741888 * 1073741888 := by rw [Int.natAbs_mul]; exact Nat.mul_le_mul (by omega) (by omega)
  have h2 : 0 ≤ a * a := by
    rcases Int.le_total 0 a with h | h
    · exact Int.mul_nonneg h h
    · exact Int.mul_nonneg_of_nonpos_of_nonpos h h
  omega
theorem One.i64 {a b : Int} (h : One a b) : I64 a ∧ I64 b := by
  have := h.a0; have := h.a1; have := h.b0; have := h.b1; unfold I64; omega
theorem right_f (a b : Int) : ∃ r, pointillistref09_Right.f a b = some r ∧ (r = true ↔ One a b) := by
  unfold pointillistref09_Right.f pointillistref09_in.f
  by_cases h1 : a ≤ 1073741888
  · rw [if_pos h1]
    simp only [Option.bind_some, decide_eq_true_eq]
    by_cases h2 : a ≥ -1073741888
    · rw [if_pos h2]
      by_cases h3 : b ≤ 1073741888
      · rw [if_pos h3]
        simp only [Option.bind_some, decide_eq_true_eq]
        by_cases h4 : b ≥ -1073741888
        · rw [if_pos h4]
          obtain ⟨p0, p1⟩ := sq_in h2 h1
          obtain ⟨q0, q1⟩ := sq_in h4 h3
          rw [w64 (x := a * a) (by omega) (by omega), w64 (x := b * b) (by omega) (by omega), w64 (x := a * a + b * b) (by omega) (by omega)]
          by_cases h5 : a * a + b * b ≥ 1152921367167897600
          · rw [if_pos h5]
            exact ⟨_, rfl, by rw [decide_eq_true_eq]; exact ⟨fun h => ⟨h2, h1, h4, h3, h5, h⟩, fun h => h.hi⟩⟩
          · rw [if_neg h5]
            exact ⟨_, rfl, by simp, fun h => absurd h.lo h5⟩
        · rw [if_neg h4]; exact ⟨_, rfl, by simp, fun h => absurd h.b0 h4⟩
      · rw [if_neg h3]; exact ⟨_, rfl, by simp, fun h => absurd h.b1 h3⟩
    · rw [if_neg h2]; exact ⟨_, rfl, by simp, fun h => absurd h.a0 h2⟩
  · rw [if_neg h1]; exact ⟨_, rfl, by simp, fun h => absurd h.a1 h1⟩
theorem wakes : pointillistlaw09_wakes.f 70 = some true := by kernel_rfl
end Go.Proofs.Ytdhegcjclfllmaa.Vec
