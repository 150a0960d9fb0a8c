/- Sine and cosine of two angles together are put together from theirs. No program in sight. -/
import Derived.Test.YtngnkgnobgfjeaaTrigF
namespace Go.Proofs.Ytngnkgnobgfjeaa.Trig
open Go Go.RowKit Wide Poly
set_option maxRecDepth 100000
set_option linter.unusedVariables false
set_option linter.unusedSimpArgs false

theorem cancel {a A : Int} (h : Bd (L * a) (M * M * (Q * A))) : Bd a (M * A) := by
  rw [LM] at h
  rw [show M * M * (Q * A) = M * Q * (M * A) by grind] at h
  exact Bd.div (by decide +kernel) h
theorem of_nat {w : Int} {A : Int} (h : w.natAbs ≤ A.natAbs) (h0 : 0 ≤ A) : Bd w A := Bd.of (by have := Int.ofNat_le.2 h; omega)
/-- A right angle. -/
theorem right_sn {h : Int} (hh : h = 1811004864519280710 ∨ h = 1811004864519280711) : Bd (sn h - L) (M * 8192) ∧ Bd (cs h) (M * 8192) := by
  rcases hh with rfl | rfl
  · exact ⟨of_nat (by decide +kernel) (by decide +kernel), of_nat (by decide +kernel) (by decide +kernel)⟩
  · exact ⟨of_nat (by decide +kernel) (by decide +kernel), of_nat (by decide +kernel) (by decide +kernel)⟩
theorem little {δ : Int} (h0 : -2 ≤ δ) (h1 : δ ≤ 2) : Bd (cs δ - L) (M * 4) ∧ Bd (sn δ) (M * 4) := by
  rcases (show δ = -2 ∨ δ = -1 ∨ δ = 0 ∨ δ = 1 ∨ δ = 2 by omega) with rfl | rfl | rfl | rfl | rfl
  all_goals exact ⟨of_nat (by decide +kernel) (by decide +kernel), of_nat (by decide +kernel) (by decide +kernel)⟩
theorem mul33 {a b A B : Int} (h1 : Bd a (M * A)) (h2 : Bd b (M * (Q * B))) : Bd (a * b) (M * M * (Q * (A * B))) := by
  have := h1.mul h2
  rw [show M * A * (M * (Q * B)) = M * M * (Q * (A * B)) by grind] at this
  exact this
theorem add3 {a b c A B C : Int} (h1 : Bd a (M * M * (Q * A))) (h2 : Bd b (M * M * (Q * B))) (h3 : Bd c (M * M * (Q * C))) : Bd (a + b + c) (M * M * (Q * (A + B + C))) := by
  have := (h1.add h2).add h3
  rw [show M * M * (Q * A) + M * M * (Q * B) + M * M * (Q * C) = M * M * (Q * (A + B + C)) by grind] at this
  exact this
theorem next_sn {x δ : Int} (hx : x.natAbs ≤ A8) (h0 : -2 ≤ δ) (h1 : δ ≤ 2) : Bd (sn (x + δ) - sn x) (M * 33554456) ∧ Bd (cs (x + δ) - cs x) (M * 33554456) := by
  have hd : δ.natAbs ≤ A4 := by unfold A4; omega
  have tS := Bd.tiny (add_S hx hd)
  have tC := Bd.tiny (add_C hx hd)
  obtain ⟨l1, l2⟩ := little h0 h1
  have a := size_sn hx
  have b := size_cs hx
  constructor
  · apply cancel
    rw [show L * (sn (x + δ) - sn x) = -(sn x * cs δ + cs x * sn δ - L * sn (x + δ)) + (cs δ - L) * sn x + sn δ * cs x by grind]
    exact add3 tS.neg (mul33 l1 a) (mul33 l2 b)
  · apply cancel
    rw [show L * (cs (x + δ) - cs x) = -(cs x * cs δ - sn x * sn δ - L * cs (x + δ)) + (cs δ - L) * cs x + -(sn δ * sn x) by grind]
    exact add3 tC.neg (mul33 l1 b) (mul33 l2 a).neg
/-- The angle that is left to a right one. -/
theorem left_sn {h y : Int} (hh : h = 1811004864519280710 ∨ h = 1811004864519280711) (hy : y.natAbs ≤ A4) : Bd (sn (h + y) - cs y) (M * 33603584) ∧ Bd (cs (h + y) + sn y) (M * 33603584) := by
  have hx : h.natAbs ≤ A8 := by unfold A8; omega
  have tS := Bd.tiny (add_S hx hy)
  have tC := Bd.tiny (add_C hx hy)
  obtain ⟨l1, l2⟩ := right_sn hh
  have hy8 : y.natAbs ≤ A8 := Nat.le_trans hy (by decide)
  have a := size_sn hy8
  have b := size_cs hy8
  constructor
  · apply cancel
    rw [show L * (sn (h + y) - cs y) = -(sn h * cs y + cs h * sn y - L * sn (h + y)) + (sn h - L) * cs y + cs h * sn y by grind]
    exact add3 tS.neg (mul33 l1 b) (mul33 l2 a)
  · apply cancel
    rw [show L * (cs (h + y) + sn y) = -(cs h * cs y - sn h * sn y - L * cs (h + y)) + -((sn h - L) * sn y) + cs h * cs y by grind]
    exact add3 tC.neg (mul33 l1 a).neg (mul33 l2 b)
/-- What is told of an angle of less than 90 degrees. -/
def Tol (o P : Int) : Prop := Bd (1073741824 * (M * o) - P) (M * 570474516)
theorem Tol.neg {o P : Int} (h : Tol o P) : Tol (-o) (-P) := by
  unfold Tol at *
  rw [show 1073741824 * (M * -o) - -P = -(1073741824 * (M * o) - P) by grind]
  exact Bd.neg h
theorem tol_of {o P P' : Int} (h : Told o P) (h2 : Bd (P' - P) (M * 33603584)) : Tol o P' := by
  unfold Tol Told at *
  have := h.sub h2
  rw [show 1073741824 * (M * o) - P - (P' - P) = 1073741824 * (M * o) - P' by omega, ← Int.mul_add] at this
  exact this
theorem rest_tol {r : Int} (r0 : 0 ≤ r) (r1 : r < 5898240) : Tol (restV r).1 (sn (ang r)) ∧ Tol (restV r).2 (cs (ang r)) := by
  have m0 := Mpos
  unfold restV
  split
  · obtain ⟨x0, x1⟩ := ang_half (r := 5898240 - r) (by omega) (by omega)
    obtain ⟨h1, h2⟩ := ser_told (r := 5898240 - r) (by omega) (by omega)
    have hh : ang r + ang (5898240 - r) = 1811004864519280710 ∨ ang r + ang (5898240 - r) = 1811004864519280711 := by unfold ang near; omega
    obtain ⟨k1, k2⟩ := left_sn hh (y := -ang (5898240 - r)) (by unfold A4; omega)
    rw [sn_neg, cs_neg, show ang r + ang (5898240 - r) + -ang (5898240 - r) = ang r by omega] at *
    exact ⟨tol_of h2 k1, tol_of h1 (by rw [Int.sub_eq_add_neg]; exact k2)⟩
  · obtain ⟨h1, h2⟩ := ser_told (r := r) (by omega) (by omega)
    have hz : Bd (0 : Int) (M * 33603584) := ⟨by omega, by omega⟩
    exact ⟨tol_of h1 (by rw [Int.sub_self]; exact hz), tol_of h2 (by rw [Int.sub_self]; exact hz)⟩
/-- The core: products of what is told. -/
theorem core {x1 y2 z1 w2 u a b c d W D : Int} (h1 : Tol x1 a) (h2 : Tol y2 b) (h3 : Tol z1 c) (h4 : Tol w2 d) (hu : Tol u W) (b1 : Bd x1 1073741824) (b2 : Bd y2 1073741824) (b3 : Bd z1 1073741824) (b4 : Bd w2 1073741824)
    (h : Bd (a * b + c * d - L * W) (M * M * (Q * D))) (hD : D ≤ 300000000) : Bd (1073741824 * u - (x1 * y2 + z1 * w2)) 4294967296 := by
  have m0 := Mpos
  unfold Tol at *
  have hm : 0 < M * M := Int.mul_pos m0 m0
  have k1 := b1.mul h2
  have k2 := b2.mul h1
  have k3 := b3.mul h4
  have k4 := b4.mul h3
  have k5 := h1.mul h2
  have k6 := h3.mul h4
  have hM : Bd M M := ⟨by omega, Int.le_refl _⟩
  have g1 := hM.mul k1
  have g2 := hM.mul k2
  have g3 := hM.mul k3
  have g4 := hM.mul k4
  have g0 := hM.mul hu
  rw [show M * (1073741824 * (M * 570474516)) = M * M * 612542347409817600 - M * M * 612542347409817600 + M * M * (1073741824 * 570474516) by grind] at g1 g2 g3 g4
  rw [show M * (M * 570474516) = M * M * 570474516 by grind] at g0
  rw [show M * 570474516 * (M * 570474516) = M * M * (570474516 * 570474516) by grind] at k5 k6
  apply Bd.div (K := M * M * 1152921504606846976) (by omega)
  have id : M * M * 1152921504606846976 * (1073741824 * u - (x1 * y2 + z1 * w2)) =
      1152921504606846976 * (M * (1073741824 * (M * u) - W)) - (a * b + c * d - L * W)
      - 1073741824 * (M * (x1 * (1073741824 * (M * y2) - b))) - 1073741824 * (M * (y2 * (1073741824 * (M * x1) - a))) + (1073741824 * (M * x1) - a) * (1073741824 * (M * y2) - b)
      - 1073741824 * (M * (z1 * (1073741824 * (M * w2) - d))) - 1073741824 * (M * (w2 * (1073741824 * (M * z1) - c))) + (1073741824 * (M * z1) - c) * (1073741824 * (M * w2) - d) := by
    rw [LM, Qval]; grind
  rw [id]
  have hD2 : M * M * (Q * D) ≤ M * M * (Q * 300000000) := by
    apply Int.mul_le_mul_of_nonneg_left _ (by omega)
    rw [Qval]; omega
  have h' := h.le hD2
  rw [Qval] at h'
  rw [Int.mul_assoc (M * M) 1152921504606846976 4294967296]
  generalize M * (1073741824 * (M * u) - W) = v0 at *
  generalize a * b + c * d - L * W = v1 at *
  generalize M * (x1 * (1073741824 * (M * y2) - b)) = v2 at *
  generalize M * (y2 * (1073741824 * (M * x1) - a)) = v3 at *
  generalize (1073741824 * (M * x1) - a) * (1073741824 * (M * y2) - b) = v4 at *
  generalize M * (z1 * (1073741824 * (M * w2) - d)) = v5 at *
  generalize M * (w2 * (1073741824 * (M * z1) - c)) = v6 at *
  generalize (1073741824 * (M * z1) - c) * (1073741824 * (M * w2) - d) = v7 at *
  generalize M * M = mm at *
  clear id h hD2 h1 h2 h3 h4 hu b1 b2 b3 b4 k1 k2 k3 k4 hM
  unfold Bd at *
  omega
/-- Two pairs, and what they are together. -/
def Near2 (p p1 p2 : Int × Int) : Prop := Bd (1073741824 * p.1 - (p1.1 * p2.2 + p1.2 * p2.1)) 4294967296 ∧ Bd (1073741824 * p.2 - (p1.2 * p2.2 - p1.1 * p2.1)) 4294967296
def rot (p : Int × Int) : Int × Int := (p.2, -p.1)
theorem Near2.rotL {p p1 p2 : Int × Int} (h : Near2 p p1 p2) : Near2 (rot p) (rot p1) p2 := by
  obtain ⟨h1, h2⟩ := h
  refine ⟨?_, ?_⟩
  · show Bd (1073741824 * p.2 - (p1.2 * p2.2 + -p1.1 * p2.1)) _
    rw [Int.neg_mul]; unfold Bd at *; omega
  · show Bd (1073741824 * -p.1 - (-p1.1 * p2.2 - p1.2 * p2.1)) _
    rw [Int.neg_mul]; unfold Bd at *; omega
theorem Near2.comm {p p1 p2 : Int × Int} (h : Near2 p p1 p2) : Near2 p p2 p1 := by
  obtain ⟨h1, h2⟩ := h
  refine ⟨?_, ?_⟩
  · rw [Int.mul_comm p2.1, Int.mul_comm p2.2]; unfold Bd at *; omega
  · rw [Int.mul_comm p2.1, Int.mul_comm p2.2]; unfold Bd at *; omega
theorem Near2.rotR {p p1 p2 : Int × Int} (h : Near2 p p1 p2) : Near2 (rot p) p1 (rot p2) := h.comm.rotL.comm
def rotN : Nat → Int × Int → Int × Int
  | 0, p => p
  | n + 1, p => rot (rotN n p)
theorem rot4 (p : Int × Int) : rot (rot (rot (rot p))) = p := by
  obtain ⟨a, b⟩ := p
  simp [rot]
theorem rotN_four (n : Nat) (p : Int × Int) : rotN (n + 4) p = rotN n p := rot4 _
theorem rotN_mod (n : Nat) (p : Int × Int) : rotN (n % 4) p = rotN n p := by
  induction n using Nat.strongRecOn with
  | _ n ih =>
    by_cases h : n < 4
    · rw [Nat.mod_eq_of_lt h]
    · obtain ⟨m, rfl⟩ : ∃ m, n = m + 4 := ⟨n - 4, by omega⟩
      rw [Nat.add_mod_right, ih m (by omega), rotN_four]
theorem rotN_rot (n : Nat) (p : Int × Int) : rotN n (rot p) = rot (rotN n p) := by
  induction n with
  | zero => rfl
  | succ n ih => show rot (rotN n (rot p)) = _; rw [ih]; rfl
theorem Near2.rots {p p1 p2 : Int × Int} (h : Near2 p p1 p2) (m n : Nat) : Near2 (rotN (m + n) p) (rotN m p1) (rotN n p2) := by
  induction n with
  | zero =>
    induction m with
    | zero => exact h
    | succ m ih => exact (Nat.add_right_comm m 0 1 ▸ ih.rotL)
  | succ n ih => exact ih.rotR
theorem quad_rot {q : Int} {p : Int × Int} (h : Circ p.1 p.2) (h0 : 0 ≤ q) (h1 : q < 4) : quad q p = rotN q.toNat p := by
  have e1 : wrap64 (-p.1) = -p.1 := by have := h.1; unfold Bd at this; unfold wrap64; omega
  have e2 : wrap64 (-p.2) = -p.2 := by have := h.2.1; unfold Bd at this; unfold wrap64; omega
  rcases (show q = 0 ∨ q = 1 ∨ q = 2 ∨ q = 3 by omega) with rfl | rfl | rfl | rfl <;> simp [quad, rotN, rot, e1, e2]
theorem ang_add {r1 r2 : Int} (h1 : 0 ≤ r1) (h2 : 0 ≤ r2) : -2 ≤ ang (r1 + r2) - (ang r1 + ang r2) ∧ ang (r1 + r2) - (ang r1 + ang r2) ≤ 2 := by
  unfold ang near; omega
theorem ang_over {r1 r2 : Int} (h1 : 0 ≤ r1) (h2 : 0 ≤ r2) (h : 5898240 ≤ r1 + r2) : -2 ≤ ang (r1 + r2 - 5898240) - (ang r2 + (ang r1 - 1811004864519280710)) ∧ ang (r1 + r2 - 5898240) - (ang r2 + (ang r1 - 1811004864519280710)) ≤ 2 := by
  unfold ang near; omega
theorem LB {w A : Int} (h : Bd w (M * A)) : Bd (L * w) (M * M * (Q * A)) := by
  have hL : Bd L L := ⟨by have : 0 ≤ L := by decide +kernel
                          omega, Int.le_refl _⟩
  have := hL.mul h
  rw [show L * (M * A) = M * M * (Q * A) by rw [LM]; grind] at this
  exact this
/-- Two rests that stay below a right angle. -/
theorem below_right {r1 r2 : Int} (h1 : 0 ≤ r1) (h2 : 0 ≤ r2) (h : r1 + r2 < 5898240) (hs : r2 ≤ 2949120) : Near2 (restV (r1 + r2)) (restV r1) (restV r2) := by
  obtain ⟨a0, a1⟩ := ang_bounds (r := r1) h1 (by omega)
  obtain ⟨b0, b1⟩ := ang_half (r := r2) h2 hs
  obtain ⟨d0, d1⟩ := ang_add h1 h2
  obtain ⟨t1, t2⟩ := rest_tol (r := r1) h1 (by omega)
  obtain ⟨t3, t4⟩ := rest_tol (r := r2) h2 (by omega)
  obtain ⟨t5, t6⟩ := rest_tol (r := r1 + r2) (by omega) h
  obtain ⟨c1, c2, _⟩ := rest_circ (r := r1) h1 (by omega)
  obtain ⟨c3, c4, _⟩ := rest_circ (r := r2) h2 (by omega)
  have x1 : (ang r1).natAbs ≤ A8 := by unfold A8; omega
  have y1 : (ang r2).natAbs ≤ A4 := by unfold A4; omega
  have tS := Bd.tiny (add_S x1 y1)
  have tC := Bd.tiny (add_C x1 y1)
  obtain ⟨n1, n2⟩ := next_sn (x := ang (r1 + r2)) (δ := -(ang (r1 + r2) - (ang r1 + ang r2))) (by have := ang_bounds (r := r1 + r2) (by omega) (by omega); unfold A8; omega) (by omega) (by omega)
  rw [show ang (r1 + r2) + -(ang (r1 + r2) - (ang r1 + ang r2)) = ang r1 + ang r2 by omega] at n1 n2
  have hz : Bd (0 : Int) (M * M * (Q * 0)) := by unfold Bd; omega
  constructor
  · refine core t1 t4 t2 t3 t5 c1 c4 c2 c3 (D := 33554432 + 33554456 + 0) ?_ (by omega)
    have := add3 tS (LB n1) hz
    rw [show sn (ang r1) * cs (ang r2) + cs (ang r1) * sn (ang r2) - L * sn (ang r1 + ang r2) + L * (sn (ang r1 + ang r2) - sn (ang (r1 + r2))) + 0 = sn (ang r1) * cs (ang r2) + cs (ang r1) * sn (ang r2) - L * sn (ang (r1 + r2)) by grind] at this
    exact this
  · have := core t2 t4 t1.neg t3 t6 c2 c4 c1.neg c3 (D := 33554432 + 33554456 + 0) (by
      have := add3 tC (LB n2) hz
      rw [show cs (ang r1) * cs (ang r2) - sn (ang r1) * sn (ang r2) - L * cs (ang r1 + ang r2) + L * (cs (ang r1 + ang r2) - cs (ang (r1 + r2))) + 0 = cs (ang r1) * cs (ang r2) + -sn (ang r1) * sn (ang r2) - L * cs (ang (r1 + r2)) by grind] at this
      exact this) (by omega)
    rw [Int.neg_mul, ← Int.sub_eq_add_neg] at this
    exact this
/-- Two rests that pass a right angle. -/
theorem above_right {r1 r2 : Int} (h1 : 2949120 ≤ r1) (h1' : r1 < 5898240) (h2 : 0 ≤ r2) (h2' : r2 < 5898240) (h : 5898240 ≤ r1 + r2) : Near2 (rot (restV (r1 + r2 - 5898240))) (restV r1) (restV r2) := by
  obtain ⟨a0, a1⟩ := ang_bounds (r := r1) (by omega) (by omega)
  obtain ⟨b0, b1⟩ := ang_bounds (r := r2) h2 (by omega)
  obtain ⟨d0, d1⟩ := ang_over (r1 := r1) (by omega) h2 h
  obtain ⟨t1, t2⟩ := rest_tol (r := r1) (by omega) (by omega)
  obtain ⟨t3, t4⟩ := rest_tol (r := r2) h2 (by omega)
  obtain ⟨t5, t6⟩ := rest_tol (r := r1 + r2 - 5898240) (by omega) (by omega)
  obtain ⟨c1, c2, _⟩ := rest_circ (r := r1) (by omega) (by omega)
  obtain ⟨c3, c4, _⟩ := rest_circ (r := r2) h2 (by omega)
  have a2 : 905502432259640355 ≤ ang r1 := by unfold ang near; omega
  have x1 : (ang r2).natAbs ≤ A8 := by unfold A8; omega
  obtain ⟨y, hy⟩ : ∃ y, ang r1 - 1811004864519280710 = y := ⟨_, rfl⟩
  have y1 : y.natAbs ≤ A4 := by unfold A4; omega
  obtain ⟨k1, k2⟩ := left_sn (h := 1811004864519280710) (Or.inl rfl) y1
  rw [show 1811004864519280710 + y = ang r1 by omega] at k1 k2
  rw [hy] at d0 d1
  have tS := Bd.tiny (add_S x1 y1)
  have tC := Bd.tiny (add_C x1 y1)
  have s1 := size_sn x1
  have s2 := size_cs x1
  obtain ⟨n1, n2⟩ := next_sn (x := ang (r1 + r2 - 5898240)) (δ := -(ang (r1 + r2 - 5898240) - (ang r2 + y))) (by have := ang_bounds (r := r1 + r2 - 5898240) (by omega) (by omega); unfold A8; omega) (by omega) (by omega)
  rw [show ang (r1 + r2 - 5898240) + -(ang (r1 + r2 - 5898240) - (ang r2 + y)) = ang r2 + y by omega] at n1 n2
  have hz : Bd (0 : Int) (M * M * (Q * 0)) := by unfold Bd; omega
  constructor
  · refine core t1 t4 t2 t3 t6 c1 c4 c2 c3 (D := (33554432 + 33554456 + 0) + 33603584 * 3 + 33603584 * 3) ?_ (by omega)
    have := add3 (add3 tC (LB n2) hz) (mul33 k1 s2) (mul33 k2 s1)
    rw [show cs (ang r2) * cs y - sn (ang r2) * sn y - L * cs (ang r2 + y) + L * (cs (ang r2 + y) - cs (ang (r1 + r2 - 5898240))) + 0 + (sn (ang r1) - cs y) * cs (ang r2) + (cs (ang r1) + sn y) * sn (ang r2)
      = sn (ang r1) * cs (ang r2) + cs (ang r1) * sn (ang r2) - L * cs (ang (r1 + r2 - 5898240)) by grind] at this
    exact this
  · have := core t2 t4 t1.neg t3 t5.neg c2 c4 c1.neg c3 (D := (33554432 + 33554456 + 0) + 33603584 * 3 + 33603584 * 3) (by
      have := add3 (add3 tS.neg (LB n1).neg hz) (mul33 k2 s2) (mul33 k1 s1).neg
      rw [show -(sn (ang r2) * cs y + cs (ang r2) * sn y - L * sn (ang r2 + y)) + -(L * (sn (ang r2 + y) - sn (ang (r1 + r2 - 5898240)))) + 0 + (cs (ang r1) + sn y) * cs (ang r2) + -((sn (ang r1) - cs y) * sn (ang r2))
        = cs (ang r1) * cs (ang r2) + -sn (ang r1) * sn (ang r2) - L * -sn (ang (r1 + r2 - 5898240)) by grind] at this
      exact this) (by omega)
    rw [Int.neg_mul, ← Int.sub_eq_add_neg] at this
    exact this
theorem both_rots {d q r : Int} (h : d = 5898240 * q + r) (r0 : 0 ≤ r) (r1 : r < 5898240) : bothV d = rotN (q % 4).toNat (restV r) := by
  rw [both_at h r0 r1]
  exact quad_rot (rest_circ r0 r1) (by omega) (by omega)
theorem both_adds (a b : Int) : Near2 (bothV (a + b)) (bothV a) (bothV b) := by
  have ha := Int.mul_ediv_add_emod a 5898240
  have ha0 := Int.emod_nonneg a (show (5898240 : Int) ≠ 0 by omega)
  have ha1 := Int.emod_lt_of_pos a (show (0 : Int) < 5898240 by omega)
  have hb := Int.mul_ediv_add_emod b 5898240
  have hb0 := Int.emod_nonneg b (show (5898240 : Int) ≠ 0 by omega)
  have hb1 := Int.emod_lt_of_pos b (show (0 : Int) < 5898240 by omega)
  rw [both_rots ha.symm ha0 ha1, both_rots hb.symm hb0 hb1]
  generalize a / 5898240 = q1 at *
  generalize b / 5898240 = q2 at *
  generalize a % 5898240 = r1 at *
  generalize b % 5898240 = r2 at *
  by_cases h : r1 + r2 < 5898240
  · rw [both_rots (d := a + b) (q := q1 + q2) (r := r1 + r2) (by omega) (by omega) h, show ((q1 + q2) % 4).toNat = ((q1 % 4).toNat + (q2 % 4).toNat) % 4 by omega, rotN_mod]
    apply Near2.rots
    by_cases hs : r2 ≤ 2949120
    · exact below_right ha0 hb0 h hs
    · have := (below_right hb0 ha0 (by omega) (by omega)).comm
      rwa [Int.add_comm] at this
  · rw [both_rots (d := a + b) (q := q1 + q2 + 1) (r := r1 + r2 - 5898240) (by omega) (by omega) (by omega), show ((q1 + q2 + 1) % 4).toNat = ((q1 % 4).toNat + (q2 % 4).toNat + 1) % 4 by omega, rotN_mod]
    rw [show rotN ((q1 % 4).toNat + (q2 % 4).toNat + 1) (restV (r1 + r2 - 5898240)) = rotN ((q1 % 4).toNat + (q2 % 4).toNat) (rot (restV (r1 + r2 - 5898240))) from (rotN_rot _ _).symm]
    apply Near2.rots
    by_cases hs : 2949120 ≤ r1
    · exact above_right hs ha1 hb0 hb1 (by omega)
    · have := (above_right (r1 := r2) (r2 := r1) (by omega) hb1 ha0 ha1 (by omega)).comm
      rwa [Int.add_comm] at this
end Go.Proofs.Ytngnkgnobgfjeaa.Trig
