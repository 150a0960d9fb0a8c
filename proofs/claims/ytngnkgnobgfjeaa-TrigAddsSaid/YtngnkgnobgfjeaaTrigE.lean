/- The series of package trig against the polynomials of sine and cosine: how near it comes. No program in sight. -/
import Derived.Test.YtngnkgnobgfjeaaTrigA
import Derived.Test.YtngnkgnobgfjeaaPoly
namespace Go.Proofs.Ytngnkgnobgfjeaa.Trig
open Go Go.RowKit Wide Poly
set_option maxRecDepth 100000
set_option linter.unusedVariables false
set_option linter.unusedSimpArgs false

/-- w lies from -W to W. -/
def Bd (w W : Int) : Prop := -W ≤ w ∧ w ≤ W
theorem Bd.abs {w W : Int} (h : Bd w W) : (w.natAbs : Int) ≤ W := by unfold Bd at h; omega
theorem Bd.of {w W : Int} (h : (w.natAbs : Int) ≤ W) : Bd w W := by unfold Bd; omega
theorem Bd.nonneg {w W : Int} (h : Bd w W) : 0 ≤ W := by unfold Bd at h; omega
theorem Bd.mul {a b A C : Int} (h1 : Bd a A) (h2 : Bd b C) : Bd (a * b) (A * C) := by
  apply Bd.of
  rw [Int.natAbs_mul, Int.natCast_mul]
  exact Int.mul_le_mul h1.abs h2.abs (Int.natCast_nonneg _) h1.nonneg
theorem Bd.add {a b A C : Int} (h1 : Bd a A) (h2 : Bd b C) : Bd (a + b) (A + C) := by unfold Bd at *; omega
theorem Bd.sub {a b A C : Int} (h1 : Bd a A) (h2 : Bd b C) : Bd (a - b) (A + C) := by unfold Bd at *; omega
theorem Bd.neg {a A : Int} (h1 : Bd a A) : Bd (-a) A := by unfold Bd at *; omega
theorem Bd.le {a A C : Int} (h1 : Bd a A) (h : A ≤ C) : Bd a C := by unfold Bd at *; omega
theorem Bd.div {a A K : Int} (hK : 0 < K) (h : Bd (K * a) (K * A)) : Bd a A := by
  obtain ⟨h1, h2⟩ := h
  rw [← Int.mul_neg] at h1
  exact ⟨Int.le_of_mul_le_mul_left h1 hK, Int.le_of_mul_le_mul_left h2 hK⟩

theorem near_le {p d : Int} (hd : 1 ≤ d) {b : Int} (h : p ≤ b * d) : near p d ≤ b := by
  unfold near
  have h1 : (2 * p + d) / (2 * d) < b + 1 := by
    apply Int.ediv_lt_of_lt_mul (by omega)
    have : (b + 1) * (2 * d) = 2 * (b * d) + 2 * d := by grind
    omega
  omega
theorem near_nonneg {p d : Int} (hd : 1 ≤ d) (h : 0 ≤ p) : 0 ≤ near p d := by
  unfold near
  exact Int.ediv_nonneg (by omega) (by omega)
theorem near_half {u d : Int} (hd : 2 ≤ d) (h : 0 ≤ u) : 2 * near u d ≤ u + 1 := by
  have h1 := (near_bounds (p := u) (d := d) (by omega)).1
  have h0 := near_nonneg (p := u) (d := d) (by omega) h
  generalize near u d = n at *
  have h2 : n * 2 ≤ n * d := Int.mul_le_mul_of_nonneg_left hd h0
  by_cases hn : 1 ≤ n
  · have h3 : 1 * (d - 2) ≤ n * (d - 2) := Int.mul_le_mul_of_nonneg_right hn (by omega)
    rw [Int.one_mul, Int.mul_sub] at h3
    omega
  · omega

/-- A term, and what it is near to: a y / M. -/
structure St (a y t : Int) : Prop where
  t0 : 0 ≤ t
  t1 : t ≤ Q
  err : Bd (M * t - a * y) (2 * M)
theorem Mpos : 0 < M := by decide +kernel
theorem Qval : Q = 1152921504606846976 := rfl
theorem St.step {a a' y t x d t' : Int} (h : St a y t) (x0 : 0 ≤ x) (x1 : x ≤ Q) (ha : a = a' * (d * (Q * Q))) (hd : 2 ≤ d) (ht : t' = near (near (t * near (x * x) Q) Q) d) : St a' (y * (x * x)) t' ∧ 2 * t' ≤ t + 1 := by
  obtain ⟨t0, t1, he⟩ := h
  have hQ : 1 ≤ Q := by rw [Qval]; omega
  have v0 : 0 ≤ x * x := Int.mul_nonneg x0 x0
  have v1 : x * x ≤ Q * Q := Int.mul_le_mul x1 x1 x0 (by omega)
  have z0 := near_nonneg (p := x * x) hQ v0
  have z1 := near_le (p := x * x) hQ v1
  obtain ⟨c1, c2⟩ := near_bounds (p := x * x) hQ
  generalize near (x * x) Q = z at *
  have u0' : 0 ≤ t * z := Int.mul_nonneg t0 z0
  have u1' : t * z ≤ t * Q := Int.mul_le_mul_of_nonneg_left z1 t0
  have u0 := near_nonneg (p := t * z) hQ u0'
  have u1 := near_le (p := t * z) hQ u1'
  obtain ⟨a1, a2⟩ := near_bounds (p := t * z) hQ
  generalize near (t * z) Q = u at *
  have s0 := near_nonneg (p := u) (d := d) (by omega) u0
  have s2 := near_half hd u0
  obtain ⟨b1, b2⟩ := near_bounds (p := u) (d := d) (by omega)
  rw [← ht] at s0 s2 b1 b2
  clear ht
  have hd2 : (2 : Int) ≤ d := hd
  refine ⟨⟨s0, by omega, ?_⟩, by omega⟩
  have hv := (show Bd (x * x) (Q * Q) from ⟨by omega, v1⟩).mul he
  -- what is lost by rounding
  have e1 : Bd (2 * (z * Q - x * x)) Q := ⟨by omega, c1⟩
  have e2 : Bd (2 * (u * Q - t * z)) Q := ⟨by omega, a1⟩
  have e3 : Bd (2 * (t' * d - u)) d := ⟨by omega, b1⟩
  have k1 := (show Bd t Q from ⟨by omega, t1⟩).mul e1
  have k2 := (show Bd Q Q from ⟨by omega, by omega⟩).mul e2
  have k3 := (show Bd (Q * Q) (Q * Q) from ⟨by have := Int.mul_nonneg (show (0 : Int) ≤ Q by omega) (show (0 : Int) ≤ Q by omega); omega, Int.le_refl _⟩).mul e3
  have e : Bd (2 * (t' * d * (Q * Q) - t * (x * x))) (Q * Q + Q * Q + Q * Q * d) := by
    have := (k1.add k2).add k3
    rw [show 2 * (t' * d * (Q * Q) - t * (x * x)) = t * (2 * (z * Q - x * x)) + Q * (2 * (u * Q - t * z)) + Q * Q * (2 * (t' * d - u)) by grind]
    exact this
  have e' := (show Bd M M from ⟨by have := Mpos; omega, Int.le_refl _⟩).mul e
  apply Bd.div (K := 2 * (d * (Q * Q)))
  · have : 0 < Q * Q := Int.mul_pos (by omega) (by omega)
    have := Int.mul_pos (show 0 < d by omega) this
    omega
  have hq0 : 0 ≤ M * (Q * Q) := Int.mul_nonneg (by have := Mpos; omega) (Int.mul_nonneg (by omega) (by omega))
  have hdq : 2 * (M * (Q * Q)) ≤ d * (M * (Q * Q)) := Int.mul_le_mul_of_nonneg_right hd hq0
  rw [show 2 * (d * (Q * Q)) * (M * t' - a' * (y * (x * x))) = 2 * (x * x * (M * t - a * y)) + M * (2 * (t' * d * (Q * Q) - t * (x * x))) by rw [ha]; grind]
  have g1 : Q * Q * (2 * M) = 2 * (M * (Q * Q)) := by grind
  have g2 : M * (Q * Q + Q * Q + Q * Q * d) = 2 * (M * (Q * Q)) + d * (M * (Q * Q)) := by grind
  have g3 : 2 * (d * (Q * Q)) * (2 * M) = 4 * (d * (M * (Q * Q))) := by grind
  rw [g1] at hv
  rw [g2] at e'
  rw [g3]
  unfold Bd at *
  omega

theorem T_succ (first z f : Int) (k : Nat) : T first z f (k + 1) = (if (k + 1) % 2 = 1 then wrap64 ((T first z f k).1 - mulDivV (dotV (T first z f k).2 z 0 0 60) 1 (den f (k + 1))) else wrap64 ((T first z f k).1 + mulDivV (dotV (T first z f k).2 z 0 0 60) 1 (den f (k + 1))),
      mulDivV (dotV (T first z f k).2 z 0 0 60) 1 (den f (k + 1))) := rfl
theorem fit_in {V : Int} (h0 : -9223372036854775808 ≤ V) (h1 : V ≤ 9223372036854775807) : fitV V = V := (fit_yes ⟨h0, h1⟩).1
theorem dot_near {a b : Int} (h0 : 0 ≤ near (a * b) Q) (h1 : near (a * b) Q ≤ Q) : dotV a b 0 0 60 = near (a * b) Q := by
  unfold dotV
  rw [if_pos (by omega), show a * b + 0 * 0 = a * b by omega, show ((2 : Int) ^ (60 : Int).toNat) = Q by decide]
  rw [Qval] at *
  exact fit_in (by omega) (by omega)
theorem md_near {a d : Int} (hd : 1 ≤ d) (h0 : 0 ≤ near a d) (h1 : near a d ≤ Q) : mulDivV a 1 d = near a d := by
  unfold mulDivV
  rw [if_neg (by omega), if_neg (by omega), if_neg (by omega), Int.mul_one]
  rw [Qval] at *
  exact fit_in (by omega) (by omega)
/-- The next term of the run. -/
theorem term_next {first x f t : Int} {k : Nat} (t0 : 0 ≤ t) (t1 : t ≤ Q) (x0 : 0 ≤ x) (x1 : x ≤ Q) (hd : 2 ≤ den f (k + 1)) (h : (T first (near (x * x) Q) f k).2 = t) : (T first (near (x * x) Q) f (k + 1)).2 = near (near (t * near (x * x) Q) Q) (den f (k + 1)) := by
  have hQ : 1 ≤ Q := by rw [Qval]; omega
  have z0 := near_nonneg (p := x * x) hQ (Int.mul_nonneg x0 x0)
  have z1 := near_le (p := x * x) hQ (Int.mul_le_mul x1 x1 x0 (by omega))
  rw [T_succ, h]
  show mulDivV (dotV t (near (x * x) Q) 0 0 60) 1 (den f (k + 1)) = _
  generalize near (x * x) Q = z at *
  have u0 := near_nonneg (p := t * z) hQ (Int.mul_nonneg t0 z0)
  have u1 := near_le (p := t * z) hQ (Int.mul_le_mul_of_nonneg_left z1 t0)
  rw [dot_near u0 (by omega)]
  have s0 := near_nonneg (p := near (t * z) Q) (d := den f (k + 1)) (by omega) u0
  have s2 := near_half hd u0
  exact md_near (by omega) s0 (by omega)
/-- The run after k terms. -/
structure Run (first x f a y t s : Int) (k : Nat) : Prop where
  st : St a y t
  ht : (T first (near (x * x) Q) f k).2 = t
  hs : (T first (near (x * x) Q) f k).1 = s
  bd : Bd s (2 * Q + k - t)
theorem Run.next {first x f a y t s a' : Int} {k : Nat} (h : Run first x f a y t s k) (hk : k ≤ 20) (x0 : 0 ≤ x) (x1 : x ≤ Q) (ha : a = a' * (den f (k + 1) * (Q * Q))) (hd : 2 ≤ den f (k + 1)) :
    ∃ t', Run first x f a' (y * (x * x)) t' (if (k + 1) % 2 = 1 then s - t' else s + t') (k + 1) := by
  obtain ⟨hst, ht, hs, hb⟩ := h
  obtain ⟨n1, n2⟩ := hst.step (t' := near (near (t * near (x * x) Q) Q) (den f (k + 1))) x0 x1 ha hd rfl
  have hn := term_next hst.t0 hst.t1 x0 x1 hd ht
  refine ⟨_, n1, hn, ?_, ?_⟩
  · have e : (T first (near (x * x) Q) f (k + 1)).1 = if (k + 1) % 2 = 1 then wrap64 (s - (T first (near (x * x) Q) f (k + 1)).2) else wrap64 (s + (T first (near (x * x) Q) f (k + 1)).2) := by
      rw [T_succ, hs]
    rw [e, hn]
    have t0 := n1.t0
    have t1 := n1.t1
    unfold Bd at hb
    rw [Qval] at hb t1
    have st0 := hst.t0
    generalize near (near (t * near (x * x) Q) Q) (den f (k + 1)) = t' at *
    have w1 : wrap64 (s - t') = s - t' := by unfold wrap64; omega
    have w2 : wrap64 (s + t') = s + t' := by unfold wrap64; omega
    rw [w1, w2]
  · have t0 := n1.t0
    generalize near (near (t * near (x * x) Q) Q) (den f (k + 1)) = t' at *
    unfold Bd at *
    split <;> omega

/-- The sum of ten terms, and the polynomial. -/
theorem alt_sum (m y v a0 a1 a2 a3 a4 a5 a6 a7 a8 a9 t0 t1 t2 t3 t4 t5 t6 t7 t8 t9 : Int)
    (h0 : Bd (m * t0 - a0 * y) (2 * m)) (h1 : Bd (m * t1 - a1 * (y * v)) (2 * m)) (h2 : Bd (m * t2 - a2 * (y * v * v)) (2 * m)) (h3 : Bd (m * t3 - a3 * (y * v * v * v)) (2 * m)) (h4 : Bd (m * t4 - a4 * (y * v * v * v * v)) (2 * m))
    (h5 : Bd (m * t5 - a5 * (y * v * v * v * v * v)) (2 * m)) (h6 : Bd (m * t6 - a6 * (y * v * v * v * v * v * v)) (2 * m)) (h7 : Bd (m * t7 - a7 * (y * v * v * v * v * v * v * v)) (2 * m)) (h8 : Bd (m * t8 - a8 * (y * v * v * v * v * v * v * v * v)) (2 * m)) (h9 : Bd (m * t9 - a9 * (y * v * v * v * v * v * v * v * v * v)) (2 * m)) :
    Bd (m * (t0 - t1 + t2 - t3 + t4 - t5 + t6 - t7 + t8 - t9) - y * alt [a0, a1, a2, a3, a4, a5, a6, a7, a8, a9] v) (20 * m) := by
  have e : m * (t0 - t1 + t2 - t3 + t4 - t5 + t6 - t7 + t8 - t9) - y * alt [a0, a1, a2, a3, a4, a5, a6, a7, a8, a9] v
      = (m * t0 - a0 * y) - (m * t1 - a1 * (y * v)) + (m * t2 - a2 * (y * v * v)) - (m * t3 - a3 * (y * v * v * v)) + (m * t4 - a4 * (y * v * v * v * v)) - (m * t5 - a5 * (y * v * v * v * v * v)) + (m * t6 - a6 * (y * v * v * v * v * v * v)) - (m * t7 - a7 * (y * v * v * v * v * v * v * v)) + (m * t8 - a8 * (y * v * v * v * v * v * v * v * v)) - (m * t9 - a9 * (y * v * v * v * v * v * v * v * v * v)) := by
    simp only [alt]
    grind
  rw [e]
  unfold Bd at *
  omega
/-- What is told is near to P / M, at 2^30. -/
def Told (o P : Int) : Prop := Bd (1073741824 * (M * o) - P) (M * 536870932)
theorem told_of {S P : Int} (h : Bd (M * S - P) (20 * M)) (hS : Bd S (2 * Q + 9)) : Told (dotV S 1 0 0 30) P := by
  have e : dotV S 1 0 0 30 = near S 1073741824 := by
    unfold dotV
    rw [if_pos (by omega), show S * 1 + 0 * 0 = S by omega, show ((2 : Int) ^ (30 : Int).toNat) = 1073741824 by decide]
    unfold Bd at hS
    rw [Qval] at hS
    have b := near_bounds (p := S) (d := 1073741824) (by omega)
    exact fit_in (by omega) (by omega)
  rw [e]
  obtain ⟨b1, b2⟩ := near_bounds (p := S) (d := 1073741824) (by omega)
  generalize near S 1073741824 = o at *
  unfold Told
  have k := (show Bd M M from ⟨by have := Mpos; omega, Int.le_refl _⟩).mul (show Bd (o * 1073741824 - S) 536870912 from ⟨by omega, by omega⟩)
  rw [show 1073741824 * (M * o) - P = M * (o * 1073741824 - S) + (M * S - P) by grind]
  have := k.add h
  exact this.le (by omega)
theorem alt_smul (c : Int) : ∀ (l : List Int) (v : Int), alt (smul c l) v = c * alt l v
  | [], v => by simp [smul, alt]
  | a :: l, v => by simp only [smul, alt, alt_smul c l v, Int.mul_sub, Int.mul_left_comm v c]
theorem sn_eq (x : Int) : sn x = x * alt cS (x * x) := ev_odd _ _
theorem cs_eq (x : Int) : cs x = Q * alt cC (x * x) := by
  show ev (even (smul Q cC)) x = _
  rw [ev_even, alt_smul]

/-- Ten terms. -/
theorem run_ten {first x f y a0 a1 a2 a3 a4 a5 a6 a7 a8 a9 : Int} (x0 : 0 ≤ x) (x1 : x ≤ Q) (hst : St a0 y first)
    (e1 : a0 = a1 * (den f 1 * (Q * Q))) (e2 : a1 = a2 * (den f 2 * (Q * Q))) (e3 : a2 = a3 * (den f 3 * (Q * Q))) (e4 : a3 = a4 * (den f 4 * (Q * Q))) (e5 : a4 = a5 * (den f 5 * (Q * Q)))
    (e6 : a5 = a6 * (den f 6 * (Q * Q))) (e7 : a6 = a7 * (den f 7 * (Q * Q))) (e8 : a7 = a8 * (den f 8 * (Q * Q))) (e9 : a8 = a9 * (den f 9 * (Q * Q)))
    (hd : ∀ k : Nat, 1 ≤ k → k ≤ 9 → 2 ≤ den f k) : Told (termsV first (near (x * x) Q) f) (y * alt [a0, a1, a2, a3, a4, a5, a6, a7, a8, a9] (x * x)) := by
  have f0 := hst.t0
  have r0 : Run first x f a0 y first first 0 := ⟨hst, rfl, rfl, by have := hst.t1; unfold Bd; omega⟩
  obtain ⟨t1, r1⟩ := r0.next (by omega) x0 x1 e1 (hd 1 (by omega) (by omega))
  rw [if_pos (by decide)] at r1
  obtain ⟨t2, r2⟩ := r1.next (by omega) x0 x1 e2 (hd 2 (by omega) (by omega))
  rw [if_neg (by decide)] at r2
  obtain ⟨t3, r3⟩ := r2.next (by omega) x0 x1 e3 (hd 3 (by omega) (by omega))
  rw [if_pos (by decide)] at r3
  obtain ⟨t4, r4⟩ := r3.next (by omega) x0 x1 e4 (hd 4 (by omega) (by omega))
  rw [if_neg (by decide)] at r4
  obtain ⟨t5, r5⟩ := r4.next (by omega) x0 x1 e5 (hd 5 (by omega) (by omega))
  rw [if_pos (by decide)] at r5
  obtain ⟨t6, r6⟩ := r5.next (by omega) x0 x1 e6 (hd 6 (by omega) (by omega))
  rw [if_neg (by decide)] at r6
  obtain ⟨t7, r7⟩ := r6.next (by omega) x0 x1 e7 (hd 7 (by omega) (by omega))
  rw [if_pos (by decide)] at r7
  obtain ⟨t8, r8⟩ := r7.next (by omega) x0 x1 e8 (hd 8 (by omega) (by omega))
  rw [if_neg (by decide)] at r8
  obtain ⟨t9, r9⟩ := r8.next (by omega) x0 x1 e9 (hd 9 (by omega) (by omega))
  rw [if_pos (by decide)] at r9
  have hs := r9.hs
  have hb := r9.bd
  have ht9 := r9.st.t0
  show Told (dotV (T first (near (x * x) Q) f 9).1 1 0 0 30) _
  rw [hs]
  exact told_of (alt_sum M y (x * x) a0 a1 a2 a3 a4 a5 a6 a7 a8 a9 first t1 t2 t3 t4 t5 t6 t7 t8 t9 r0.st.err r1.st.err r2.st.err r3.st.err r4.st.err r5.st.err r6.st.err r7.st.err r8.st.err r9.st.err) (hb.le (by omega))

/-- The angle at 2^60. -/
def ang (r : Int) : Int := near (r * 3622009729038561421) 11796480
theorem ang_bounds {r : Int} (r0 : 0 ≤ r) (r1 : r ≤ 5898240) : 0 ≤ ang r ∧ ang r ≤ 1811004864519280711 := by
  unfold ang near; omega
theorem ang_half {r : Int} (r0 : 0 ≤ r) (r1 : r ≤ 2949120) : 0 ≤ ang r ∧ ang r ≤ 905502432259640355 := by
  unfold ang near; omega
theorem ser_told {r : Int} (r0 : 0 ≤ r) (r1 : r ≤ 2949120) : Told (serV r).1 (sn (ang r)) ∧ Told (serV r).2 (cs (ang r)) := by
  obtain ⟨x0, x1⟩ := ang_half r0 r1
  have hx : mulDivV r 3622009729038561421 11796480 = ang r := by
    unfold mulDivV
    rw [if_neg (by omega), if_neg (by omega), if_neg (by omega)]
    exact fit_in (by show _ ≤ ang r; omega) (by show ang r ≤ _; omega)
  have hQ : 1 ≤ Q := by rw [Qval]; omega
  have x2 : ang r ≤ Q := by rw [Qval]; omega
  have z0 := near_nonneg (p := ang r * ang r) hQ (Int.mul_nonneg x0 x0)
  have z1 := near_le (p := ang r * ang r) hQ (Int.mul_le_mul x2 x2 x0 (by omega))
  unfold serV
  rw [hx, dot_near z0 z1, sn_eq, cs_eq]
  refine ⟨?_, ?_⟩
  · refine run_ten x0 x2 ⟨x0, x2, ?_⟩ (by decide +kernel) (by decide +kernel) (by decide +kernel) (by decide +kernel) (by decide +kernel) (by decide +kernel) (by decide +kernel) (by decide +kernel) (by decide +kernel) ?_
    · have e : M * ang r - Q ^ 18 * 121645100408832000 * ang r = 0 := by unfold M; omega
      rw [e]; have := Mpos; unfold Bd; omega
    · intro k h1 h2
      unfold den
      rcases (show k = 1 ∨ k = 2 ∨ k = 3 ∨ k = 4 ∨ k = 5 ∨ k = 6 ∨ k = 7 ∨ k = 8 ∨ k = 9 by omega) with rfl | rfl | rfl | rfl | rfl | rfl | rfl | rfl | rfl <;> decide
  · refine run_ten (first := 1152921504606846976) x0 x2 ⟨by omega, by rw [Qval]; omega, ?_⟩ (by decide +kernel) (by decide +kernel) (by decide +kernel) (by decide +kernel) (by decide +kernel) (by decide +kernel) (by decide +kernel) (by decide +kernel) (by decide +kernel) ?_
    · have e : M * 1152921504606846976 - Q ^ 18 * 121645100408832000 * Q = 0 := by unfold M; rw [← Qval]; omega
      rw [e]; have := Mpos; unfold Bd; omega
    · intro k h1 h2
      unfold den
      rcases (show k = 1 ∨ k = 2 ∨ k = 3 ∨ k = 4 ∨ k = 5 ∨ k = 6 ∨ k = 7 ∨ k = 8 ∨ k = 9 by omega) with rfl | rfl | rfl | rfl | rfl | rfl | rfl | rfl | rfl <;> decide
end Go.Proofs.Ytngnkgnobgfjeaa.Trig
