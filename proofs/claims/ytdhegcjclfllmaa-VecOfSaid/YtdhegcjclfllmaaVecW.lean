/- A direction out of a point: what package vec answers is the document's, it is right, and as near to 1 as 2. For all points. -/
import Derived.Test.YtdhegcjclfllmaaVecRo
import Derived.Test.YtdhegcjclfllmaaVecK
import Derived.Test.YtdhegcjclfllmaaPEx5
import Derived.Test.YtdhegcjclfllmaaPEx6
namespace Go.Proofs.Ytdhegcjclfllmaa.Vec
open Go Go.RowKit Go.Proofs.Ytdhegcjclfllmaa.PE Go.Proofs.Ytdhegcjclfllmaa.VecN Go.Proofs.YtdhegcjclfllmaaW.PrintWords Go.Proofs.YtdhegcjclfllmaaW.PrintLast Go.Proofs.YtdhegcjclfllmaaW.PrintMore
set_option linter.unusedVariables false
set_option linter.unusedSimpArgs false
theorem outside_f {a m : Int} (h0 : 0 ≤ m) (h1 : m ≤ 4611686018427387904) : vec_outside.f a m = some (decide (a > m ∨ a < -m)) := by
  unfold vec_outside.f
  rw [w64 (x := -m) (by omega) (by omega)]
  by_cases h : a > m
  · rw [if_pos h, decide_eq_true (Or.inl h)]
  · rw [if_neg h]
    by_cases h2 : a < -m
    · rw [decide_eq_true h2, decide_eq_true (Or.inr h2)]
    · rw [decide_eq_false h2, decide_eq_false (by omega)]
theorem md_f {a b c : Int} (ha : I64 a) (hb : I64 b) (hc : I64 c) : wide_MulDiv.f a b c = some (Wide.mulDivV a b c, Wide.mulDivB a b c) := by
  unfold wide_MulDiv.f; rw [if_pos ⟨ha, hb, hc⟩]
theorem hypot_f {X Y : Int} (hX : I64 X) (hY : I64 Y) : root_Hypot.f X Y = some (len X Y) := by
  unfold root_Hypot.f; rw [if_pos ⟨hX, hY⟩]; rfl
theorem vof_end {X Y : Int} (hX : -4611686018427387904 ≤ X ∧ X ≤ 4611686018427387904) (hY : -4611686018427387904 ≤ Y ∧ Y ≤ 4611686018427387904) :
    ((root_Hypot.f X Y).bind fun t115 => ((wide_MulDiv.f X 1073741824 (wrap64 (t115))).bind fun bt116 => ((wide_MulDiv.f Y 1073741824 (wrap64 (t115))).bind fun bt118 => (some (bt116.1, bt118.1, true))))) = some (Wide.mulDivV X 1073741824 (len X Y), Wide.mulDivV Y 1073741824 (len X Y), true) := by
  have hx : I64 X := by unfold I64; omega
  have hy : I64 Y := by unfold I64; omega
  obtain ⟨_, _, _, l0, l1⟩ := len_in hX hY
  have hl : I64 (len X Y) := by unfold I64; omega
  have h1 : I64 1073741824 := by unfold I64; omega
  rw [hypot_f hx hy]
  simp only [Option.bind_some]
  rw [w64 (x := len X Y) (by omega) (by omega), md_f hx h1 hl, md_f hy h1 hl]; rfl
theorem vof_l0 : ∀ (n k : Nat) (a b X Y : Int), VecN.Way n a b X Y → n < k → vec_Of.l0 k a b = some (Wide.mulDivV X 1073741824 (len X Y), Wide.mulDivV Y 1073741824 (len X Y), true) := by
  intro n
  induction n with
  | zero =>
    intro k a b X Y hW hk
    obtain ⟨k, rfl⟩ : ∃ m, k = m + 1 := ⟨k - 1, by omega⟩
    have hs : ¬ small a b := fun hs => by obtain ⟨m, _, _, e⟩ := hW.step hs; omega
    obtain ⟨rfl, rfl⟩ := hW.stop hs
    simp only [vec_Of.l0]
    rw [outside_f (by decide) (by decide), outside_f (by decide) (by decide)]
    simp only [Option.bind_some]
    have e := vof_end hW.a0 hW.b0
    by_cases h : X > 1152921504606846976 ∨ X < -1152921504606846976
    · rw [decide_eq_true h, if_pos rfl]; exact e
    · have h2 : Y > 1152921504606846976 ∨ Y < -1152921504606846976 := by unfold small at hs; omega
      rw [decide_eq_false h, decide_eq_true h2, if_neg (by decide), if_pos rfl]; exact e
  | succ n ih =>
    intro k a b X Y hW hk
    obtain ⟨k, rfl⟩ : ∃ m, k = m + 1 := ⟨k - 1, by omega⟩
    by_cases hs : small a b
    · obtain ⟨m, hW2, _, e⟩ := hW.step hs
      obtain rfl : m = n := by omega
      have i := ih k _ _ X Y hW2 (by omega)
      have h1 := hW2.a0
      have h2 := hW2.b0
      simp only [vec_Of.l0]
      rw [outside_f (by decide) (by decide), outside_f (by decide) (by decide)]
      simp only [Option.bind_some]
      unfold small at hs
      rw [decide_eq_false (by omega), decide_eq_false (by omega), if_neg (by decide), if_neg (by decide), w64 (x := 2 * a) (by omega) (by omega), w64 (x := 2 * b) (by omega) (by omega)]
      exact i
    · obtain ⟨rfl, rfl⟩ := hW.stop hs
      simp only [vec_Of.l0]
      rw [outside_f (by decide) (by decide), outside_f (by decide) (by decide)]
      simp only [Option.bind_some]
      have e := vof_end hW.a0 hW.b0
      by_cases h : X > 1152921504606846976 ∨ X < -1152921504606846976
      · rw [decide_eq_true h, if_pos rfl]; exact e
      · have h2 : Y > 1152921504606846976 ∨ Y < -1152921504606846976 := by unfold small at hs; omega
        rw [decide_eq_false h, decide_eq_true h2, if_neg (by decide), if_pos rfl]; exact e
theorem vof_j0 (x y : Int) (b : Bool) (hb : b = true ↔ out x y) : vec_Of.j0 70 x y b = some (ofX x y, ofY x y, ofB x y) := by
  simp only [vec_Of.j0]
  by_cases ho : out x y
  · rw [if_pos (hb.2 ho)]
    unfold ofX ofY ofB
    rw [if_pos ho, if_pos ho, decide_eq_true ho]; rfl
  · rw [if_neg (fun h => ho (hb.1 h)), vof_l0 64 69 x y _ _ (VecN.Way.start ho) (by decide)]
    unfold ofX ofY ofB
    rw [if_neg ho, if_neg ho, decide_eq_false ho]; rfl
theorem vof_f (x y : Int) : vec_Of.f 70 x y = some (ofX x y, ofY x y, ofB x y) := by
  unfold vec_Of.f
  rw [outside_f (by decide) (by decide), outside_f (by decide) (by decide)]
  simp only [Option.bind_some]
  (repeat' split) <;> (refine vof_j0 x y _ ?_; unfold out; simp at *; omega)
theorem vright_k (k : Nat) (a b : Int) (ha : I64 a) (hb : I64 b) : vec_Right.f (k + 1) a b = pointillistref09_Right.f a b := by
  obtain ⟨r, hr, hq⟩ := right_f a b
  rw [hr]
  unfold vec_Right.f
  rw [outside_f (by decide) (by decide), outside_f (by decide) (by decide)]
  simp only [Option.bind_some]
  by_cases h1 : a > 1073741888 ∨ a < -1073741888
  · rw [decide_eq_true h1, if_pos rfl]
    have : r = false := by cases r with | false => rfl | true => have := hq.1 rfl; have := this.a0; have := (hq.1 rfl).a1; omega
    subst this; rfl
  rw [decide_eq_false h1, if_neg (by decide)]
  by_cases h2 : b > 1073741888 ∨ b < -1073741888
  · rw [decide_eq_true h2]
    have : r = false := by cases r with | false => rfl | true => have := (hq.1 rfl).b0; have := (hq.1 rfl).b1; omega
    subst this; rfl
  rw [decide_eq_false h2]
  simp only [vec_Right.j0, Bool.false_eq_true, if_false]
  rw [hypot_f ha hb]
  obtain ⟨_, _, hI, l0, l1⟩ := len_in (X := a) (Y := b) (by omega) (by omega)
  obtain ⟨p0, p1⟩ := sq_in (a := a) (by omega) (by omega)
  obtain ⟨q0, q1⟩ := sq_in (a := b) (by omega) (by omega)
  have i1 := hI.le
  have i2 := hI.lt
  have i3 := hI.below (b := 2147483648) (by decide) (by omega)
  generalize len a b = h at *
  simp only [Option.bind_some]
  rw [w64 (x := h) (by omega) (by omega), w64 (x := h - 1073741824) (by omega) (by omega), outside_f (by decide) (by decide)]
  simp only [Option.bind_some]
  congr 1
  have key : (¬ (h - 1073741824 > 64 ∨ h - 1073741824 < -64)) ↔ One a b := by
    constructor
    · intro hn
      have m1 : (1073741760 : Int) * 1073741760 ≤ h * h := Int.mul_le_mul (by omega) (by omega) (by decide) (by omega)
      have m2 : (h + 1) * (h + 1) ≤ 1073741889 * 1073741889 := Int.mul_le_mul (by omega) (by omega) (by omega) (by decide)
      exact ⟨by omega, by omega, by omega, by omega, by omega, by omega⟩
    · intro h1
      have o1 := h1.lo
      have o2 := h1.hi
      have j1 := hI.below (b := 1073741889) (by decide) (by omega)
      by_cases hx : h < 1073741760
      · have m2 : (h + 1) * (h + 1) ≤ 1073741760 * 1073741760 := Int.mul_le_mul (by omega) (by omega) (by omega) (by decide)
        omega
      · omega
  cases r with
  | false =>
    have h3 : h - 1073741824 > 64 ∨ h - 1073741824 < -64 := by
      by_cases h4 : h - 1073741824 > 64 ∨ h - 1073741824 < -64
      · exact h4
      · exact absurd (hq.2 (key.1 h4)) (by decide)
    rw [decide_eq_true h3]; rfl
  | true =>
    rw [decide_eq_false (key.2 (hq.1 rfl))]; rfl
theorem vright_f (a b : Int) (ha : I64 a) (hb : I64 b) : vec_Right.f 70 a b = pointillistref09_Right.f a b := vright_k 69 a b ha hb
theorem vright_f' (a b : Int) (ha : I64 a) (hb : I64 b) : vec_Right.f 69 a b = pointillistref09_Right.f a b := vright_k 68 a b ha hb
theorem mul_in {u w A B : Int} (h1 : -A ≤ u) (h2 : u ≤ A) (h3 : -B ≤ w) (h4 : w ≤ B) : -(A * B) ≤ u * w ∧ u * w ≤ A * B := by
  have h : (u * w).natAbs ≤ (A * B).natAbs := by rw [Int.natAbs_mul, Int.natAbs_mul]; exact Nat.mul_le_mul (by omega) (by omega)
  have := Int.mul_nonneg (a := A) (b := B) (by omega) (by omega)
  omega
theorem abs_le {N L X : Int} (h : Root.IsRoot N L) (hX : X * X ≤ N) : -L ≤ X ∧ X ≤ L := by
  have l := h.lt
  have l0 := h.r0
  constructor
  · by_cases hx : -L ≤ X
    · exact hx
    · have : (L + 1) * (L + 1) ≤ (-X) * (-X) := Int.mul_le_mul (by omega) (by omega) (by omega) (by omega)
      rw [Int.neg_mul_neg] at this; omega
  · by_cases hx : X ≤ L
    · exact hx
    · have : (L + 1) * (L + 1) ≤ X * X := Int.mul_le_mul (by omega) (by omega) (by omega) (by omega)
      omega
theorem sq_nn (x : Int) : 0 ≤ x * x := by
  rcases Int.le_total 0 x with h | h
  · exact Int.mul_nonneg h h
  · exact Int.mul_nonneg_of_nonpos_of_nonpos h h
/-- A quotient of the direction: within 1, and how far from the whole it lies. -/
theorem part_in {X L : Int} (hL : 0 < L) (h0 : -L ≤ X) (h1 : X ≤ L) : ∃ p, Wide.mulDivV X 1073741824 L = p ∧ (-1073741824 ≤ p ∧ p ≤ 1073741824) ∧ -L ≤ 2 * L * p - 2147483648 * X ∧ 2 * L * p - 2147483648 * X ≤ L := by
  have e : Wide.mulDivV X 1073741824 L = Wide.fitV ((2147483648 * X + L) / (2 * L)) := by
    unfold Wide.mulDivV Wide.near
    rw [if_neg (by omega), if_neg (by omega), if_neg (by omega), show 2 * (X * 1073741824) = 2147483648 * X by omega]
  have d := Int.mul_ediv_add_emod (2147483648 * X + L) (2 * L)
  have d0 := Int.emod_nonneg (2147483648 * X + L) (b := 2 * L) (by omega)
  have d1 := Int.emod_lt_of_pos (2147483648 * X + L) (b := 2 * L) (by omega)
  have b1 : (2147483648 * X + L) / (2 * L) < 1073741825 := Int.ediv_lt_of_lt_mul (by omega) (by omega)
  have b0 : -1073741824 ≤ (2147483648 * X + L) / (2 * L) := Int.le_ediv_of_mul_le (by omega) (by omega)
  rw [e]
  generalize (2147483648 * X + L) / (2 * L) = p at *
  generalize (2147483648 * X + L) % (2 * L) = m at *
  unfold Wide.fitV
  rw [if_pos (by omega)]
  exact ⟨p, rfl, by omega, by omega, by omega⟩
theorem near_one {X Y L p q : Int} (h : Root.IsRoot (X * X + Y * Y) L) (hL : 1152921504606846976 ≤ L) (hX : -L ≤ X ∧ X ≤ L) (hY : -L ≤ Y ∧ Y ≤ L)
    (p1 : -L ≤ 2 * L * p - 2147483648 * X) (p2 : 2 * L * p - 2147483648 * X ≤ L) (q1 : -L ≤ 2 * L * q - 2147483648 * Y) (q2 : 2 * L * q - 2147483648 * Y ≤ L) :
    1152921500311879684 ≤ p * p + q * q ∧ p * p + q * q ≤ 1152921508901814276 := by
  have hle := h.le
  have hlt := h.lt
  obtain ⟨E, hE⟩ : ∃ E, E = 2 * L * p - 2147483648 * X := ⟨_, rfl⟩
  obtain ⟨F, hF⟩ : ∃ F, F = 2 * L * q - 2147483648 * Y := ⟨_, rfl⟩
  rw [← hE] at p1 p2
  rw [← hF] at q1 q2
  have a1 := mul_in hX.1 hX.2 p1 p2
  have a2 := mul_in hY.1 hY.2 q1 q2
  have a3 := mul_in p1 p2 p1 p2
  have a4 := mul_in q1 q2 q1 q2
  have a5 : 1152921504606846976 * L ≤ L * L := Int.mul_le_mul_of_nonneg_right hL (by omega)
  have e1 : 4 * (L * L * (p * p)) = 4611686018427387904 * (X * X) + 4294967296 * (X * E) + E * E := by
    have : 2 * L * p = 2147483648 * X + E := by omega
    have t : (2 * L * p) * (2 * L * p) = (2147483648 * X + E) * (2147483648 * X + E) := by rw [this]
    have u1 : (2 * L * p) * (2 * L * p) = 4 * (L * L * (p * p)) := by grind
    have u2 : (2147483648 * X + E) * (2147483648 * X + E) = 4611686018427387904 * (X * X) + 4294967296 * (X * E) + E * E := by grind
    omega
  have e2 : 4 * (L * L * (q * q)) = 4611686018427387904 * (Y * Y) + 4294967296 * (Y * F) + F * F := by
    have : 2 * L * q = 2147483648 * Y + F := by omega
    have t : (2 * L * q) * (2 * L * q) = (2147483648 * Y + F) * (2147483648 * Y + F) := by rw [this]
    have u1 : (2 * L * q) * (2 * L * q) = 4 * (L * L * (q * q)) := by grind
    have u2 : (2147483648 * Y + F) * (2147483648 * Y + F) = 4611686018427387904 * (Y * Y) + 4294967296 * (Y * F) + F * F := by grind
    omega
  have e3 : (L + 1) * (L + 1) = L * L + 2 * L + 1 := by grind
  have e4 : L * L * (p * p + q * q) = L * L * (p * p) + L * L * (q * q) := Int.mul_add _ _ _
  have e0 := sq_nn E
  have f0 := sq_nn F
  have hS : 0 < L * L := Int.mul_pos (by omega) (by omega)
  generalize p * p + q * q = P at *
  generalize L * L * (p * p) = g1 at *
  generalize L * L * (q * q) = g2 at *
  generalize hSS : L * L = S at *
  generalize X * X = XX at *
  generalize Y * Y = YY at *
  generalize X * E = XE at *
  generalize Y * F = YF at *
  generalize E * E = EE at *
  generalize F * F = FF at *
  clear hE hF hSS
  constructor
  · by_cases hc : 1152921500311879684 ≤ P
    · exact hc
    · have : S * P ≤ S * 1152921500311879683 := Int.mul_le_mul_of_nonneg_left (by omega) (by omega)
      omega
  · by_cases hc : P ≤ 1152921508901814276
    · exact hc
    · have : S * 1152921508901814277 ≤ S * P := Int.mul_le_mul_of_nonneg_left (by omega) (by omega)
      omega
end Go.Proofs.Ytdhegcjclfllmaa.Vec
