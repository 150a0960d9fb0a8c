/- Package ref01, walked: Power, MulDiv, Dot: each answers the nearest whole number, if it fits. For all arguments. -/
import Derived.Test.YtngnkgnobgfjeaaRefI
namespace Go.Proofs.Ytngnkgnobgfjeaa.Ref
open Go Go.RowKit Open
set_option maxRecDepth 100000
set_option linter.unusedVariables false
set_option linter.unusedSimpArgs false

/-- The nearest whole number to z / c, c not 0; of two the greater one. -/
def nr (z c : Int) : Int := if c < 0 then (2 * -z + -c) / (2 * -c) else (2 * z + c) / (2 * c)
def mdV (a b c : Int) : Int := if c = 0 then 0 else fitV (nr (a * b) c)
def mdB (a b c : Int) : Bool := if c = 0 then false else fitB (nr (a * b) c)

theorem pw4_val : pw 4 = 18446744073709551616 := by decide
theorem pw8_val : pw 8 = 340282366920938463463374607431768211456 := by decide
theorem siz_bound {a : Int} (a0 : -9223372036854775808 ≤ a) (a1 : a ≤ 9223372036854775807) : 0 ≤ siz a ∧ siz a ≤ 9223372036854775808 := by unfold siz; split <;> omega
theorem sg_mul (s t : Bool) (a b : Int) : sg (s != t) (a * b) = sg s a * sg t b := by
  cases s <;> cases t <;> simp [sg, Int.neg_mul, Int.mul_neg]
theorem siz_pos {a : Int} (h : a ≠ 0) : 0 < siz a := by unfold siz; split <;> omega
theorem near_calls (s t : Bool) (A B : Option Addr) (ps qs : List Int) (ca cb : Nat) (a c : Int) (w : World) (hA : IntRow w .i64 A ps) (hB : IntRow w .i64 B qs) (ha : Says ps a) (hb : Says qs c) (la : ps.length ≤ 10) (lb : qs.length ≤ 10) (hc : 0 < c) :
    Calls Try.prog 36 #[.agg #[.bool s, .slice A ps.length ca], .agg #[.bool t, .slice B qs.length cb]] w (Num0 w (nr (sg s a) (sg t c))) := by
  cases t
  · have e : nr (sg s a) (sg false c) = (2 * sg s a + c) / (2 * c) := by unfold nr; rw [sg_false, if_neg (by omega)]
    rw [e]; exact near_pos s A B ps qs ca cb a c w hA hB ha hb la lb hc
  · have e : nr (sg s a) (sg true c) = (2 * -(sg s a) + c) / (2 * c) := by unfold nr; rw [sg_true, if_pos (by omega), Int.neg_neg]
    rw [e]; exact near_neg s A B ps qs ca cb a c w hA hB ha hb la lb hc
theorem Out.len {w w' : World} {C : Option Addr} {cs : List Int} {n : Int} (h : Out w w' C cs n) {m : Nat} (hn : n < pw m) : cs.length ≤ m := h.says.len hn
theorem siz_mul_lt {a b : Int} (h1 : 0 ≤ a ∧ a ≤ 9223372036854775808) (h2 : 0 ≤ b ∧ b ≤ 9223372036854775808) : 0 ≤ a * b ∧ a * b ≤ 85070591730234615865843651857942052864 :=
  ⟨Int.mul_nonneg h1.1 h2.1, Int.mul_le_mul h1.2 h2.2 h2.1 (by omega)⟩

/-- The nearest whole number is no farther from 0 than the number itself. -/
theorem nr_bound {z c M : Int} (hc : c ≠ 0) (h : -M ≤ z ∧ z ≤ M) : -M ≤ nr z c ∧ nr z c ≤ M := by
  have key : ∀ {z c : Int}, 0 < c → -M ≤ z → z ≤ M → -M ≤ (2 * z + c) / (2 * c) ∧ (2 * z + c) / (2 * c) ≤ M := by
    intro z c hc h1 h2
    have hM : 0 ≤ M := by omega
    constructor
    · apply Int.le_ediv_of_mul_le (by omega)
      have : M * 1 ≤ M * c := Int.mul_le_mul_of_nonneg_left hc hM
      have e : -M * (2 * c) = -(2 * (M * c)) := by rw [Int.neg_mul, Int.mul_left_comm]
      rw [e]; omega
    · have : (2 * z + c) / (2 * c) < M + 1 := by
        apply Int.ediv_lt_of_lt_mul (by omega)
        have : M * 1 ≤ M * c := Int.mul_le_mul_of_nonneg_left hc hM
        have e : (M + 1) * (2 * c) = 2 * (M * c) + 2 * c := by rw [Int.add_mul, Int.mul_left_comm, Int.one_mul]
        rw [e]; omega
      omega
  unfold nr
  split
  · exact key (by omega) (by omega) (by omega)
  · exact key (by omega) h.1 h.2
theorem sg_len {w w' : World} {r : Bool} {C : Option Addr} {cs : List Int} {n z M : Int} (h : Out w w' C cs n) (e : sg r n = z) (hz : -M ≤ z ∧ z ≤ M) {m : Nat} (hM : M < pw m) : cs.length ≤ m :=
  h.len (by have := h.says.nonneg; cases r <;> simp [sg] at e <;> omega)

theorem of_num (a : Int) (a0 : -9223372036854775808 ≤ a) (a1 : a ≤ 9223372036854775807) (w : World) : Calls Try.prog 38 #[.int .i64 a] w (Num0 w a) :=
  (of_calls a a0 a1 w).mono fun e w' ⟨C, cs, cc, h1, h2⟩ => ⟨_, C, cs, cc, _, h1, h2, sg_siz a⟩
theorem mul_num {s t : Bool} {A B : Option Addr} {ps qs : List Int} {ca cb : Nat} {a b x y : Int} {w : World} (hA : IntRow w .i64 A ps) (hB : IntRow w .i64 B qs) (ha : Says ps a) (hb : Says qs b) (la : ps.length ≤ 20) (lb : qs.length ≤ 20) (ex : sg s a = x) (ey : sg t b = y) :
    Calls Try.prog 37 #[.agg #[.bool s, .slice A ps.length ca], .agg #[.bool t, .slice B qs.length cb]] w (Num0 w (x * y)) :=
  (mul_calls s t A B ps qs ca cb a b w hA hB ha hb la lb).mono fun e w' ⟨C, cs, cc, h1, h2⟩ => ⟨_, C, cs, cc, _, h1, h2, by rw [sg_mul, ex, ey]⟩
theorem add_num {s t : Bool} {A B : Option Addr} {ps qs : List Int} {ca cb : Nat} {a b x y : Int} {w : World} (hA : IntRow w .i64 A ps) (hB : IntRow w .i64 B qs) (ha : Says ps a) (hb : Says qs b) (la : ps.length ≤ 64) (lb : qs.length ≤ 64) (ex : sg s a = x) (ey : sg t b = y) :
    Calls Try.prog 40 #[.agg #[.bool s, .slice A ps.length ca], .agg #[.bool t, .slice B qs.length cb]] w (Num0 w (x + y)) :=
  (add_calls s t A B ps qs ca cb a b w hA hB ha hb la lb).mono fun e w' ⟨r, C, cs, cc, n, h1, h2, h3⟩ => ⟨r, C, cs, cc, n, h1, h2, by rw [h3, ex, ey]⟩
theorem near_num {s t : Bool} {A B : Option Addr} {ps qs : List Int} {ca cb : Nat} {a b x y : Int} {w : World} (hA : IntRow w .i64 A ps) (hB : IntRow w .i64 B qs) (ha : Says ps a) (hb : Says qs b) (la : ps.length ≤ 10) (lb : qs.length ≤ 10) (ex : sg s a = x) (ey : sg t b = y) (hy : y ≠ 0) :
    Calls Try.prog 36 #[.agg #[.bool s, .slice A ps.length ca], .agg #[.bool t, .slice B qs.length cb]] w (Num0 w (nr x y)) := by
  have hb0 := hb.nonneg
  have hc : 0 < b := by cases t <;> simp [sg] at ey <;> omega
  have := near_calls s t A B ps qs ca cb a b w hA hB ha hb la lb hc
  rwa [ex, ey] at this
theorem plain_num {s : Bool} {A : Option Addr} {ps : List Int} {ca : Nat} {n z : Int} {w : World} (hA : IntRow w .i64 A ps) (ha : Says ps n) (la : ps.length ≤ 1000) (ez : sg s n = z) :
    Calls Try.prog 35 #[.agg #[.bool s, .slice A ps.length ca]] w fun e w' => e = .returned (.tuple #[.int .i64 (fitV z), .bool (fitB z)]) ∧ Below w.heap.size w w' := by
  rw [← ez]; exact plain_calls s A ps ca n w hA ha la

theorem mul_i64 {a b : Int} (a0 : -9223372036854775808 ≤ a) (a1 : a ≤ 9223372036854775807) (b0 : -9223372036854775808 ≤ b) (b1 : b ≤ 9223372036854775807) :
    -85070591730234615865843651857942052864 ≤ a * b ∧ a * b ≤ 85070591730234615865843651857942052864 := by
  have hab := siz_mul_lt (siz_bound a0 a1) (siz_bound b0 b1)
  have eab : sg (decide (a < 0) != decide (b < 0)) (siz a * siz b) = a * b := by rw [sg_mul, sg_siz, sg_siz]
  rw [← eab]; unfold sg; split <;> omega

set_option maxHeartbeats 8000000 in
theorem muldiv_calls (a b c : Int) (a0 : -9223372036854775808 ≤ a) (a1 : a ≤ 9223372036854775807) (b0 : -9223372036854775808 ≤ b) (b1 : b ≤ 9223372036854775807) (c0 : -9223372036854775808 ≤ c) (c1 : c ≤ 9223372036854775807) (w : World) :
    Calls Try.prog 15 #[.int .i64 a, .int .i64 b, .int .i64 c] w fun e w' => e = .returned (.tuple #[.int .i64 (mdV a b c), .bool (mdB a b c)]) ∧ Below w.heap.size w w' := by
  by_cases hc : c = 0
  · subst hc
    have h : ((0 : Int) == 0) = true := by decide
    go_enter Try.func15, Try.ntmps15
    go_wp2
    go_ret2
    exact ⟨rfl, Below.refl _ _⟩
  · have eV : mdV a b c = fitV (nr (a * b) c) := if_neg hc
    have eB : mdB a b c = fitB (nr (a * b) c) := if_neg hc
    rw [eV, eB]
    have hz := mul_i64 a0 a1 b0 b1
    have hnb := nr_bound hc hz
    have p4 := pw4_val
    have p8 := pw8_val
    have OA := Lib.hid (of_num a a0 a1)
    have OB := Lib.hid (of_num b b0 b1)
    have OC := Lib.hid (of_num c c0 c1)
    clear eV eB
    go_enter Try.func15, Try.ntmps15
    go_wp2_with (first
      | (go_at_call 38; ((with_reducible refine (OA.out _).mono ?_); rintro e w1 ⟨r1, C1, d1, x1, n1, rfl, o1, e1⟩; clear OA; have l1 := sg_len (M := 9223372036854775808) (m := 4) o1 e1 (by omega) (by omega)))
      | (go_at_call 38; ((with_reducible refine (OB.out _).mono ?_); rintro e w2 ⟨r2, C2, d2, x2, n2, rfl, o2, e2⟩; clear OB; have l2 := sg_len (M := 9223372036854775808) (m := 4) o2 e2 (by omega) (by omega); have y1 := o1.row.below o2.bel))
      | (go_at_call 37; ((with_reducible refine (mul_num y1 o2.row o1.says o2.says (by omega) (by omega) e1 e2).mono ?_); rintro e w3 ⟨r3, C3, d3, x3, n3, rfl, o3, e3⟩; have l3 := sg_len (M := 85070591730234615865843651857942052864) (m := 8) o3 e3 hz (by omega)))
      | (go_at_call 38; ((with_reducible refine (OC.out _).mono ?_); rintro e w4 ⟨r4, C4, d4, x4, n4, rfl, o4, e4⟩; clear OC; have l4 := sg_len (M := 9223372036854775808) (m := 4) o4 e4 (by omega) (by omega); have y3 := o3.row.below o4.bel))
      | (go_at_call 36; ((with_reducible refine (near_num y3 o4.row o3.says o4.says (by omega) (by omega) e3 e4 hc).mono ?_); rintro e w5 ⟨r5, C5, d5, x5, n5, rfl, o5, e5⟩; have l5 := sg_len (M := 85070591730234615865843651857942052864) (m := 8) o5 e5 hnb (by omega)))
      | (go_at_call 35; ((with_reducible refine (plain_num o5.row o5.says (by omega) e5).mono ?_); rintro e w6 ⟨rfl, b6⟩)))
    go_ret2
    exact ⟨rfl, below_more o1.bel (below_more o2.bel (below_more o3.bel (below_more o4.bel (below_more o5.bel b6))))⟩
end Go.Proofs.Ytngnkgnobgfjeaa.Ref
