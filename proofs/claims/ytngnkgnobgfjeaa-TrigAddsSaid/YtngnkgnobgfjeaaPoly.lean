/- Sums of powers, in whole numbers: products, sums of arguments, and how large they can be. No program in sight. -/
import Derived.KernelRfl
namespace Go.Proofs.Ytngnkgnobgfjeaa.Poly
set_option maxRecDepth 100000
set_option linter.unusedVariables false
set_option linter.unusedSimpArgs false

/-- The polynomial with these numbers, at x. -/
def ev : List Int → Int → Int
  | [], _ => 0
  | a :: l, x => a + x * ev l x
def add : List Int → List Int → List Int
  | [], m => m
  | a :: l, [] => a :: l
  | a :: l, b :: m => (a + b) :: add l m
theorem ev_add : ∀ (l m : List Int) (x : Int), ev (add l m) x = ev l x + ev m x
  | [], m, x => by simp [add, ev]
  | a :: l, [], x => by simp [add, ev]
  | a :: l, b :: m, x => by simp only [add, ev, ev_add l m x, Int.mul_add]; omega
def smul (c : Int) : List Int → List Int
  | [] => []
  | a :: l => c * a :: smul c l
theorem ev_smul (c : Int) : ∀ (l : List Int) (x : Int), ev (smul c l) x = c * ev l x
  | [], x => by simp [smul, ev]
  | a :: l, x => by simp only [smul, ev, ev_smul c l x, Int.mul_add, Int.mul_left_comm x c]
/-- With two arguments: the numbers of each power of x are a polynomial in y. -/
def ev2 : List (List Int) → Int → Int → Int
  | [], _, _ => 0
  | f :: l, x, y => ev f y + x * ev2 l x y
def add2 : List (List Int) → List (List Int) → List (List Int)
  | [], m => m
  | a :: l, [] => a :: l
  | a :: l, b :: m => add a b :: add2 l m
theorem ev2_add : ∀ (l m : List (List Int)) (x y : Int), ev2 (add2 l m) x y = ev2 l x y + ev2 m x y
  | [], m, x, y => by simp [add2, ev2]
  | a :: l, [], x, y => by simp [add2, ev2]
  | a :: l, b :: m, x, y => by simp only [add2, ev2, ev_add, ev2_add l m x y, Int.mul_add]; omega
def smul2 (c : Int) : List (List Int) → List (List Int)
  | [] => []
  | a :: l => smul c a :: smul2 c l
theorem ev2_smul (c : Int) : ∀ (l : List (List Int)) (x y : Int), ev2 (smul2 c l) x y = c * ev2 l x y
  | [], x, y => by simp [smul2, ev2]
  | a :: l, x, y => by simp only [smul2, ev2, ev_smul, ev2_smul c l x y, Int.mul_add, Int.mul_left_comm x c]
def outer : List Int → List Int → List (List Int)
  | [], _ => []
  | a :: l, q => smul a q :: outer l q
theorem ev2_outer : ∀ (l q : List Int) (x y : Int), ev2 (outer l q) x y = ev l x * ev q y
  | [], q, x, y => by simp [outer, ev2, ev]
  | a :: l, q, x, y => by simp only [outer, ev2, ev, ev_smul, ev2_outer l q x y, Int.add_mul, Int.mul_assoc]
def up : List (List Int) → List (List Int)
  | [] => []
  | a :: l => (0 :: a) :: up l
theorem ev2_up : ∀ (l : List (List Int)) (x y : Int), ev2 (up l) x y = y * ev2 l x y
  | [], x, y => by simp [up, ev2]
  | a :: l, x, y => by simp only [up, ev2, ev, ev2_up l x y, Int.mul_add, Int.mul_left_comm x y]; omega
/-- At the sum of two arguments. -/
def shift : List Int → List (List Int)
  | [] => []
  | a :: l => add2 [[a]] (add2 ([] :: shift l) (up (shift l)))
theorem ev2_shift : ∀ (l : List Int) (x y : Int), ev2 (shift l) x y = ev l (x + y)
  | [], x, y => by simp [shift, ev2, ev]
  | a :: l, x, y => by
    simp only [shift, ev2_add, ev2, ev, ev2_up, ev2_shift l x y, Int.add_mul]
    omega
/-- How large it can be, up to B. -/
def nrm : List Int → Nat → Nat
  | [], _ => 0
  | a :: l, B => a.natAbs + B * nrm l B
theorem ev_bound {B : Nat} {x : Int} (h : x.natAbs ≤ B) : ∀ l : List Int, (ev l x).natAbs ≤ nrm l B
  | [] => Nat.le_refl _
  | a :: l => by
    simp only [ev, nrm]
    refine Nat.le_trans (Int.natAbs_add_le _ _) (Nat.add_le_add_left ?_ _)
    rw [Int.natAbs_mul]
    exact Nat.mul_le_mul h (ev_bound h l)
def nrm2 : List (List Int) → Nat → Nat → Nat
  | [], _, _ => 0
  | f :: l, A, B => nrm f B + A * nrm2 l A B
theorem ev2_bound {A B : Nat} {x y : Int} (hx : x.natAbs ≤ A) (hy : y.natAbs ≤ B) : ∀ l : List (List Int), (ev2 l x y).natAbs ≤ nrm2 l A B
  | [] => Nat.le_refl _
  | f :: l => by
    simp only [ev2, nrm2]
    refine Nat.le_trans (Int.natAbs_add_le _ _) (Nat.add_le_add (ev_bound hy f) ?_)
    rw [Int.natAbs_mul]
    exact Nat.mul_le_mul hx (ev2_bound hx hy l)

/-- a0 - v (a1 - v (..)). -/
def alt : List Int → Int → Int
  | [], _ => 0
  | a :: l, v => a - v * alt l v
/-- The same in odd powers, and in even ones. -/
def odd : List Int → List Int
  | [] => []
  | a :: l => 0 :: a :: smul (-1) (odd l)
def even : List Int → List Int
  | [] => []
  | a :: l => a :: 0 :: smul (-1) (even l)
theorem ev_odd : ∀ (l : List Int) (x : Int), ev (odd l) x = x * alt l (x * x)
  | [], x => by simp [odd, ev, alt]
  | a :: l, x => by
    simp only [odd, ev, alt, ev_smul, ev_odd l x, Int.mul_sub, Int.mul_add, Int.mul_assoc]
    simp only [Int.neg_mul, Int.mul_neg, Int.one_mul]
    omega
theorem ev_even : ∀ (l : List Int) (x : Int), ev (even l) x = alt l (x * x)
  | [], x => by simp [even, ev, alt]
  | a :: l, x => by
    simp only [even, ev, alt, ev_smul, ev_even l x, Int.mul_add, Int.mul_assoc]
    simp only [Int.neg_mul, Int.mul_neg, Int.one_mul]
    omega
theorem odd_neg (l : List Int) (x : Int) : ev (odd l) (-x) = -ev (odd l) x := by
  rw [ev_odd, ev_odd, Int.neg_mul_neg, Int.neg_mul]
theorem even_neg (l : List Int) (x : Int) : ev (even l) (-x) = ev (even l) x := by
  rw [ev_even, ev_even, Int.neg_mul_neg]

/-- What the series' numbers are: the power that is left of 2^60, times what is left of 19!. -/
def Q : Int := 1152921504606846976
def M : Int := Q ^ 18 * 121645100408832000
def L : Int := Q ^ 19 * 121645100408832000
def cS : List Int := [Q ^ 18 * 121645100408832000, Q ^ 16 * 20274183401472000, Q ^ 14 * 1013709170073600, Q ^ 12 * 24135932620800, Q ^ 10 * 335221286400, Q ^ 8 * 3047466240, Q ^ 6 * 19535040, Q ^ 4 * 93024, Q ^ 2 * 342, 1]
def cC : List Int := [Q ^ 18 * 121645100408832000, Q ^ 16 * 60822550204416000, Q ^ 14 * 5068545850368000, Q ^ 12 * 168951528345600, Q ^ 10 * 3016991577600, Q ^ 8 * 33522128640, Q ^ 6 * 253955520, Q ^ 4 * 1395360, Q ^ 2 * 5814, 19]
def pS : List Int := odd cS
def pC : List Int := even (smul Q cC)
/-- L sin and L cos, of x/2^60. -/
def sn (x : Int) : Int := ev pS x
def cs (x : Int) : Int := ev pC x
theorem sn_neg (x : Int) : sn (-x) = -sn x := odd_neg _ _
theorem cs_neg (x : Int) : cs (-x) = cs x := even_neg _ _
def fS : List (List Int) := add2 (add2 (outer pS pC) (outer pC pS)) (smul2 (-L) (shift pS))
def fC : List (List Int) := add2 (add2 (outer pC pC) (smul2 (-1) (outer pS pS))) (smul2 (-L) (shift pC))
/-- 8/5 and 4/5. -/
def A8 : Nat := 1844674407370955162
def A4 : Nat := 922337203685477581
/-- What is left away is small. -/
def tiny : Nat := M.natAbs * M.natAbs * (Q.natAbs * 33554432)
theorem small_S : nrm2 fS A8 A4 ≤ tiny := by decide +kernel
theorem small_C : nrm2 fC A8 A4 ≤ tiny := by decide +kernel
theorem add_S {x y : Int} (hx : x.natAbs ≤ A8) (hy : y.natAbs ≤ A4) : (sn x * cs y + cs x * sn y - L * sn (x + y)).natAbs ≤ tiny := by
  have h := Nat.le_trans (ev2_bound hx hy fS) small_S
  unfold fS at h
  rw [ev2_add, ev2_add, ev2_outer, ev2_outer, ev2_smul, ev2_shift, Int.neg_mul, ← Int.sub_eq_add_neg] at h
  exact h
theorem add_C {x y : Int} (hx : x.natAbs ≤ A8) (hy : y.natAbs ≤ A4) : (cs x * cs y - sn x * sn y - L * cs (x + y)).natAbs ≤ tiny := by
  have h := Nat.le_trans (ev2_bound hx hy fC) small_C
  unfold fC at h
  rw [ev2_add, ev2_add, ev2_outer, ev2_smul, ev2_outer, ev2_smul, ev2_shift, Int.neg_mul, Int.neg_mul, Int.one_mul, ← Int.sub_eq_add_neg, ← Int.sub_eq_add_neg] at h
  exact h
end Go.Proofs.Ytngnkgnobgfjeaa.Poly
