/- The walks of package wide's product of two numbers and of 'plain', a number of 128 bits as one of 64, if it fits. For every number in range. -/
import Derived.Test.YtngnkgnobgfjeaaDoorWideA
import Derived.Test.YtngnkgnobgfjeaaDoorShelf
import Derived.Deep.RegionHeld3
import Derived.Test.YtngnkgnobgfjeaaDoorWEqStruct
namespace Go.Proofs.YtngnkgnobgfjeaaDoor.Wide
open Go Go.RowKit
set_option maxRecDepth 100000
set_option linter.unusedVariables false
set_option linter.unusedSimpArgs false

theorem mul64_calls (x y : Int) (x0 : 0 ≤ x) (x1 : x ≤ 18446744073709551615) (y0 : 0 ≤ y) (y1 : y ≤ 18446744073709551615) (w : World) :
    Calls Tryd.prog 26 #[.int .u64 x, .int .u64 y] w fun e w' => e = .returned (.tuple #[.int .u64 (x * y / 18446744073709551616), .int .u64 (x * y % 18446744073709551616)]) ∧ w' = w := by
  obtain ⟨X, rfl⟩ := Int.eq_ofNat_of_zero_le x0
  obtain ⟨Y, rfl⟩ := Int.eq_ofNat_of_zero_le y0
  refine (Tryd.bits_Mul64 X Y (by omega) (by omega) w).mono ?_
  rintro e w' ⟨rfl, rfl⟩
  exact ⟨by simp, rfl⟩

theorem Big.prod {V W h1 l1 h2 l2 : Int} (A : Big V h1 l1) (B : Big W h2 l2) (hV0 : 0 ≤ V) (hV : V ≤ 9223372036854775808) (hW0 : 0 ≤ W) (hW : W ≤ 9223372036854775808) :
    Big (V * W) (l1 * l2 / 18446744073709551616) (l1 * l2 % 18446744073709551616) := by
  have e1 : l1 = V := by
    obtain ⟨a1, a2, a3, a4, ae⟩ := A; omega
  have e2 : l2 = W := by
    obtain ⟨a1, a2, a3, a4, ae⟩ := B; omega
  subst e1 e2
  have h0 : 0 ≤ l1 * l2 := Int.mul_nonneg hV0 hW0
  have h1 : l1 * l2 ≤ 9223372036854775808 * 9223372036854775808 := Int.mul_le_mul hV hW hW0 (by omega)
  generalize l1 * l2 = p at *
  clear A B
  constructor <;> omega

theorem abs_i64 {a : Int} (h0 : -9223372036854775808 ≤ a) (h1 : a ≤ 9223372036854775807) : 0 ≤ (if a < 0 then -a else a) ∧ (if a < 0 then -a else a) ≤ 9223372036854775808 := by split <;> omega

set_option maxHeartbeats 2000000 in
theorem times_calls (a b : Int) (a0 : -9223372036854775808 ≤ a) (a1 : a ≤ 9223372036854775807) (b0 : -9223372036854775808 ≤ b) (b1 : b ≤ 9223372036854775807) (w : World) :
    Calls Tryd.prog 15 #[.int .i64 a, .int .i64 b] w (GivesBig (a * b) w) := by
  have A := Big.of a0 a1
  have B := Big.of b0 b1
  have SA := fun w => size_calls A (by omega) (by omega) w
  have SB := fun w => size_calls B (by omega) (by omega) w
  have PA := abs_i64 a0 a1
  have PB := abs_i64 b0 b1
  have OA := fun w => of_calls a w
  have OB := fun w => of_calls b w
  by_cases hd : (decide (a < 0) == decide (b < 0)) = true
  · have hv : (if a < 0 then -a else a) * (if b < 0 then -b else b) = a * b := by
      by_cases ha : a < 0 <;> by_cases hb : b < 0 <;> simp [ha, hb, Int.neg_mul, Int.mul_neg] at hd ⊢
    generalize (if a < 0 then -a else a) = ma at *
    generalize (if b < 0 then -b else b) = mb at *
    have HV := Lib.hid hv
    clear hv a0 a1 b0 b1
    go_enter Tryd.func15, Tryd.ntmps15
    go_wp2_with (first
      | (go_at_call 10; ((with_reducible refine (OA _).mono ?_); rintro e w1 ⟨rfl, hb1⟩; clear OA))
      | (go_at_call 17; ((with_reducible refine (SA _).mono ?_); rintro e w2 ⟨ah, al, BA, rfl, hb2⟩; clear SA))
      | (go_at_call 10; ((with_reducible refine (OB _).mono ?_); rintro e w3 ⟨rfl, hb3⟩; clear OB))
      | (go_at_call 17; ((with_reducible refine (SB _).mono ?_); rintro e w4 ⟨bh, bl, BB, rfl, hb4⟩; clear SB; have x0 := BA.l0; have x1 := BA.l1; have y0 := BB.l0; have y1 := BB.l1; have HB := below_more (below_more (below_more hb1 hb2) hb3) hb4; obtain ⟨hc, hf⟩ := bcell HB; have hz := HB.size; simp at hz; have hz0 : w.heap.size < w4.heap.size := (by omega); have hzs := lts hz0))
      | (go_at_call 26; ((with_reducible refine (mul64_calls _ _ x0 x1 y0 y1 _).mono ?_); rintro e w5 ⟨rfl, rfl⟩)))
    have BP := BA.prod BB PA.1 PA.2 PB.1 PB.2
    rw [HV.out] at BP
    refine bodyPost_ret (v := .agg #[.int .u64 (al * bl / 18446744073709551616), .int .u64 (al * bl % 18446744073709551616)]) (by simp [results, Tryd.results15, go_sem, hc, hzs]) rfl ⟨_, _, BP, rfl, ?_⟩
    have z_HB := HB.size; (try simp at z_HB); (repeat' (first | (with_reducible exact Below.refl _ _) | (with_reducible refine Below.drew ?_) | (with_reducible refine below_drewN ?_ _) | ((with_reducible refine Below.setCell ?_ ?side_ _); case side_ => (first | (with_reducible exact Nat.le_refl _) | (with_reducible assumption) | omega | (simp; done) | (simp; omega))) | ((with_reducible refine Below.alloc ?_ ?side_ _); case side_ => (first | (with_reducible exact Nat.le_refl _) | (with_reducible assumption) | omega | (simp; done) | (simp; omega))) | ((with_reducible refine Below.trans ?_ (HB.mono ?side_)); case side_ => (first | (with_reducible exact Nat.le_refl _) | (with_reducible assumption) | omega | (simp; done) | (simp; omega)))))
  · have hd' : (decide (a < 0) == decide (b < 0)) = false := by simpa using hd
    have hv : (if a < 0 then -a else a) * (if b < 0 then -b else b) = -(a * b) := by
      by_cases ha : a < 0 <;> by_cases hb : b < 0 <;> simp [ha, hb, Int.neg_mul, Int.mul_neg] at hd ⊢
    clear hd
    generalize (if a < 0 then -a else a) = ma at *
    generalize (if b < 0 then -b else b) = mb at *
    have HV := Lib.hid hv
    clear hv a0 a1 b0 b1
    go_enter Tryd.func15, Tryd.ntmps15
    go_wp2_with (first
      | (go_at_call 10; ((with_reducible refine (OA _).mono ?_); rintro e w1 ⟨rfl, hb1⟩; clear OA))
      | (go_at_call 17; ((with_reducible refine (SA _).mono ?_); rintro e w2 ⟨ah, al, BA, rfl, hb2⟩; clear SA))
      | (go_at_call 10; ((with_reducible refine (OB _).mono ?_); rintro e w3 ⟨rfl, hb3⟩; clear OB))
      | (go_at_call 17; ((with_reducible refine (SB _).mono ?_); rintro e w4 ⟨bh, bl, BB, rfl, hb4⟩; clear SB; have x0 := BA.l0; have x1 := BA.l1; have y0 := BB.l0; have y1 := BB.l1; have HB := below_more (below_more (below_more hb1 hb2) hb3) hb4; obtain ⟨hc, hf⟩ := bcell HB; have hz := HB.size; simp at hz; have hz0 : w.heap.size < w4.heap.size := (by omega); have hzs := lts hz0))
      | (go_at_call 26; ((with_reducible refine (mul64_calls _ _ x0 x1 y0 y1 _).mono ?_); rintro e w5 ⟨rfl, rfl⟩))
      | (go_at_call 16; (have BP := BA.prod BB PA.1 PA.2 PB.1 PB.2); ((with_reducible refine (minus_calls BP _).mono ?_); rintro e w6 ⟨rh, rl, BR, rfl, hb6⟩; obtain ⟨hc6, hf6⟩ := bcell hb6; have hz6 := hb6.size; simp at hz6; have hz7 : w.heap.size < w6.heap.size := (by omega); have hz8 := lts hz7)))
    rw [HV.out, Int.neg_neg] at BR
    refine bodyPost_ret (v := .agg #[.int .u64 rh, .int .u64 rl]) (by simp [results, Tryd.results15, go_sem, hc, hzs, hc6, hz8]) rfl ⟨_, _, BR, rfl, ?_⟩
    have z_HB := HB.size; (try simp at z_HB); have z_hb6 := hb6.size; (try simp at z_hb6); (repeat' (first | (with_reducible exact Below.refl _ _) | (with_reducible refine Below.drew ?_) | (with_reducible refine below_drewN ?_ _) | ((with_reducible refine Below.setCell ?_ ?side_ _); case side_ => (first | (with_reducible exact Nat.le_refl _) | (with_reducible assumption) | omega | (simp; done) | (simp; omega))) | ((with_reducible refine Below.alloc ?_ ?side_ _); case side_ => (first | (with_reducible exact Nat.le_refl _) | (with_reducible assumption) | omega | (simp; done) | (simp; omega))) | ((with_reducible refine Below.trans ?_ (HB.mono ?side_)); case side_ => (first | (with_reducible exact Nat.le_refl _) | (with_reducible assumption) | omega | (simp; done) | (simp; omega))) | ((with_reducible refine Below.trans ?_ (hb6.mono ?side_)); case side_ => (first | (with_reducible exact Nat.le_refl _) | (with_reducible assumption) | omega | (simp; done) | (simp; omega)))))

/-- What 'plain' and all that end in it answer: the number, if it is one of 64 bits, else none. -/
def fitV (V : Int) : Int := if -9223372036854775808 ≤ V ∧ V ≤ 9223372036854775807 then V else 0
def fitB (V : Int) : Bool := decide (-9223372036854775808 ≤ V ∧ V ≤ 9223372036854775807)
theorem fit_yes {V : Int} (h : -9223372036854775808 ≤ V ∧ V ≤ 9223372036854775807) : fitV V = V ∧ fitB V = true := ⟨if_pos h, decide_eq_true h⟩
theorem fit_no {V : Int} (h : ¬ (-9223372036854775808 ≤ V ∧ V ≤ 9223372036854775807)) : fitV V = 0 ∧ fitB V = false := ⟨if_neg h, decide_eq_false h⟩

theorem eqBig (d : Nat) (w : World) (x0 y0 x1 y1 : Int) :
    (Op.equalIn (d + 2) 32 (.agg #[.int .u64 x0, .int .u64 x1]) (.agg #[.int .u64 y0, .int .u64 y1])).run Tryd.prog w = .ok (x0 == y0 && (x1 == y1)) w := by
  refine YtngnkgnobgfjeaaDoorW.PrintWords.eqA_of Tryd.underlying32 (by kernel_rfl) ?_
  refine YtngnkgnobgfjeaaDoorW.PrintWords.eqf_cons (by rfl) (by go_simp; rfl) (by go_simp; rfl) (by go_simp) ?_
  exact YtngnkgnobgfjeaaDoorW.PrintWords.eqf_last (by rfl) (by go_simp; rfl) (by go_simp; rfl) (by go_simp)
attribute [local go_sem high] eqBig
theorem box_begin (w : World) (hi lo : Int) (t : TypeId) : (w.alloc (.cells #[.int .u64 hi, .int .u64 lo] t)).drew.cell? ⟨w.heap.size, 0, none⟩ = some (.int .u64 hi) ∧ (w.alloc (.cells #[.int .u64 hi, .int .u64 lo] t)).drew.cell? ⟨w.heap.size, 1, none⟩ = some (.int .u64 lo) ∧
    Below (w.heap.size + 1) (w.alloc (.cells #[.int .u64 hi, .int .u64 lo] t)) (w.alloc (.cells #[.int .u64 hi, .int .u64 lo] t)).drew := by
  refine ⟨?_, ?_, (Below.refl _ _).drew⟩
  · show (w.alloc _).cell? _ = _; simp
  · show (w.alloc _).cell? _ = _; simp
theorem box_keep {w wc w1 : World} {hi lo : Int} {t : TypeId}
    (h : wc.cell? ⟨w.heap.size, 0, none⟩ = some (.int .u64 hi) ∧ wc.cell? ⟨w.heap.size, 1, none⟩ = some (.int .u64 lo) ∧ Below (w.heap.size + 1) (w.alloc (.cells #[.int .u64 hi, .int .u64 lo] t)) wc) (hb : Below wc.heap.size wc w1) :
    w1.cell? ⟨w.heap.size, 0, none⟩ = some (.int .u64 hi) ∧ w1.cell? ⟨w.heap.size, 1, none⟩ = some (.int .u64 lo) ∧ Below (w.heap.size + 1) (w.alloc (.cells #[.int .u64 hi, .int .u64 lo] t)) w1 := by
  have hs := h.2.2.size
  simp at hs
  exact ⟨(hb.cell (p := ⟨w.heap.size, 0, none⟩) (by show w.heap.size < _; omega)).trans h.1, (hb.cell (p := ⟨w.heap.size, 1, none⟩) (by show w.heap.size < _; omega)).trans h.2.1, h.2.2.trans (hb.mono (by omega))⟩

set_option maxHeartbeats 2000000 in
theorem plain_calls {V hi lo : Int} (A : Big V hi lo) (h0 : -170141183460469231731687303715884105728 ≤ V) (h1 : V < 170141183460469231731687303715884105728) (w : World) :
    Calls Tryd.prog 11 #[.agg #[.int .u64 hi, .int .u64 lo]] w fun e w' => e = .returned (.tuple #[.int .i64 (fitV V), .bool (fitB V)]) ∧ Below w.heap.size w w' := by
  have O := fun x w => of_calls x w
  have hx : IntKind.i64.wrap lo = (lo + 9223372036854775808) % 18446744073709551616 - 9223372036854775808 := IntKind.wrap_i64 lo
  have hiff := A.fits_iff h0 h1 _ hx
  by_cases hf : -9223372036854775808 ≤ V ∧ V ≤ 9223372036854775807
  · have q1 : (IntKind.i64.wrap lo / 9223372036854775808 % 18446744073709551616 == hi) = true := beq_iff_eq.2 (hiff.2 hf).1
    have q2 : (IntKind.i64.wrap lo % 18446744073709551616 == lo) = true := beq_iff_eq.2 (hiff.2 hf).2
    have hV : fitV V = wrap64 lo := by
      rw [(fit_yes hf).1, show wrap64 lo = V from by rw [← A.fits hf.1 hf.2]; unfold wrap64; rfl]
    rw [hV, (fit_yes hf).2]
    clear hiff hx hf hV h0 h1
    go_enter Tryd.func11, Tryd.ntmps11
    go_wp2_with fail
    go_region_held3 (fun w' => w'.cell? ⟨w.heap.size, 0, none⟩ = some (.int .u64 hi) ∧ w'.cell? ⟨w.heap.size, 1, none⟩ = some (.int .u64 lo) ∧ Below (w.heap.size + 1) (w.alloc (.cells #[.int .u64 hi, .int .u64 lo] 32)) w') (first | exact box_begin _ _ _ _ | exact box_keep (by assumption) (by assumption))
      (first | (go_at_call 10; ((with_reducible refine (O _ _).mono ?_); rintro e w1 ⟨rfl, hb1⟩)))
    rename_i w1 hb1 hS
    obtain ⟨k0, k1, kB⟩ := hS
    clear hb1
    go_wp2
    go_ret2
    exact ⟨rfl, below_more (below_a1 _ _) (kB.mono (by simp))⟩
  · rw [(fit_no hf).1, (fit_no hf).2]
    have q : (IntKind.i64.wrap lo / 9223372036854775808 % 18446744073709551616 == hi && (IntKind.i64.wrap lo % 18446744073709551616 == lo)) = false := by
      rw [Bool.eq_false_iff]; intro hh
      simp only [Bool.and_eq_true, beq_iff_eq] at hh
      exact hf (hiff.1 hh)
    have q' : (!(IntKind.i64.wrap lo / 9223372036854775808 % 18446744073709551616 == hi) || !(IntKind.i64.wrap lo % 18446744073709551616 == lo)) = true := by
      rw [← Bool.not_and, q]; rfl
    clear hiff hx hf h0 h1 q
    go_enter Tryd.func11, Tryd.ntmps11
    go_wp2_with fail
    go_region_held3 (fun w' => w'.cell? ⟨w.heap.size, 0, none⟩ = some (.int .u64 hi) ∧ w'.cell? ⟨w.heap.size, 1, none⟩ = some (.int .u64 lo) ∧ Below (w.heap.size + 1) (w.alloc (.cells #[.int .u64 hi, .int .u64 lo] 32)) w') (first | exact box_begin _ _ _ _ | exact box_keep (by assumption) (by assumption))
      (first | (go_at_call 10; ((with_reducible refine (O _ _).mono ?_); rintro e w1 ⟨rfl, hb1⟩)))
    rename_i w1 hb1 hS
    obtain ⟨k0, k1, kB⟩ := hS
    clear hb1
    go_wp2
    go_ret2
    exact ⟨rfl, below_more (below_a1 _ _) (kB.mono (by simp))⟩
end Go.Proofs.YtngnkgnobgfjeaaDoor.Wide
