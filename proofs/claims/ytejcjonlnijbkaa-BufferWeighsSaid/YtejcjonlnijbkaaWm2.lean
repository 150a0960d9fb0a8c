/- The walks of package wide's numbers of 128 bits: of, add, minus, below, size: each answers the words of what its name says. For every number in range. -/
import Derived.Test.YtejcjonlnijbkaaWm1
import Derived.Test.YtejcjonlnijbkaaProg
import Derived.Below
import Derived.Deep.Draws
import Derived.OwnWalk
import Derived.Tactics
import Derived.WalkKit
import Derived.KernelRfl
import Derived.RowKit3
import Derived.Deep.QuietTactic
import Derived.BigQuiet
import Derived.WideLaws
import Derived.OpenShut
import Derived.Lib.Hide
import Derived.Laws.Externs
import Derived.Laws.Unary
import Derived.Test.YtejcjonlnijbkaaShelf
import Derived.Deep.RegionHeld3
import Derived.Test.YtejcjonlnijbkaaWEqStruct
import Derived.Lib.ItoaNum
namespace Go.Proofs.Ytejcjonlnijbkaa.Wide
open Go Go.RowKit
set_option maxRecDepth 100000
set_option linter.unusedVariables false
set_option linter.unusedSimpArgs false

theorem below_a1 (w : World) (o : Obj) : Below w.heap.size w (w.alloc o) := (Below.refl _ _).alloc (Nat.le_refl _) _
theorem below_more {w w1 w2 : World} (a : Below w.heap.size w w1) (b : Below w1.heap.size w1 w2) : Below w.heap.size w w2 := a.trans (b.mono a.size)

theorem add64_law (x y c : Int) (hx : 0 ≤ x) (hy : 0 ≤ y) (hc0 : 0 ≤ c) (hc : c ≤ 1) (w : World) :
    (callFunc 108 #[.int .u64 x, .int .u64 y, .int .u64 c]).run Try.prog w =
      .ok (.value (.tuple #[.int .u64 ((x + y + c) % 18446744073709551616), .int .u64 ((x + y + c) / 18446744073709551616)])) w := by
  rw [run_callFunc_extern (f := 108) (fn := Try.f108) (by kernel_rfl) (by kernel_rfl) (by kernel_rfl) (by kernel_rfl) (e := add64Entry) (by kernel_rfl), run_add64 x y c hx hy hc0 hc]
  rfl

theorem bcell {W w1 : World} (hb : Below W.heap.size W w1) : (∀ b o, b < W.heap.size → w1.cell? ⟨b, o, none⟩ = W.cell? ⟨b, o, none⟩) ∧ (∀ b o, b < W.heap.size → w1.frozen? ⟨b, o, none⟩ = W.frozen? ⟨b, o, none⟩) :=
  ⟨fun b o h => hb.cell (p := ⟨b, o, none⟩) h, fun b o h => hb.frozen (p := ⟨b, o, none⟩) h⟩

/-- The forms in which the walk asks whether an elder block lies ahead of a new one. -/
theorem lts {a b : Nat} (h : a < b) : a < b ∧ a ≤ b ∧ a < b + 1 ∧ a ≤ b + 1 ∧ a < b + 1 + 1 ∧ a ≤ b + 1 + 1 ∧ a < b + 1 + 1 + 1 := by omega

/-- What a call that only makes memory and answers the words of V leaves. -/
def GivesBig (V : Int) (w : World) (e : Ending) (w' : World) : Prop :=
  ∃ hi lo, Big V hi lo ∧ e = .returned (.agg #[.int .u64 hi, .int .u64 lo]) ∧ Below w.heap.size w w'

set_option maxHeartbeats 1000000 in
theorem of_calls (a : Int) (w : World) :
    Calls Try.prog 97 #[.int .i64 a] w fun e w' => e = .returned (.agg #[.int .u64 (a / 9223372036854775808 % 18446744073709551616), .int .u64 (a % 18446744073709551616)]) ∧ Below w.heap.size w w' := by
  go_enter Try.func97, Try.ntmps97
  go_wp2
  refine bodyPost_ret (v := .agg #[.int .u64 (a / 9223372036854775808 % 18446744073709551616), .int .u64 (a % 18446744073709551616)]) (by simp [results, Try.results97, go_sem, Num.wrap_u64]) rfl ⟨rfl, ?_⟩
  exact below_a1 _ _

set_option maxHeartbeats 1000000 in
theorem add_calls {V U h1 l1 h2 l2 : Int} (A : Big V h1 l1) (B : Big U h2 l2) (w : World) :
    Calls Try.prog 101 #[.agg #[.int .u64 h1, .int .u64 l1], .agg #[.int .u64 h2, .int .u64 l2]] w (GivesBig (V + U) w) := by
  have a1 := A.h0
  have a2 := A.l0
  have a3 := B.h0
  have a4 := B.l0
  have b2 := A.l1
  have b4 := B.l1
  have A1 := fun w => add64_law l1 l2 0 a2 a4 (by omega) (by omega) w
  have A2 := fun w => add64_law h1 h2 ((l1 + l2) / 18446744073709551616) a1 a3 (by omega) (by omega) w
  go_enter Try.func101, Try.ntmps101
  go_wp2
  refine bodyPost_ret (v := .agg #[.int .u64 ((h1 + h2 + (l1 + l2) / 18446744073709551616) % 18446744073709551616), .int .u64 ((l1 + l2) % 18446744073709551616)]) (by simp [results, Try.results101, go_sem]) rfl ⟨_, _, A.add B, rfl, ?_⟩
  exact ((((Below.refl _ _).alloc (Nat.le_refl _) _).alloc (by simp) _).alloc (by simp; omega) _)

set_option maxHeartbeats 1000000 in
theorem below_calls {V hi lo : Int} (A : Big V hi lo) (h0 : -170141183460469231731687303715884105728 ≤ V) (h1 : V < 170141183460469231731687303715884105728) (w : World) :
    Calls Try.prog 100 #[.agg #[.int .u64 hi, .int .u64 lo]] w fun e w' => e = .returned (.bool (decide (V < 0))) ∧ Below w.heap.size w w' := by
  have a1 := A.h0
  have a2 := A.h1
  have hb : (hi / 9223372036854775808 == 1) = decide (V < 0) := by
    rw [Bool.eq_iff_iff]; simp [A.neg_iff h0 h1]
  clear h0 h1
  go_enter Try.func100, Try.ntmps100
  go_wp2
  go_ret
  exact ⟨rfl, below_a1 _ _⟩

set_option maxHeartbeats 1000000 in
theorem minus_calls {V hi lo : Int} (A : Big V hi lo) (w : World) :
    Calls Try.prog 96 #[.agg #[.int .u64 hi, .int .u64 lo]] w (GivesBig (-V) w) := by
  have a1 := A.h0
  have a2 := A.h1
  have a3 := A.l0
  have a4 := A.l1
  have N := A.not
  have O : Big 1 0 1 := Big.small (by omega) (by omega)
  have X1 := Num.u64_compl' hi a1 a2
  have X2 := Num.u64_compl' lo a3 a4
  have R : ∀ (w0 : World), Calls Try.prog 101 #[.agg #[.int .u64 (18446744073709551615 - hi), .int .u64 (18446744073709551615 - lo)], .agg #[.int .u64 0, .int .u64 1]] w0 (GivesBig (-V) w0) := by
    intro w0
    have := add_calls N O w0
    rwa [show -V - 1 + 1 = -V by omega] at this
  go_enter Try.func96, Try.ntmps96
  go_wp2_with (go_at_call 101; ((with_reducible refine (R _).mono ?_); rintro e w' ⟨rh, rl, B, rfl, hb⟩; obtain ⟨hc, hf⟩ := bcell hb))
  refine bodyPost_ret (v := .agg #[.int .u64 rh, .int .u64 rl]) (by simp [results, Try.results96, go_sem, hc]) rfl ⟨rh, rl, B, rfl, ?_⟩
  exact (((((Below.refl _ _).alloc (Nat.le_refl _) _).alloc (by simp) _).trans (hb.mono (by simp; omega))).setCell (by simp) _).setCell (by simp) _

set_option maxHeartbeats 1000000 in
theorem size_calls {V hi lo : Int} (A : Big V hi lo) (h0 : -170141183460469231731687303715884105728 ≤ V) (h1 : V < 170141183460469231731687303715884105728) (w : World) :
    Calls Try.prog 98 #[.agg #[.int .u64 hi, .int .u64 lo]] w (GivesBig (if V < 0 then -V else V) w) := by
  have R := fun w => below_calls A h0 h1 w
  have M := fun w => minus_calls A w
  clear h0 h1
  by_cases hn : V < 0
  · have ht : decide (V < 0) = true := by simpa using hn
    rw [ht] at R
    rw [if_pos hn]
    clear ht hn
    go_enter Try.func98, Try.ntmps98
    go_wp2_with (first
      | (go_at_call 100; ((with_reducible refine (R _).mono ?_); rintro e w1 ⟨rfl, hb1⟩; obtain ⟨hc1, hf1⟩ := bcell hb1; have hz := hb1.size; simp at hz; have hz0 : w.heap.size < w1.heap.size := (by omega); have hz1 : w.heap.size + 1 < w1.heap.size := (by omega)))
      | (go_at_call 96; ((with_reducible refine (M _).mono ?_); rintro e w2 ⟨rh, rl, B, rfl, hb⟩; obtain ⟨hc, hf⟩ := bcell hb)))
    refine bodyPost_ret (v := .agg #[.int .u64 rh, .int .u64 rl]) (by simp [results, Try.results98, go_sem, hc, hc1, hz0, hz1]) rfl ⟨rh, rl, B, rfl, ?_⟩
    exact ((((((Below.refl _ _).alloc (Nat.le_refl _) _).alloc (by simp) _).trans (hb1.mono (by simp; omega))).trans (hb.mono (by omega))).setCell (by simp) _).setCell (by simp) _
  · have ht : decide (V < 0) = false := by simpa using hn
    rw [ht] at R
    rw [if_neg hn]
    clear ht hn M
    go_enter Try.func98, Try.ntmps98
    go_wp2_with (go_at_call 100; ((with_reducible refine (R _).mono ?_); rintro e w1 ⟨rfl, hb1⟩; obtain ⟨hc1, hf1⟩ := bcell hb1; have hz := hb1.size; simp at hz; have hz0 : w.heap.size < w1.heap.size := (by omega); have hz1 : w.heap.size + 1 < w1.heap.size := (by omega)))
    refine bodyPost_ret (v := .agg #[.int .u64 hi, .int .u64 lo]) (by simp [results, Try.results98, go_sem, hc1, hz0, hz1]) rfl ⟨hi, lo, A, rfl, ?_⟩
    exact (((((Below.refl _ _).alloc (Nat.le_refl _) _).alloc (by simp) _).trans (hb1.mono (by simp; omega))).setCell (by simp) _).setCell (by simp) _
end Go.Proofs.Ytejcjonlnijbkaa.Wide

/- The walks of package wide's product of two numbers and of 'plain', a number of 128 bits as one of 64, if it fits. For every number in range. -/
namespace Go.Proofs.Ytejcjonlnijbkaa.Wide
open Go Go.RowKit
set_option maxRecDepth 100000
set_option linter.unusedVariables false
set_option linter.unusedSimpArgs false

theorem mul64_calls (x y : Int) (x0 : 0 ≤ x) (x1 : x ≤ 18446744073709551615) (y0 : 0 ≤ y) (y1 : y ≤ 18446744073709551615) (w : World) :
    Calls Try.prog 106 #[.int .u64 x, .int .u64 y] w fun e w' => e = .returned (.tuple #[.int .u64 (x * y / 18446744073709551616), .int .u64 (x * y % 18446744073709551616)]) ∧ w' = w := by
  obtain ⟨X, rfl⟩ := Int.eq_ofNat_of_zero_le x0
  obtain ⟨Y, rfl⟩ := Int.eq_ofNat_of_zero_le y0
  refine (Try.bits_Mul64 X Y (by omega) (by omega) w).mono ?_
  rintro e w' ⟨rfl, rfl⟩
  exact ⟨by simp, rfl⟩

theorem Big.prod {V W h1 l1 h2 l2 : Int} (A : Big V h1 l1) (B : Big W h2 l2) (hV0 : 0 ≤ V) (hV : V ≤ 9223372036854775808) (hW0 : 0 ≤ W) (hW : W ≤ 9223372036854775808) :
    Big (V * W) (l1 * l2 / 18446744073709551616) (l1 * l2 % 18446744073709551616) := by
  have e1 : l1 = V := by
    obtain ⟨a1, a2, a3, a4, ae⟩ := A; omega
  have e2 : l2 = W := by
    obtain ⟨a1, a2, a3, a4, ae⟩ := B; omega
  subst e1 e2
  have h0 : 0 ≤ l1 * l2 := Int.mul_nonneg hV0 hW0
  have h1 : l1 * l2 ≤ 9223372036854775808 * 9223372036854775808 := Int.mul_le_mul hV hW hW0 (by omega)
  generalize l1 * l2 = p at *
  clear A B
  constructor <;> omega

theorem abs_i64 {a : Int} (h0 : -9223372036854775808 ≤ a) (h1 : a ≤ 9223372036854775807) : 0 ≤ (if a < 0 then -a else a) ∧ (if a < 0 then -a else a) ≤ 9223372036854775808 := by split <;> omega

set_option maxHeartbeats 2000000 in
theorem times_calls (a b : Int) (a0 : -9223372036854775808 ≤ a) (a1 : a ≤ 9223372036854775807) (b0 : -9223372036854775808 ≤ b) (b1 : b ≤ 9223372036854775807) (w : World) :
    Calls Try.prog 95 #[.int .i64 a, .int .i64 b] w (GivesBig (a * b) w) := by
  have A := Big.of a0 a1
  have B := Big.of b0 b1
  have SA := fun w => size_calls A (by omega) (by omega) w
  have SB := fun w => size_calls B (by omega) (by omega) w
  have PA := abs_i64 a0 a1
  have PB := abs_i64 b0 b1
  have OA := fun w => of_calls a w
  have OB := fun w => of_calls b w
  by_cases hd : (decide (a < 0) == decide (b < 0)) = true
  · have hv : (if a < 0 then -a else a) * (if b < 0 then -b else b) = a * b := by
      by_cases ha : a < 0 <;> by_cases hb : b < 0 <;> simp [ha, hb, Int.neg_mul, Int.mul_neg] at hd ⊢
    generalize (if a < 0 then -a else a) = ma at *
    generalize (if b < 0 then -b else b) = mb at *
    have HV := Lib.hid hv
    clear hv a0 a1 b0 b1
    go_enter Try.func95, Try.ntmps95
    go_wp2_with (first
      | (go_at_call 97; ((with_reducible refine (OA _).mono ?_); rintro e w1 ⟨rfl, hb1⟩; clear OA))
      | (go_at_call 98; ((with_reducible refine (SA _).mono ?_); rintro e w2 ⟨ah, al, BA, rfl, hb2⟩; clear SA))
      | (go_at_call 97; ((with_reducible refine (OB _).mono ?_); rintro e w3 ⟨rfl, hb3⟩; clear OB))
      | (go_at_call 98; ((with_reducible refine (SB _).mono ?_); rintro e w4 ⟨bh, bl, BB, rfl, hb4⟩; clear SB; have x0 := BA.l0; have x1 := BA.l1; have y0 := BB.l0; have y1 := BB.l1; have HB := below_more (below_more (below_more hb1 hb2) hb3) hb4; obtain ⟨hc, hf⟩ := bcell HB; have hz := HB.size; simp at hz; have hz0 : w.heap.size < w4.heap.size := (by omega); have hzs := lts hz0))
      | (go_at_call 106; ((with_reducible refine (mul64_calls _ _ x0 x1 y0 y1 _).mono ?_); rintro e w5 ⟨rfl, rfl⟩)))
    have BP := BA.prod BB PA.1 PA.2 PB.1 PB.2
    rw [HV.out] at BP
    refine bodyPost_ret (v := .agg #[.int .u64 (al * bl / 18446744073709551616), .int .u64 (al * bl % 18446744073709551616)]) (by simp [results, Try.results95, go_sem, hc, hzs]) rfl ⟨_, _, BP, rfl, ?_⟩
    have z_HB := HB.size; (try simp at z_HB); (repeat' (first | (with_reducible exact Below.refl _ _) | (with_reducible refine Below.drew ?_) | (with_reducible refine below_drewN ?_ _) | ((with_reducible refine Below.setCell ?_ ?side_ _); case side_ => (first | (with_reducible exact Nat.le_refl _) | (with_reducible assumption) | omega | (simp; done) | (simp; omega))) | ((with_reducible refine Below.alloc ?_ ?side_ _); case side_ => (first | (with_reducible exact Nat.le_refl _) | (with_reducible assumption) | omega | (simp; done) | (simp; omega))) | ((with_reducible refine Below.trans ?_ (HB.mono ?side_)); case side_ => (first | (with_reducible exact Nat.le_refl _) | (with_reducible assumption) | omega | (simp; done) | (simp; omega)))))
  · have hd' : (decide (a < 0) == decide (b < 0)) = false := by simpa using hd
    have hv : (if a < 0 then -a else a) * (if b < 0 then -b else b) = -(a * b) := by
      by_cases ha : a < 0 <;> by_cases hb : b < 0 <;> simp [ha, hb, Int.neg_mul, Int.mul_neg] at hd ⊢
    clear hd
    generalize (if a < 0 then -a else a) = ma at *
    generalize (if b < 0 then -b else b) = mb at *
    have HV := Lib.hid hv
    clear hv a0 a1 b0 b1
    go_enter Try.func95, Try.ntmps95
    go_wp2_with (first
      | (go_at_call 97; ((with_reducible refine (OA _).mono ?_); rintro e w1 ⟨rfl, hb1⟩; clear OA))
      | (go_at_call 98; ((with_reducible refine (SA _).mono ?_); rintro e w2 ⟨ah, al, BA, rfl, hb2⟩; clear SA))
      | (go_at_call 97; ((with_reducible refine (OB _).mono ?_); rintro e w3 ⟨rfl, hb3⟩; clear OB))
      | (go_at_call 98; ((with_reducible refine (SB _).mono ?_); rintro e w4 ⟨bh, bl, BB, rfl, hb4⟩; clear SB; have x0 := BA.l0; have x1 := BA.l1; have y0 := BB.l0; have y1 := BB.l1; have HB := below_more (below_more (below_more hb1 hb2) hb3) hb4; obtain ⟨hc, hf⟩ := bcell HB; have hz := HB.size; simp at hz; have hz0 : w.heap.size < w4.heap.size := (by omega); have hzs := lts hz0))
      | (go_at_call 106; ((with_reducible refine (mul64_calls _ _ x0 x1 y0 y1 _).mono ?_); rintro e w5 ⟨rfl, rfl⟩))
      | (go_at_call 96; (have BP := BA.prod BB PA.1 PA.2 PB.1 PB.2); ((with_reducible refine (minus_calls BP _).mono ?_); rintro e w6 ⟨rh, rl, BR, rfl, hb6⟩; obtain ⟨hc6, hf6⟩ := bcell hb6; have hz6 := hb6.size; simp at hz6; have hz7 : w.heap.size < w6.heap.size := (by omega); have hz8 := lts hz7)))
    rw [HV.out, Int.neg_neg] at BR
    refine bodyPost_ret (v := .agg #[.int .u64 rh, .int .u64 rl]) (by simp [results, Try.results95, go_sem, hc, hzs, hc6, hz8]) rfl ⟨_, _, BR, rfl, ?_⟩
    have z_HB := HB.size; (try simp at z_HB); have z_hb6 := hb6.size; (try simp at z_hb6); (repeat' (first | (with_reducible exact Below.refl _ _) | (with_reducible refine Below.drew ?_) | (with_reducible refine below_drewN ?_ _) | ((with_reducible refine Below.setCell ?_ ?side_ _); case side_ => (first | (with_reducible exact Nat.le_refl _) | (with_reducible assumption) | omega | (simp; done) | (simp; omega))) | ((with_reducible refine Below.alloc ?_ ?side_ _); case side_ => (first | (with_reducible exact Nat.le_refl _) | (with_reducible assumption) | omega | (simp; done) | (simp; omega))) | ((with_reducible refine Below.trans ?_ (HB.mono ?side_)); case side_ => (first | (with_reducible exact Nat.le_refl _) | (with_reducible assumption) | omega | (simp; done) | (simp; omega))) | ((with_reducible refine Below.trans ?_ (hb6.mono ?side_)); case side_ => (first | (with_reducible exact Nat.le_refl _) | (with_reducible assumption) | omega | (simp; done) | (simp; omega)))))

/-- What 'plain' and all that end in it answer: the number, if it is one of 64 bits, else none. -/
def fitV (V : Int) : Int := if -9223372036854775808 ≤ V ∧ V ≤ 9223372036854775807 then V else 0
def fitB (V : Int) : Bool := decide (-9223372036854775808 ≤ V ∧ V ≤ 9223372036854775807)
theorem fit_yes {V : Int} (h : -9223372036854775808 ≤ V ∧ V ≤ 9223372036854775807) : fitV V = V ∧ fitB V = true := ⟨if_pos h, decide_eq_true h⟩
theorem fit_no {V : Int} (h : ¬ (-9223372036854775808 ≤ V ∧ V ≤ 9223372036854775807)) : fitV V = 0 ∧ fitB V = false := ⟨if_neg h, decide_eq_false h⟩

theorem eqBig (d : Nat) (w : World) (x0 y0 x1 y1 : Int) :
    (Op.equalIn (d + 2) 163 (.agg #[.int .u64 x0, .int .u64 x1]) (.agg #[.int .u64 y0, .int .u64 y1])).run Try.prog w = .ok (x0 == y0 && (x1 == y1)) w := by
  refine YtejcjonlnijbkaaW.PrintWords.eqA_of Try.underlying163 (by kernel_rfl) ?_
  refine YtejcjonlnijbkaaW.PrintWords.eqf_cons (by rfl) (by go_simp; rfl) (by go_simp; rfl) (by go_simp) ?_
  exact YtejcjonlnijbkaaW.PrintWords.eqf_last (by rfl) (by go_simp; rfl) (by go_simp; rfl) (by go_simp)
attribute [local go_sem high] eqBig
theorem box_begin (w : World) (hi lo : Int) (t : TypeId) : (w.alloc (.cells #[.int .u64 hi, .int .u64 lo] t)).drew.cell? ⟨w.heap.size, 0, none⟩ = some (.int .u64 hi) ∧ (w.alloc (.cells #[.int .u64 hi, .int .u64 lo] t)).drew.cell? ⟨w.heap.size, 1, none⟩ = some (.int .u64 lo) ∧
    Below (w.heap.size + 1) (w.alloc (.cells #[.int .u64 hi, .int .u64 lo] t)) (w.alloc (.cells #[.int .u64 hi, .int .u64 lo] t)).drew := by
  refine ⟨?_, ?_, (Below.refl _ _).drew⟩
  · show (w.alloc _).cell? _ = _; simp
  · show (w.alloc _).cell? _ = _; simp
theorem box_keep {w wc w1 : World} {hi lo : Int} {t : TypeId}
    (h : wc.cell? ⟨w.heap.size, 0, none⟩ = some (.int .u64 hi) ∧ wc.cell? ⟨w.heap.size, 1, none⟩ = some (.int .u64 lo) ∧ Below (w.heap.size + 1) (w.alloc (.cells #[.int .u64 hi, .int .u64 lo] t)) wc) (hb : Below wc.heap.size wc w1) :
    w1.cell? ⟨w.heap.size, 0, none⟩ = some (.int .u64 hi) ∧ w1.cell? ⟨w.heap.size, 1, none⟩ = some (.int .u64 lo) ∧ Below (w.heap.size + 1) (w.alloc (.cells #[.int .u64 hi, .int .u64 lo] t)) w1 := by
  have hs := h.2.2.size
  simp at hs
  exact ⟨(hb.cell (p := ⟨w.heap.size, 0, none⟩) (by show w.heap.size < _; omega)).trans h.1, (hb.cell (p := ⟨w.heap.size, 1, none⟩) (by show w.heap.size < _; omega)).trans h.2.1, h.2.2.trans (hb.mono (by omega))⟩

set_option maxHeartbeats 2000000 in
theorem plain_calls {V hi lo : Int} (A : Big V hi lo) (h0 : -170141183460469231731687303715884105728 ≤ V) (h1 : V < 170141183460469231731687303715884105728) (w : World) :
    Calls Try.prog 102 #[.agg #[.int .u64 hi, .int .u64 lo]] w fun e w' => e = .returned (.tuple #[.int .i64 (fitV V), .bool (fitB V)]) ∧ Below w.heap.size w w' := by
  have O := fun x w => of_calls x w
  have hx : IntKind.i64.wrap lo = (lo + 9223372036854775808) % 18446744073709551616 - 9223372036854775808 := IntKind.wrap_i64 lo
  have hiff := A.fits_iff h0 h1 _ hx
  by_cases hf : -9223372036854775808 ≤ V ∧ V ≤ 9223372036854775807
  · have q1 : (IntKind.i64.wrap lo / 9223372036854775808 % 18446744073709551616 == hi) = true := beq_iff_eq.2 (hiff.2 hf).1
    have q2 : (IntKind.i64.wrap lo % 18446744073709551616 == lo) = true := beq_iff_eq.2 (hiff.2 hf).2
    have hV : fitV V = wrap64 lo := by
      rw [(fit_yes hf).1, show wrap64 lo = V from by rw [← A.fits hf.1 hf.2]; unfold wrap64; rfl]
    rw [hV, (fit_yes hf).2]
    clear hiff hx hf hV h0 h1
    go_enter Try.func102, Try.ntmps102
    go_wp2_with fail
    go_region_held3 (fun w' => w'.cell? ⟨w.heap.size, 0, none⟩ = some (.int .u64 hi) ∧ w'.cell? ⟨w.heap.size, 1, none⟩ = some (.int .u64 lo) ∧ Below (w.heap.size + 1) (w.alloc (.cells #[.int .u64 hi, .int .u64 lo] 163)) w') (first | exact box_begin _ _ _ _ | exact box_keep (by assumption) (by assumption))
      (first | (go_at_call 97; ((with_reducible refine (O _ _).mono ?_); rintro e w1 ⟨rfl, hb1⟩)))
    rename_i w1 hb1 hS
    obtain ⟨k0, k1, kB⟩ := hS
    clear hb1
    go_wp2
    go_ret2
    exact ⟨rfl, below_more (below_a1 _ _) (kB.mono (by simp))⟩
  · rw [(fit_no hf).1, (fit_no hf).2]
    have q : (IntKind.i64.wrap lo / 9223372036854775808 % 18446744073709551616 == hi && (IntKind.i64.wrap lo % 18446744073709551616 == lo)) = false := by
      rw [Bool.eq_false_iff]; intro hh
      simp only [Bool.and_eq_true, beq_iff_eq] at hh
      exact hf (hiff.1 hh)
    have q' : (!(IntKind.i64.wrap lo / 9223372036854775808 % 18446744073709551616 == hi) || !(IntKind.i64.wrap lo % 18446744073709551616 == lo)) = true := by
      rw [← Bool.not_and, q]; rfl
    clear hiff hx hf h0 h1 q
    go_enter Try.func102, Try.ntmps102
    go_wp2_with fail
    go_region_held3 (fun w' => w'.cell? ⟨w.heap.size, 0, none⟩ = some (.int .u64 hi) ∧ w'.cell? ⟨w.heap.size, 1, none⟩ = some (.int .u64 lo) ∧ Below (w.heap.size + 1) (w.alloc (.cells #[.int .u64 hi, .int .u64 lo] 163)) w') (first | exact box_begin _ _ _ _ | exact box_keep (by assumption) (by assumption))
      (first | (go_at_call 97; ((with_reducible refine (O _ _).mono ?_); rintro e w1 ⟨rfl, hb1⟩)))
    rename_i w1 hb1 hS
    obtain ⟨k0, k1, kB⟩ := hS
    clear hb1
    go_wp2
    go_ret2
    exact ⟨rfl, below_more (below_a1 _ _) (kB.mono (by simp))⟩
end Go.Proofs.Ytejcjonlnijbkaa.Wide

/- math/bits.Div64, walked: the quotient and the rest of a number of two words, the upper one less than the divisor. -/
namespace Go.Proofs.Ytejcjonlnijbkaa.Wide
open Go Go.RowKit
set_option maxRecDepth 100000
set_option linter.unusedVariables false
set_option linter.unusedSimpArgs false
/-- What Div64 answers. -/
def Div64Is (hi lo y : Int) (w : World) (e : Ending) (w' : World) : Prop :=
  e = .returned (.tuple #[.int .u64 ((hi * 18446744073709551616 + lo) / y), .int .u64 ((hi * 18446744073709551616 + lo) % y)]) ∧ ∃ n, w' = w.drewN n

set_option maxHeartbeats 16000000 in
theorem div64_slow (hi lo y Y U un yn1 yn0 un1 un0 q1 U2 q2 RR D1 D0 : Int) (n : Nat) (h0 : 1 ≤ hi) (hy : hi < y) (hy1 : y ≤ 18446744073709551615) (l0 : 0 ≤ lo) (l1 : lo ≤ 18446744073709551615) (hn : n ≤ 63)
    (Z : ∀ w, Calls Try.prog 107 #[.int .u64 y] w fun e w' => e = .returned (.int .i64 n) ∧ w' = w)
    (E1 : IntKind.u64.wrap (y * 2 ^ n) = Y) (E2 : Y / 4294967296 = yn1) (E3 : bits .and .u64 Y 4294967295 = yn0)
    (E4 : bits .or .u64 (IntKind.u64.wrap (hi * 2 ^ n)) (lo / 2 ^ (64 - n)) = U) (E5 : IntKind.u64.wrap (lo * 2 ^ n) = un) (E6 : un / 4294967296 = un1) (E7 : bits .and .u64 un 4294967295 = un0)
    (E8 : U / yn1 = q1) (E10 : IntKind.u64.wrap (IntKind.u64.wrap (IntKind.u64.wrap (U * 4294967296) + un1) - IntKind.u64.wrap (D1 * Y)) = U2)
    (G1 : Digit Y yn1 yn0 U un1 D1) (G2 : Digit Y yn1 yn0 U2 un0 D0) (E9 : U2 / yn1 = q2)
    (E11 : IntKind.u64.wrap (IntKind.u64.wrap (IntKind.u64.wrap (U2 * 4294967296) + un0) - IntKind.u64.wrap (D0 * Y)) = RR)
    (F1 : Hid ((hi * 18446744073709551616 + lo) / y = D1 * 4294967296 + D0)) (F2 : Hid ((hi * 18446744073709551616 + lo) % y = RR / 2 ^ n))
    (w : World) :
    Calls Try.prog 99 #[.int .u64 hi, .int .u64 lo, .int .u64 y] w (Div64Is hi lo y w) := by
  have t1 : (y == 0) = false := by simp; omega
  have t2 : decide (y ≤ hi) = false := by simp; omega
  have t3 : (hi == 0) = false := by simp; omega
  have g1 := G1.y1
  have g2 := G1.y1'
  have g3 := G1.y0
  have g4 := G1.y0'
  have g5 := G1.u
  have g6 : U ≤ 18446744073709551615 := by have := G1.u'; have := G1.y; omega
  have g7 := G1.v
  have g8 := G1.v'
  have g9 := G2.u
  have g10 : U2 ≤ 18446744073709551615 := by have := G2.u'; have := G2.y; omega
  have g11 := G2.v
  have g12 := G2.v'
  have s1 := G1.start
  rw [E8] at s1
  obtain ⟨s1, s2, s3, s4, s5, s6, s7⟩ := s1
  have S1 := Lib.hid s1
  clear s1
  have p1 := G2.start
  rw [E9] at p1
  obtain ⟨p1, p2, p3, p4, p5, p6, p7⟩ := p1
  have P1 := Lib.hid p1
  clear p1
  obtain ⟨-, -, dd0, dd1⟩ := G2.dY
  go_enter Try.func99, Try.ntmps99
  go_wp2_with (go_at_call 107; ((with_reducible refine (Z _).mono ?_); rintro e w1 ⟨rfl, rfl⟩))
  go_loop [15, 16] (fun q r => ∃ Q R : Int, q = .int .u64 Q ∧ r = .int .u64 R ∧ D1 ≤ Q ∧ Q ≤ 4294967297 ∧ 0 ≤ R ∧ R < 4294967296 ∧ Hid (Q * yn1 + R = U)) (fun q _ => (intOf q).toNat)
  case atStart => exact ⟨q1, U - q1 * yn1, (by rw [E8]), rfl, s2, s3, s4, s5, S1⟩
  case round =>
    obtain ⟨Q, R, rfl, rfl, hQ0, hQ1, hR0, hR1, hE⟩ := hrel
    obtain ⟨-, -, d2, d3⟩ := G1.dY
    obtain ⟨m0, m1⟩ := G1.mulb (Int.le_trans d2 hQ0) hQ1
    by_cases c1 : 4294967296 ≤ Q
    · have hs := G1.step hE.out hQ0 (.inl c1)
      by_cases c3 : 4294967296 ≤ R + yn1
      · have hq : Q = D1 + 1 := by
          have := G1.exit2 (Q := Q - 1) (R := R + yn1) (by have := hE.out; rw [Int.sub_mul]; omega) hs (by omega) c3
          omega
        subst hq
        clear hE hs hQ0
        go_wp2
        go_loop [16, 18] (fun r q => ∃ Q R : Int, q = .int .u64 Q ∧ r = .int .u64 R ∧ D0 ≤ Q ∧ Q ≤ 4294967297 ∧ 0 ≤ R ∧ R < 4294967296 ∧ Hid (Q * yn1 + R = U2)) (fun _ q => (intOf q).toNat)
        case atStart => exact ⟨q2, U2 - q2 * yn1, rfl, rfl, p2, p3, p4, p5, P1⟩
        case round =>
          obtain ⟨Q, R, rfl, rfl, hQ0, hQ1, hR0, hR1, hE⟩ := hrel
          obtain ⟨-, -, d2, d3⟩ := G2.dY
          obtain ⟨m0, m1⟩ := G2.mulb (Int.le_trans d2 hQ0) hQ1
          by_cases c1 : 4294967296 ≤ Q
          · have hs := G2.step hE.out hQ0 (.inl c1)
            by_cases c3 : 4294967296 ≤ R + yn1
            · have hq : Q = D0 + 1 := by
                have := G2.exit2 (Q := Q - 1) (R := R + yn1) (by have := hE.out; rw [Int.sub_mul]; omega) hs (by omega) c3
                omega
              subst hq
              clear hE hs hQ0
              go_wp2
              go_ret2
              exact ⟨by rw [F1.out, F2.out]; simp, 0, by simp [World.drewN]⟩
            · go_wp2
              go_round
              case rel => exact ⟨Q - 1, R + yn1, rfl, rfl, hs, by omega, by omega, by omega, Lib.hid (by have := hE.out; rw [Int.sub_mul]; omega)⟩
              case measure => simp [intOf]; omega
          · by_cases c2 : 4294967296 * R + un0 < Q * yn0
            · have hs := G2.step hE.out hQ0 (.inr c2)
              by_cases c3 : 4294967296 ≤ R + yn1
              · have hq : Q = D0 + 1 := by
                  have := G2.exit2 (Q := Q - 1) (R := R + yn1) (by have := hE.out; rw [Int.sub_mul]; omega) hs (by omega) c3
                  omega
                subst hq
                clear hE hs hQ0
                go_wp2
                go_ret2
                exact ⟨by rw [F1.out, F2.out]; simp, 0, by simp [World.drewN]⟩
              · go_wp2
                go_round
                case rel => exact ⟨Q - 1, R + yn1, rfl, rfl, hs, by omega, by omega, by omega, Lib.hid (by have := hE.out; rw [Int.sub_mul]; omega)⟩
                case measure => simp [intOf]; omega
            · obtain rfl : Q = D0 := G2.exit1 hE.out hQ0 c2
              go_wp2
              go_ret2
              exact ⟨by rw [F1.out, F2.out]; simp, 0, by simp [World.drewN]⟩
      · go_wp2
        go_round
        case rel => exact ⟨Q - 1, R + yn1, rfl, rfl, hs, by omega, by omega, by omega, Lib.hid (by have := hE.out; rw [Int.sub_mul]; omega)⟩
        case measure => simp [intOf]; omega
    · by_cases c2 : 4294967296 * R + un1 < Q * yn0
      · have hs := G1.step hE.out hQ0 (.inr c2)
        by_cases c3 : 4294967296 ≤ R + yn1
        · have hq : Q = D1 + 1 := by
            have := G1.exit2 (Q := Q - 1) (R := R + yn1) (by have := hE.out; rw [Int.sub_mul]; omega) hs (by omega) c3
            omega
          subst hq
          clear hE hs hQ0
          go_wp2
          go_loop [16, 18] (fun r q => ∃ Q R : Int, q = .int .u64 Q ∧ r = .int .u64 R ∧ D0 ≤ Q ∧ Q ≤ 4294967297 ∧ 0 ≤ R ∧ R < 4294967296 ∧ Hid (Q * yn1 + R = U2)) (fun _ q => (intOf q).toNat)
          case atStart => exact ⟨q2, U2 - q2 * yn1, rfl, rfl, p2, p3, p4, p5, P1⟩
          case round =>
            obtain ⟨Q, R, rfl, rfl, hQ0, hQ1, hR0, hR1, hE⟩ := hrel
            obtain ⟨-, -, d2, d3⟩ := G2.dY
            obtain ⟨m0, m1⟩ := G2.mulb (Int.le_trans d2 hQ0) hQ1
            by_cases c1 : 4294967296 ≤ Q
            · have hs := G2.step hE.out hQ0 (.inl c1)
              by_cases c3 : 4294967296 ≤ R + yn1
              · have hq : Q = D0 + 1 := by
                  have := G2.exit2 (Q := Q - 1) (R := R + yn1) (by have := hE.out; rw [Int.sub_mul]; omega) hs (by omega) c3
                  omega
                subst hq
                clear hE hs hQ0
                go_wp2
                go_ret2
                exact ⟨by rw [F1.out, F2.out]; simp, 0, by simp [World.drewN]⟩
              · go_wp2
                go_round
                case rel => exact ⟨Q - 1, R + yn1, rfl, rfl, hs, by omega, by omega, by omega, Lib.hid (by have := hE.out; rw [Int.sub_mul]; omega)⟩
                case measure => simp [intOf]; omega
            · by_cases c2 : 4294967296 * R + un0 < Q * yn0
              · have hs := G2.step hE.out hQ0 (.inr c2)
                by_cases c3 : 4294967296 ≤ R + yn1
                · have hq : Q = D0 + 1 := by
                    have := G2.exit2 (Q := Q - 1) (R := R + yn1) (by have := hE.out; rw [Int.sub_mul]; omega) hs (by omega) c3
                    omega
                  subst hq
                  clear hE hs hQ0
                  go_wp2
                  go_ret2
                  exact ⟨by rw [F1.out, F2.out]; simp, 0, by simp [World.drewN]⟩
                · go_wp2
                  go_round
                  case rel => exact ⟨Q - 1, R + yn1, rfl, rfl, hs, by omega, by omega, by omega, Lib.hid (by have := hE.out; rw [Int.sub_mul]; omega)⟩
                  case measure => simp [intOf]; omega
              · obtain rfl : Q = D0 := G2.exit1 hE.out hQ0 c2
                go_wp2
                go_ret2
                exact ⟨by rw [F1.out, F2.out]; simp, 0, by simp [World.drewN]⟩
        · go_wp2
          go_round
          case rel => exact ⟨Q - 1, R + yn1, rfl, rfl, hs, by omega, by omega, by omega, Lib.hid (by have := hE.out; rw [Int.sub_mul]; omega)⟩
          case measure => simp [intOf]; omega
      · obtain rfl : Q = D1 := G1.exit1 hE.out hQ0 c2
        clear hE hQ0
        go_wp2
        go_loop [16, 18] (fun r q => ∃ Q R : Int, q = .int .u64 Q ∧ r = .int .u64 R ∧ D0 ≤ Q ∧ Q ≤ 4294967297 ∧ 0 ≤ R ∧ R < 4294967296 ∧ Hid (Q * yn1 + R = U2)) (fun _ q => (intOf q).toNat)
        case atStart => exact ⟨q2, U2 - q2 * yn1, rfl, rfl, p2, p3, p4, p5, P1⟩
        case round =>
          obtain ⟨Q, R, rfl, rfl, hQ0, hQ1, hR0, hR1, hE⟩ := hrel
          obtain ⟨-, -, d2, d3⟩ := G2.dY
          obtain ⟨m0, m1⟩ := G2.mulb (Int.le_trans d2 hQ0) hQ1
          by_cases c1 : 4294967296 ≤ Q
          · have hs := G2.step hE.out hQ0 (.inl c1)
            by_cases c3 : 4294967296 ≤ R + yn1
            · have hq : Q = D0 + 1 := by
                have := G2.exit2 (Q := Q - 1) (R := R + yn1) (by have := hE.out; rw [Int.sub_mul]; omega) hs (by omega) c3
                omega
              subst hq
              clear hE hs hQ0
              go_wp2
              go_ret2
              exact ⟨by rw [F1.out, F2.out]; simp, 0, by simp [World.drewN]⟩
            · go_wp2
              go_round
              case rel => exact ⟨Q - 1, R + yn1, rfl, rfl, hs, by omega, by omega, by omega, Lib.hid (by have := hE.out; rw [Int.sub_mul]; omega)⟩
              case measure => simp [intOf]; omega
          · by_cases c2 : 4294967296 * R + un0 < Q * yn0
            · have hs := G2.step hE.out hQ0 (.inr c2)
              by_cases c3 : 4294967296 ≤ R + yn1
              · have hq : Q = D0 + 1 := by
                  have := G2.exit2 (Q := Q - 1) (R := R + yn1) (by have := hE.out; rw [Int.sub_mul]; omega) hs (by omega) c3
                  omega
                subst hq
                clear hE hs hQ0
                go_wp2
                go_ret2
                exact ⟨by rw [F1.out, F2.out]; simp, 0, by simp [World.drewN]⟩
              · go_wp2
                go_round
                case rel => exact ⟨Q - 1, R + yn1, rfl, rfl, hs, by omega, by omega, by omega, Lib.hid (by have := hE.out; rw [Int.sub_mul]; omega)⟩
                case measure => simp [intOf]; omega
            · obtain rfl : Q = D0 := G2.exit1 hE.out hQ0 c2
              go_wp2
              go_ret2
              exact ⟨by rw [F1.out, F2.out]; simp, 0, by simp [World.drewN]⟩

set_option maxHeartbeats 4000000 in
theorem div64_fast (lo y : Int) (hy0 : 1 ≤ y) (hy1 : y ≤ 18446744073709551615) (l0 : 0 ≤ lo) (l1 : lo ≤ 18446744073709551615) (w : World) :
    Calls Try.prog 99 #[.int .u64 0, .int .u64 lo, .int .u64 y] w (Div64Is 0 lo y w) := by
  have t1 : (y == 0) = false := by simp; omega
  have t2 : decide (y ≤ 0) = false := by simp; omega
  have q1 : lo.tdiv y = lo / y := Int.tdiv_eq_ediv_of_nonneg l0
  have q2 : lo.tmod y = lo % y := Int.tmod_eq_emod_of_nonneg l0
  have q3 : IntKind.u64.wrap (lo / y) = lo / y := by
    rw [Num.wrap_u64]; exact Int.emod_eq_of_lt (Int.ediv_nonneg l0 (by omega)) (by have := Int.ediv_le_self y l0; omega)
  go_enter Try.func99, Try.ntmps99
  go_wp2_with fail
  go_quiet (fail)
  go_wp2
  go_ret2
  exact ⟨by simp, _, rfl⟩

theorem div64_calls (hi lo y : Int) (h0 : 0 ≤ hi) (hy : hi < y) (hy1 : y ≤ 18446744073709551615) (l0 : 0 ≤ lo) (l1 : lo ≤ 18446744073709551615) (w : World) :
    Calls Try.prog 99 #[.int .u64 hi, .int .u64 lo, .int .u64 y] w (Div64Is hi lo y w) := by
  rcases Int.lt_or_le 0 hi with hp | hp
  · obtain ⟨y', rfl⟩ := Int.eq_ofNat_of_zero_le (show 0 ≤ y by omega)
    obtain ⟨n, hn, hn1, hY0, hY1⟩ : ∃ n : Nat, n ≤ 63 ∧ (64 - (Lib.bitLen y' : Int)) = n ∧ 9223372036854775808 ≤ (y' : Int) * 2 ^ n ∧ (y' : Int) * 2 ^ n ≤ 18446744073709551615 := by
      have hb := Lib.bitLenAux_bounds 64 y' (by omega) (by omega)
      have hb2 : Lib.bitLen y' ≤ 64 := by
        rcases Nat.lt_or_ge 64 (Lib.bitLen y') with h | h
        · exfalso
          have h1 : 2 ^ 64 ≤ 2 ^ (Lib.bitLenAux 64 y' - 1) := Nat.pow_le_pow_right (by omega) (by show 64 ≤ Lib.bitLen y' - 1; omega)
          omega
        · exact h
      obtain ⟨b1, b2, b3⟩ := hb
      obtain ⟨m, hm⟩ : ∃ m, Lib.bitLen y' = m := ⟨_, rfl⟩
      have hm' : Lib.bitLenAux 64 y' = m := hm
      rw [hm'] at b1 b2 b3
      rw [hm] at hb2 ⊢
      refine ⟨64 - m, by omega, by omega, ?_, ?_⟩
      · have h1 : 2 ^ (m - 1) * 2 ^ (64 - m) ≤ y' * 2 ^ (64 - m) := Nat.mul_le_mul_right _ b2
        rw [← Nat.pow_add, show m - 1 + (64 - m) = 63 by omega] at h1
        have h2 : ((9223372036854775808 : Nat) : Int) ≤ ((y' * 2 ^ (64 - m) : Nat) : Int) := Int.ofNat_le.2 h1
        simpa using h2
      · have h1 : y' * 2 ^ (64 - m) < 2 ^ m * 2 ^ (64 - m) := Nat.mul_lt_mul_of_pos_right b3 (Nat.two_pow_pos _)
        rw [← Nat.pow_add, show m + (64 - m) = 64 by omega] at h1
        have h2 : ((y' * 2 ^ (64 - m) : Nat) : Int) < ((18446744073709551616 : Nat) : Int) := Int.ofNat_lt.2 h1
        have h3 : ((y' * 2 ^ (64 - m) : Nat) : Int) = (y' : Int) * 2 ^ (64 - m) := by simp
        omega
    have Z : ∀ w, Calls Try.prog 107 #[.int .u64 (y' : Int)] w fun e w' => e = .returned (.int .i64 n) ∧ w' = w := by
      intro w
      have := Try.bits_LeadingZeros64 (y' : Int) w (by omega) hy1
      rw [Int.toNat_natCast, hn1] at this
      exact this
    obtain ⟨Y, hY⟩ : ∃ Y, Y = (y' : Int) * 2 ^ n := ⟨_, rfl⟩
    obtain ⟨U, hU⟩ : ∃ U, U = hi * 2 ^ n + lo / 2 ^ (64 - n) := ⟨_, rfl⟩
    obtain ⟨un, hun⟩ : ∃ un, un = lo * 2 ^ n % 18446744073709551616 := ⟨_, rfl⟩
    have N : Norm hi lo y' n Y U un := ⟨hY, hU, hun⟩
    obtain ⟨u0, u1, d0, d1, m0, v0, v1⟩ := N.below hn h0 hy l0 l1
    rw [← hY] at hY0 hY1
    have hM := pow_pos' n
    have and_low : ∀ x : Int, 0 ≤ x → x ≤ 18446744073709551615 → bits .and .u64 x 4294967295 = x % 4294967296 := fun x x0 x1 =>
      bits_mask .u64 64 (by decide) (fun n h0 h1 => by rw [Num.wrap_u64]; exact Int.emod_eq_of_lt h0 (by simpa using h1)) 32 (by decide) x x0 (by omega)
    have G1 : Digit Y (Y / 4294967296) (Y % 4294967296) U (un / 4294967296) ((U * 4294967296 + un / 4294967296) / Y) :=
      ⟨by omega, by omega, by omega, by omega, by omega, u0, u1, by omega, by omega, rfl⟩
    generalize hD1 : (U * 4294967296 + un / 4294967296) / Y = D1 at G1
    have r1 := G1.rest
    have G2 : Digit Y (Y / 4294967296) (Y % 4294967296) (U * 4294967296 + un / 4294967296 - D1 * Y) (un % 4294967296) (((U * 4294967296 + un / 4294967296 - D1 * Y) * 4294967296 + un % 4294967296) / Y) :=
      ⟨by omega, by omega, by omega, by omega, by omega, r1.1, r1.2, by omega, by omega, rfl⟩
    generalize hD0 : ((U * 4294967296 + un / 4294967296 - D1 * Y) * 4294967296 + un % 4294967296) / Y = D0 at G2
    have r2 := G2.rest
    obtain ⟨td1, td2⟩ := two_digits G1 G2
    obtain ⟨nd1, nd2⟩ := N.done hn
    rw [show un / 4294967296 * 4294967296 + un % 4294967296 = un by omega] at td1 td2
    have or1 : bits .or .u64 (IntKind.u64.wrap (hi * 2 ^ n)) (lo / 2 ^ (64 - n)) = U := by
      have hw : IntKind.u64.wrap (hi * 2 ^ n) = hi * 2 ^ n := by
        rw [Num.wrap_u64]; exact Int.emod_eq_of_lt m0 (by omega)
      rw [hw, hU]
      exact or_join (i := n) m0 (Int.mul_emod_left _ _) (by omega) d0 d1 (by omega)
    have wr : ∀ a b c : Int, 0 ≤ a - b → a - b ≤ 18446744073709551615 → (18446744073709551616 ∣ c - a) → IntKind.u64.wrap (IntKind.u64.wrap c - IntKind.u64.wrap b) = a - b := by
      intro a b c h1 h2 h3
      rw [Num.wrap_u64, Num.wrap_u64, Num.wrap_u64]
      omega
    refine div64_slow hi lo y' Y U un _ _ _ _ _ _ _ D1 D0 n (by omega) hy hy1 l0 l1 hn Z ?_ rfl ?_ or1 ?_ rfl ?_ rfl ?_ G1 G2 rfl (RR := (U * 4294967296 + un / 4294967296 - D1 * Y) * 4294967296 + un % 4294967296 - D0 * Y) ?_ ?_ ?_ w
    · rw [Num.wrap_u64, ← hY]; omega
    · exact and_low Y (by omega) (by omega)
    · rw [Num.wrap_u64]; exact hun.symm
    · exact and_low un v0 v1
    · refine wr _ _ _ (by omega) (by omega) ?_
      rw [Num.wrap_u64]; omega
    · refine wr _ _ _ (by omega) (by omega) ?_
      rw [Num.wrap_u64]; omega
    · exact Lib.hid (by rw [← nd1, td1])
    · exact Lib.hid (by rw [← nd2, td2])
  · obtain rfl : hi = 0 := by omega
    exact div64_fast lo y (by omega) hy1 l0 l1 w
end Go.Proofs.Ytejcjonlnijbkaa.Wide

/- Package wide's calls, walked: MulDiv, Dot, MulShift answer the nearest whole number, of two the greater one, if it is one of 64 bits. For all arguments. -/
namespace Go.Proofs.Ytejcjonlnijbkaa.Wide
open Go Go.RowKit
set_option maxRecDepth 100000
set_option linter.unusedVariables false
set_option linter.unusedSimpArgs false

/-- The nearest whole number to p / d, of two the greater one. -/
def near (p d : Int) : Int := (2 * p + d) / (2 * d)
/-- The product divided: what MulDiv answers. -/
def mulDivV (a b c : Int) : Int := if c = 0 then 0 else fitV (near (if c < 0 then -(a * b) else a * b) (if c < 0 then -c else c))
def mulDivB (a b c : Int) : Bool := if c = 0 then false else fitB (near (if c < 0 then -(a * b) else a * b) (if c < 0 then -c else c))

theorem near_qr {p d M q r : Int} (hd : 1 ≤ d) (hM : M = if p < 0 then -p else p) (hq : M / d = q) (hr : M % d = r) :
    near p d = if p < 0 then -(q + if d < 2 * r then 1 else 0) else q + if d ≤ 2 * r then 1 else 0 := by
  have e := Int.mul_ediv_add_emod M d
  rw [hq, hr] at e
  have r0 : 0 ≤ r := by rw [← hr]; exact Int.emod_nonneg _ (by omega)
  have r1 : r < d := by rw [← hr]; exact Int.emod_lt_of_pos _ (by omega)
  unfold near
  by_cases hp : p < 0
  · rw [if_pos hp] at hM ⊢
    have h1 : 2 * p + d = (d - 2 * r) + 2 * d * (-q) := by
      have : 2 * d * (-q) = -(2 * (d * q)) := by rw [Int.mul_neg, Int.mul_assoc]
      omega
    rw [h1, Int.add_mul_ediv_left _ _ (by omega)]
    by_cases h2 : d < 2 * r
    · rw [if_pos h2]
      have : (d - 2 * r) / (2 * d) = -1 := by
        rw [Int.ediv_eq_iff_of_pos (by omega)]; omega
      omega
    · rw [if_neg h2, Int.ediv_eq_zero_of_lt (by omega) (by omega)]; omega
  · rw [if_neg hp] at hM ⊢
    have h1 : 2 * p + d = (2 * r + d) + 2 * d * q := by
      have : 2 * d * q = 2 * (d * q) := Int.mul_assoc _ _ _
      omega
    rw [h1, Int.add_mul_ediv_left _ _ (by omega)]
    by_cases h2 : d ≤ 2 * r
    · rw [if_pos h2]
      have : (2 * r + d) / (2 * d) = 1 := by
        rw [Int.ediv_eq_iff_of_pos (by omega)]; omega
      omega
    · rw [if_neg h2, Int.ediv_eq_zero_of_lt (by omega) (by omega)]; omega

end Go.Proofs.Ytejcjonlnijbkaa.Wide

/- Package wide's MulDiv, walked: a product divided is the nearest whole number, of two the greater one, if it is one of 64 bits; of the divisor 0 there is none. For all arguments. -/
namespace Go.Proofs.Ytejcjonlnijbkaa.Wide
open Go Go.RowKit
set_option maxRecDepth 100000
set_option linter.unusedVariables false
set_option linter.unusedSimpArgs false

set_option maxHeartbeats 2000000 in
theorem muldiv_zero (a b : Int) (w : World) : Calls Try.prog 89 #[.int .i64 a, .int .i64 b, .int .i64 0] w fun e w' => e = .returned (.tuple #[.int .i64 0, .bool false]) ∧ Below w.heap.size w w' := by
  have h : ((0 : Int) == 0) = true := by decide
  go_enter Try.func89, Try.ntmps89
  go_wp2
  go_ret2
  exact ⟨rfl, Below.refl _ _⟩

/-- The words of a size: the upper one is none, the lower one is the size. -/
theorem Big.abs_i64 {V hi lo : Int} (A : Big V hi lo) (h0 : 0 ≤ V) (h1 : V ≤ 9223372036854775808) : lo = V := by
  obtain ⟨a1, a2, a3, a4, ae⟩ := A; omega
theorem prod_bound {a b : Int} (a0 : -9223372036854775808 ≤ a) (a1 : a ≤ 9223372036854775807) (b0 : -9223372036854775808 ≤ b) (b1 : b ≤ 9223372036854775807) :
    -85070591730234615865843651857942052864 ≤ a * b ∧ a * b ≤ 85070591730234615865843651857942052864 := by
  have h1 : (if a < 0 then -a else a) * (if b < 0 then -b else b) ≤ 9223372036854775808 * 9223372036854775808 :=
    Int.mul_le_mul (Wide.abs_i64 a0 a1).2 (Wide.abs_i64 b0 b1).2 (Wide.abs_i64 b0 b1).1 (by omega)
  have h0 : 0 ≤ (if a < 0 then -a else a) * (if b < 0 then -b else b) := Int.mul_nonneg (Wide.abs_i64 a0 a1).1 (Wide.abs_i64 b0 b1).1
  by_cases ha : a < 0 <;> by_cases hb : b < 0 <;> simp only [ha, hb, if_true, if_false, Int.neg_mul, Int.mul_neg, Int.neg_neg] at h0 h1 <;> omega

/-- A box of two cells. -/
def Holds2 (W : World) (b : Nat) (x0 x1 : Value) : Prop :=
  W.cell? ⟨b, 0, none⟩ = some x0 ∧ W.cell? ⟨b, 1, none⟩ = some x1 ∧ W.frozen? ⟨b, 0, none⟩ = false ∧ W.frozen? ⟨b, 1, none⟩ = false ∧ b < W.heap.size
theorem Holds2.new (w : World) (x0 x1 : Value) (t : TypeId) : Holds2 (w.alloc (.cells #[x0, x1] t)) w.heap.size x0 x1 := by
  refine ⟨?_, ?_, ?_, ?_, ?_⟩ <;> simp [go_sem]
theorem Holds2.below {W W' : World} {b : Nat} {x0 x1 : Value} (h : Holds2 W b x0 x1) (hb : Below W.heap.size W W') : Holds2 W' b x0 x1 := by
  obtain ⟨h1, h2, h3, h4, h5⟩ := h
  obtain ⟨hc, hf⟩ := bcell hb
  exact ⟨(hc _ _ h5).trans h1, (hc _ _ h5).trans h2, (hf _ _ h5).trans h3, (hf _ _ h5).trans h4, Nat.lt_of_lt_of_le h5 hb.size⟩
theorem Holds2.alloc {W : World} {b : Nat} {x0 x1 : Value} (h : Holds2 W b x0 x1) (o : Obj) : Holds2 (W.alloc o) b x0 x1 := h.below (below_a1 _ _)
theorem Holds2.set {W : World} {b : Nat} {x0 x1 : Value} (h : Holds2 W b x0 x1) (y0 y1 : Value) : Holds2 ((W.setCell ⟨b, 0, none⟩ y0).setCell ⟨b, 1, none⟩ y1) b y0 y1 := by
  obtain ⟨h1, h2, h3, h4, h5⟩ := h
  refine ⟨?_, ?_, ?_, ?_, ?_⟩ <;> simp [go_sem, h1, h2, h3, h4, h5]
theorem Holds2.other {W : World} {b b' : Nat} {x0 x1 : Value} (h : Holds2 W b x0 x1) (hne : b' ≠ b) (y0 y1 : Value) : Holds2 ((W.setCell ⟨b', 0, none⟩ y0).setCell ⟨b', 1, none⟩ y1) b x0 x1 := by
  obtain ⟨h1, h2, h3, h4, h5⟩ := h
  refine ⟨?_, ?_, ?_, ?_, by simpa using h5⟩
  · rw [World.cell?_setCell_other _ _ _ _ (by simp [hne]), World.cell?_setCell_other _ _ _ _ (by simp [hne])]; exact h1
  · rw [World.cell?_setCell_other _ _ _ _ (by simp [hne]), World.cell?_setCell_other _ _ _ _ (by simp [hne])]; exact h2
  · rw [World.frozen?_setCell, World.frozen?_setCell]; exact h3
  · rw [World.frozen?_setCell, World.frozen?_setCell]; exact h4

theorem field_lo (x0 x1 : Int) (w : World) : (Instr.field 163 (.agg #[.int .u64 x0, .int .u64 x1]) 1).run Try.prog w = .ok (.int .u64 x1) w := by kernel_rfl

theorem drewN_below (w : World) (n : Nat) : Below w.heap.size w (w.drewN n) := ⟨rfl, rfl, rfl, Nat.le_refl _, fun _ _ => rfl⟩

end Go.Proofs.Ytejcjonlnijbkaa.Wide

/- Package wide's MulDiv, walked: the ways through it, of a divisor above 0. For all arguments. -/
namespace Go.Proofs.Ytejcjonlnijbkaa.Wide
open Go Go.RowKit
set_option maxRecDepth 100000
set_option linter.unusedVariables false
set_option linter.unusedSimpArgs false

set_option maxHeartbeats 4000000 in
theorem md_pos_big (a b c P M q r d : Int) (w : World)
    (h0 : (c == 0) = false) (hc : 1 ≤ c) (T : ∀ w, Calls Try.prog 95 #[.int .i64 a, .int .i64 b] w (GivesBig (P) w))
    (O : ∀ w, Calls Try.prog 97 #[.int .i64 c] w fun e w' => e = .returned (.agg #[.int .u64 (c / 9223372036854775808 % 18446744073709551616), .int .u64 (c % 18446744073709551616)]) ∧ Below w.heap.size w w')
    (S : ∀ w, Calls Try.prog 98 #[.agg #[.int .u64 (c / 9223372036854775808 % 18446744073709551616), .int .u64 (c % 18446744073709551616)]] w (GivesBig d w)) (d0 : 1 ≤ d) (d1 : d ≤ 9223372036854775808)
    (SP : ∀ ph pl, Big (P) ph pl → ∀ w, Calls Try.prog 98 #[.agg #[.int .u64 ph, .int .u64 pl]] w (GivesBig M w)) (m0 : 0 ≤ M) (m1 : M ≤ 85070591730234615865843651857942052864)
    (hbig : d * 18446744073709551616 ≤ M) :
    Calls Try.prog 89 #[.int .i64 a, .int .i64 b, .int .i64 c] w fun e w' => e = .returned (.tuple #[.int .i64 0, .bool false]) ∧ Below w.heap.size w w' := by
  have FL := field_lo
  go_enter Try.func89, Try.ntmps89
  go_wp2_with (first
      | (go_at_call 95; ((with_reducible refine (T _).mono ?_); rintro e w1 ⟨ph, pl, BP, rfl, hb1⟩; have J0 := Holds2.new w1 (.int .u64 ph) (.int .u64 pl) 163; clear T))
      | (go_at_call 97; ((with_reducible refine (O _).mono ?_); rintro e w2 ⟨rfl, hb2⟩; have J3 := J0.below hb2; clear O))
      | (go_at_call 98; ((with_reducible refine (S _).mono ?_); rintro e w3 ⟨dh, dl, BD, rfl, hb3⟩; obtain rfl := BD.abs_i64 (by omega) (by omega); have J4 := J3.below hb3; obtain ⟨k1, k2, k3, k4, k5⟩ := J4; have k6 := lts k5; have J4 : Holds2 _ _ _ _ := ⟨k1, k2, k3, k4, k5⟩; clear S))
      | (go_at_call 98; ((with_reducible refine (SP _ _ BP _).mono ?_); rintro e w4 ⟨nh, nl, BN, rfl, hb4⟩; have J5 := J4.below hb4; have n0 := BN.h0; have n1 := BN.h1; have n2 := BN.l0; have n3 := BN.l1; have hge : dl ≤ nh := (by have h1 := BN.unsigned m0 (by omega); have h2 := BN.l1; omega); obtain ⟨l1, l2, l3, l4, l5⟩ := J5; have l6 := lts l5; have J5 : Holds2 _ _ _ _ := ⟨l1, l2, l3, l4, l5⟩; clear SP)))
  go_ret2
  refine ⟨rfl, ?_⟩
  have z_hb1 := hb1.size; (try simp at z_hb1); have z_hb2 := hb2.size; (try simp at z_hb2); have z_hb3 := hb3.size; (try simp at z_hb3); have z_hb4 := hb4.size; (try simp at z_hb4); (repeat' (first | (with_reducible exact Below.refl _ _) | (with_reducible refine Below.drew ?_) | (with_reducible refine below_drewN ?_ _) | ((with_reducible refine Below.setCell ?_ ?side_ _); case side_ => (first | (with_reducible exact Nat.le_refl _) | (with_reducible assumption) | omega | (simp; done) | (simp; omega))) | ((with_reducible refine Below.alloc ?_ ?side_ _); case side_ => (first | (with_reducible exact Nat.le_refl _) | (with_reducible assumption) | omega | (simp; done) | (simp; omega))) | ((with_reducible refine Below.trans ?_ (hb1.mono ?side_)); case side_ => (first | (with_reducible exact Nat.le_refl _) | (with_reducible assumption) | omega | (simp; done) | (simp; omega))) | ((with_reducible refine Below.trans ?_ (hb2.mono ?side_)); case side_ => (first | (with_reducible exact Nat.le_refl _) | (with_reducible assumption) | omega | (simp; done) | (simp; omega))) | ((with_reducible refine Below.trans ?_ (hb3.mono ?side_)); case side_ => (first | (with_reducible exact Nat.le_refl _) | (with_reducible assumption) | omega | (simp; done) | (simp; omega))) | ((with_reducible refine Below.trans ?_ (hb4.mono ?side_)); case side_ => (first | (with_reducible exact Nat.le_refl _) | (with_reducible assumption) | omega | (simp; done) | (simp; omega)))))

set_option maxHeartbeats 4000000 in
theorem md_pos_ap (a b c P M q r d : Int) (w : World)
    (h0 : (c == 0) = false) (hc : 1 ≤ c) (T : ∀ w, Calls Try.prog 95 #[.int .i64 a, .int .i64 b] w (GivesBig (P) w))
    (O : ∀ w, Calls Try.prog 97 #[.int .i64 c] w fun e w' => e = .returned (.agg #[.int .u64 (c / 9223372036854775808 % 18446744073709551616), .int .u64 (c % 18446744073709551616)]) ∧ Below w.heap.size w w')
    (S : ∀ w, Calls Try.prog 98 #[.agg #[.int .u64 (c / 9223372036854775808 % 18446744073709551616), .int .u64 (c % 18446744073709551616)]] w (GivesBig d w)) (d0 : 1 ≤ d) (d1 : d ≤ 9223372036854775808)
    (SP : ∀ ph pl, Big (P) ph pl → ∀ w, Calls Try.prog 98 #[.agg #[.int .u64 ph, .int .u64 pl]] w (GivesBig M w)) (m0 : 0 ≤ M) (m1 : M ≤ 85070591730234615865843651857942052864)
    (hbig : M < d * 18446744073709551616) (DV : ∀ nh nl, Big M nh nl → ∀ w, Calls Try.prog 99 #[.int .u64 nh, .int .u64 nl, .int .u64 d] w fun e w' => e = .returned (.tuple #[.int .u64 q, .int .u64 r]) ∧ Below w.heap.size w w')
    (q0 : 0 ≤ q) (q1 : q ≤ 18446744073709551615) (r0 : 0 ≤ r) (r1 : r < d) (BL : ∀ ph pl, Big (P) ph pl → ∀ w, Calls Try.prog 100 #[.agg #[.int .u64 ph, .int .u64 pl]] w fun e w' => e = .returned (.bool false) ∧ Below w.heap.size w w')
    (hr : d < 2 * r) :
    Calls Try.prog 89 #[.int .i64 a, .int .i64 b, .int .i64 c] w fun e w' => e = .returned (.tuple #[.int .i64 (fitV (q + 1)), .bool (fitB (q + 1))]) ∧ Below w.heap.size w w' := by
  have FL := field_lo
  have BQ0 : Big q 0 q := Big.small q0 q1
  have BO1 : Big 1 0 1 := Big.small (by omega) (by omega)
  go_enter Try.func89, Try.ntmps89
  go_wp2_with (first
      | (go_at_call 95; ((with_reducible refine (T _).mono ?_); rintro e w1 ⟨ph, pl, BP, rfl, hb1⟩; have J0 := Holds2.new w1 (.int .u64 ph) (.int .u64 pl) 163; clear T))
      | (go_at_call 97; ((with_reducible refine (O _).mono ?_); rintro e w2 ⟨rfl, hb2⟩; have J3 := J0.below hb2; clear O))
      | (go_at_call 98; ((with_reducible refine (S _).mono ?_); rintro e w3 ⟨dh, dl, BD, rfl, hb3⟩; obtain rfl := BD.abs_i64 (by omega) (by omega); have J4 := J3.below hb3; obtain ⟨k1, k2, k3, k4, k5⟩ := J4; have k6 := lts k5; have J4 : Holds2 _ _ _ _ := ⟨k1, k2, k3, k4, k5⟩; clear S))
      | (go_at_call 98; ((with_reducible refine (SP _ _ BP _).mono ?_); rintro e w4 ⟨nh, nl, BN, rfl, hb4⟩; have J5 := J4.below hb4; have n0 := BN.h0; have n1 := BN.h1; have n2 := BN.l0; have n3 := BN.l1; have hlt2 : nh < dl := (by have h1 := BN.unsigned m0 (by omega); have h2 := BN.l0; omega); obtain ⟨l1, l2, l3, l4, l5⟩ := J5; have l6 := lts l5; have J5 : Holds2 _ _ _ _ := ⟨l1, l2, l3, l4, l5⟩; clear SP))
      | (go_at_call 99; ((with_reducible refine (DV _ _ BN _).mono ?_); rintro e w5 ⟨rfl, hb5⟩; have J6 := (J5.alloc _).below hb5; obtain ⟨o1, o2, o3, o4, o5⟩ := J6; have o6 := lts o5; have J6 : Holds2 _ _ _ _ := ⟨o1, o2, o3, o4, o5⟩; clear DV))
      | (go_at_call 101; ((with_reducible refine (add_calls BQ0 BO1 _).mono ?_); rintro e w7 ⟨qh, ql, BR, rfl, hb7⟩; have J8 := (J6.alloc (.cells #[.int .u64 0, .int .u64 q] 163)).below hb7; have I8 := (Holds2.new w5 (.int .u64 0) (.int .u64 q) 163).below hb7; obtain ⟨t1, t2, t3, t4, t5⟩ := J8; have t6 := lts t5; obtain ⟨u1, u2, u3, u4, u5⟩ := I8; have u6 := lts u5; have I8 := Holds2.set ⟨u1, u2, u3, u4, u5⟩ (.int .u64 qh) (.int .u64 ql); have J8 := Holds2.other ⟨t1, t2, t3, t4, t5⟩ (Nat.ne_of_gt (J6.2.2.2.2)) (.int .u64 qh) (.int .u64 ql)))
      | (go_at_call 100; ((with_reducible refine (BL _ _ BP _).mono ?_); rintro e w8 ⟨rfl, hb8⟩; have I9 := I8.below hb8; obtain ⟨v1, v2, v3, v4, v5⟩ := I9; have v6 := lts v5; have I9 : Holds2 _ _ _ _ := ⟨v1, v2, v3, v4, v5⟩))
      | (go_at_call 102; ((with_reducible refine (plain_calls BR (by omega) (by omega) _).mono ?_); rintro e w10 ⟨rfl, hb10⟩; skip)))
  go_ret2
  refine ⟨rfl, ?_⟩
  have z_hb1 := hb1.size; (try simp at z_hb1); have z_hb2 := hb2.size; (try simp at z_hb2); have z_hb3 := hb3.size; (try simp at z_hb3); have z_hb4 := hb4.size; (try simp at z_hb4); have z_hb5 := hb5.size; (try simp at z_hb5); have z_hb7 := hb7.size; (try simp at z_hb7); have z_hb8 := hb8.size; (try simp at z_hb8); have z_hb10 := hb10.size; (try simp at z_hb10); (repeat' (first | (with_reducible exact Below.refl _ _) | (with_reducible refine Below.drew ?_) | (with_reducible refine below_drewN ?_ _) | ((with_reducible refine Below.setCell ?_ ?side_ _); case side_ => (first | (with_reducible exact Nat.le_refl _) | (with_reducible assumption) | omega | (simp; done) | (simp; omega))) | ((with_reducible refine Below.alloc ?_ ?side_ _); case side_ => (first | (with_reducible exact Nat.le_refl _) | (with_reducible assumption) | omega | (simp; done) | (simp; omega))) | ((with_reducible refine Below.trans ?_ (hb1.mono ?side_)); case side_ => (first | (with_reducible exact Nat.le_refl _) | (with_reducible assumption) | omega | (simp; done) | (simp; omega))) | ((with_reducible refine Below.trans ?_ (hb2.mono ?side_)); case side_ => (first | (with_reducible exact Nat.le_refl _) | (with_reducible assumption) | omega | (simp; done) | (simp; omega))) | ((with_reducible refine Below.trans ?_ (hb3.mono ?side_)); case side_ => (first | (with_reducible exact Nat.le_refl _) | (with_reducible assumption) | omega | (simp; done) | (simp; omega))) | ((with_reducible refine Below.trans ?_ (hb4.mono ?side_)); case side_ => (first | (with_reducible exact Nat.le_refl _) | (with_reducible assumption) | omega | (simp; done) | (simp; omega))) | ((with_reducible refine Below.trans ?_ (hb5.mono ?side_)); case side_ => (first | (with_reducible exact Nat.le_refl _) | (with_reducible assumption) | omega | (simp; done) | (simp; omega))) | ((with_reducible refine Below.trans ?_ (hb7.mono ?side_)); case side_ => (first | (with_reducible exact Nat.le_refl _) | (with_reducible assumption) | omega | (simp; done) | (simp; omega))) | ((with_reducible refine Below.trans ?_ (hb8.mono ?side_)); case side_ => (first | (with_reducible exact Nat.le_refl _) | (with_reducible assumption) | omega | (simp; done) | (simp; omega))) | ((with_reducible refine Below.trans ?_ (hb10.mono ?side_)); case side_ => (first | (with_reducible exact Nat.le_refl _) | (with_reducible assumption) | omega | (simp; done) | (simp; omega)))))

set_option maxHeartbeats 4000000 in
theorem md_pos_am (a b c P M q r d : Int) (w : World)
    (h0 : (c == 0) = false) (hc : 1 ≤ c) (T : ∀ w, Calls Try.prog 95 #[.int .i64 a, .int .i64 b] w (GivesBig (P) w))
    (O : ∀ w, Calls Try.prog 97 #[.int .i64 c] w fun e w' => e = .returned (.agg #[.int .u64 (c / 9223372036854775808 % 18446744073709551616), .int .u64 (c % 18446744073709551616)]) ∧ Below w.heap.size w w')
    (S : ∀ w, Calls Try.prog 98 #[.agg #[.int .u64 (c / 9223372036854775808 % 18446744073709551616), .int .u64 (c % 18446744073709551616)]] w (GivesBig d w)) (d0 : 1 ≤ d) (d1 : d ≤ 9223372036854775808)
    (SP : ∀ ph pl, Big (P) ph pl → ∀ w, Calls Try.prog 98 #[.agg #[.int .u64 ph, .int .u64 pl]] w (GivesBig M w)) (m0 : 0 ≤ M) (m1 : M ≤ 85070591730234615865843651857942052864)
    (hbig : M < d * 18446744073709551616) (DV : ∀ nh nl, Big M nh nl → ∀ w, Calls Try.prog 99 #[.int .u64 nh, .int .u64 nl, .int .u64 d] w fun e w' => e = .returned (.tuple #[.int .u64 q, .int .u64 r]) ∧ Below w.heap.size w w')
    (q0 : 0 ≤ q) (q1 : q ≤ 18446744073709551615) (r0 : 0 ≤ r) (r1 : r < d) (BL : ∀ ph pl, Big (P) ph pl → ∀ w, Calls Try.prog 100 #[.agg #[.int .u64 ph, .int .u64 pl]] w fun e w' => e = .returned (.bool true) ∧ Below w.heap.size w w')
    (hr : d < 2 * r) :
    Calls Try.prog 89 #[.int .i64 a, .int .i64 b, .int .i64 c] w fun e w' => e = .returned (.tuple #[.int .i64 (fitV (-(q + 1))), .bool (fitB (-(q + 1)))]) ∧ Below w.heap.size w w' := by
  have FL := field_lo
  have BQ0 : Big q 0 q := Big.small q0 q1
  have BO1 : Big 1 0 1 := Big.small (by omega) (by omega)
  go_enter Try.func89, Try.ntmps89
  go_wp2_with (first
      | (go_at_call 95; ((with_reducible refine (T _).mono ?_); rintro e w1 ⟨ph, pl, BP, rfl, hb1⟩; have J0 := Holds2.new w1 (.int .u64 ph) (.int .u64 pl) 163; clear T))
      | (go_at_call 97; ((with_reducible refine (O _).mono ?_); rintro e w2 ⟨rfl, hb2⟩; have J3 := J0.below hb2; clear O))
      | (go_at_call 98; ((with_reducible refine (S _).mono ?_); rintro e w3 ⟨dh, dl, BD, rfl, hb3⟩; obtain rfl := BD.abs_i64 (by omega) (by omega); have J4 := J3.below hb3; obtain ⟨k1, k2, k3, k4, k5⟩ := J4; have k6 := lts k5; have J4 : Holds2 _ _ _ _ := ⟨k1, k2, k3, k4, k5⟩; clear S))
      | (go_at_call 98; ((with_reducible refine (SP _ _ BP _).mono ?_); rintro e w4 ⟨nh, nl, BN, rfl, hb4⟩; have J5 := J4.below hb4; have n0 := BN.h0; have n1 := BN.h1; have n2 := BN.l0; have n3 := BN.l1; have hlt2 : nh < dl := (by have h1 := BN.unsigned m0 (by omega); have h2 := BN.l0; omega); obtain ⟨l1, l2, l3, l4, l5⟩ := J5; have l6 := lts l5; have J5 : Holds2 _ _ _ _ := ⟨l1, l2, l3, l4, l5⟩; clear SP))
      | (go_at_call 99; ((with_reducible refine (DV _ _ BN _).mono ?_); rintro e w5 ⟨rfl, hb5⟩; have J6 := (J5.alloc _).below hb5; obtain ⟨o1, o2, o3, o4, o5⟩ := J6; have o6 := lts o5; have J6 : Holds2 _ _ _ _ := ⟨o1, o2, o3, o4, o5⟩; clear DV))
      | (go_at_call 101; ((with_reducible refine (add_calls BQ0 BO1 _).mono ?_); rintro e w7 ⟨qh, ql, BR, rfl, hb7⟩; have J8 := (J6.alloc (.cells #[.int .u64 0, .int .u64 q] 163)).below hb7; have I8 := (Holds2.new w5 (.int .u64 0) (.int .u64 q) 163).below hb7; obtain ⟨t1, t2, t3, t4, t5⟩ := J8; have t6 := lts t5; obtain ⟨u1, u2, u3, u4, u5⟩ := I8; have u6 := lts u5; have I8 := Holds2.set ⟨u1, u2, u3, u4, u5⟩ (.int .u64 qh) (.int .u64 ql); have J8 := Holds2.other ⟨t1, t2, t3, t4, t5⟩ (Nat.ne_of_gt (J6.2.2.2.2)) (.int .u64 qh) (.int .u64 ql)))
      | (go_at_call 100; ((with_reducible refine (BL _ _ BP _).mono ?_); rintro e w8 ⟨rfl, hb8⟩; have I9 := I8.below hb8; obtain ⟨v1, v2, v3, v4, v5⟩ := I9; have v6 := lts v5; have I9 : Holds2 _ _ _ _ := ⟨v1, v2, v3, v4, v5⟩))
      | (go_at_call 96; ((with_reducible refine (minus_calls BR _).mono ?_); rintro e w9 ⟨zh, zl, BZ, rfl, hb9⟩; have I10 := I9.below hb9; obtain ⟨x1, x2, x3, x4, x5⟩ := I10; have x6 := lts x5))
      | (go_at_call 102; ((with_reducible refine (plain_calls BZ (by omega) (by omega) _).mono ?_); rintro e w10 ⟨rfl, hb10⟩; skip)))
  go_ret2
  refine ⟨rfl, ?_⟩
  have z_hb1 := hb1.size; (try simp at z_hb1); have z_hb2 := hb2.size; (try simp at z_hb2); have z_hb3 := hb3.size; (try simp at z_hb3); have z_hb4 := hb4.size; (try simp at z_hb4); have z_hb5 := hb5.size; (try simp at z_hb5); have z_hb7 := hb7.size; (try simp at z_hb7); have z_hb8 := hb8.size; (try simp at z_hb8); have z_hb9 := hb9.size; (try simp at z_hb9); have z_hb10 := hb10.size; (try simp at z_hb10); (repeat' (first | (with_reducible exact Below.refl _ _) | (with_reducible refine Below.drew ?_) | (with_reducible refine below_drewN ?_ _) | ((with_reducible refine Below.setCell ?_ ?side_ _); case side_ => (first | (with_reducible exact Nat.le_refl _) | (with_reducible assumption) | omega | (simp; done) | (simp; omega))) | ((with_reducible refine Below.alloc ?_ ?side_ _); case side_ => (first | (with_reducible exact Nat.le_refl _) | (with_reducible assumption) | omega | (simp; done) | (simp; omega))) | ((with_reducible refine Below.trans ?_ (hb1.mono ?side_)); case side_ => (first | (with_reducible exact Nat.le_refl _) | (with_reducible assumption) | omega | (simp; done) | (simp; omega))) | ((with_reducible refine Below.trans ?_ (hb2.mono ?side_)); case side_ => (first | (with_reducible exact Nat.le_refl _) | (with_reducible assumption) | omega | (simp; done) | (simp; omega))) | ((with_reducible refine Below.trans ?_ (hb3.mono ?side_)); case side_ => (first | (with_reducible exact Nat.le_refl _) | (with_reducible assumption) | omega | (simp; done) | (simp; omega))) | ((with_reducible refine Below.trans ?_ (hb4.mono ?side_)); case side_ => (first | (with_reducible exact Nat.le_refl _) | (with_reducible assumption) | omega | (simp; done) | (simp; omega))) | ((with_reducible refine Below.trans ?_ (hb5.mono ?side_)); case side_ => (first | (with_reducible exact Nat.le_refl _) | (with_reducible assumption) | omega | (simp; done) | (simp; omega))) | ((with_reducible refine Below.trans ?_ (hb7.mono ?side_)); case side_ => (first | (with_reducible exact Nat.le_refl _) | (with_reducible assumption) | omega | (simp; done) | (simp; omega))) | ((with_reducible refine Below.trans ?_ (hb8.mono ?side_)); case side_ => (first | (with_reducible exact Nat.le_refl _) | (with_reducible assumption) | omega | (simp; done) | (simp; omega))) | ((with_reducible refine Below.trans ?_ (hb9.mono ?side_)); case side_ => (first | (with_reducible exact Nat.le_refl _) | (with_reducible assumption) | omega | (simp; done) | (simp; omega))) | ((with_reducible refine Below.trans ?_ (hb10.mono ?side_)); case side_ => (first | (with_reducible exact Nat.le_refl _) | (with_reducible assumption) | omega | (simp; done) | (simp; omega)))))

set_option maxHeartbeats 4000000 in
theorem md_pos_bp (a b c P M q r d : Int) (w : World)
    (h0 : (c == 0) = false) (hc : 1 ≤ c) (T : ∀ w, Calls Try.prog 95 #[.int .i64 a, .int .i64 b] w (GivesBig (P) w))
    (O : ∀ w, Calls Try.prog 97 #[.int .i64 c] w fun e w' => e = .returned (.agg #[.int .u64 (c / 9223372036854775808 % 18446744073709551616), .int .u64 (c % 18446744073709551616)]) ∧ Below w.heap.size w w')
    (S : ∀ w, Calls Try.prog 98 #[.agg #[.int .u64 (c / 9223372036854775808 % 18446744073709551616), .int .u64 (c % 18446744073709551616)]] w (GivesBig d w)) (d0 : 1 ≤ d) (d1 : d ≤ 9223372036854775808)
    (SP : ∀ ph pl, Big (P) ph pl → ∀ w, Calls Try.prog 98 #[.agg #[.int .u64 ph, .int .u64 pl]] w (GivesBig M w)) (m0 : 0 ≤ M) (m1 : M ≤ 85070591730234615865843651857942052864)
    (hbig : M < d * 18446744073709551616) (DV : ∀ nh nl, Big M nh nl → ∀ w, Calls Try.prog 99 #[.int .u64 nh, .int .u64 nl, .int .u64 d] w fun e w' => e = .returned (.tuple #[.int .u64 q, .int .u64 r]) ∧ Below w.heap.size w w')
    (q0 : 0 ≤ q) (q1 : q ≤ 18446744073709551615) (r0 : 0 ≤ r) (r1 : r < d) (BL : ∀ ph pl, Big (P) ph pl → ∀ w, Calls Try.prog 100 #[.agg #[.int .u64 ph, .int .u64 pl]] w fun e w' => e = .returned (.bool false) ∧ Below w.heap.size w w')
    (hr : (r == d - r) = true) (hr' : d - r ≤ r) (hr'' : r ≤ d - r) :
    Calls Try.prog 89 #[.int .i64 a, .int .i64 b, .int .i64 c] w fun e w' => e = .returned (.tuple #[.int .i64 (fitV (q + 1)), .bool (fitB (q + 1))]) ∧ Below w.heap.size w w' := by
  have FL := field_lo
  have BQ0 : Big q 0 q := Big.small q0 q1
  have BO1 : Big 1 0 1 := Big.small (by omega) (by omega)
  go_enter Try.func89, Try.ntmps89
  go_wp2_with (first
      | (go_at_call 95; ((with_reducible refine (T _).mono ?_); rintro e w1 ⟨ph, pl, BP, rfl, hb1⟩; have J0 := Holds2.new w1 (.int .u64 ph) (.int .u64 pl) 163; clear T))
      | (go_at_call 97; ((with_reducible refine (O _).mono ?_); rintro e w2 ⟨rfl, hb2⟩; have J3 := J0.below hb2; clear O))
      | (go_at_call 98; ((with_reducible refine (S _).mono ?_); rintro e w3 ⟨dh, dl, BD, rfl, hb3⟩; obtain rfl := BD.abs_i64 (by omega) (by omega); have J4 := J3.below hb3; obtain ⟨k1, k2, k3, k4, k5⟩ := J4; have k6 := lts k5; have J4 : Holds2 _ _ _ _ := ⟨k1, k2, k3, k4, k5⟩; clear S))
      | (go_at_call 98; ((with_reducible refine (SP _ _ BP _).mono ?_); rintro e w4 ⟨nh, nl, BN, rfl, hb4⟩; have J5 := J4.below hb4; have n0 := BN.h0; have n1 := BN.h1; have n2 := BN.l0; have n3 := BN.l1; have hlt2 : nh < dl := (by have h1 := BN.unsigned m0 (by omega); have h2 := BN.l0; omega); obtain ⟨l1, l2, l3, l4, l5⟩ := J5; have l6 := lts l5; have J5 : Holds2 _ _ _ _ := ⟨l1, l2, l3, l4, l5⟩; clear SP))
      | (go_at_call 99; ((with_reducible refine (DV _ _ BN _).mono ?_); rintro e w5 ⟨rfl, hb5⟩; have J6 := (J5.alloc _).below hb5; obtain ⟨o1, o2, o3, o4, o5⟩ := J6; have o6 := lts o5; have J6 : Holds2 _ _ _ _ := ⟨o1, o2, o3, o4, o5⟩; clear DV))
      | (go_at_call 100; ((with_reducible refine (BL _ _ BP _).mono ?_); rintro e w6 ⟨rfl, hb6⟩; have J7 := J6.below hb6; obtain ⟨s1, s2, s3, s4, s5⟩ := J7; have s6 := lts s5; have J7 : Holds2 _ _ _ _ := ⟨s1, s2, s3, s4, s5⟩))
      | (go_at_call 101; ((with_reducible refine (add_calls BQ0 BO1 _).mono ?_); rintro e w7 ⟨qh, ql, BR, rfl, hb7⟩; have J8 := (J7.alloc (.cells #[.int .u64 0, .int .u64 q] 163)).below hb7; have I8 := (Holds2.new w6 (.int .u64 0) (.int .u64 q) 163).below hb7; obtain ⟨t1, t2, t3, t4, t5⟩ := J8; have t6 := lts t5; obtain ⟨u1, u2, u3, u4, u5⟩ := I8; have u6 := lts u5; have I8 := Holds2.set ⟨u1, u2, u3, u4, u5⟩ (.int .u64 qh) (.int .u64 ql); have J8 := Holds2.other ⟨t1, t2, t3, t4, t5⟩ (Nat.ne_of_gt (J7.2.2.2.2)) (.int .u64 qh) (.int .u64 ql)))
      | (go_at_call 100; ((with_reducible refine (BL _ _ BP _).mono ?_); rintro e w8 ⟨rfl, hb8⟩; have I9 := I8.below hb8; obtain ⟨v1, v2, v3, v4, v5⟩ := I9; have v6 := lts v5; have I9 : Holds2 _ _ _ _ := ⟨v1, v2, v3, v4, v5⟩))
      | (go_at_call 102; ((with_reducible refine (plain_calls BR (by omega) (by omega) _).mono ?_); rintro e w10 ⟨rfl, hb10⟩; skip)))
  go_ret2
  refine ⟨rfl, ?_⟩
  have z_hb1 := hb1.size; (try simp at z_hb1); have z_hb2 := hb2.size; (try simp at z_hb2); have z_hb3 := hb3.size; (try simp at z_hb3); have z_hb4 := hb4.size; (try simp at z_hb4); have z_hb5 := hb5.size; (try simp at z_hb5); have z_hb6 := hb6.size; (try simp at z_hb6); have z_hb7 := hb7.size; (try simp at z_hb7); have z_hb8 := hb8.size; (try simp at z_hb8); have z_hb10 := hb10.size; (try simp at z_hb10); (repeat' (first | (with_reducible exact Below.refl _ _) | (with_reducible refine Below.drew ?_) | (with_reducible refine below_drewN ?_ _) | ((with_reducible refine Below.setCell ?_ ?side_ _); case side_ => (first | (with_reducible exact Nat.le_refl _) | (with_reducible assumption) | omega | (simp; done) | (simp; omega))) | ((with_reducible refine Below.alloc ?_ ?side_ _); case side_ => (first | (with_reducible exact Nat.le_refl _) | (with_reducible assumption) | omega | (simp; done) | (simp; omega))) | ((with_reducible refine Below.trans ?_ (hb1.mono ?side_)); case side_ => (first | (with_reducible exact Nat.le_refl _) | (with_reducible assumption) | omega | (simp; done) | (simp; omega))) | ((with_reducible refine Below.trans ?_ (hb2.mono ?side_)); case side_ => (first | (with_reducible exact Nat.le_refl _) | (with_reducible assumption) | omega | (simp; done) | (simp; omega))) | ((with_reducible refine Below.trans ?_ (hb3.mono ?side_)); case side_ => (first | (with_reducible exact Nat.le_refl _) | (with_reducible assumption) | omega | (simp; done) | (simp; omega))) | ((with_reducible refine Below.trans ?_ (hb4.mono ?side_)); case side_ => (first | (with_reducible exact Nat.le_refl _) | (with_reducible assumption) | omega | (simp; done) | (simp; omega))) | ((with_reducible refine Below.trans ?_ (hb5.mono ?side_)); case side_ => (first | (with_reducible exact Nat.le_refl _) | (with_reducible assumption) | omega | (simp; done) | (simp; omega))) | ((with_reducible refine Below.trans ?_ (hb6.mono ?side_)); case side_ => (first | (with_reducible exact Nat.le_refl _) | (with_reducible assumption) | omega | (simp; done) | (simp; omega))) | ((with_reducible refine Below.trans ?_ (hb7.mono ?side_)); case side_ => (first | (with_reducible exact Nat.le_refl _) | (with_reducible assumption) | omega | (simp; done) | (simp; omega))) | ((with_reducible refine Below.trans ?_ (hb8.mono ?side_)); case side_ => (first | (with_reducible exact Nat.le_refl _) | (with_reducible assumption) | omega | (simp; done) | (simp; omega))) | ((with_reducible refine Below.trans ?_ (hb10.mono ?side_)); case side_ => (first | (with_reducible exact Nat.le_refl _) | (with_reducible assumption) | omega | (simp; done) | (simp; omega)))))

set_option maxHeartbeats 4000000 in
theorem md_pos_bm (a b c P M q r d : Int) (w : World)
    (h0 : (c == 0) = false) (hc : 1 ≤ c) (T : ∀ w, Calls Try.prog 95 #[.int .i64 a, .int .i64 b] w (GivesBig (P) w))
    (O : ∀ w, Calls Try.prog 97 #[.int .i64 c] w fun e w' => e = .returned (.agg #[.int .u64 (c / 9223372036854775808 % 18446744073709551616), .int .u64 (c % 18446744073709551616)]) ∧ Below w.heap.size w w')
    (S : ∀ w, Calls Try.prog 98 #[.agg #[.int .u64 (c / 9223372036854775808 % 18446744073709551616), .int .u64 (c % 18446744073709551616)]] w (GivesBig d w)) (d0 : 1 ≤ d) (d1 : d ≤ 9223372036854775808)
    (SP : ∀ ph pl, Big (P) ph pl → ∀ w, Calls Try.prog 98 #[.agg #[.int .u64 ph, .int .u64 pl]] w (GivesBig M w)) (m0 : 0 ≤ M) (m1 : M ≤ 85070591730234615865843651857942052864)
    (hbig : M < d * 18446744073709551616) (DV : ∀ nh nl, Big M nh nl → ∀ w, Calls Try.prog 99 #[.int .u64 nh, .int .u64 nl, .int .u64 d] w fun e w' => e = .returned (.tuple #[.int .u64 q, .int .u64 r]) ∧ Below w.heap.size w w')
    (q0 : 0 ≤ q) (q1 : q ≤ 18446744073709551615) (r0 : 0 ≤ r) (r1 : r < d) (BL : ∀ ph pl, Big (P) ph pl → ∀ w, Calls Try.prog 100 #[.agg #[.int .u64 ph, .int .u64 pl]] w fun e w' => e = .returned (.bool true) ∧ Below w.heap.size w w')
    (hr : (r == d - r) = true) (hr' : d - r ≤ r) (hr'' : r ≤ d - r) :
    Calls Try.prog 89 #[.int .i64 a, .int .i64 b, .int .i64 c] w fun e w' => e = .returned (.tuple #[.int .i64 (fitV (-q)), .bool (fitB (-q))]) ∧ Below w.heap.size w w' := by
  have FL := field_lo
  have BQ0 : Big q 0 q := Big.small q0 q1
  have BO1 : Big 1 0 1 := Big.small (by omega) (by omega)
  go_enter Try.func89, Try.ntmps89
  go_wp2_with (first
      | (go_at_call 95; ((with_reducible refine (T _).mono ?_); rintro e w1 ⟨ph, pl, BP, rfl, hb1⟩; have J0 := Holds2.new w1 (.int .u64 ph) (.int .u64 pl) 163; clear T))
      | (go_at_call 97; ((with_reducible refine (O _).mono ?_); rintro e w2 ⟨rfl, hb2⟩; have J3 := J0.below hb2; clear O))
      | (go_at_call 98; ((with_reducible refine (S _).mono ?_); rintro e w3 ⟨dh, dl, BD, rfl, hb3⟩; obtain rfl := BD.abs_i64 (by omega) (by omega); have J4 := J3.below hb3; obtain ⟨k1, k2, k3, k4, k5⟩ := J4; have k6 := lts k5; have J4 : Holds2 _ _ _ _ := ⟨k1, k2, k3, k4, k5⟩; clear S))
      | (go_at_call 98; ((with_reducible refine (SP _ _ BP _).mono ?_); rintro e w4 ⟨nh, nl, BN, rfl, hb4⟩; have J5 := J4.below hb4; have n0 := BN.h0; have n1 := BN.h1; have n2 := BN.l0; have n3 := BN.l1; have hlt2 : nh < dl := (by have h1 := BN.unsigned m0 (by omega); have h2 := BN.l0; omega); obtain ⟨l1, l2, l3, l4, l5⟩ := J5; have l6 := lts l5; have J5 : Holds2 _ _ _ _ := ⟨l1, l2, l3, l4, l5⟩; clear SP))
      | (go_at_call 99; ((with_reducible refine (DV _ _ BN _).mono ?_); rintro e w5 ⟨rfl, hb5⟩; have J6 := (J5.alloc _).below hb5; obtain ⟨o1, o2, o3, o4, o5⟩ := J6; have o6 := lts o5; have J6 : Holds2 _ _ _ _ := ⟨o1, o2, o3, o4, o5⟩; clear DV))
      | (go_at_call 100; ((with_reducible refine (BL _ _ BP _).mono ?_); rintro e w6 ⟨rfl, hb6⟩; have J7 := J6.below hb6; obtain ⟨s1, s2, s3, s4, s5⟩ := J7; have s6 := lts s5; have J7 : Holds2 _ _ _ _ := ⟨s1, s2, s3, s4, s5⟩))
      | (go_at_call 100; ((with_reducible refine (BL _ _ BP _).mono ?_); rintro e w8 ⟨rfl, hb8⟩; have I9 := (Holds2.new w6 (.int .u64 0) (.int .u64 q) 163).below hb8; obtain ⟨v1, v2, v3, v4, v5⟩ := I9; have v6 := lts v5; have I9 : Holds2 _ _ _ _ := ⟨v1, v2, v3, v4, v5⟩))
      | (go_at_call 96; ((with_reducible refine (minus_calls BQ0 _).mono ?_); rintro e w9 ⟨zh, zl, BZ, rfl, hb9⟩; have I10 := I9.below hb9; obtain ⟨x1, x2, x3, x4, x5⟩ := I10; have x6 := lts x5))
      | (go_at_call 102; ((with_reducible refine (plain_calls BZ (by omega) (by omega) _).mono ?_); rintro e w10 ⟨rfl, hb10⟩; skip)))
  go_ret2
  refine ⟨rfl, ?_⟩
  have z_hb1 := hb1.size; (try simp at z_hb1); have z_hb2 := hb2.size; (try simp at z_hb2); have z_hb3 := hb3.size; (try simp at z_hb3); have z_hb4 := hb4.size; (try simp at z_hb4); have z_hb5 := hb5.size; (try simp at z_hb5); have z_hb6 := hb6.size; (try simp at z_hb6); have z_hb8 := hb8.size; (try simp at z_hb8); have z_hb9 := hb9.size; (try simp at z_hb9); have z_hb10 := hb10.size; (try simp at z_hb10); (repeat' (first | (with_reducible exact Below.refl _ _) | (with_reducible refine Below.drew ?_) | (with_reducible refine below_drewN ?_ _) | ((with_reducible refine Below.setCell ?_ ?side_ _); case side_ => (first | (with_reducible exact Nat.le_refl _) | (with_reducible assumption) | omega | (simp; done) | (simp; omega))) | ((with_reducible refine Below.alloc ?_ ?side_ _); case side_ => (first | (with_reducible exact Nat.le_refl _) | (with_reducible assumption) | omega | (simp; done) | (simp; omega))) | ((with_reducible refine Below.trans ?_ (hb1.mono ?side_)); case side_ => (first | (with_reducible exact Nat.le_refl _) | (with_reducible assumption) | omega | (simp; done) | (simp; omega))) | ((with_reducible refine Below.trans ?_ (hb2.mono ?side_)); case side_ => (first | (with_reducible exact Nat.le_refl _) | (with_reducible assumption) | omega | (simp; done) | (simp; omega))) | ((with_reducible refine Below.trans ?_ (hb3.mono ?side_)); case side_ => (first | (with_reducible exact Nat.le_refl _) | (with_reducible assumption) | omega | (simp; done) | (simp; omega))) | ((with_reducible refine Below.trans ?_ (hb4.mono ?side_)); case side_ => (first | (with_reducible exact Nat.le_refl _) | (with_reducible assumption) | omega | (simp; done) | (simp; omega))) | ((with_reducible refine Below.trans ?_ (hb5.mono ?side_)); case side_ => (first | (with_reducible exact Nat.le_refl _) | (with_reducible assumption) | omega | (simp; done) | (simp; omega))) | ((with_reducible refine Below.trans ?_ (hb6.mono ?side_)); case side_ => (first | (with_reducible exact Nat.le_refl _) | (with_reducible assumption) | omega | (simp; done) | (simp; omega))) | ((with_reducible refine Below.trans ?_ (hb8.mono ?side_)); case side_ => (first | (with_reducible exact Nat.le_refl _) | (with_reducible assumption) | omega | (simp; done) | (simp; omega))) | ((with_reducible refine Below.trans ?_ (hb9.mono ?side_)); case side_ => (first | (with_reducible exact Nat.le_refl _) | (with_reducible assumption) | omega | (simp; done) | (simp; omega))) | ((with_reducible refine Below.trans ?_ (hb10.mono ?side_)); case side_ => (first | (with_reducible exact Nat.le_refl _) | (with_reducible assumption) | omega | (simp; done) | (simp; omega)))))

set_option maxHeartbeats 4000000 in
theorem md_pos_cp (a b c P M q r d : Int) (w : World)
    (h0 : (c == 0) = false) (hc : 1 ≤ c) (T : ∀ w, Calls Try.prog 95 #[.int .i64 a, .int .i64 b] w (GivesBig (P) w))
    (O : ∀ w, Calls Try.prog 97 #[.int .i64 c] w fun e w' => e = .returned (.agg #[.int .u64 (c / 9223372036854775808 % 18446744073709551616), .int .u64 (c % 18446744073709551616)]) ∧ Below w.heap.size w w')
    (S : ∀ w, Calls Try.prog 98 #[.agg #[.int .u64 (c / 9223372036854775808 % 18446744073709551616), .int .u64 (c % 18446744073709551616)]] w (GivesBig d w)) (d0 : 1 ≤ d) (d1 : d ≤ 9223372036854775808)
    (SP : ∀ ph pl, Big (P) ph pl → ∀ w, Calls Try.prog 98 #[.agg #[.int .u64 ph, .int .u64 pl]] w (GivesBig M w)) (m0 : 0 ≤ M) (m1 : M ≤ 85070591730234615865843651857942052864)
    (hbig : M < d * 18446744073709551616) (DV : ∀ nh nl, Big M nh nl → ∀ w, Calls Try.prog 99 #[.int .u64 nh, .int .u64 nl, .int .u64 d] w fun e w' => e = .returned (.tuple #[.int .u64 q, .int .u64 r]) ∧ Below w.heap.size w w')
    (q0 : 0 ≤ q) (q1 : q ≤ 18446744073709551615) (r0 : 0 ≤ r) (r1 : r < d) (BL : ∀ ph pl, Big (P) ph pl → ∀ w, Calls Try.prog 100 #[.agg #[.int .u64 ph, .int .u64 pl]] w fun e w' => e = .returned (.bool false) ∧ Below w.heap.size w w')
    (hr : (r == d - r) = false) (hr' : 2 * r < d) :
    Calls Try.prog 89 #[.int .i64 a, .int .i64 b, .int .i64 c] w fun e w' => e = .returned (.tuple #[.int .i64 (fitV q), .bool (fitB q)]) ∧ Below w.heap.size w w' := by
  have FL := field_lo
  have BQ0 : Big q 0 q := Big.small q0 q1
  have BO1 : Big 1 0 1 := Big.small (by omega) (by omega)
  go_enter Try.func89, Try.ntmps89
  go_wp2_with (first
      | (go_at_call 95; ((with_reducible refine (T _).mono ?_); rintro e w1 ⟨ph, pl, BP, rfl, hb1⟩; have J0 := Holds2.new w1 (.int .u64 ph) (.int .u64 pl) 163; clear T))
      | (go_at_call 97; ((with_reducible refine (O _).mono ?_); rintro e w2 ⟨rfl, hb2⟩; have J3 := J0.below hb2; clear O))
      | (go_at_call 98; ((with_reducible refine (S _).mono ?_); rintro e w3 ⟨dh, dl, BD, rfl, hb3⟩; obtain rfl := BD.abs_i64 (by omega) (by omega); have J4 := J3.below hb3; obtain ⟨k1, k2, k3, k4, k5⟩ := J4; have k6 := lts k5; have J4 : Holds2 _ _ _ _ := ⟨k1, k2, k3, k4, k5⟩; clear S))
      | (go_at_call 98; ((with_reducible refine (SP _ _ BP _).mono ?_); rintro e w4 ⟨nh, nl, BN, rfl, hb4⟩; have J5 := J4.below hb4; have n0 := BN.h0; have n1 := BN.h1; have n2 := BN.l0; have n3 := BN.l1; have hlt2 : nh < dl := (by have h1 := BN.unsigned m0 (by omega); have h2 := BN.l0; omega); obtain ⟨l1, l2, l3, l4, l5⟩ := J5; have l6 := lts l5; have J5 : Holds2 _ _ _ _ := ⟨l1, l2, l3, l4, l5⟩; clear SP))
      | (go_at_call 99; ((with_reducible refine (DV _ _ BN _).mono ?_); rintro e w5 ⟨rfl, hb5⟩; have J6 := (J5.alloc _).below hb5; obtain ⟨o1, o2, o3, o4, o5⟩ := J6; have o6 := lts o5; have J6 : Holds2 _ _ _ _ := ⟨o1, o2, o3, o4, o5⟩; clear DV))
      | (go_at_call 100; ((with_reducible refine (BL _ _ BP _).mono ?_); rintro e w8 ⟨rfl, hb8⟩; have I9 := (Holds2.new w5 (.int .u64 0) (.int .u64 q) 163).below hb8; obtain ⟨v1, v2, v3, v4, v5⟩ := I9; have v6 := lts v5; have I9 : Holds2 _ _ _ _ := ⟨v1, v2, v3, v4, v5⟩))
      | (go_at_call 102; ((with_reducible refine (plain_calls BQ0 (by omega) (by omega) _).mono ?_); rintro e w10 ⟨rfl, hb10⟩; skip)))
  go_ret2
  refine ⟨rfl, ?_⟩
  have z_hb1 := hb1.size; (try simp at z_hb1); have z_hb2 := hb2.size; (try simp at z_hb2); have z_hb3 := hb3.size; (try simp at z_hb3); have z_hb4 := hb4.size; (try simp at z_hb4); have z_hb5 := hb5.size; (try simp at z_hb5); have z_hb8 := hb8.size; (try simp at z_hb8); have z_hb10 := hb10.size; (try simp at z_hb10); (repeat' (first | (with_reducible exact Below.refl _ _) | (with_reducible refine Below.drew ?_) | (with_reducible refine below_drewN ?_ _) | ((with_reducible refine Below.setCell ?_ ?side_ _); case side_ => (first | (with_reducible exact Nat.le_refl _) | (with_reducible assumption) | omega | (simp; done) | (simp; omega))) | ((with_reducible refine Below.alloc ?_ ?side_ _); case side_ => (first | (with_reducible exact Nat.le_refl _) | (with_reducible assumption) | omega | (simp; done) | (simp; omega))) | ((with_reducible refine Below.trans ?_ (hb1.mono ?side_)); case side_ => (first | (with_reducible exact Nat.le_refl _) | (with_reducible assumption) | omega | (simp; done) | (simp; omega))) | ((with_reducible refine Below.trans ?_ (hb2.mono ?side_)); case side_ => (first | (with_reducible exact Nat.le_refl _) | (with_reducible assumption) | omega | (simp; done) | (simp; omega))) | ((with_reducible refine Below.trans ?_ (hb3.mono ?side_)); case side_ => (first | (with_reducible exact Nat.le_refl _) | (with_reducible assumption) | omega | (simp; done) | (simp; omega))) | ((with_reducible refine Below.trans ?_ (hb4.mono ?side_)); case side_ => (first | (with_reducible exact Nat.le_refl _) | (with_reducible assumption) | omega | (simp; done) | (simp; omega))) | ((with_reducible refine Below.trans ?_ (hb5.mono ?side_)); case side_ => (first | (with_reducible exact Nat.le_refl _) | (with_reducible assumption) | omega | (simp; done) | (simp; omega))) | ((with_reducible refine Below.trans ?_ (hb8.mono ?side_)); case side_ => (first | (with_reducible exact Nat.le_refl _) | (with_reducible assumption) | omega | (simp; done) | (simp; omega))) | ((with_reducible refine Below.trans ?_ (hb10.mono ?side_)); case side_ => (first | (with_reducible exact Nat.le_refl _) | (with_reducible assumption) | omega | (simp; done) | (simp; omega)))))

set_option maxHeartbeats 4000000 in
theorem md_pos_cm (a b c P M q r d : Int) (w : World)
    (h0 : (c == 0) = false) (hc : 1 ≤ c) (T : ∀ w, Calls Try.prog 95 #[.int .i64 a, .int .i64 b] w (GivesBig (P) w))
    (O : ∀ w, Calls Try.prog 97 #[.int .i64 c] w fun e w' => e = .returned (.agg #[.int .u64 (c / 9223372036854775808 % 18446744073709551616), .int .u64 (c % 18446744073709551616)]) ∧ Below w.heap.size w w')
    (S : ∀ w, Calls Try.prog 98 #[.agg #[.int .u64 (c / 9223372036854775808 % 18446744073709551616), .int .u64 (c % 18446744073709551616)]] w (GivesBig d w)) (d0 : 1 ≤ d) (d1 : d ≤ 9223372036854775808)
    (SP : ∀ ph pl, Big (P) ph pl → ∀ w, Calls Try.prog 98 #[.agg #[.int .u64 ph, .int .u64 pl]] w (GivesBig M w)) (m0 : 0 ≤ M) (m1 : M ≤ 85070591730234615865843651857942052864)
    (hbig : M < d * 18446744073709551616) (DV : ∀ nh nl, Big M nh nl → ∀ w, Calls Try.prog 99 #[.int .u64 nh, .int .u64 nl, .int .u64 d] w fun e w' => e = .returned (.tuple #[.int .u64 q, .int .u64 r]) ∧ Below w.heap.size w w')
    (q0 : 0 ≤ q) (q1 : q ≤ 18446744073709551615) (r0 : 0 ≤ r) (r1 : r < d) (BL : ∀ ph pl, Big (P) ph pl → ∀ w, Calls Try.prog 100 #[.agg #[.int .u64 ph, .int .u64 pl]] w fun e w' => e = .returned (.bool true) ∧ Below w.heap.size w w')
    (hr : (r == d - r) = false) (hr' : 2 * r < d) :
    Calls Try.prog 89 #[.int .i64 a, .int .i64 b, .int .i64 c] w fun e w' => e = .returned (.tuple #[.int .i64 (fitV (-q)), .bool (fitB (-q))]) ∧ Below w.heap.size w w' := by
  have FL := field_lo
  have BQ0 : Big q 0 q := Big.small q0 q1
  have BO1 : Big 1 0 1 := Big.small (by omega) (by omega)
  go_enter Try.func89, Try.ntmps89
  go_wp2_with (first
      | (go_at_call 95; ((with_reducible refine (T _).mono ?_); rintro e w1 ⟨ph, pl, BP, rfl, hb1⟩; have J0 := Holds2.new w1 (.int .u64 ph) (.int .u64 pl) 163; clear T))
      | (go_at_call 97; ((with_reducible refine (O _).mono ?_); rintro e w2 ⟨rfl, hb2⟩; have J3 := J0.below hb2; clear O))
      | (go_at_call 98; ((with_reducible refine (S _).mono ?_); rintro e w3 ⟨dh, dl, BD, rfl, hb3⟩; obtain rfl := BD.abs_i64 (by omega) (by omega); have J4 := J3.below hb3; obtain ⟨k1, k2, k3, k4, k5⟩ := J4; have k6 := lts k5; have J4 : Holds2 _ _ _ _ := ⟨k1, k2, k3, k4, k5⟩; clear S))
      | (go_at_call 98; ((with_reducible refine (SP _ _ BP _).mono ?_); rintro e w4 ⟨nh, nl, BN, rfl, hb4⟩; have J5 := J4.below hb4; have n0 := BN.h0; have n1 := BN.h1; have n2 := BN.l0; have n3 := BN.l1; have hlt2 : nh < dl := (by have h1 := BN.unsigned m0 (by omega); have h2 := BN.l0; omega); obtain ⟨l1, l2, l3, l4, l5⟩ := J5; have l6 := lts l5; have J5 : Holds2 _ _ _ _ := ⟨l1, l2, l3, l4, l5⟩; clear SP))
      | (go_at_call 99; ((with_reducible refine (DV _ _ BN _).mono ?_); rintro e w5 ⟨rfl, hb5⟩; have J6 := (J5.alloc _).below hb5; obtain ⟨o1, o2, o3, o4, o5⟩ := J6; have o6 := lts o5; have J6 : Holds2 _ _ _ _ := ⟨o1, o2, o3, o4, o5⟩; clear DV))
      | (go_at_call 100; ((with_reducible refine (BL _ _ BP _).mono ?_); rintro e w8 ⟨rfl, hb8⟩; have I9 := (Holds2.new w5 (.int .u64 0) (.int .u64 q) 163).below hb8; obtain ⟨v1, v2, v3, v4, v5⟩ := I9; have v6 := lts v5; have I9 : Holds2 _ _ _ _ := ⟨v1, v2, v3, v4, v5⟩))
      | (go_at_call 96; ((with_reducible refine (minus_calls BQ0 _).mono ?_); rintro e w9 ⟨zh, zl, BZ, rfl, hb9⟩; have I10 := I9.below hb9; obtain ⟨x1, x2, x3, x4, x5⟩ := I10; have x6 := lts x5))
      | (go_at_call 102; ((with_reducible refine (plain_calls BZ (by omega) (by omega) _).mono ?_); rintro e w10 ⟨rfl, hb10⟩; skip)))
  go_ret2
  refine ⟨rfl, ?_⟩
  have z_hb1 := hb1.size; (try simp at z_hb1); have z_hb2 := hb2.size; (try simp at z_hb2); have z_hb3 := hb3.size; (try simp at z_hb3); have z_hb4 := hb4.size; (try simp at z_hb4); have z_hb5 := hb5.size; (try simp at z_hb5); have z_hb8 := hb8.size; (try simp at z_hb8); have z_hb9 := hb9.size; (try simp at z_hb9); have z_hb10 := hb10.size; (try simp at z_hb10); (repeat' (first | (with_reducible exact Below.refl _ _) | (with_reducible refine Below.drew ?_) | (with_reducible refine below_drewN ?_ _) | ((with_reducible refine Below.setCell ?_ ?side_ _); case side_ => (first | (with_reducible exact Nat.le_refl _) | (with_reducible assumption) | omega | (simp; done) | (simp; omega))) | ((with_reducible refine Below.alloc ?_ ?side_ _); case side_ => (first | (with_reducible exact Nat.le_refl _) | (with_reducible assumption) | omega | (simp; done) | (simp; omega))) | ((with_reducible refine Below.trans ?_ (hb1.mono ?side_)); case side_ => (first | (with_reducible exact Nat.le_refl _) | (with_reducible assumption) | omega | (simp; done) | (simp; omega))) | ((with_reducible refine Below.trans ?_ (hb2.mono ?side_)); case side_ => (first | (with_reducible exact Nat.le_refl _) | (with_reducible assumption) | omega | (simp; done) | (simp; omega))) | ((with_reducible refine Below.trans ?_ (hb3.mono ?side_)); case side_ => (first | (with_reducible exact Nat.le_refl _) | (with_reducible assumption) | omega | (simp; done) | (simp; omega))) | ((with_reducible refine Below.trans ?_ (hb4.mono ?side_)); case side_ => (first | (with_reducible exact Nat.le_refl _) | (with_reducible assumption) | omega | (simp; done) | (simp; omega))) | ((with_reducible refine Below.trans ?_ (hb5.mono ?side_)); case side_ => (first | (with_reducible exact Nat.le_refl _) | (with_reducible assumption) | omega | (simp; done) | (simp; omega))) | ((with_reducible refine Below.trans ?_ (hb8.mono ?side_)); case side_ => (first | (with_reducible exact Nat.le_refl _) | (with_reducible assumption) | omega | (simp; done) | (simp; omega))) | ((with_reducible refine Below.trans ?_ (hb9.mono ?side_)); case side_ => (first | (with_reducible exact Nat.le_refl _) | (with_reducible assumption) | omega | (simp; done) | (simp; omega))) | ((with_reducible refine Below.trans ?_ (hb10.mono ?side_)); case side_ => (first | (with_reducible exact Nat.le_refl _) | (with_reducible assumption) | omega | (simp; done) | (simp; omega)))))

end Go.Proofs.Ytejcjonlnijbkaa.Wide

/- Package wide's MulDiv, walked: the ways through it, of a divisor below 0. For all arguments. -/
namespace Go.Proofs.Ytejcjonlnijbkaa.Wide
open Go Go.RowKit
set_option maxRecDepth 100000
set_option linter.unusedVariables false
set_option linter.unusedSimpArgs false

set_option maxHeartbeats 4000000 in
theorem md_neg_big (a b c P M q r d : Int) (w : World)
    (h0 : (c == 0) = false) (hc : c ≤ -1) (T : ∀ w, Calls Try.prog 95 #[.int .i64 a, .int .i64 b] w (GivesBig (-P) w))
    (O : ∀ w, Calls Try.prog 97 #[.int .i64 c] w fun e w' => e = .returned (.agg #[.int .u64 (c / 9223372036854775808 % 18446744073709551616), .int .u64 (c % 18446744073709551616)]) ∧ Below w.heap.size w w')
    (S : ∀ w, Calls Try.prog 98 #[.agg #[.int .u64 (c / 9223372036854775808 % 18446744073709551616), .int .u64 (c % 18446744073709551616)]] w (GivesBig d w)) (d0 : 1 ≤ d) (d1 : d ≤ 9223372036854775808)
    (SP : ∀ ph pl, Big (- -P) ph pl → ∀ w, Calls Try.prog 98 #[.agg #[.int .u64 ph, .int .u64 pl]] w (GivesBig M w)) (m0 : 0 ≤ M) (m1 : M ≤ 85070591730234615865843651857942052864)
    (hbig : d * 18446744073709551616 ≤ M) :
    Calls Try.prog 89 #[.int .i64 a, .int .i64 b, .int .i64 c] w fun e w' => e = .returned (.tuple #[.int .i64 0, .bool false]) ∧ Below w.heap.size w w' := by
  have FL := field_lo
  go_enter Try.func89, Try.ntmps89
  go_wp2_with (first
      | (go_at_call 95; ((with_reducible refine (T _).mono ?_); rintro e w1 ⟨ph, pl, BP, rfl, hb1⟩; have J0 := Holds2.new w1 (.int .u64 ph) (.int .u64 pl) 163; clear T))
      | (go_at_call 96; ((with_reducible refine (minus_calls BP _).mono ?_); rintro e wm ⟨mh, ml, BQ, rfl, hbm⟩; have J1 := J0.below hbm; obtain ⟨j1, j2, j3, j4, j5⟩ := J1; have j6 := lts j5; have J2 := Holds2.set ⟨j1, j2, j3, j4, j5⟩ (.int .u64 mh) (.int .u64 ml)))
      | (go_at_call 97; ((with_reducible refine (O _).mono ?_); rintro e w2 ⟨rfl, hb2⟩; have J3 := J2.below hb2; clear O))
      | (go_at_call 98; ((with_reducible refine (S _).mono ?_); rintro e w3 ⟨dh, dl, BD, rfl, hb3⟩; obtain rfl := BD.abs_i64 (by omega) (by omega); have J4 := J3.below hb3; obtain ⟨k1, k2, k3, k4, k5⟩ := J4; have k6 := lts k5; have J4 : Holds2 _ _ _ _ := ⟨k1, k2, k3, k4, k5⟩; clear S))
      | (go_at_call 98; ((with_reducible refine (SP _ _ BQ _).mono ?_); rintro e w4 ⟨nh, nl, BN, rfl, hb4⟩; have J5 := J4.below hb4; have n0 := BN.h0; have n1 := BN.h1; have n2 := BN.l0; have n3 := BN.l1; have hge : dl ≤ nh := (by have h1 := BN.unsigned m0 (by omega); have h2 := BN.l1; omega); obtain ⟨l1, l2, l3, l4, l5⟩ := J5; have l6 := lts l5; have J5 : Holds2 _ _ _ _ := ⟨l1, l2, l3, l4, l5⟩; clear SP)))
  go_ret2
  refine ⟨rfl, ?_⟩
  have z_hb1 := hb1.size; (try simp at z_hb1); have z_hbm := hbm.size; (try simp at z_hbm); have z_hb2 := hb2.size; (try simp at z_hb2); have z_hb3 := hb3.size; (try simp at z_hb3); have z_hb4 := hb4.size; (try simp at z_hb4); (repeat' (first | (with_reducible exact Below.refl _ _) | (with_reducible refine Below.drew ?_) | (with_reducible refine below_drewN ?_ _) | ((with_reducible refine Below.setCell ?_ ?side_ _); case side_ => (first | (with_reducible exact Nat.le_refl _) | (with_reducible assumption) | omega | (simp; done) | (simp; omega))) | ((with_reducible refine Below.alloc ?_ ?side_ _); case side_ => (first | (with_reducible exact Nat.le_refl _) | (with_reducible assumption) | omega | (simp; done) | (simp; omega))) | ((with_reducible refine Below.trans ?_ (hb1.mono ?side_)); case side_ => (first | (with_reducible exact Nat.le_refl _) | (with_reducible assumption) | omega | (simp; done) | (simp; omega))) | ((with_reducible refine Below.trans ?_ (hbm.mono ?side_)); case side_ => (first | (with_reducible exact Nat.le_refl _) | (with_reducible assumption) | omega | (simp; done) | (simp; omega))) | ((with_reducible refine Below.trans ?_ (hb2.mono ?side_)); case side_ => (first | (with_reducible exact Nat.le_refl _) | (with_reducible assumption) | omega | (simp; done) | (simp; omega))) | ((with_reducible refine Below.trans ?_ (hb3.mono ?side_)); case side_ => (first | (with_reducible exact Nat.le_refl _) | (with_reducible assumption) | omega | (simp; done) | (simp; omega))) | ((with_reducible refine Below.trans ?_ (hb4.mono ?side_)); case side_ => (first | (with_reducible exact Nat.le_refl _) | (with_reducible assumption) | omega | (simp; done) | (simp; omega)))))

set_option maxHeartbeats 4000000 in
theorem md_neg_ap (a b c P M q r d : Int) (w : World)
    (h0 : (c == 0) = false) (hc : c ≤ -1) (T : ∀ w, Calls Try.prog 95 #[.int .i64 a, .int .i64 b] w (GivesBig (-P) w))
    (O : ∀ w, Calls Try.prog 97 #[.int .i64 c] w fun e w' => e = .returned (.agg #[.int .u64 (c / 9223372036854775808 % 18446744073709551616), .int .u64 (c % 18446744073709551616)]) ∧ Below w.heap.size w w')
    (S : ∀ w, Calls Try.prog 98 #[.agg #[.int .u64 (c / 9223372036854775808 % 18446744073709551616), .int .u64 (c % 18446744073709551616)]] w (GivesBig d w)) (d0 : 1 ≤ d) (d1 : d ≤ 9223372036854775808)
    (SP : ∀ ph pl, Big (- -P) ph pl → ∀ w, Calls Try.prog 98 #[.agg #[.int .u64 ph, .int .u64 pl]] w (GivesBig M w)) (m0 : 0 ≤ M) (m1 : M ≤ 85070591730234615865843651857942052864)
    (hbig : M < d * 18446744073709551616) (DV : ∀ nh nl, Big M nh nl → ∀ w, Calls Try.prog 99 #[.int .u64 nh, .int .u64 nl, .int .u64 d] w fun e w' => e = .returned (.tuple #[.int .u64 q, .int .u64 r]) ∧ Below w.heap.size w w')
    (q0 : 0 ≤ q) (q1 : q ≤ 18446744073709551615) (r0 : 0 ≤ r) (r1 : r < d) (BL : ∀ ph pl, Big (- -P) ph pl → ∀ w, Calls Try.prog 100 #[.agg #[.int .u64 ph, .int .u64 pl]] w fun e w' => e = .returned (.bool false) ∧ Below w.heap.size w w')
    (hr : d < 2 * r) :
    Calls Try.prog 89 #[.int .i64 a, .int .i64 b, .int .i64 c] w fun e w' => e = .returned (.tuple #[.int .i64 (fitV (q + 1)), .bool (fitB (q + 1))]) ∧ Below w.heap.size w w' := by
  have FL := field_lo
  have BQ0 : Big q 0 q := Big.small q0 q1
  have BO1 : Big 1 0 1 := Big.small (by omega) (by omega)
  go_enter Try.func89, Try.ntmps89
  go_wp2_with (first
      | (go_at_call 95; ((with_reducible refine (T _).mono ?_); rintro e w1 ⟨ph, pl, BP, rfl, hb1⟩; have J0 := Holds2.new w1 (.int .u64 ph) (.int .u64 pl) 163; clear T))
      | (go_at_call 96; ((with_reducible refine (minus_calls BP _).mono ?_); rintro e wm ⟨mh, ml, BQ, rfl, hbm⟩; have J1 := J0.below hbm; obtain ⟨j1, j2, j3, j4, j5⟩ := J1; have j6 := lts j5; have J2 := Holds2.set ⟨j1, j2, j3, j4, j5⟩ (.int .u64 mh) (.int .u64 ml)))
      | (go_at_call 97; ((with_reducible refine (O _).mono ?_); rintro e w2 ⟨rfl, hb2⟩; have J3 := J2.below hb2; clear O))
      | (go_at_call 98; ((with_reducible refine (S _).mono ?_); rintro e w3 ⟨dh, dl, BD, rfl, hb3⟩; obtain rfl := BD.abs_i64 (by omega) (by omega); have J4 := J3.below hb3; obtain ⟨k1, k2, k3, k4, k5⟩ := J4; have k6 := lts k5; have J4 : Holds2 _ _ _ _ := ⟨k1, k2, k3, k4, k5⟩; clear S))
      | (go_at_call 98; ((with_reducible refine (SP _ _ BQ _).mono ?_); rintro e w4 ⟨nh, nl, BN, rfl, hb4⟩; have J5 := J4.below hb4; have n0 := BN.h0; have n1 := BN.h1; have n2 := BN.l0; have n3 := BN.l1; have hlt2 : nh < dl := (by have h1 := BN.unsigned m0 (by omega); have h2 := BN.l0; omega); obtain ⟨l1, l2, l3, l4, l5⟩ := J5; have l6 := lts l5; have J5 : Holds2 _ _ _ _ := ⟨l1, l2, l3, l4, l5⟩; clear SP))
      | (go_at_call 99; ((with_reducible refine (DV _ _ BN _).mono ?_); rintro e w5 ⟨rfl, hb5⟩; have J6 := (J5.alloc _).below hb5; obtain ⟨o1, o2, o3, o4, o5⟩ := J6; have o6 := lts o5; have J6 : Holds2 _ _ _ _ := ⟨o1, o2, o3, o4, o5⟩; clear DV))
      | (go_at_call 101; ((with_reducible refine (add_calls BQ0 BO1 _).mono ?_); rintro e w7 ⟨qh, ql, BR, rfl, hb7⟩; have J8 := (J6.alloc (.cells #[.int .u64 0, .int .u64 q] 163)).below hb7; have I8 := (Holds2.new w5 (.int .u64 0) (.int .u64 q) 163).below hb7; obtain ⟨t1, t2, t3, t4, t5⟩ := J8; have t6 := lts t5; obtain ⟨u1, u2, u3, u4, u5⟩ := I8; have u6 := lts u5; have I8 := Holds2.set ⟨u1, u2, u3, u4, u5⟩ (.int .u64 qh) (.int .u64 ql); have J8 := Holds2.other ⟨t1, t2, t3, t4, t5⟩ (Nat.ne_of_gt (J6.2.2.2.2)) (.int .u64 qh) (.int .u64 ql)))
      | (go_at_call 100; ((with_reducible refine (BL _ _ BQ _).mono ?_); rintro e w8 ⟨rfl, hb8⟩; have I9 := I8.below hb8; obtain ⟨v1, v2, v3, v4, v5⟩ := I9; have v6 := lts v5; have I9 : Holds2 _ _ _ _ := ⟨v1, v2, v3, v4, v5⟩))
      | (go_at_call 102; ((with_reducible refine (plain_calls BR (by omega) (by omega) _).mono ?_); rintro e w10 ⟨rfl, hb10⟩; skip)))
  go_ret2
  refine ⟨rfl, ?_⟩
  have z_hb1 := hb1.size; (try simp at z_hb1); have z_hbm := hbm.size; (try simp at z_hbm); have z_hb2 := hb2.size; (try simp at z_hb2); have z_hb3 := hb3.size; (try simp at z_hb3); have z_hb4 := hb4.size; (try simp at z_hb4); have z_hb5 := hb5.size; (try simp at z_hb5); have z_hb7 := hb7.size; (try simp at z_hb7); have z_hb8 := hb8.size; (try simp at z_hb8); have z_hb10 := hb10.size; (try simp at z_hb10); (repeat' (first | (with_reducible exact Below.refl _ _) | (with_reducible refine Below.drew ?_) | (with_reducible refine below_drewN ?_ _) | ((with_reducible refine Below.setCell ?_ ?side_ _); case side_ => (first | (with_reducible exact Nat.le_refl _) | (with_reducible assumption) | omega | (simp; done) | (simp; omega))) | ((with_reducible refine Below.alloc ?_ ?side_ _); case side_ => (first | (with_reducible exact Nat.le_refl _) | (with_reducible assumption) | omega | (simp; done) | (simp; omega))) | ((with_reducible refine Below.trans ?_ (hb1.mono ?side_)); case side_ => (first | (with_reducible exact Nat.le_refl _) | (with_reducible assumption) | omega | (simp; done) | (simp; omega))) | ((with_reducible refine Below.trans ?_ (hbm.mono ?side_)); case side_ => (first | (with_reducible exact Nat.le_refl _) | (with_reducible assumption) | omega | (simp; done) | (simp; omega))) | ((with_reducible refine Below.trans ?_ (hb2.mono ?side_)); case side_ => (first | (with_reducible exact Nat.le_refl _) | (with_reducible assumption) | omega | (simp; done) | (simp; omega))) | ((with_reducible refine Below.trans ?_ (hb3.mono ?side_)); case side_ => (first | (with_reducible exact Nat.le_refl _) | (with_reducible assumption) | omega | (simp; done) | (simp; omega))) | ((with_reducible refine Below.trans ?_ (hb4.mono ?side_)); case side_ => (first | (with_reducible exact Nat.le_refl _) | (with_reducible assumption) | omega | (simp; done) | (simp; omega))) | ((with_reducible refine Below.trans ?_ (hb5.mono ?side_)); case side_ => (first | (with_reducible exact Nat.le_refl _) | (with_reducible assumption) | omega | (simp; done) | (simp; omega))) | ((with_reducible refine Below.trans ?_ (hb7.mono ?side_)); case side_ => (first | (with_reducible exact Nat.le_refl _) | (with_reducible assumption) | omega | (simp; done) | (simp; omega))) | ((with_reducible refine Below.trans ?_ (hb8.mono ?side_)); case side_ => (first | (with_reducible exact Nat.le_refl _) | (with_reducible assumption) | omega | (simp; done) | (simp; omega))) | ((with_reducible refine Below.trans ?_ (hb10.mono ?side_)); case side_ => (first | (with_reducible exact Nat.le_refl _) | (with_reducible assumption) | omega | (simp; done) | (simp; omega)))))

set_option maxHeartbeats 4000000 in
theorem md_neg_am (a b c P M q r d : Int) (w : World)
    (h0 : (c == 0) = false) (hc : c ≤ -1) (T : ∀ w, Calls Try.prog 95 #[.int .i64 a, .int .i64 b] w (GivesBig (-P) w))
    (O : ∀ w, Calls Try.prog 97 #[.int .i64 c] w fun e w' => e = .returned (.agg #[.int .u64 (c / 9223372036854775808 % 18446744073709551616), .int .u64 (c % 18446744073709551616)]) ∧ Below w.heap.size w w')
    (S : ∀ w, Calls Try.prog 98 #[.agg #[.int .u64 (c / 9223372036854775808 % 18446744073709551616), .int .u64 (c % 18446744073709551616)]] w (GivesBig d w)) (d0 : 1 ≤ d) (d1 : d ≤ 9223372036854775808)
    (SP : ∀ ph pl, Big (- -P) ph pl → ∀ w, Calls Try.prog 98 #[.agg #[.int .u64 ph, .int .u64 pl]] w (GivesBig M w)) (m0 : 0 ≤ M) (m1 : M ≤ 85070591730234615865843651857942052864)
    (hbig : M < d * 18446744073709551616) (DV : ∀ nh nl, Big M nh nl → ∀ w, Calls Try.prog 99 #[.int .u64 nh, .int .u64 nl, .int .u64 d] w fun e w' => e = .returned (.tuple #[.int .u64 q, .int .u64 r]) ∧ Below w.heap.size w w')
    (q0 : 0 ≤ q) (q1 : q ≤ 18446744073709551615) (r0 : 0 ≤ r) (r1 : r < d) (BL : ∀ ph pl, Big (- -P) ph pl → ∀ w, Calls Try.prog 100 #[.agg #[.int .u64 ph, .int .u64 pl]] w fun e w' => e = .returned (.bool true) ∧ Below w.heap.size w w')
    (hr : d < 2 * r) :
    Calls Try.prog 89 #[.int .i64 a, .int .i64 b, .int .i64 c] w fun e w' => e = .returned (.tuple #[.int .i64 (fitV (-(q + 1))), .bool (fitB (-(q + 1)))]) ∧ Below w.heap.size w w' := by
  have FL := field_lo
  have BQ0 : Big q 0 q := Big.small q0 q1
  have BO1 : Big 1 0 1 := Big.small (by omega) (by omega)
  go_enter Try.func89, Try.ntmps89
  go_wp2_with (first
      | (go_at_call 95; ((with_reducible refine (T _).mono ?_); rintro e w1 ⟨ph, pl, BP, rfl, hb1⟩; have J0 := Holds2.new w1 (.int .u64 ph) (.int .u64 pl) 163; clear T))
      | (go_at_call 96; ((with_reducible refine (minus_calls BP _).mono ?_); rintro e wm ⟨mh, ml, BQ, rfl, hbm⟩; have J1 := J0.below hbm; obtain ⟨j1, j2, j3, j4, j5⟩ := J1; have j6 := lts j5; have J2 := Holds2.set ⟨j1, j2, j3, j4, j5⟩ (.int .u64 mh) (.int .u64 ml)))
      | (go_at_call 97; ((with_reducible refine (O _).mono ?_); rintro e w2 ⟨rfl, hb2⟩; have J3 := J2.below hb2; clear O))
      | (go_at_call 98; ((with_reducible refine (S _).mono ?_); rintro e w3 ⟨dh, dl, BD, rfl, hb3⟩; obtain rfl := BD.abs_i64 (by omega) (by omega); have J4 := J3.below hb3; obtain ⟨k1, k2, k3, k4, k5⟩ := J4; have k6 := lts k5; have J4 : Holds2 _ _ _ _ := ⟨k1, k2, k3, k4, k5⟩; clear S))
      | (go_at_call 98; ((with_reducible refine (SP _ _ BQ _).mono ?_); rintro e w4 ⟨nh, nl, BN, rfl, hb4⟩; have J5 := J4.below hb4; have n0 := BN.h0; have n1 := BN.h1; have n2 := BN.l0; have n3 := BN.l1; have hlt2 : nh < dl := (by have h1 := BN.unsigned m0 (by omega); have h2 := BN.l0; omega); obtain ⟨l1, l2, l3, l4, l5⟩ := J5; have l6 := lts l5; have J5 : Holds2 _ _ _ _ := ⟨l1, l2, l3, l4, l5⟩; clear SP))
      | (go_at_call 99; ((with_reducible refine (DV _ _ BN _).mono ?_); rintro e w5 ⟨rfl, hb5⟩; have J6 := (J5.alloc _).below hb5; obtain ⟨o1, o2, o3, o4, o5⟩ := J6; have o6 := lts o5; have J6 : Holds2 _ _ _ _ := ⟨o1, o2, o3, o4, o5⟩; clear DV))
      | (go_at_call 101; ((with_reducible refine (add_calls BQ0 BO1 _).mono ?_); rintro e w7 ⟨qh, ql, BR, rfl, hb7⟩; have J8 := (J6.alloc (.cells #[.int .u64 0, .int .u64 q] 163)).below hb7; have I8 := (Holds2.new w5 (.int .u64 0) (.int .u64 q) 163).below hb7; obtain ⟨t1, t2, t3, t4, t5⟩ := J8; have t6 := lts t5; obtain ⟨u1, u2, u3, u4, u5⟩ := I8; have u6 := lts u5; have I8 := Holds2.set ⟨u1, u2, u3, u4, u5⟩ (.int .u64 qh) (.int .u64 ql); have J8 := Holds2.other ⟨t1, t2, t3, t4, t5⟩ (Nat.ne_of_gt (J6.2.2.2.2)) (.int .u64 qh) (.int .u64 ql)))
      | (go_at_call 100; ((with_reducible refine (BL _ _ BQ _).mono ?_); rintro e w8 ⟨rfl, hb8⟩; have I9 := I8.below hb8; obtain ⟨v1, v2, v3, v4, v5⟩ := I9; have v6 := lts v5; have I9 : Holds2 _ _ _ _ := ⟨v1, v2, v3, v4, v5⟩))
      | (go_at_call 96; ((with_reducible refine (minus_calls BR _).mono ?_); rintro e w9 ⟨zh, zl, BZ, rfl, hb9⟩; have I10 := I9.below hb9; obtain ⟨x1, x2, x3, x4, x5⟩ := I10; have x6 := lts x5))
      | (go_at_call 102; ((with_reducible refine (plain_calls BZ (by omega) (by omega) _).mono ?_); rintro e w10 ⟨rfl, hb10⟩; skip)))
  go_ret2
  refine ⟨rfl, ?_⟩
  have z_hb1 := hb1.size; (try simp at z_hb1); have z_hbm := hbm.size; (try simp at z_hbm); have z_hb2 := hb2.size; (try simp at z_hb2); have z_hb3 := hb3.size; (try simp at z_hb3); have z_hb4 := hb4.size; (try simp at z_hb4); have z_hb5 := hb5.size; (try simp at z_hb5); have z_hb7 := hb7.size; (try simp at z_hb7); have z_hb8 := hb8.size; (try simp at z_hb8); have z_hb9 := hb9.size; (try simp at z_hb9); have z_hb10 := hb10.size; (try simp at z_hb10); (repeat' (first | (with_reducible exact Below.refl _ _) | (with_reducible refine Below.drew ?_) | (with_reducible refine below_drewN ?_ _) | ((with_reducible refine Below.setCell ?_ ?side_ _); case side_ => (first | (with_reducible exact Nat.le_refl _) | (with_reducible assumption) | omega | (simp; done) | (simp; omega))) | ((with_reducible refine Below.alloc ?_ ?side_ _); case side_ => (first | (with_reducible exact Nat.le_refl _) | (with_reducible assumption) | omega | (simp; done) | (simp; omega))) | ((with_reducible refine Below.trans ?_ (hb1.mono ?side_)); case side_ => (first | (with_reducible exact Nat.le_refl _) | (with_reducible assumption) | omega | (simp; done) | (simp; omega))) | ((with_reducible refine Below.trans ?_ (hbm.mono ?side_)); case side_ => (first | (with_reducible exact Nat.le_refl _) | (with_reducible assumption) | omega | (simp; done) | (simp; omega))) | ((with_reducible refine Below.trans ?_ (hb2.mono ?side_)); case side_ => (first | (with_reducible exact Nat.le_refl _) | (with_reducible assumption) | omega | (simp; done) | (simp; omega))) | ((with_reducible refine Below.trans ?_ (hb3.mono ?side_)); case side_ => (first | (with_reducible exact Nat.le_refl _) | (with_reducible assumption) | omega | (simp; done) | (simp; omega))) | ((with_reducible refine Below.trans ?_ (hb4.mono ?side_)); case side_ => (first | (with_reducible exact Nat.le_refl _) | (with_reducible assumption) | omega | (simp; done) | (simp; omega))) | ((with_reducible refine Below.trans ?_ (hb5.mono ?side_)); case side_ => (first | (with_reducible exact Nat.le_refl _) | (with_reducible assumption) | omega | (simp; done) | (simp; omega))) | ((with_reducible refine Below.trans ?_ (hb7.mono ?side_)); case side_ => (first | (with_reducible exact Nat.le_refl _) | (with_reducible assumption) | omega | (simp; done) | (simp; omega))) | ((with_reducible refine Below.trans ?_ (hb8.mono ?side_)); case side_ => (first | (with_reducible exact Nat.le_refl _) | (with_reducible assumption) | omega | (simp; done) | (simp; omega))) | ((with_reducible refine Below.trans ?_ (hb9.mono ?side_)); case side_ => (first | (with_reducible exact Nat.le_refl _) | (with_reducible assumption) | omega | (simp; done) | (simp; omega))) | ((with_reducible refine Below.trans ?_ (hb10.mono ?side_)); case side_ => (first | (with_reducible exact Nat.le_refl _) | (with_reducible assumption) | omega | (simp; done) | (simp; omega)))))

set_option maxHeartbeats 4000000 in
theorem md_neg_bp (a b c P M q r d : Int) (w : World)
    (h0 : (c == 0) = false) (hc : c ≤ -1) (T : ∀ w, Calls Try.prog 95 #[.int .i64 a, .int .i64 b] w (GivesBig (-P) w))
    (O : ∀ w, Calls Try.prog 97 #[.int .i64 c] w fun e w' => e = .returned (.agg #[.int .u64 (c / 9223372036854775808 % 18446744073709551616), .int .u64 (c % 18446744073709551616)]) ∧ Below w.heap.size w w')
    (S : ∀ w, Calls Try.prog 98 #[.agg #[.int .u64 (c / 9223372036854775808 % 18446744073709551616), .int .u64 (c % 18446744073709551616)]] w (GivesBig d w)) (d0 : 1 ≤ d) (d1 : d ≤ 9223372036854775808)
    (SP : ∀ ph pl, Big (- -P) ph pl → ∀ w, Calls Try.prog 98 #[.agg #[.int .u64 ph, .int .u64 pl]] w (GivesBig M w)) (m0 : 0 ≤ M) (m1 : M ≤ 85070591730234615865843651857942052864)
    (hbig : M < d * 18446744073709551616) (DV : ∀ nh nl, Big M nh nl → ∀ w, Calls Try.prog 99 #[.int .u64 nh, .int .u64 nl, .int .u64 d] w fun e w' => e = .returned (.tuple #[.int .u64 q, .int .u64 r]) ∧ Below w.heap.size w w')
    (q0 : 0 ≤ q) (q1 : q ≤ 18446744073709551615) (r0 : 0 ≤ r) (r1 : r < d) (BL : ∀ ph pl, Big (- -P) ph pl → ∀ w, Calls Try.prog 100 #[.agg #[.int .u64 ph, .int .u64 pl]] w fun e w' => e = .returned (.bool false) ∧ Below w.heap.size w w')
    (hr : (r == d - r) = true) (hr' : d - r ≤ r) (hr'' : r ≤ d - r) :
    Calls Try.prog 89 #[.int .i64 a, .int .i64 b, .int .i64 c] w fun e w' => e = .returned (.tuple #[.int .i64 (fitV (q + 1)), .bool (fitB (q + 1))]) ∧ Below w.heap.size w w' := by
  have FL := field_lo
  have BQ0 : Big q 0 q := Big.small q0 q1
  have BO1 : Big 1 0 1 := Big.small (by omega) (by omega)
  go_enter Try.func89, Try.ntmps89
  go_wp2_with (first
      | (go_at_call 95; ((with_reducible refine (T _).mono ?_); rintro e w1 ⟨ph, pl, BP, rfl, hb1⟩; have J0 := Holds2.new w1 (.int .u64 ph) (.int .u64 pl) 163; clear T))
      | (go_at_call 96; ((with_reducible refine (minus_calls BP _).mono ?_); rintro e wm ⟨mh, ml, BQ, rfl, hbm⟩; have J1 := J0.below hbm; obtain ⟨j1, j2, j3, j4, j5⟩ := J1; have j6 := lts j5; have J2 := Holds2.set ⟨j1, j2, j3, j4, j5⟩ (.int .u64 mh) (.int .u64 ml)))
      | (go_at_call 97; ((with_reducible refine (O _).mono ?_); rintro e w2 ⟨rfl, hb2⟩; have J3 := J2.below hb2; clear O))
      | (go_at_call 98; ((with_reducible refine (S _).mono ?_); rintro e w3 ⟨dh, dl, BD, rfl, hb3⟩; obtain rfl := BD.abs_i64 (by omega) (by omega); have J4 := J3.below hb3; obtain ⟨k1, k2, k3, k4, k5⟩ := J4; have k6 := lts k5; have J4 : Holds2 _ _ _ _ := ⟨k1, k2, k3, k4, k5⟩; clear S))
      | (go_at_call 98; ((with_reducible refine (SP _ _ BQ _).mono ?_); rintro e w4 ⟨nh, nl, BN, rfl, hb4⟩; have J5 := J4.below hb4; have n0 := BN.h0; have n1 := BN.h1; have n2 := BN.l0; have n3 := BN.l1; have hlt2 : nh < dl := (by have h1 := BN.unsigned m0 (by omega); have h2 := BN.l0; omega); obtain ⟨l1, l2, l3, l4, l5⟩ := J5; have l6 := lts l5; have J5 : Holds2 _ _ _ _ := ⟨l1, l2, l3, l4, l5⟩; clear SP))
      | (go_at_call 99; ((with_reducible refine (DV _ _ BN _).mono ?_); rintro e w5 ⟨rfl, hb5⟩; have J6 := (J5.alloc _).below hb5; obtain ⟨o1, o2, o3, o4, o5⟩ := J6; have o6 := lts o5; have J6 : Holds2 _ _ _ _ := ⟨o1, o2, o3, o4, o5⟩; clear DV))
      | (go_at_call 100; ((with_reducible refine (BL _ _ BQ _).mono ?_); rintro e w6 ⟨rfl, hb6⟩; have J7 := J6.below hb6; obtain ⟨s1, s2, s3, s4, s5⟩ := J7; have s6 := lts s5; have J7 : Holds2 _ _ _ _ := ⟨s1, s2, s3, s4, s5⟩))
      | (go_at_call 101; ((with_reducible refine (add_calls BQ0 BO1 _).mono ?_); rintro e w7 ⟨qh, ql, BR, rfl, hb7⟩; have J8 := (J7.alloc (.cells #[.int .u64 0, .int .u64 q] 163)).below hb7; have I8 := (Holds2.new w6 (.int .u64 0) (.int .u64 q) 163).below hb7; obtain ⟨t1, t2, t3, t4, t5⟩ := J8; have t6 := lts t5; obtain ⟨u1, u2, u3, u4, u5⟩ := I8; have u6 := lts u5; have I8 := Holds2.set ⟨u1, u2, u3, u4, u5⟩ (.int .u64 qh) (.int .u64 ql); have J8 := Holds2.other ⟨t1, t2, t3, t4, t5⟩ (Nat.ne_of_gt (J7.2.2.2.2)) (.int .u64 qh) (.int .u64 ql)))
      | (go_at_call 100; ((with_reducible refine (BL _ _ BQ _).mono ?_); rintro e w8 ⟨rfl, hb8⟩; have I9 := I8.below hb8; obtain ⟨v1, v2, v3, v4, v5⟩ := I9; have v6 := lts v5; have I9 : Holds2 _ _ _ _ := ⟨v1, v2, v3, v4, v5⟩))
      | (go_at_call 102; ((with_reducible refine (plain_calls BR (by omega) (by omega) _).mono ?_); rintro e w10 ⟨rfl, hb10⟩; skip)))
  go_ret2
  refine ⟨rfl, ?_⟩
  have z_hb1 := hb1.size; (try simp at z_hb1); have z_hbm := hbm.size; (try simp at z_hbm); have z_hb2 := hb2.size; (try simp at z_hb2); have z_hb3 := hb3.size; (try simp at z_hb3); have z_hb4 := hb4.size; (try simp at z_hb4); have z_hb5 := hb5.size; (try simp at z_hb5); have z_hb6 := hb6.size; (try simp at z_hb6); have z_hb7 := hb7.size; (try simp at z_hb7); have z_hb8 := hb8.size; (try simp at z_hb8); have z_hb10 := hb10.size; (try simp at z_hb10); (repeat' (first | (with_reducible exact Below.refl _ _) | (with_reducible refine Below.drew ?_) | (with_reducible refine below_drewN ?_ _) | ((with_reducible refine Below.setCell ?_ ?side_ _); case side_ => (first | (with_reducible exact Nat.le_refl _) | (with_reducible assumption) | omega | (simp; done) | (simp; omega))) | ((with_reducible refine Below.alloc ?_ ?side_ _); case side_ => (first | (with_reducible exact Nat.le_refl _) | (with_reducible assumption) | omega | (simp; done) | (simp; omega))) | ((with_reducible refine Below.trans ?_ (hb1.mono ?side_)); case side_ => (first | (with_reducible exact Nat.le_refl _) | (with_reducible assumption) | omega | (simp; done) | (simp; omega))) | ((with_reducible refine Below.trans ?_ (hbm.mono ?side_)); case side_ => (first | (with_reducible exact Nat.le_refl _) | (with_reducible assumption) | omega | (simp; done) | (simp; omega))) | ((with_reducible refine Below.trans ?_ (hb2.mono ?side_)); case side_ => (first | (with_reducible exact Nat.le_refl _) | (with_reducible assumption) | omega | (simp; done) | (simp; omega))) | ((with_reducible refine Below.trans ?_ (hb3.mono ?side_)); case side_ => (first | (with_reducible exact Nat.le_refl _) | (with_reducible assumption) | omega | (simp; done) | (simp; omega))) | ((with_reducible refine Below.trans ?_ (hb4.mono ?side_)); case side_ => (first | (with_reducible exact Nat.le_refl _) | (with_reducible assumption) | omega | (simp; done) | (simp; omega))) | ((with_reducible refine Below.trans ?_ (hb5.mono ?side_)); case side_ => (first | (with_reducible exact Nat.le_refl _) | (with_reducible assumption) | omega | (simp; done) | (simp; omega))) | ((with_reducible refine Below.trans ?_ (hb6.mono ?side_)); case side_ => (first | (with_reducible exact Nat.le_refl _) | (with_reducible assumption) | omega | (simp; done) | (simp; omega))) | ((with_reducible refine Below.trans ?_ (hb7.mono ?side_)); case side_ => (first | (with_reducible exact Nat.le_refl _) | (with_reducible assumption) | omega | (simp; done) | (simp; omega))) | ((with_reducible refine Below.trans ?_ (hb8.mono ?side_)); case side_ => (first | (with_reducible exact Nat.le_refl _) | (with_reducible assumption) | omega | (simp; done) | (simp; omega))) | ((with_reducible refine Below.trans ?_ (hb10.mono ?side_)); case side_ => (first | (with_reducible exact Nat.le_refl _) | (with_reducible assumption) | omega | (simp; done) | (simp; omega)))))

set_option maxHeartbeats 4000000 in
theorem md_neg_bm (a b c P M q r d : Int) (w : World)
    (h0 : (c == 0) = false) (hc : c ≤ -1) (T : ∀ w, Calls Try.prog 95 #[.int .i64 a, .int .i64 b] w (GivesBig (-P) w))
    (O : ∀ w, Calls Try.prog 97 #[.int .i64 c] w fun e w' => e = .returned (.agg #[.int .u64 (c / 9223372036854775808 % 18446744073709551616), .int .u64 (c % 18446744073709551616)]) ∧ Below w.heap.size w w')
    (S : ∀ w, Calls Try.prog 98 #[.agg #[.int .u64 (c / 9223372036854775808 % 18446744073709551616), .int .u64 (c % 18446744073709551616)]] w (GivesBig d w)) (d0 : 1 ≤ d) (d1 : d ≤ 9223372036854775808)
    (SP : ∀ ph pl, Big (- -P) ph pl → ∀ w, Calls Try.prog 98 #[.agg #[.int .u64 ph, .int .u64 pl]] w (GivesBig M w)) (m0 : 0 ≤ M) (m1 : M ≤ 85070591730234615865843651857942052864)
    (hbig : M < d * 18446744073709551616) (DV : ∀ nh nl, Big M nh nl → ∀ w, Calls Try.prog 99 #[.int .u64 nh, .int .u64 nl, .int .u64 d] w fun e w' => e = .returned (.tuple #[.int .u64 q, .int .u64 r]) ∧ Below w.heap.size w w')
    (q0 : 0 ≤ q) (q1 : q ≤ 18446744073709551615) (r0 : 0 ≤ r) (r1 : r < d) (BL : ∀ ph pl, Big (- -P) ph pl → ∀ w, Calls Try.prog 100 #[.agg #[.int .u64 ph, .int .u64 pl]] w fun e w' => e = .returned (.bool true) ∧ Below w.heap.size w w')
    (hr : (r == d - r) = true) (hr' : d - r ≤ r) (hr'' : r ≤ d - r) :
    Calls Try.prog 89 #[.int .i64 a, .int .i64 b, .int .i64 c] w fun e w' => e = .returned (.tuple #[.int .i64 (fitV (-q)), .bool (fitB (-q))]) ∧ Below w.heap.size w w' := by
  have FL := field_lo
  have BQ0 : Big q 0 q := Big.small q0 q1
  have BO1 : Big 1 0 1 := Big.small (by omega) (by omega)
  go_enter Try.func89, Try.ntmps89
  go_wp2_with (first
      | (go_at_call 95; ((with_reducible refine (T _).mono ?_); rintro e w1 ⟨ph, pl, BP, rfl, hb1⟩; have J0 := Holds2.new w1 (.int .u64 ph) (.int .u64 pl) 163; clear T))
      | (go_at_call 96; ((with_reducible refine (minus_calls BP _).mono ?_); rintro e wm ⟨mh, ml, BQ, rfl, hbm⟩; have J1 := J0.below hbm; obtain ⟨j1, j2, j3, j4, j5⟩ := J1; have j6 := lts j5; have J2 := Holds2.set ⟨j1, j2, j3, j4, j5⟩ (.int .u64 mh) (.int .u64 ml)))
      | (go_at_call 97; ((with_reducible refine (O _).mono ?_); rintro e w2 ⟨rfl, hb2⟩; have J3 := J2.below hb2; clear O))
      | (go_at_call 98; ((with_reducible refine (S _).mono ?_); rintro e w3 ⟨dh, dl, BD, rfl, hb3⟩; obtain rfl := BD.abs_i64 (by omega) (by omega); have J4 := J3.below hb3; obtain ⟨k1, k2, k3, k4, k5⟩ := J4; have k6 := lts k5; have J4 : Holds2 _ _ _ _ := ⟨k1, k2, k3, k4, k5⟩; clear S))
      | (go_at_call 98; ((with_reducible refine (SP _ _ BQ _).mono ?_); rintro e w4 ⟨nh, nl, BN, rfl, hb4⟩; have J5 := J4.below hb4; have n0 := BN.h0; have n1 := BN.h1; have n2 := BN.l0; have n3 := BN.l1; have hlt2 : nh < dl := (by have h1 := BN.unsigned m0 (by omega); have h2 := BN.l0; omega); obtain ⟨l1, l2, l3, l4, l5⟩ := J5; have l6 := lts l5; have J5 : Holds2 _ _ _ _ := ⟨l1, l2, l3, l4, l5⟩; clear SP))
      | (go_at_call 99; ((with_reducible refine (DV _ _ BN _).mono ?_); rintro e w5 ⟨rfl, hb5⟩; have J6 := (J5.alloc _).below hb5; obtain ⟨o1, o2, o3, o4, o5⟩ := J6; have o6 := lts o5; have J6 : Holds2 _ _ _ _ := ⟨o1, o2, o3, o4, o5⟩; clear DV))
      | (go_at_call 100; ((with_reducible refine (BL _ _ BQ _).mono ?_); rintro e w6 ⟨rfl, hb6⟩; have J7 := J6.below hb6; obtain ⟨s1, s2, s3, s4, s5⟩ := J7; have s6 := lts s5; have J7 : Holds2 _ _ _ _ := ⟨s1, s2, s3, s4, s5⟩))
      | (go_at_call 100; ((with_reducible refine (BL _ _ BQ _).mono ?_); rintro e w8 ⟨rfl, hb8⟩; have I9 := (Holds2.new w6 (.int .u64 0) (.int .u64 q) 163).below hb8; obtain ⟨v1, v2, v3, v4, v5⟩ := I9; have v6 := lts v5; have I9 : Holds2 _ _ _ _ := ⟨v1, v2, v3, v4, v5⟩))
      | (go_at_call 96; ((with_reducible refine (minus_calls BQ0 _).mono ?_); rintro e w9 ⟨zh, zl, BZ, rfl, hb9⟩; have I10 := I9.below hb9; obtain ⟨x1, x2, x3, x4, x5⟩ := I10; have x6 := lts x5))
      | (go_at_call 102; ((with_reducible refine (plain_calls BZ (by omega) (by omega) _).mono ?_); rintro e w10 ⟨rfl, hb10⟩; skip)))
  go_ret2
  refine ⟨rfl, ?_⟩
  have z_hb1 := hb1.size; (try simp at z_hb1); have z_hbm := hbm.size; (try simp at z_hbm); have z_hb2 := hb2.size; (try simp at z_hb2); have z_hb3 := hb3.size; (try simp at z_hb3); have z_hb4 := hb4.size; (try simp at z_hb4); have z_hb5 := hb5.size; (try simp at z_hb5); have z_hb6 := hb6.size; (try simp at z_hb6); have z_hb8 := hb8.size; (try simp at z_hb8); have z_hb9 := hb9.size; (try simp at z_hb9); have z_hb10 := hb10.size; (try simp at z_hb10); (repeat' (first | (with_reducible exact Below.refl _ _) | (with_reducible refine Below.drew ?_) | (with_reducible refine below_drewN ?_ _) | ((with_reducible refine Below.setCell ?_ ?side_ _); case side_ => (first | (with_reducible exact Nat.le_refl _) | (with_reducible assumption) | omega | (simp; done) | (simp; omega))) | ((with_reducible refine Below.alloc ?_ ?side_ _); case side_ => (first | (with_reducible exact Nat.le_refl _) | (with_reducible assumption) | omega | (simp; done) | (simp; omega))) | ((with_reducible refine Below.trans ?_ (hb1.mono ?side_)); case side_ => (first | (with_reducible exact Nat.le_refl _) | (with_reducible assumption) | omega | (simp; done) | (simp; omega))) | ((with_reducible refine Below.trans ?_ (hbm.mono ?side_)); case side_ => (first | (with_reducible exact Nat.le_refl _) | (with_reducible assumption) | omega | (simp; done) | (simp; omega))) | ((with_reducible refine Below.trans ?_ (hb2.mono ?side_)); case side_ => (first | (with_reducible exact Nat.le_refl _) | (with_reducible assumption) | omega | (simp; done) | (simp; omega))) | ((with_reducible refine Below.trans ?_ (hb3.mono ?side_)); case side_ => (first | (with_reducible exact Nat.le_refl _) | (with_reducible assumption) | omega | (simp; done) | (simp; omega))) | ((with_reducible refine Below.trans ?_ (hb4.mono ?side_)); case side_ => (first | (with_reducible exact Nat.le_refl _) | (with_reducible assumption) | omega | (simp; done) | (simp; omega))) | ((with_reducible refine Below.trans ?_ (hb5.mono ?side_)); case side_ => (first | (with_reducible exact Nat.le_refl _) | (with_reducible assumption) | omega | (simp; done) | (simp; omega))) | ((with_reducible refine Below.trans ?_ (hb6.mono ?side_)); case side_ => (first | (with_reducible exact Nat.le_refl _) | (with_reducible assumption) | omega | (simp; done) | (simp; omega))) | ((with_reducible refine Below.trans ?_ (hb8.mono ?side_)); case side_ => (first | (with_reducible exact Nat.le_refl _) | (with_reducible assumption) | omega | (simp; done) | (simp; omega))) | ((with_reducible refine Below.trans ?_ (hb9.mono ?side_)); case side_ => (first | (with_reducible exact Nat.le_refl _) | (with_reducible assumption) | omega | (simp; done) | (simp; omega))) | ((with_reducible refine Below.trans ?_ (hb10.mono ?side_)); case side_ => (first | (with_reducible exact Nat.le_refl _) | (with_reducible assumption) | omega | (simp; done) | (simp; omega)))))

set_option maxHeartbeats 4000000 in
theorem md_neg_cp (a b c P M q r d : Int) (w : World)
    (h0 : (c == 0) = false) (hc : c ≤ -1) (T : ∀ w, Calls Try.prog 95 #[.int .i64 a, .int .i64 b] w (GivesBig (-P) w))
    (O : ∀ w, Calls Try.prog 97 #[.int .i64 c] w fun e w' => e = .returned (.agg #[.int .u64 (c / 9223372036854775808 % 18446744073709551616), .int .u64 (c % 18446744073709551616)]) ∧ Below w.heap.size w w')
    (S : ∀ w, Calls Try.prog 98 #[.agg #[.int .u64 (c / 9223372036854775808 % 18446744073709551616), .int .u64 (c % 18446744073709551616)]] w (GivesBig d w)) (d0 : 1 ≤ d) (d1 : d ≤ 9223372036854775808)
    (SP : ∀ ph pl, Big (- -P) ph pl → ∀ w, Calls Try.prog 98 #[.agg #[.int .u64 ph, .int .u64 pl]] w (GivesBig M w)) (m0 : 0 ≤ M) (m1 : M ≤ 85070591730234615865843651857942052864)
    (hbig : M < d * 18446744073709551616) (DV : ∀ nh nl, Big M nh nl → ∀ w, Calls Try.prog 99 #[.int .u64 nh, .int .u64 nl, .int .u64 d] w fun e w' => e = .returned (.tuple #[.int .u64 q, .int .u64 r]) ∧ Below w.heap.size w w')
    (q0 : 0 ≤ q) (q1 : q ≤ 18446744073709551615) (r0 : 0 ≤ r) (r1 : r < d) (BL : ∀ ph pl, Big (- -P) ph pl → ∀ w, Calls Try.prog 100 #[.agg #[.int .u64 ph, .int .u64 pl]] w fun e w' => e = .returned (.bool false) ∧ Below w.heap.size w w')
    (hr : (r == d - r) = false) (hr' : 2 * r < d) :
    Calls Try.prog 89 #[.int .i64 a, .int .i64 b, .int .i64 c] w fun e w' => e = .returned (.tuple #[.int .i64 (fitV q), .bool (fitB q)]) ∧ Below w.heap.size w w' := by
  have FL := field_lo
  have BQ0 : Big q 0 q := Big.small q0 q1
  have BO1 : Big 1 0 1 := Big.small (by omega) (by omega)
  go_enter Try.func89, Try.ntmps89
  go_wp2_with (first
      | (go_at_call 95; ((with_reducible refine (T _).mono ?_); rintro e w1 ⟨ph, pl, BP, rfl, hb1⟩; have J0 := Holds2.new w1 (.int .u64 ph) (.int .u64 pl) 163; clear T))
      | (go_at_call 96; ((with_reducible refine (minus_calls BP _).mono ?_); rintro e wm ⟨mh, ml, BQ, rfl, hbm⟩; have J1 := J0.below hbm; obtain ⟨j1, j2, j3, j4, j5⟩ := J1; have j6 := lts j5; have J2 := Holds2.set ⟨j1, j2, j3, j4, j5⟩ (.int .u64 mh) (.int .u64 ml)))
      | (go_at_call 97; ((with_reducible refine (O _).mono ?_); rintro e w2 ⟨rfl, hb2⟩; have J3 := J2.below hb2; clear O))
      | (go_at_call 98; ((with_reducible refine (S _).mono ?_); rintro e w3 ⟨dh, dl, BD, rfl, hb3⟩; obtain rfl := BD.abs_i64 (by omega) (by omega); have J4 := J3.below hb3; obtain ⟨k1, k2, k3, k4, k5⟩ := J4; have k6 := lts k5; have J4 : Holds2 _ _ _ _ := ⟨k1, k2, k3, k4, k5⟩; clear S))
      | (go_at_call 98; ((with_reducible refine (SP _ _ BQ _).mono ?_); rintro e w4 ⟨nh, nl, BN, rfl, hb4⟩; have J5 := J4.below hb4; have n0 := BN.h0; have n1 := BN.h1; have n2 := BN.l0; have n3 := BN.l1; have hlt2 : nh < dl := (by have h1 := BN.unsigned m0 (by omega); have h2 := BN.l0; omega); obtain ⟨l1, l2, l3, l4, l5⟩ := J5; have l6 := lts l5; have J5 : Holds2 _ _ _ _ := ⟨l1, l2, l3, l4, l5⟩; clear SP))
      | (go_at_call 99; ((with_reducible refine (DV _ _ BN _).mono ?_); rintro e w5 ⟨rfl, hb5⟩; have J6 := (J5.alloc _).below hb5; obtain ⟨o1, o2, o3, o4, o5⟩ := J6; have o6 := lts o5; have J6 : Holds2 _ _ _ _ := ⟨o1, o2, o3, o4, o5⟩; clear DV))
      | (go_at_call 100; ((with_reducible refine (BL _ _ BQ _).mono ?_); rintro e w8 ⟨rfl, hb8⟩; have I9 := (Holds2.new w5 (.int .u64 0) (.int .u64 q) 163).below hb8; obtain ⟨v1, v2, v3, v4, v5⟩ := I9; have v6 := lts v5; have I9 : Holds2 _ _ _ _ := ⟨v1, v2, v3, v4, v5⟩))
      | (go_at_call 102; ((with_reducible refine (plain_calls BQ0 (by omega) (by omega) _).mono ?_); rintro e w10 ⟨rfl, hb10⟩; skip)))
  go_ret2
  refine ⟨rfl, ?_⟩
  have z_hb1 := hb1.size; (try simp at z_hb1); have z_hbm := hbm.size; (try simp at z_hbm); have z_hb2 := hb2.size; (try simp at z_hb2); have z_hb3 := hb3.size; (try simp at z_hb3); have z_hb4 := hb4.size; (try simp at z_hb4); have z_hb5 := hb5.size; (try simp at z_hb5); have z_hb8 := hb8.size; (try simp at z_hb8); have z_hb10 := hb10.size; (try simp at z_hb10); (repeat' (first | (with_reducible exact Below.refl _ _) | (with_reducible refine Below.drew ?_) | (with_reducible refine below_drewN ?_ _) | ((with_reducible refine Below.setCell ?_ ?side_ _); case side_ => (first | (with_reducible exact Nat.le_refl _) | (with_reducible assumption) | omega | (simp; done) | (simp; omega))) | ((with_reducible refine Below.alloc ?_ ?side_ _); case side_ => (first | (with_reducible exact Nat.le_refl _) | (with_reducible assumption) | omega | (simp; done) | (simp; omega))) | ((with_reducible refine Below.trans ?_ (hb1.mono ?side_)); case side_ => (first | (with_reducible exact Nat.le_refl _) | (with_reducible assumption) | omega | (simp; done) | (simp; omega))) | ((with_reducible refine Below.trans ?_ (hbm.mono ?side_)); case side_ => (first | (with_reducible exact Nat.le_refl _) | (with_reducible assumption) | omega | (simp; done) | (simp; omega))) | ((with_reducible refine Below.trans ?_ (hb2.mono ?side_)); case side_ => (first | (with_reducible exact Nat.le_refl _) | (with_reducible assumption) | omega | (simp; done) | (simp; omega))) | ((with_reducible refine Below.trans ?_ (hb3.mono ?side_)); case side_ => (first | (with_reducible exact Nat.le_refl _) | (with_reducible assumption) | omega | (simp; done) | (simp; omega))) | ((with_reducible refine Below.trans ?_ (hb4.mono ?side_)); case side_ => (first | (with_reducible exact Nat.le_refl _) | (with_reducible assumption) | omega | (simp; done) | (simp; omega))) | ((with_reducible refine Below.trans ?_ (hb5.mono ?side_)); case side_ => (first | (with_reducible exact Nat.le_refl _) | (with_reducible assumption) | omega | (simp; done) | (simp; omega))) | ((with_reducible refine Below.trans ?_ (hb8.mono ?side_)); case side_ => (first | (with_reducible exact Nat.le_refl _) | (with_reducible assumption) | omega | (simp; done) | (simp; omega))) | ((with_reducible refine Below.trans ?_ (hb10.mono ?side_)); case side_ => (first | (with_reducible exact Nat.le_refl _) | (with_reducible assumption) | omega | (simp; done) | (simp; omega)))))

set_option maxHeartbeats 4000000 in
theorem md_neg_cm (a b c P M q r d : Int) (w : World)
    (h0 : (c == 0) = false) (hc : c ≤ -1) (T : ∀ w, Calls Try.prog 95 #[.int .i64 a, .int .i64 b] w (GivesBig (-P) w))
    (O : ∀ w, Calls Try.prog 97 #[.int .i64 c] w fun e w' => e = .returned (.agg #[.int .u64 (c / 9223372036854775808 % 18446744073709551616), .int .u64 (c % 18446744073709551616)]) ∧ Below w.heap.size w w')
    (S : ∀ w, Calls Try.prog 98 #[.agg #[.int .u64 (c / 9223372036854775808 % 18446744073709551616), .int .u64 (c % 18446744073709551616)]] w (GivesBig d w)) (d0 : 1 ≤ d) (d1 : d ≤ 9223372036854775808)
    (SP : ∀ ph pl, Big (- -P) ph pl → ∀ w, Calls Try.prog 98 #[.agg #[.int .u64 ph, .int .u64 pl]] w (GivesBig M w)) (m0 : 0 ≤ M) (m1 : M ≤ 85070591730234615865843651857942052864)
    (hbig : M < d * 18446744073709551616) (DV : ∀ nh nl, Big M nh nl → ∀ w, Calls Try.prog 99 #[.int .u64 nh, .int .u64 nl, .int .u64 d] w fun e w' => e = .returned (.tuple #[.int .u64 q, .int .u64 r]) ∧ Below w.heap.size w w')
    (q0 : 0 ≤ q) (q1 : q ≤ 18446744073709551615) (r0 : 0 ≤ r) (r1 : r < d) (BL : ∀ ph pl, Big (- -P) ph pl → ∀ w, Calls Try.prog 100 #[.agg #[.int .u64 ph, .int .u64 pl]] w fun e w' => e = .returned (.bool true) ∧ Below w.heap.size w w')
    (hr : (r == d - r) = false) (hr' : 2 * r < d) :
    Calls Try.prog 89 #[.int .i64 a, .int .i64 b, .int .i64 c] w fun e w' => e = .returned (.tuple #[.int .i64 (fitV (-q)), .bool (fitB (-q))]) ∧ Below w.heap.size w w' := by
  have FL := field_lo
  have BQ0 : Big q 0 q := Big.small q0 q1
  have BO1 : Big 1 0 1 := Big.small (by omega) (by omega)
  go_enter Try.func89, Try.ntmps89
  go_wp2_with (first
      | (go_at_call 95; ((with_reducible refine (T _).mono ?_); rintro e w1 ⟨ph, pl, BP, rfl, hb1⟩; have J0 := Holds2.new w1 (.int .u64 ph) (.int .u64 pl) 163; clear T))
      | (go_at_call 96; ((with_reducible refine (minus_calls BP _).mono ?_); rintro e wm ⟨mh, ml, BQ, rfl, hbm⟩; have J1 := J0.below hbm; obtain ⟨j1, j2, j3, j4, j5⟩ := J1; have j6 := lts j5; have J2 := Holds2.set ⟨j1, j2, j3, j4, j5⟩ (.int .u64 mh) (.int .u64 ml)))
      | (go_at_call 97; ((with_reducible refine (O _).mono ?_); rintro e w2 ⟨rfl, hb2⟩; have J3 := J2.below hb2; clear O))
      | (go_at_call 98; ((with_reducible refine (S _).mono ?_); rintro e w3 ⟨dh, dl, BD, rfl, hb3⟩; obtain rfl := BD.abs_i64 (by omega) (by omega); have J4 := J3.below hb3; obtain ⟨k1, k2, k3, k4, k5⟩ := J4; have k6 := lts k5; have J4 : Holds2 _ _ _ _ := ⟨k1, k2, k3, k4, k5⟩; clear S))
      | (go_at_call 98; ((with_reducible refine (SP _ _ BQ _).mono ?_); rintro e w4 ⟨nh, nl, BN, rfl, hb4⟩; have J5 := J4.below hb4; have n0 := BN.h0; have n1 := BN.h1; have n2 := BN.l0; have n3 := BN.l1; have hlt2 : nh < dl := (by have h1 := BN.unsigned m0 (by omega); have h2 := BN.l0; omega); obtain ⟨l1, l2, l3, l4, l5⟩ := J5; have l6 := lts l5; have J5 : Holds2 _ _ _ _ := ⟨l1, l2, l3, l4, l5⟩; clear SP))
      | (go_at_call 99; ((with_reducible refine (DV _ _ BN _).mono ?_); rintro e w5 ⟨rfl, hb5⟩; have J6 := (J5.alloc _).below hb5; obtain ⟨o1, o2, o3, o4, o5⟩ := J6; have o6 := lts o5; have J6 : Holds2 _ _ _ _ := ⟨o1, o2, o3, o4, o5⟩; clear DV))
      | (go_at_call 100; ((with_reducible refine (BL _ _ BQ _).mono ?_); rintro e w8 ⟨rfl, hb8⟩; have I9 := (Holds2.new w5 (.int .u64 0) (.int .u64 q) 163).below hb8; obtain ⟨v1, v2, v3, v4, v5⟩ := I9; have v6 := lts v5; have I9 : Holds2 _ _ _ _ := ⟨v1, v2, v3, v4, v5⟩))
      | (go_at_call 96; ((with_reducible refine (minus_calls BQ0 _).mono ?_); rintro e w9 ⟨zh, zl, BZ, rfl, hb9⟩; have I10 := I9.below hb9; obtain ⟨x1, x2, x3, x4, x5⟩ := I10; have x6 := lts x5))
      | (go_at_call 102; ((with_reducible refine (plain_calls BZ (by omega) (by omega) _).mono ?_); rintro e w10 ⟨rfl, hb10⟩; skip)))
  go_ret2
  refine ⟨rfl, ?_⟩
  have z_hb1 := hb1.size; (try simp at z_hb1); have z_hbm := hbm.size; (try simp at z_hbm); have z_hb2 := hb2.size; (try simp at z_hb2); have z_hb3 := hb3.size; (try simp at z_hb3); have z_hb4 := hb4.size; (try simp at z_hb4); have z_hb5 := hb5.size; (try simp at z_hb5); have z_hb8 := hb8.size; (try simp at z_hb8); have z_hb9 := hb9.size; (try simp at z_hb9); have z_hb10 := hb10.size; (try simp at z_hb10); (repeat' (first | (with_reducible exact Below.refl _ _) | (with_reducible refine Below.drew ?_) | (with_reducible refine below_drewN ?_ _) | ((with_reducible refine Below.setCell ?_ ?side_ _); case side_ => (first | (with_reducible exact Nat.le_refl _) | (with_reducible assumption) | omega | (simp; done) | (simp; omega))) | ((with_reducible refine Below.alloc ?_ ?side_ _); case side_ => (first | (with_reducible exact Nat.le_refl _) | (with_reducible assumption) | omega | (simp; done) | (simp; omega))) | ((with_reducible refine Below.trans ?_ (hb1.mono ?side_)); case side_ => (first | (with_reducible exact Nat.le_refl _) | (with_reducible assumption) | omega | (simp; done) | (simp; omega))) | ((with_reducible refine Below.trans ?_ (hbm.mono ?side_)); case side_ => (first | (with_reducible exact Nat.le_refl _) | (with_reducible assumption) | omega | (simp; done) | (simp; omega))) | ((with_reducible refine Below.trans ?_ (hb2.mono ?side_)); case side_ => (first | (with_reducible exact Nat.le_refl _) | (with_reducible assumption) | omega | (simp; done) | (simp; omega))) | ((with_reducible refine Below.trans ?_ (hb3.mono ?side_)); case side_ => (first | (with_reducible exact Nat.le_refl _) | (with_reducible assumption) | omega | (simp; done) | (simp; omega))) | ((with_reducible refine Below.trans ?_ (hb4.mono ?side_)); case side_ => (first | (with_reducible exact Nat.le_refl _) | (with_reducible assumption) | omega | (simp; done) | (simp; omega))) | ((with_reducible refine Below.trans ?_ (hb5.mono ?side_)); case side_ => (first | (with_reducible exact Nat.le_refl _) | (with_reducible assumption) | omega | (simp; done) | (simp; omega))) | ((with_reducible refine Below.trans ?_ (hb8.mono ?side_)); case side_ => (first | (with_reducible exact Nat.le_refl _) | (with_reducible assumption) | omega | (simp; done) | (simp; omega))) | ((with_reducible refine Below.trans ?_ (hb9.mono ?side_)); case side_ => (first | (with_reducible exact Nat.le_refl _) | (with_reducible assumption) | omega | (simp; done) | (simp; omega))) | ((with_reducible refine Below.trans ?_ (hb10.mono ?side_)); case side_ => (first | (with_reducible exact Nat.le_refl _) | (with_reducible assumption) | omega | (simp; done) | (simp; omega)))))

end Go.Proofs.Ytejcjonlnijbkaa.Wide

/- Package wide's MulDiv as one contract, and Dot and MulShift, walked: the nearest whole number, of two the greater one, if it is one of 64 bits. For all arguments. -/
namespace Go.Proofs.Ytejcjonlnijbkaa.Wide
open Go Go.RowKit
set_option maxRecDepth 100000
set_option linter.unusedVariables false
set_option linter.unusedSimpArgs false

/-- What the divided size of the product is, for either sign of the divisor. -/
theorem div_words {M d q r : Int} (d0 : 1 ≤ d) (d1 : d ≤ 9223372036854775808) (m0 : 0 ≤ M) (hlt : M < d * 18446744073709551616) (hq : M / d = q) (hr : M % d = r) :
    (0 ≤ q ∧ q ≤ 18446744073709551615 ∧ 0 ≤ r ∧ r < d) ∧ ∀ nh nl, Big M nh nl → ∀ w, Calls Try.prog 99 #[.int .u64 nh, .int .u64 nl, .int .u64 d] w fun e w' => e = .returned (.tuple #[.int .u64 q, .int .u64 r]) ∧ Below w.heap.size w w' := by
  constructor
  · subst hq hr
    refine ⟨Int.ediv_nonneg m0 (by omega), ?_, Int.emod_nonneg _ (by omega), Int.emod_lt_of_pos _ (by omega)⟩
    have : M / d < 18446744073709551616 := Int.ediv_lt_of_lt_mul (by omega) (by rw [Int.mul_comm]; exact hlt)
    omega
  · intro nh nl B w
    have hN := B.unsigned m0 (by omega)
    have b1 := B.l0
    have b0 := B.h0
    refine (div64_calls nh nl d b0 (by omega) (by omega) b1 B.l1 w).mono ?_
    rintro e w' ⟨rfl, n, rfl⟩
    rw [hN, hq, hr]
    exact ⟨rfl, drewN_below _ _⟩

/-- The ways through MulDiv, put together: P the product with the divisor's sign taken in, d its size. -/
theorem near_big {P d M : Int} (d0 : 1 ≤ d) (hM : M = if P < 0 then -P else P) (hbig : d * 18446744073709551616 ≤ M) : ¬ (-9223372036854775808 ≤ near P d ∧ near P d ≤ 9223372036854775807) := by
  unfold near
  intro ⟨h1, h2⟩
  by_cases hp : P < 0
  · rw [if_pos hp] at hM
    have h3 := Int.mul_le_of_le_ediv (show 0 < 2 * d by omega) h1
    have h4 : -9223372036854775808 * (2 * d) = -18446744073709551616 * d := by omega
    omega
  · rw [if_neg hp] at hM
    have h3 : (2 * P + d) / (2 * d) < 9223372036854775808 := by omega
    have h4 := Int.lt_mul_of_ediv_lt (show 0 < 2 * d by omega) h3
    omega

theorem muldiv_calls (a b c : Int) (a0 : -9223372036854775808 ≤ a) (a1 : a ≤ 9223372036854775807) (b0 : -9223372036854775808 ≤ b) (b1 : b ≤ 9223372036854775807) (c0 : -9223372036854775808 ≤ c) (c1 : c ≤ 9223372036854775807) (w : World) :
    Calls Try.prog 89 #[.int .i64 a, .int .i64 b, .int .i64 c] w fun e w' => e = .returned (.tuple #[.int .i64 (mulDivV a b c), .bool (mulDivB a b c)]) ∧ Below w.heap.size w w' := by
  by_cases hz : c = 0
  · subst hz
    exact muldiv_zero a b w
  · have h0 : (c == 0) = false := by simpa using hz
    unfold mulDivV mulDivB
    rw [if_neg hz, if_neg hz]
    have T := fun w => times_calls a b a0 a1 b0 b1 w
    have O := fun w => of_calls c w
    have C := Big.of c0 c1
    have S := fun w => size_calls C (by omega) (by omega) w
    obtain ⟨p0, p1⟩ := prod_bound a0 a1 b0 b1
    by_cases hc : c < 0
    · rw [if_pos hc, if_pos hc]
      rw [if_pos hc] at S
      obtain ⟨P, hP⟩ : ∃ P, P = -(a * b) := ⟨_, rfl⟩
      obtain ⟨d, hd⟩ : ∃ d, d = -c := ⟨_, rfl⟩
      rw [show a * b = -P by omega] at T
      rw [← hP, ← hd]
      rw [← hd] at S
      obtain ⟨M, hM⟩ : ∃ M, M = if P < 0 then -P else P := ⟨_, rfl⟩
      have m0 : 0 ≤ M ∧ M ≤ 85070591730234615865843651857942052864 := by rw [hM]; split <;> omega
      have SP : ∀ ph pl, Big (- -P) ph pl → ∀ w, Calls Try.prog 98 #[.agg #[.int .u64 ph, .int .u64 pl]] w (GivesBig M w) := by
        intro ph pl B w
        rw [Int.neg_neg] at B
        have := size_calls B (by omega) (by omega) w
        rwa [← hM] at this
      have BL : ∀ ph pl, Big (- -P) ph pl → ∀ w, Calls Try.prog 100 #[.agg #[.int .u64 ph, .int .u64 pl]] w fun e w' => e = .returned (.bool (decide (P < 0))) ∧ Below w.heap.size w w' := by
        intro ph pl B w
        rw [Int.neg_neg] at B
        exact below_calls B (by omega) (by omega) w
      by_cases hbig : d * 18446744073709551616 ≤ M
      · obtain ⟨v1, v2⟩ := fit_no (near_big (by omega) hM hbig)
        rw [v1, v2]
        exact md_neg_big a b c P M 0 0 d w h0 (by omega) T O S (by omega) (by omega) SP m0.1 m0.2 hbig
      · obtain ⟨q, hq⟩ : ∃ q, M / d = q := ⟨_, rfl⟩
        obtain ⟨r, hr⟩ : ∃ r, M % d = r := ⟨_, rfl⟩
        obtain ⟨⟨q0, q1, r0, r1⟩, DV⟩ := div_words (by omega) (by omega) m0.1 (by omega) hq hr
        have hn := near_qr (by omega) hM hq hr
        by_cases hp : P < 0
        · rw [if_pos hp] at hn
          rw [decide_eq_true hp] at BL
          by_cases h1 : d < 2 * r
          · rw [if_pos h1] at hn; rw [hn]
            exact md_neg_am a b c P M q r d w h0 (by omega) T O S (by omega) (by omega) SP m0.1 m0.2 (by omega) DV q0 q1 r0 r1 BL h1
          · rw [if_neg h1, Int.add_zero] at hn; rw [hn]
            by_cases h2 : 2 * r < d
            · exact md_neg_cm a b c P M q r d w h0 (by omega) T O S (by omega) (by omega) SP m0.1 m0.2 (by omega) DV q0 q1 r0 r1 BL (by simp; omega) h2
            · exact md_neg_bm a b c P M q r d w h0 (by omega) T O S (by omega) (by omega) SP m0.1 m0.2 (by omega) DV q0 q1 r0 r1 BL (by simp; omega) (by omega) (by omega)
        · rw [if_neg hp] at hn
          rw [decide_eq_false hp] at BL
          by_cases h1 : d ≤ 2 * r
          · rw [if_pos h1] at hn; rw [hn]
            by_cases h2 : d < 2 * r
            · exact md_neg_ap a b c P M q r d w h0 (by omega) T O S (by omega) (by omega) SP m0.1 m0.2 (by omega) DV q0 q1 r0 r1 BL h2
            · exact md_neg_bp a b c P M q r d w h0 (by omega) T O S (by omega) (by omega) SP m0.1 m0.2 (by omega) DV q0 q1 r0 r1 BL (by simp; omega) (by omega) (by omega)
          · rw [if_neg h1, Int.add_zero] at hn; rw [hn]
            exact md_neg_cp a b c P M q r d w h0 (by omega) T O S (by omega) (by omega) SP m0.1 m0.2 (by omega) DV q0 q1 r0 r1 BL (by simp; omega) (by omega)
    · rw [if_neg hc, if_neg hc]
      rw [if_neg hc] at S
      obtain ⟨P, hP⟩ : ∃ P, P = a * b := ⟨_, rfl⟩
      rw [← hP] at T p0 p1 ⊢
      obtain ⟨M, hM⟩ : ∃ M, M = if P < 0 then -P else P := ⟨_, rfl⟩
      have m0 : 0 ≤ M ∧ M ≤ 85070591730234615865843651857942052864 := by rw [hM]; split <;> omega
      have SP : ∀ ph pl, Big P ph pl → ∀ w, Calls Try.prog 98 #[.agg #[.int .u64 ph, .int .u64 pl]] w (GivesBig M w) := by
        intro ph pl B w
        have := size_calls B (by omega) (by omega) w
        rwa [← hM] at this
      have BL : ∀ ph pl, Big P ph pl → ∀ w, Calls Try.prog 100 #[.agg #[.int .u64 ph, .int .u64 pl]] w fun e w' => e = .returned (.bool (decide (P < 0))) ∧ Below w.heap.size w w' := by
        intro ph pl B w
        exact below_calls B (by omega) (by omega) w
      by_cases hbig : c * 18446744073709551616 ≤ M
      · obtain ⟨v1, v2⟩ := fit_no (near_big (by omega) hM hbig)
        rw [v1, v2]
        exact md_pos_big a b c P M 0 0 c w h0 (by omega) T O S (by omega) (by omega) SP m0.1 m0.2 hbig
      · obtain ⟨q, hq⟩ : ∃ q, M / c = q := ⟨_, rfl⟩
        obtain ⟨r, hr⟩ : ∃ r, M % c = r := ⟨_, rfl⟩
        obtain ⟨⟨q0, q1, r0, r1⟩, DV⟩ := div_words (by omega) (by omega) m0.1 (by omega) hq hr
        have hn := near_qr (by omega) hM hq hr
        by_cases hp : P < 0
        · rw [if_pos hp] at hn
          rw [decide_eq_true hp] at BL
          by_cases h1 : c < 2 * r
          · rw [if_pos h1] at hn; rw [hn]
            exact md_pos_am a b c P M q r c w h0 (by omega) T O S (by omega) (by omega) SP m0.1 m0.2 (by omega) DV q0 q1 r0 r1 BL h1
          · rw [if_neg h1, Int.add_zero] at hn; rw [hn]
            by_cases h2 : 2 * r < c
            · exact md_pos_cm a b c P M q r c w h0 (by omega) T O S (by omega) (by omega) SP m0.1 m0.2 (by omega) DV q0 q1 r0 r1 BL (by simp; omega) h2
            · exact md_pos_bm a b c P M q r c w h0 (by omega) T O S (by omega) (by omega) SP m0.1 m0.2 (by omega) DV q0 q1 r0 r1 BL (by simp; omega) (by omega) (by omega)
        · rw [if_neg hp] at hn
          rw [decide_eq_false hp] at BL
          by_cases h1 : c ≤ 2 * r
          · rw [if_pos h1] at hn; rw [hn]
            by_cases h2 : c < 2 * r
            · exact md_pos_ap a b c P M q r c w h0 (by omega) T O S (by omega) (by omega) SP m0.1 m0.2 (by omega) DV q0 q1 r0 r1 BL h2
            · exact md_pos_bp a b c P M q r c w h0 (by omega) T O S (by omega) (by omega) SP m0.1 m0.2 (by omega) DV q0 q1 r0 r1 BL (by simp; omega) (by omega) (by omega)
          · rw [if_neg h1, Int.add_zero] at hn; rw [hn]
            exact md_pos_cp a b c P M q r c w h0 (by omega) T O S (by omega) (by omega) SP m0.1 m0.2 (by omega) DV q0 q1 r0 r1 BL (by simp; omega) (by omega)
end Go.Proofs.Ytejcjonlnijbkaa.Wide
