/- Package ref01, walked: Power, Dot: the nearest whole number to two products' sum over a power of two, if it fits. For all arguments. -/
import Derived.Test.YtdhegcjclfllmaaRm
namespace Go.Proofs.Ytdhegcjclfllmaa.Ref
open Go Go.RowKit Open
set_option maxRecDepth 100000
set_option linter.unusedVariables false
set_option linter.unusedSimpArgs false

def doV (a b c d s : Int) : Int := if 0 ≤ s ∧ s ≤ 62 then fitV (nr (a * b + c * d) (2 ^ s.toNat)) else 0
def doB (a b c d s : Int) : Bool := if 0 ≤ s ∧ s ≤ 62 then fitB (nr (a * b + c * d) (2 ^ s.toNat)) else false

theorem Says.power {q : Nat} {x : Int} (x0 : 1 ≤ x) (x1 : x ≤ 65535) : Says (List.replicate q 0 ++ [x]) (pw q * x) := by
  refine ⟨fun z hz => ?_, fun k hk => ?_, ?_⟩
  · rcases List.mem_append.1 hz with hz | hz
    · simp at hz; omega
    · simp at hz; omega
  · obtain rfl : k = q := by simp at hk; omega
    simp; omega
  · rw [val_snoc, val_zeros]; simp
theorem two_lt {m : Nat} (h : m ≤ 15) : 1 ≤ (2 : Int) ^ m ∧ (2 : Int) ^ m ≤ 32768 := by
  refine ⟨two_pow_pos m, ?_⟩
  have e : (2 : Int) ^ 15 = 2 ^ m * 2 ^ (15 - m) := by rw [← Int.pow_add]; congr 1; omega
  have h1 := two_pow_pos (15 - m)
  have h2 := two_pow_pos m
  have h3 : 2 ^ m * 1 ≤ (2 : Int) ^ m * 2 ^ (15 - m) := Int.mul_le_mul_of_nonneg_left h1 (by omega)
  have e15 : (2 : Int) ^ 15 = 32768 := by decide
  omega

set_option maxHeartbeats 4000000 in
theorem power_calls (n : Nat) (hn : n ≤ 62) (w : World) : Calls Try.prog 92 #[.int .i64 (n : Int)] w (Num0 w (2 ^ n)) := by
  obtain ⟨q, hq⟩ : ∃ q, n / 16 = q := ⟨_, rfl⟩
  obtain ⟨m, hm⟩ : ∃ m, n % 16 = m := ⟨_, rfl⟩
  have eq1 : ((n : Int)).tdiv 16 = (q : Nat) := by rw [Int.tdiv_eq_ediv_of_nonneg (by omega)]; omega
  have em1 : ((n : Int)).tmod 16 = (m : Nat) := by rw [Int.tmod_eq_emod_of_nonneg (by omega)]; omega
  have hend : pw q * 2 ^ m = (2 : Int) ^ n := by
    unfold pw
    rw [show (65536 : Int) = 2 ^ 16 by decide, ← Int.pow_mul, ← Int.pow_add]
    congr 1; omega
  have hm15 : m ≤ 15 := by omega
  have HE := Lib.hid hend
  clear hend
  go_enter Try.func92, Try.ntmps92
  go_wp2_with (at_make; refine make0 (w0 := w.alloc (.cells #[.bool false, .slice none 0 0] 69)) rfl _ _ rfl q (by simp [go_sem, eq1]) (by simp [go_sem, eq1]) (by omega) (Below.refl _ _) ?_; intro w1 hown hgrow)
  have hown : Own (w.alloc (.cells #[.bool false, .slice none 0 0] 69)) w1 (.slice (some ⟨w.heap.size + 1, 0, none⟩) q q) (List.replicate q 0) := by simpa using hown
  have hq3 : q ≤ 3 := by omega
  clear eq1 hq
  go_loop [4, 5] (fun x i => ∃ k : Nat, k ≤ m ∧ i = .int .i64 (k : Nat) ∧ x = .int .i64 (2 ^ k)) (fun _ i => m - (intOf i).toNat)
  case atStart => exact ⟨0, Nat.zero_le _, rfl, rfl⟩
  case round =>
    obtain ⟨k, hk, rfl, rfl⟩ := hrel
    obtain ⟨t1, t2⟩ := two_lt (m := k) (by omega)
    have ts : (2 : Int) ^ (k + 1) = 2 ^ k * 2 := Int.pow_succ 2 k
    by_cases hp : k < m
    · have TS := Lib.hid ts
      clear ts
      generalize (2 : Int) ^ k = x at *
      go_wp2
      go_round
      case rel => exact ⟨k + 1, by omega, by go_num, by rw [TS.out]⟩
      case measure => simp [intOf]; omega
    · obtain rfl : k = m := by omega
      have hS := Says.power (q := q) (x := 2 ^ k) t1 (by omega)
      rw [HE.out] at hS
      have HS := Lib.hid hS
      have hlen : (List.replicate q (0 : Int)).length ≤ 1000000 := by simp; omega
      clear ts hS
      generalize (2 : Int) ^ k = x at *
      go_wp2_with (at_builtin; go_loud (refine app1 rfl _ _ rfl _ _ rfl (hown.alloc _) _ _ rfl (cell_new _ _ _) hlen ?_); intro v' w2 hown' hgrow'; obtain ⟨C1, cap1, rfl, l1, l2, hR, hnew⟩ := hown'.read HS.out.dig; have hbel := hown'.bel; obtain ⟨hc, hf⟩ := bcell hbel; have k0 := (hc w.heap.size 0 (by simp)).trans (show _ = some (Value.bool false) by simp [go_sem]); have k1 := (hc w.heap.size 1 (by simp)).trans (show _ = some (Value.slice none 0 0) by simp [go_sem]); have k2 := (hf w.heap.size 0 (by simp)).trans (show _ = false by simp [go_sem]); have k3 := (hf w.heap.size 1 (by simp)).trans (show _ = false by simp [go_sem]); clear hc hf hown' hgrow' hown hgrow)
      refine bodyPost_ret (v := .agg #[.bool false, .slice C1 (List.replicate q 0 ++ [x]).length cap1]) (by simp [results, Try.results92, go_sem, k0, k1]) rfl ⟨false, C1, List.replicate q 0 ++ [x], cap1, 2 ^ n, rfl, ?_, sg_false _⟩
      exact Out.store (X := (w.alloc (.cells #[.bool false, .slice none 0 0] 69))) ⟨hR, HS.out, hbel, hnew⟩ (below_a1 _ _) (Nat.le_refl _) (by simp) _ _

theorem two_ne (n : Nat) : (2 : Int) ^ n ≠ 0 := by have := two_pow_pos n; omega
theorem two_le62 {n : Nat} (h : n ≤ 62) : (2 : Int) ^ n ≤ 4611686018427387904 := by
  have e : (2 : Int) ^ 62 = 2 ^ n * 2 ^ (62 - n) := by rw [← Int.pow_add]; congr 1; omega
  have h1 := two_pow_pos (62 - n)
  have h2 := two_pow_pos n
  have h3 : 2 ^ n * 1 ≤ (2 : Int) ^ n * 2 ^ (62 - n) := Int.mul_le_mul_of_nonneg_left h1 (by omega)
  have e62 : (2 : Int) ^ 62 = 4611686018427387904 := by decide
  omega

set_option maxHeartbeats 8000000 in
theorem dot_calls (a b c d s : Int) (a0 : -9223372036854775808 ≤ a) (a1 : a ≤ 9223372036854775807) (b0 : -9223372036854775808 ≤ b) (b1 : b ≤ 9223372036854775807)
    (c0 : -9223372036854775808 ≤ c) (c1 : c ≤ 9223372036854775807) (d0 : -9223372036854775808 ≤ d) (d1 : d ≤ 9223372036854775807) (w : World) :
    Calls Try.prog 68 #[.int .i64 a, .int .i64 b, .int .i64 c, .int .i64 d, .int .i64 s] w fun e w' => e = .returned (.tuple #[.int .i64 (doV a b c d s), .bool (doB a b c d s)]) ∧ Below w.heap.size w w' := by
  unfold doV doB
  by_cases hs : 0 ≤ s ∧ s ≤ 62
  · rw [if_pos hs, if_pos hs]
    obtain ⟨n, rfl⟩ : ∃ n : Nat, s = (n : Int) := ⟨s.toNat, by omega⟩
    rw [Int.toNat_natCast]
    have hz1 := mul_i64 a0 a1 b0 b1
    have hz2 := mul_i64 c0 c1 d0 d1
    have hzs : -170141183460469231731687303715884105728 ≤ a * b + c * d ∧ a * b + c * d ≤ 170141183460469231731687303715884105728 := by omega
    have hpz := two_ne n
    have hp1 := two_pow_pos n
    have hp2 := two_le62 (n := n) (by omega)
    have hnb := nr_bound hpz hzs
    have p4 := pw4_val
    have p8 := pw8_val
    have OA := Lib.hid (of_num a a0 a1)
    have OB := Lib.hid (of_num b b0 b1)
    have OC := Lib.hid (of_num c c0 c1)
    have OD := Lib.hid (of_num d d0 d1)
    have PP := Lib.hid (power_calls n (by omega))
    go_enter Try.func68, Try.ntmps68
    go_wp2_with (first
      | (go_at_call 67; ((with_reducible refine (OA.out _).mono ?_); rintro e w1 ⟨r1, C1, d1, x1, n1, rfl, o1, e1⟩; clear OA; have l1 := sg_len (M := 9223372036854775808) (m := 4) o1 e1 (by omega) (by omega)))
      | (go_at_call 67; ((with_reducible refine (OB.out _).mono ?_); rintro e w2 ⟨r2, C2, d2, x2, n2, rfl, o2, e2⟩; clear OB; have l2 := sg_len (M := 9223372036854775808) (m := 4) o2 e2 (by omega) (by omega); have y1 := o1.row.below o2.bel))
      | (go_at_call 84; ((with_reducible refine (mul_num y1 o2.row o1.says o2.says (by omega) (by omega) e1 e2).mono ?_); rintro e w3 ⟨r3, C3, d3, x3, n3, rfl, o3, e3⟩; have l3 := sg_len (M := 85070591730234615865843651857942052864) (m := 8) o3 e3 hz1 (by omega)))
      | (go_at_call 67; ((with_reducible refine (OC.out _).mono ?_); rintro e w4 ⟨r4, C4, d4, x4, n4, rfl, o4, e4⟩; clear OC; have l4 := sg_len (M := 9223372036854775808) (m := 4) o4 e4 (by omega) (by omega); have y3 := o3.row.below o4.bel))
      | (go_at_call 67; ((with_reducible refine (OD.out _).mono ?_); rintro e w5 ⟨r5, C5, d5, x5, n5, rfl, o5, e5⟩; clear OD; have l5 := sg_len (M := 9223372036854775808) (m := 4) o5 e5 (by omega) (by omega); have y4 := o4.row.below o5.bel; have z3 := y3.below o5.bel))
      | (go_at_call 84; ((with_reducible refine (mul_num y4 o5.row o4.says o5.says (by omega) (by omega) e4 e5).mono ?_); rintro e w6 ⟨r6, C6, d6, x6, n6, rfl, o6, e6⟩; have l6 := sg_len (M := 85070591730234615865843651857942052864) (m := 8) o6 e6 hz2 (by omega); have v3 := z3.below o6.bel))
      | (go_at_call 85; ((with_reducible refine (add_num v3 o6.row o3.says o6.says (by omega) (by omega) e3 e6).mono ?_); rintro e w7 ⟨r7, C7, d7, x7, n7, rfl, o7, e7⟩; have l7 := sg_len (M := 170141183460469231731687303715884105728) (m := 8) o7 e7 hzs (by omega)))
      | (go_at_call 92; ((with_reducible refine (PP.out _).mono ?_); rintro e w8 ⟨r8, C8, d8, x8, n8, rfl, o8, e8⟩; clear PP; have l8 := sg_len (M := 4611686018427387904) (m := 4) o8 e8 (by omega) (by omega); have y7 := o7.row.below o8.bel))
      | (go_at_call 91; ((with_reducible refine (near_num y7 o8.row o7.says o8.says (by omega) (by omega) e7 e8 hpz).mono ?_); rintro e w9 ⟨r9, C9, d9, x9, n9, rfl, o9, e9⟩; have l9 := sg_len (M := 170141183460469231731687303715884105728) (m := 8) o9 e9 hnb (by omega)))
      | (go_at_call 90; ((with_reducible refine (plain_num o9.row o9.says (by omega) e9).mono ?_); rintro e w10 ⟨rfl, b10⟩)))
    go_ret2
    exact ⟨rfl, below_more o1.bel (below_more o2.bel (below_more o3.bel (below_more o4.bel (below_more o5.bel (below_more o6.bel (below_more o7.bel (below_more o8.bel (below_more o9.bel b10))))))))⟩
  · rw [if_neg hs, if_neg hs]
    by_cases h0 : s < 0
    · go_enter Try.func68, Try.ntmps68
      go_wp2
      go_ret2
      exact ⟨rfl, Below.refl _ _⟩
    · have h1 : 62 < s := by omega
      clear hs
      go_enter Try.func68, Try.ntmps68
      go_wp2
      go_ret2
      exact ⟨rfl, Below.refl _ _⟩
end Go.Proofs.Ytdhegcjclfllmaa.Ref
