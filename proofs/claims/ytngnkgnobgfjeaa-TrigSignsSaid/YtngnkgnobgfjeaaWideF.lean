/- Package wide's MulDiv, walked: the ways through it, of a divisor below 0. For all arguments. -/
import Derived.Test.YtngnkgnobgfjeaaWideD
namespace Go.Proofs.Ytngnkgnobgfjeaa.Wide
open Go Go.RowKit
set_option maxRecDepth 100000
set_option linter.unusedVariables false
set_option linter.unusedSimpArgs false

set_option maxHeartbeats 4000000 in
theorem md_neg_big (a b c P M q r d : Int) (w : World)
    (h0 : (c == 0) = false) (hc : c ≤ -1) (T : ∀ w, Calls Try.prog 27 #[.int .i64 a, .int .i64 b] w (GivesBig (-P) w))
    (O : ∀ w, Calls Try.prog 29 #[.int .i64 c] w fun e w' => e = .returned (.agg #[.int .u64 (c / 9223372036854775808 % 18446744073709551616), .int .u64 (c % 18446744073709551616)]) ∧ Below w.heap.size w w')
    (S : ∀ w, Calls Try.prog 30 #[.agg #[.int .u64 (c / 9223372036854775808 % 18446744073709551616), .int .u64 (c % 18446744073709551616)]] w (GivesBig d w)) (d0 : 1 ≤ d) (d1 : d ≤ 9223372036854775808)
    (SP : ∀ ph pl, Big (- -P) ph pl → ∀ w, Calls Try.prog 30 #[.agg #[.int .u64 ph, .int .u64 pl]] w (GivesBig M w)) (m0 : 0 ≤ M) (m1 : M ≤ 85070591730234615865843651857942052864)
    (hbig : d * 18446744073709551616 ≤ M) :
    Calls Try.prog 14 #[.int .i64 a, .int .i64 b, .int .i64 c] w fun e w' => e = .returned (.tuple #[.int .i64 0, .bool false]) ∧ Below w.heap.size w w' := by
  have FL := field_lo
  go_enter Try.func14, Try.ntmps14
  go_wp2_with (first
      | (go_at_call 27; ((with_reducible refine (T _).mono ?_); rintro e w1 ⟨ph, pl, BP, rfl, hb1⟩; have J0 := Holds2.new w1 (.int .u64 ph) (.int .u64 pl) 46; clear T))
      | (go_at_call 28; ((with_reducible refine (minus_calls BP _).mono ?_); rintro e wm ⟨mh, ml, BQ, rfl, hbm⟩; have J1 := J0.below hbm; obtain ⟨j1, j2, j3, j4, j5⟩ := J1; have j6 := lts j5; have J2 := Holds2.set ⟨j1, j2, j3, j4, j5⟩ (.int .u64 mh) (.int .u64 ml)))
      | (go_at_call 29; ((with_reducible refine (O _).mono ?_); rintro e w2 ⟨rfl, hb2⟩; have J3 := J2.below hb2; clear O))
      | (go_at_call 30; ((with_reducible refine (S _).mono ?_); rintro e w3 ⟨dh, dl, BD, rfl, hb3⟩; obtain rfl := BD.abs_i64 (by omega) (by omega); have J4 := J3.below hb3; obtain ⟨k1, k2, k3, k4, k5⟩ := J4; have k6 := lts k5; have J4 : Holds2 _ _ _ _ := ⟨k1, k2, k3, k4, k5⟩; clear S))
      | (go_at_call 30; ((with_reducible refine (SP _ _ BQ _).mono ?_); rintro e w4 ⟨nh, nl, BN, rfl, hb4⟩; have J5 := J4.below hb4; have n0 := BN.h0; have n1 := BN.h1; have n2 := BN.l0; have n3 := BN.l1; have hge : dl ≤ nh := (by have h1 := BN.unsigned m0 (by omega); have h2 := BN.l1; omega); obtain ⟨l1, l2, l3, l4, l5⟩ := J5; have l6 := lts l5; have J5 : Holds2 _ _ _ _ := ⟨l1, l2, l3, l4, l5⟩; clear SP)))
  go_ret2
  refine ⟨rfl, ?_⟩
  have z_hb1 := hb1.size; (try simp at z_hb1); have z_hbm := hbm.size; (try simp at z_hbm); have z_hb2 := hb2.size; (try simp at z_hb2); have z_hb3 := hb3.size; (try simp at z_hb3); have z_hb4 := hb4.size; (try simp at z_hb4); repeat' (first | exact Below.refl _ _ | (refine Below.setCell ?_ (by first | omega | (simp; done) | (simp; omega)) _) | (refine Below.alloc ?_ (by first | omega | (simp; done) | (simp; omega)) _) | (refine Below.trans ?_ (hb1.mono (by first | omega | (simp; done) | (simp; omega)))) | (refine Below.trans ?_ (hbm.mono (by first | omega | (simp; done) | (simp; omega)))) | (refine Below.trans ?_ (hb2.mono (by first | omega | (simp; done) | (simp; omega)))) | (refine Below.trans ?_ (hb3.mono (by first | omega | (simp; done) | (simp; omega)))) | (refine Below.trans ?_ (hb4.mono (by first | omega | (simp; done) | (simp; omega)))))

set_option maxHeartbeats 4000000 in
theorem md_neg_ap (a b c P M q r d : Int) (w : World)
    (h0 : (c == 0) = false) (hc : c ≤ -1) (T : ∀ w, Calls Try.prog 27 #[.int .i64 a, .int .i64 b] w (GivesBig (-P) w))
    (O : ∀ w, Calls Try.prog 29 #[.int .i64 c] w fun e w' => e = .returned (.agg #[.int .u64 (c / 9223372036854775808 % 18446744073709551616), .int .u64 (c % 18446744073709551616)]) ∧ Below w.heap.size w w')
    (S : ∀ w, Calls Try.prog 30 #[.agg #[.int .u64 (c / 9223372036854775808 % 18446744073709551616), .int .u64 (c % 18446744073709551616)]] w (GivesBig d w)) (d0 : 1 ≤ d) (d1 : d ≤ 9223372036854775808)
    (SP : ∀ ph pl, Big (- -P) ph pl → ∀ w, Calls Try.prog 30 #[.agg #[.int .u64 ph, .int .u64 pl]] w (GivesBig M w)) (m0 : 0 ≤ M) (m1 : M ≤ 85070591730234615865843651857942052864)
    (hbig : M < d * 18446744073709551616) (DV : ∀ nh nl, Big M nh nl → ∀ w, Calls Try.prog 31 #[.int .u64 nh, .int .u64 nl, .int .u64 d] w fun e w' => e = .returned (.tuple #[.int .u64 q, .int .u64 r]) ∧ Below w.heap.size w w')
    (q0 : 0 ≤ q) (q1 : q ≤ 18446744073709551615) (r0 : 0 ≤ r) (r1 : r < d) (BL : ∀ ph pl, Big (- -P) ph pl → ∀ w, Calls Try.prog 32 #[.agg #[.int .u64 ph, .int .u64 pl]] w fun e w' => e = .returned (.bool false) ∧ Below w.heap.size w w')
    (hr : d < 2 * r) :
    Calls Try.prog 14 #[.int .i64 a, .int .i64 b, .int .i64 c] w fun e w' => e = .returned (.tuple #[.int .i64 (fitV (q + 1)), .bool (fitB (q + 1))]) ∧ Below w.heap.size w w' := by
  have FL := field_lo
  have BQ0 : Big q 0 q := Big.small q0 q1
  have BO1 : Big 1 0 1 := Big.small (by omega) (by omega)
  go_enter Try.func14, Try.ntmps14
  go_wp2_with (first
      | (go_at_call 27; ((with_reducible refine (T _).mono ?_); rintro e w1 ⟨ph, pl, BP, rfl, hb1⟩; have J0 := Holds2.new w1 (.int .u64 ph) (.int .u64 pl) 46; clear T))
      | (go_at_call 28; ((with_reducible refine (minus_calls BP _).mono ?_); rintro e wm ⟨mh, ml, BQ, rfl, hbm⟩; have J1 := J0.below hbm; obtain ⟨j1, j2, j3, j4, j5⟩ := J1; have j6 := lts j5; have J2 := Holds2.set ⟨j1, j2, j3, j4, j5⟩ (.int .u64 mh) (.int .u64 ml)))
      | (go_at_call 29; ((with_reducible refine (O _).mono ?_); rintro e w2 ⟨rfl, hb2⟩; have J3 := J2.below hb2; clear O))
      | (go_at_call 30; ((with_reducible refine (S _).mono ?_); rintro e w3 ⟨dh, dl, BD, rfl, hb3⟩; obtain rfl := BD.abs_i64 (by omega) (by omega); have J4 := J3.below hb3; obtain ⟨k1, k2, k3, k4, k5⟩ := J4; have k6 := lts k5; have J4 : Holds2 _ _ _ _ := ⟨k1, k2, k3, k4, k5⟩; clear S))
      | (go_at_call 30; ((with_reducible refine (SP _ _ BQ _).mono ?_); rintro e w4 ⟨nh, nl, BN, rfl, hb4⟩; have J5 := J4.below hb4; have n0 := BN.h0; have n1 := BN.h1; have n2 := BN.l0; have n3 := BN.l1; have hlt2 : nh < dl := (by have h1 := BN.unsigned m0 (by omega); have h2 := BN.l0; omega); obtain ⟨l1, l2, l3, l4, l5⟩ := J5; have l6 := lts l5; have J5 : Holds2 _ _ _ _ := ⟨l1, l2, l3, l4, l5⟩; clear SP))
      | (go_at_call 31; ((with_reducible refine (DV _ _ BN _).mono ?_); rintro e w5 ⟨rfl, hb5⟩; have J6 := (J5.alloc _).below hb5; obtain ⟨o1, o2, o3, o4, o5⟩ := J6; have o6 := lts o5; have J6 : Holds2 _ _ _ _ := ⟨o1, o2, o3, o4, o5⟩; clear DV))
      | (go_at_call 33; ((with_reducible refine (add_calls BQ0 BO1 _).mono ?_); rintro e w7 ⟨qh, ql, BR, rfl, hb7⟩; have J8 := (J6.alloc (.cells #[.int .u64 0, .int .u64 q] 46)).below hb7; have I8 := (Holds2.new w5 (.int .u64 0) (.int .u64 q) 46).below hb7; obtain ⟨t1, t2, t3, t4, t5⟩ := J8; have t6 := lts t5; obtain ⟨u1, u2, u3, u4, u5⟩ := I8; have u6 := lts u5; have I8 := Holds2.set ⟨u1, u2, u3, u4, u5⟩ (.int .u64 qh) (.int .u64 ql); have J8 := Holds2.other ⟨t1, t2, t3, t4, t5⟩ (Nat.ne_of_gt (J6.2.2.2.2)) (.int .u64 qh) (.int .u64 ql)))
      | (go_at_call 32; ((with_reducible refine (BL _ _ BQ _).mono ?_); rintro e w8 ⟨rfl, hb8⟩; have I9 := I8.below hb8; obtain ⟨v1, v2, v3, v4, v5⟩ := I9; have v6 := lts v5; have I9 : Holds2 _ _ _ _ := ⟨v1, v2, v3, v4, v5⟩))
      | (go_at_call 34; ((with_reducible refine (plain_calls BR (by omega) (by omega) _).mono ?_); rintro e w10 ⟨rfl, hb10⟩; skip)))
  go_ret2
  refine ⟨rfl, ?_⟩
  have z_hb1 := hb1.size; (try simp at z_hb1); have z_hbm := hbm.size; (try simp at z_hbm); have z_hb2 := hb2.size; (try simp at z_hb2); have z_hb3 := hb3.size; (try simp at z_hb3); have z_hb4 := hb4.size; (try simp at z_hb4); have z_hb5 := hb5.size; (try simp at z_hb5); have z_hb7 := hb7.size; (try simp at z_hb7); have z_hb8 := hb8.size; (try simp at z_hb8); have z_hb10 := hb10.size; (try simp at z_hb10); repeat' (first | exact Below.refl _ _ | (refine Below.setCell ?_ (by first | omega | (simp; done) | (simp; omega)) _) | (refine Below.alloc ?_ (by first | omega | (simp; done) | (simp; omega)) _) | (refine Below.trans ?_ (hb1.mono (by first | omega | (simp; done) | (simp; omega)))) | (refine Below.trans ?_ (hbm.mono (by first | omega | (simp; done) | (simp; omega)))) | (refine Below.trans ?_ (hb2.mono (by first | omega | (simp; done) | (simp; omega)))) | (refine Below.trans ?_ (hb3.mono (by first | omega | (simp; done) | (simp; omega)))) | (refine Below.trans ?_ (hb4.mono (by first | omega | (simp; done) | (simp; omega)))) | (refine Below.trans ?_ (hb5.mono (by first | omega | (simp; done) | (simp; omega)))) | (refine Below.trans ?_ (hb7.mono (by first | omega | (simp; done) | (simp; omega)))) | (refine Below.trans ?_ (hb8.mono (by first | omega | (simp; done) | (simp; omega)))) | (refine Below.trans ?_ (hb10.mono (by first | omega | (simp; done) | (simp; omega)))))

set_option maxHeartbeats 4000000 in
theorem md_neg_am (a b c P M q r d : Int) (w : World)
    (h0 : (c == 0) = false) (hc : c ≤ -1) (T : ∀ w, Calls Try.prog 27 #[.int .i64 a, .int .i64 b] w (GivesBig (-P) w))
    (O : ∀ w, Calls Try.prog 29 #[.int .i64 c] w fun e w' => e = .returned (.agg #[.int .u64 (c / 9223372036854775808 % 18446744073709551616), .int .u64 (c % 18446744073709551616)]) ∧ Below w.heap.size w w')
    (S : ∀ w, Calls Try.prog 30 #[.agg #[.int .u64 (c / 9223372036854775808 % 18446744073709551616), .int .u64 (c % 18446744073709551616)]] w (GivesBig d w)) (d0 : 1 ≤ d) (d1 : d ≤ 9223372036854775808)
    (SP : ∀ ph pl, Big (- -P) ph pl → ∀ w, Calls Try.prog 30 #[.agg #[.int .u64 ph, .int .u64 pl]] w (GivesBig M w)) (m0 : 0 ≤ M) (m1 : M ≤ 85070591730234615865843651857942052864)
    (hbig : M < d * 18446744073709551616) (DV : ∀ nh nl, Big M nh nl → ∀ w, Calls Try.prog 31 #[.int .u64 nh, .int .u64 nl, .int .u64 d] w fun e w' => e = .returned (.tuple #[.int .u64 q, .int .u64 r]) ∧ Below w.heap.size w w')
    (q0 : 0 ≤ q) (q1 : q ≤ 18446744073709551615) (r0 : 0 ≤ r) (r1 : r < d) (BL : ∀ ph pl, Big (- -P) ph pl → ∀ w, Calls Try.prog 32 #[.agg #[.int .u64 ph, .int .u64 pl]] w fun e w' => e = .returned (.bool true) ∧ Below w.heap.size w w')
    (hr : d < 2 * r) :
    Calls Try.prog 14 #[.int .i64 a, .int .i64 b, .int .i64 c] w fun e w' => e = .returned (.tuple #[.int .i64 (fitV (-(q + 1))), .bool (fitB (-(q + 1)))]) ∧ Below w.heap.size w w' := by
  have FL := field_lo
  have BQ0 : Big q 0 q := Big.small q0 q1
  have BO1 : Big 1 0 1 := Big.small (by omega) (by omega)
  go_enter Try.func14, Try.ntmps14
  go_wp2_with (first
      | (go_at_call 27; ((with_reducible refine (T _).mono ?_); rintro e w1 ⟨ph, pl, BP, rfl, hb1⟩; have J0 := Holds2.new w1 (.int .u64 ph) (.int .u64 pl) 46; clear T))
      | (go_at_call 28; ((with_reducible refine (minus_calls BP _).mono ?_); rintro e wm ⟨mh, ml, BQ, rfl, hbm⟩; have J1 := J0.below hbm; obtain ⟨j1, j2, j3, j4, j5⟩ := J1; have j6 := lts j5; have J2 := Holds2.set ⟨j1, j2, j3, j4, j5⟩ (.int .u64 mh) (.int .u64 ml)))
      | (go_at_call 29; ((with_reducible refine (O _).mono ?_); rintro e w2 ⟨rfl, hb2⟩; have J3 := J2.below hb2; clear O))
      | (go_at_call 30; ((with_reducible refine (S _).mono ?_); rintro e w3 ⟨dh, dl, BD, rfl, hb3⟩; obtain rfl := BD.abs_i64 (by omega) (by omega); have J4 := J3.below hb3; obtain ⟨k1, k2, k3, k4, k5⟩ := J4; have k6 := lts k5; have J4 : Holds2 _ _ _ _ := ⟨k1, k2, k3, k4, k5⟩; clear S))
      | (go_at_call 30; ((with_reducible refine (SP _ _ BQ _).mono ?_); rintro e w4 ⟨nh, nl, BN, rfl, hb4⟩; have J5 := J4.below hb4; have n0 := BN.h0; have n1 := BN.h1; have n2 := BN.l0; have n3 := BN.l1; have hlt2 : nh < dl := (by have h1 := BN.unsigned m0 (by omega); have h2 := BN.l0; omega); obtain ⟨l1, l2, l3, l4, l5⟩ := J5; have l6 := lts l5; have J5 : Holds2 _ _ _ _ := ⟨l1, l2, l3, l4, l5⟩; clear SP))
      | (go_at_call 31; ((with_reducible refine (DV _ _ BN _).mono ?_); rintro e w5 ⟨rfl, hb5⟩; have J6 := (J5.alloc _).below hb5; obtain ⟨o1, o2, o3, o4, o5⟩ := J6; have o6 := lts o5; have J6 : Holds2 _ _ _ _ := ⟨o1, o2, o3, o4, o5⟩; clear DV))
      | (go_at_call 33; ((with_reducible refine (add_calls BQ0 BO1 _).mono ?_); rintro e w7 ⟨qh, ql, BR, rfl, hb7⟩; have J8 := (J6.alloc (.cells #[.int .u64 0, .int .u64 q] 46)).below hb7; have I8 := (Holds2.new w5 (.int .u64 0) (.int .u64 q) 46).below hb7; obtain ⟨t1, t2, t3, t4, t5⟩ := J8; have t6 := lts t5; obtain ⟨u1, u2, u3, u4, u5⟩ := I8; have u6 := lts u5; have I8 := Holds2.set ⟨u1, u2, u3, u4, u5⟩ (.int .u64 qh) (.int .u64 ql); have J8 := Holds2.other ⟨t1, t2, t3, t4, t5⟩ (Nat.ne_of_gt (J6.2.2.2.2)) (.int .u64 qh) (.int .u64 ql)))
      | (go_at_call 32; ((with_reducible refine (BL _ _ BQ _).mono ?_); rintro e w8 ⟨rfl, hb8⟩; have I9 := I8.below hb8; obtain ⟨v1, v2, v3, v4, v5⟩ := I9; have v6 := lts v5; have I9 : Holds2 _ _ _ _ := ⟨v1, v2, v3, v4, v5⟩))
      | (go_at_call 28; ((with_reducible refine (minus_calls BR _).mono ?_); rintro e w9 ⟨zh, zl, BZ, rfl, hb9⟩; have I10 := I9.below hb9; obtain ⟨x1, x2, x3, x4, x5⟩ := I10; have x6 := lts x5))
      | (go_at_call 34; ((with_reducible refine (plain_calls BZ (by omega) (by omega) _).mono ?_); rintro e w10 ⟨rfl, hb10⟩; skip)))
  go_ret2
  refine ⟨rfl, ?_⟩
  have z_hb1 := hb1.size; (try simp at z_hb1); have z_hbm := hbm.size; (try simp at z_hbm); have z_hb2 := hb2.size; (try simp at z_hb2); have z_hb3 := hb3.size; (try simp at z_hb3); have z_hb4 := hb4.size; (try simp at z_hb4); have z_hb5 := hb5.size; (try simp at z_hb5); have z_hb7 := hb7.size; (try simp at z_hb7); have z_hb8 := hb8.size; (try simp at z_hb8); have z_hb9 := hb9.size; (try simp at z_hb9); have z_hb10 := hb10.size; (try simp at z_hb10); repeat' (first | exact Below.refl _ _ | (refine Below.setCell ?_ (by first | omega | (simp; done) | (simp; omega)) _) | (refine Below.alloc ?_ (by first | omega | (simp; done) | (simp; omega)) _) | (refine Below.trans ?_ (hb1.mono (by first | omega | (simp; done) | (simp; omega)))) | (refine Below.trans ?_ (hbm.mono (by first | omega | (simp; done) | (simp; omega)))) | (refine Below.trans ?_ (hb2.mono (by first | omega | (simp; done) | (simp; omega)))) | (refine Below.trans ?_ (hb3.mono (by first | omega | (simp; done) | (simp; omega)))) | (refine Below.trans ?_ (hb4.mono (by first | omega | (simp; done) | (simp; omega)))) | (refine Below.trans ?_ (hb5.mono (by first | omega | (simp; done) | (simp; omega)))) | (refine Below.trans ?_ (hb7.mono (by first | omega | (simp; done) | (simp; omega)))) | (refine Below.trans ?_ (hb8.mono (by first | omega | (simp; done) | (simp; omega)))) | (refine Below.trans ?_ (hb9.mono (by first | omega | (simp; done) | (simp; omega)))) | (refine Below.trans ?_ (hb10.mono (by first | omega | (simp; done) | (simp; omega)))))

set_option maxHeartbeats 4000000 in
theorem md_neg_bp (a b c P M q r d : Int) (w : World)
    (h0 : (c == 0) = false) (hc : c ≤ -1) (T : ∀ w, Calls Try.prog 27 #[.int .i64 a, .int .i64 b] w (GivesBig (-P) w))
    (O : ∀ w, Calls Try.prog 29 #[.int .i64 c] w fun e w' => e = .returned (.agg #[.int .u64 (c / 9223372036854775808 % 18446744073709551616), .int .u64 (c % 18446744073709551616)]) ∧ Below w.heap.size w w')
    (S : ∀ w, Calls Try.prog 30 #[.agg #[.int .u64 (c / 9223372036854775808 % 18446744073709551616), .int .u64 (c % 18446744073709551616)]] w (GivesBig d w)) (d0 : 1 ≤ d) (d1 : d ≤ 9223372036854775808)
    (SP : ∀ ph pl, Big (- -P) ph pl → ∀ w, Calls Try.prog 30 #[.agg #[.int .u64 ph, .int .u64 pl]] w (GivesBig M w)) (m0 : 0 ≤ M) (m1 : M ≤ 85070591730234615865843651857942052864)
    (hbig : M < d * 18446744073709551616) (DV : ∀ nh nl, Big M nh nl → ∀ w, Calls Try.prog 31 #[.int .u64 nh, .int .u64 nl, .int .u64 d] w fun e w' => e = .returned (.tuple #[.int .u64 q, .int .u64 r]) ∧ Below w.heap.size w w')
    (q0 : 0 ≤ q) (q1 : q ≤ 18446744073709551615) (r0 : 0 ≤ r) (r1 : r < d) (BL : ∀ ph pl, Big (- -P) ph pl → ∀ w, Calls Try.prog 32 #[.agg #[.int .u64 ph, .int .u64 pl]] w fun e w' => e = .returned (.bool false) ∧ Below w.heap.size w w')
    (hr : (r == d - r) = true) (hr' : d - r ≤ r) (hr'' : r ≤ d - r) :
    Calls Try.prog 14 #[.int .i64 a, .int .i64 b, .int .i64 c] w fun e w' => e = .returned (.tuple #[.int .i64 (fitV (q + 1)), .bool (fitB (q + 1))]) ∧ Below w.heap.size w w' := by
  have FL := field_lo
  have BQ0 : Big q 0 q := Big.small q0 q1
  have BO1 : Big 1 0 1 := Big.small (by omega) (by omega)
  go_enter Try.func14, Try.ntmps14
  go_wp2_with (first
      | (go_at_call 27; ((with_reducible refine (T _).mono ?_); rintro e w1 ⟨ph, pl, BP, rfl, hb1⟩; have J0 := Holds2.new w1 (.int .u64 ph) (.int .u64 pl) 46; clear T))
      | (go_at_call 28; ((with_reducible refine (minus_calls BP _).mono ?_); rintro e wm ⟨mh, ml, BQ, rfl, hbm⟩; have J1 := J0.below hbm; obtain ⟨j1, j2, j3, j4, j5⟩ := J1; have j6 := lts j5; have J2 := Holds2.set ⟨j1, j2, j3, j4, j5⟩ (.int .u64 mh) (.int .u64 ml)))
      | (go_at_call 29; ((with_reducible refine (O _).mono ?_); rintro e w2 ⟨rfl, hb2⟩; have J3 := J2.below hb2; clear O))
      | (go_at_call 30; ((with_reducible refine (S _).mono ?_); rintro e w3 ⟨dh, dl, BD, rfl, hb3⟩; obtain rfl := BD.abs_i64 (by omega) (by omega); have J4 := J3.below hb3; obtain ⟨k1, k2, k3, k4, k5⟩ := J4; have k6 := lts k5; have J4 : Holds2 _ _ _ _ := ⟨k1, k2, k3, k4, k5⟩; clear S))
      | (go_at_call 30; ((with_reducible refine (SP _ _ BQ _).mono ?_); rintro e w4 ⟨nh, nl, BN, rfl, hb4⟩; have J5 := J4.below hb4; have n0 := BN.h0; have n1 := BN.h1; have n2 := BN.l0; have n3 := BN.l1; have hlt2 : nh < dl := (by have h1 := BN.unsigned m0 (by omega); have h2 := BN.l0; omega); obtain ⟨l1, l2, l3, l4, l5⟩ := J5; have l6 := lts l5; have J5 : Holds2 _ _ _ _ := ⟨l1, l2, l3, l4, l5⟩; clear SP))
      | (go_at_call 31; ((with_reducible refine (DV _ _ BN _).mono ?_); rintro e w5 ⟨rfl, hb5⟩; have J6 := (J5.alloc _).below hb5; obtain ⟨o1, o2, o3, o4, o5⟩ := J6; have o6 := lts o5; have J6 : Holds2 _ _ _ _ := ⟨o1, o2, o3, o4, o5⟩; clear DV))
      | (go_at_call 32; ((with_reducible refine (BL _ _ BQ _).mono ?_); rintro e w6 ⟨rfl, hb6⟩; have J7 := J6.below hb6; obtain ⟨s1, s2, s3, s4, s5⟩ := J7; have s6 := lts s5; have J7 : Holds2 _ _ _ _ := ⟨s1, s2, s3, s4, s5⟩))
      | (go_at_call 33; ((with_reducible refine (add_calls BQ0 BO1 _).mono ?_); rintro e w7 ⟨qh, ql, BR, rfl, hb7⟩; have J8 := (J7.alloc (.cells #[.int .u64 0, .int .u64 q] 46)).below hb7; have I8 := (Holds2.new w6 (.int .u64 0) (.int .u64 q) 46).below hb7; obtain ⟨t1, t2, t3, t4, t5⟩ := J8; have t6 := lts t5; obtain ⟨u1, u2, u3, u4, u5⟩ := I8; have u6 := lts u5; have I8 := Holds2.set ⟨u1, u2, u3, u4, u5⟩ (.int .u64 qh) (.int .u64 ql); have J8 := Holds2.other ⟨t1, t2, t3, t4, t5⟩ (Nat.ne_of_gt (J7.2.2.2.2)) (.int .u64 qh) (.int .u64 ql)))
      | (go_at_call 32; ((with_reducible refine (BL _ _ BQ _).mono ?_); rintro e w8 ⟨rfl, hb8⟩; have I9 := I8.below hb8; obtain ⟨v1, v2, v3, v4, v5⟩ := I9; have v6 := lts v5; have I9 : Holds2 _ _ _ _ := ⟨v1, v2, v3, v4, v5⟩))
      | (go_at_call 34; ((with_reducible refine (plain_calls BR (by omega) (by omega) _).mono ?_); rintro e w10 ⟨rfl, hb10⟩; skip)))
  go_ret2
  refine ⟨rfl, ?_⟩
  have z_hb1 := hb1.size; (try simp at z_hb1); have z_hbm := hbm.size; (try simp at z_hbm); have z_hb2 := hb2.size; (try simp at z_hb2); have z_hb3 := hb3.size; (try simp at z_hb3); have z_hb4 := hb4.size; (try simp at z_hb4); have z_hb5 := hb5.size; (try simp at z_hb5); have z_hb6 := hb6.size; (try simp at z_hb6); have z_hb7 := hb7.size; (try simp at z_hb7); have z_hb8 := hb8.size; (try simp at z_hb8); have z_hb10 := hb10.size; (try simp at z_hb10); repeat' (first | exact Below.refl _ _ | (refine Below.setCell ?_ (by first | omega | (simp; done) | (simp; omega)) _) | (refine Below.alloc ?_ (by first | omega | (simp; done) | (simp; omega)) _) | (refine Below.trans ?_ (hb1.mono (by first | omega | (simp; done) | (simp; omega)))) | (refine Below.trans ?_ (hbm.mono (by first | omega | (simp; done) | (simp; omega)))) | (refine Below.trans ?_ (hb2.mono (by first | omega | (simp; done) | (simp; omega)))) | (refine Below.trans ?_ (hb3.mono (by first | omega | (simp; done) | (simp; omega)))) | (refine Below.trans ?_ (hb4.mono (by first | omega | (simp; done) | (simp; omega)))) | (refine Below.trans ?_ (hb5.mono (by first | omega | (simp; done) | (simp; omega)))) | (refine Below.trans ?_ (hb6.mono (by first | omega | (simp; done) | (simp; omega)))) | (refine Below.trans ?_ (hb7.mono (by first | omega | (simp; done) | (simp; omega)))) | (refine Below.trans ?_ (hb8.mono (by first | omega | (simp; done) | (simp; omega)))) | (refine Below.trans ?_ (hb10.mono (by first | omega | (simp; done) | (simp; omega)))))

set_option maxHeartbeats 4000000 in
theorem md_neg_bm (a b c P M q r d : Int) (w : World)
    (h0 : (c == 0) = false) (hc : c ≤ -1) (T : ∀ w, Calls Try.prog 27 #[.int .i64 a, .int .i64 b] w (GivesBig (-P) w))
    (O : ∀ w, Calls Try.prog 29 #[.int .i64 c] w fun e w' => e = .returned (.agg #[.int .u64 (c / 9223372036854775808 % 18446744073709551616), .int .u64 (c % 18446744073709551616)]) ∧ Below w.heap.size w w')
    (S : ∀ w, Calls Try.prog 30 #[.agg #[.int .u64 (c / 9223372036854775808 % 18446744073709551616), .int .u64 (c % 18446744073709551616)]] w (GivesBig d w)) (d0 : 1 ≤ d) (d1 : d ≤ 9223372036854775808)
    (SP : ∀ ph pl, Big (- -P) ph pl → ∀ w, Calls Try.prog 30 #[.agg #[.int .u64 ph, .int .u64 pl]] w (GivesBig M w)) (m0 : 0 ≤ M) (m1 : M ≤ 85070591730234615865843651857942052864)
    (hbig : M < d * 18446744073709551616) (DV : ∀ nh nl, Big M nh nl → ∀ w, Calls Try.prog 31 #[.int .u64 nh, .int .u64 nl, .int .u64 d] w fun e w' => e = .returned (.tuple #[.int .u64 q, .int .u64 r]) ∧ Below w.heap.size w w')
    (q0 : 0 ≤ q) (q1 : q ≤ 18446744073709551615) (r0 : 0 ≤ r) (r1 : r < d) (BL : ∀ ph pl, Big (- -P) ph pl → ∀ w, Calls Try.prog 32 #[.agg #[.int .u64 ph, .int .u64 pl]] w fun e w' => e = .returned (.bool true) ∧ Below w.heap.size w w')
    (hr : (r == d - r) = true) (hr' : d - r ≤ r) (hr'' : r ≤ d - r) :
    Calls Try.prog 14 #[.int .i64 a, .int .i64 b, .int .i64 c] w fun e w' => e = .returned (.tuple #[.int .i64 (fitV (-q)), .bool (fitB (-q))]) ∧ Below w.heap.size w w' := by
  have FL := field_lo
  have BQ0 : Big q 0 q := Big.small q0 q1
  have BO1 : Big 1 0 1 := Big.small (by omega) (by omega)
  go_enter Try.func14, Try.ntmps14
  go_wp2_with (first
      | (go_at_call 27; ((with_reducible refine (T _).mono ?_); rintro e w1 ⟨ph, pl, BP, rfl, hb1⟩; have J0 := Holds2.new w1 (.int .u64 ph) (.int .u64 pl) 46; clear T))
      | (go_at_call 28; ((with_reducible refine (minus_calls BP _).mono ?_); rintro e wm ⟨mh, ml, BQ, rfl, hbm⟩; have J1 := J0.below hbm; obtain ⟨j1, j2, j3, j4, j5⟩ := J1; have j6 := lts j5; have J2 := Holds2.set ⟨j1, j2, j3, j4, j5⟩ (.int .u64 mh) (.int .u64 ml)))
      | (go_at_call 29; ((with_reducible refine (O _).mono ?_); rintro e w2 ⟨rfl, hb2⟩; have J3 := J2.below hb2; clear O))
      | (go_at_call 30; ((with_reducible refine (S _).mono ?_); rintro e w3 ⟨dh, dl, BD, rfl, hb3⟩; obtain rfl := BD.abs_i64 (by omega) (by omega); have J4 := J3.below hb3; obtain ⟨k1, k2, k3, k4, k5⟩ := J4; have k6 := lts k5; have J4 : Holds2 _ _ _ _ := ⟨k1, k2, k3, k4, k5⟩; clear S))
      | (go_at_call 30; ((with_reducible refine (SP _ _ BQ _).mono ?_); rintro e w4 ⟨nh, nl, BN, rfl, hb4⟩; have J5 := J4.below hb4; have n0 := BN.h0; have n1 := BN.h1; have n2 := BN.l0; have n3 := BN.l1; have hlt2 : nh < dl := (by have h1 := BN.unsigned m0 (by omega); have h2 := BN.l0; omega); obtain ⟨l1, l2, l3, l4, l5⟩ := J5; have l6 := lts l5; have J5 : Holds2 _ _ _ _ := ⟨l1, l2, l3, l4, l5⟩; clear SP))
      | (go_at_call 31; ((with_reducible refine (DV _ _ BN _).mono ?_); rintro e w5 ⟨rfl, hb5⟩; have J6 := (J5.alloc _).below hb5; obtain ⟨o1, o2, o3, o4, o5⟩ := J6; have o6 := lts o5; have J6 : Holds2 _ _ _ _ := ⟨o1, o2, o3, o4, o5⟩; clear DV))
      | (go_at_call 32; ((with_reducible refine (BL _ _ BQ _).mono ?_); rintro e w6 ⟨rfl, hb6⟩; have J7 := J6.below hb6; obtain ⟨s1, s2, s3, s4, s5⟩ := J7; have s6 := lts s5; have J7 : Holds2 _ _ _ _ := ⟨s1, s2, s3, s4, s5⟩))
      | (go_at_call 32; ((with_reducible refine (BL _ _ BQ _).mono ?_); rintro e w8 ⟨rfl, hb8⟩; have I9 := (Holds2.new w6 (.int .u64 0) (.int .u64 q) 46).below hb8; obtain ⟨v1, v2, v3, v4, v5⟩ := I9; have v6 := lts v5; have I9 : Holds2 _ _ _ _ := ⟨v1, v2, v3, v4, v5⟩))
      | (go_at_call 28; ((with_reducible refine (minus_calls BQ0 _).mono ?_); rintro e w9 ⟨zh, zl, BZ, rfl, hb9⟩; have I10 := I9.below hb9; obtain ⟨x1, x2, x3, x4, x5⟩ := I10; have x6 := lts x5))
      | (go_at_call 34; ((with_reducible refine (plain_calls BZ (by omega) (by omega) _).mono ?_); rintro e w10 ⟨rfl, hb10⟩; skip)))
  go_ret2
  refine ⟨rfl, ?_⟩
  have z_hb1 := hb1.size; (try simp at z_hb1); have z_hbm := hbm.size; (try simp at z_hbm); have z_hb2 := hb2.size; (try simp at z_hb2); have z_hb3 := hb3.size; (try simp at z_hb3); have z_hb4 := hb4.size; (try simp at z_hb4); have z_hb5 := hb5.size; (try simp at z_hb5); have z_hb6 := hb6.size; (try simp at z_hb6); have z_hb8 := hb8.size; (try simp at z_hb8); have z_hb9 := hb9.size; (try simp at z_hb9); have z_hb10 := hb10.size; (try simp at z_hb10); repeat' (first | exact Below.refl _ _ | (refine Below.setCell ?_ (by first | omega | (simp; done) | (simp; omega)) _) | (refine Below.alloc ?_ (by first | omega | (simp; done) | (simp; omega)) _) | (refine Below.trans ?_ (hb1.mono (by first | omega | (simp; done) | (simp; omega)))) | (refine Below.trans ?_ (hbm.mono (by first | omega | (simp; done) | (simp; omega)))) | (refine Below.trans ?_ (hb2.mono (by first | omega | (simp; done) | (simp; omega)))) | (refine Below.trans ?_ (hb3.mono (by first | omega | (simp; done) | (simp; omega)))) | (refine Below.trans ?_ (hb4.mono (by first | omega | (simp; done) | (simp; omega)))) | (refine Below.trans ?_ (hb5.mono (by first | omega | (simp; done) | (simp; omega)))) | (refine Below.trans ?_ (hb6.mono (by first | omega | (simp; done) | (simp; omega)))) | (refine Below.trans ?_ (hb8.mono (by first | omega | (simp; done) | (simp; omega)))) | (refine Below.trans ?_ (hb9.mono (by first | omega | (simp; done) | (simp; omega)))) | (refine Below.trans ?_ (hb10.mono (by first | omega | (simp; done) | (simp; omega)))))

set_option maxHeartbeats 4000000 in
theorem md_neg_cp (a b c P M q r d : Int) (w : World)
    (h0 : (c == 0) = false) (hc : c ≤ -1) (T : ∀ w, Calls Try.prog 27 #[.int .i64 a, .int .i64 b] w (GivesBig (-P) w))
    (O : ∀ w, Calls Try.prog 29 #[.int .i64 c] w fun e w' => e = .returned (.agg #[.int .u64 (c / 9223372036854775808 % 18446744073709551616), .int .u64 (c % 18446744073709551616)]) ∧ Below w.heap.size w w')
    (S : ∀ w, Calls Try.prog 30 #[.agg #[.int .u64 (c / 9223372036854775808 % 18446744073709551616), .int .u64 (c % 18446744073709551616)]] w (GivesBig d w)) (d0 : 1 ≤ d) (d1 : d ≤ 9223372036854775808)
    (SP : ∀ ph pl, Big (- -P) ph pl → ∀ w, Calls Try.prog 30 #[.agg #[.int .u64 ph, .int .u64 pl]] w (GivesBig M w)) (m0 : 0 ≤ M) (m1 : M ≤ 85070591730234615865843651857942052864)
    (hbig : M < d * 18446744073709551616) (DV : ∀ nh nl, Big M nh nl → ∀ w, Calls Try.prog 31 #[.int .u64 nh, .int .u64 nl, .int .u64 d] w fun e w' => e = .returned (.tuple #[.int .u64 q, .int .u64 r]) ∧ Below w.heap.size w w')
    (q0 : 0 ≤ q) (q1 : q ≤ 18446744073709551615) (r0 : 0 ≤ r) (r1 : r < d) (BL : ∀ ph pl, Big (- -P) ph pl → ∀ w, Calls Try.prog 32 #[.agg #[.int .u64 ph, .int .u64 pl]] w fun e w' => e = .returned (.bool false) ∧ Below w.heap.size w w')
    (hr : (r == d - r) = false) (hr' : 2 * r < d) :
    Calls Try.prog 14 #[.int .i64 a, .int .i64 b, .int .i64 c] w fun e w' => e = .returned (.tuple #[.int .i64 (fitV q), .bool (fitB q)]) ∧ Below w.heap.size w w' := by
  have FL := field_lo
  have BQ0 : Big q 0 q := Big.small q0 q1
  have BO1 : Big 1 0 1 := Big.small (by omega) (by omega)
  go_enter Try.func14, Try.ntmps14
  go_wp2_with (first
      | (go_at_call 27; ((with_reducible refine (T _).mono ?_); rintro e w1 ⟨ph, pl, BP, rfl, hb1⟩; have J0 := Holds2.new w1 (.int .u64 ph) (.int .u64 pl) 46; clear T))
      | (go_at_call 28; ((with_reducible refine (minus_calls BP _).mono ?_); rintro e wm ⟨mh, ml, BQ, rfl, hbm⟩; have J1 := J0.below hbm; obtain ⟨j1, j2, j3, j4, j5⟩ := J1; have j6 := lts j5; have J2 := Holds2.set ⟨j1, j2, j3, j4, j5⟩ (.int .u64 mh) (.int .u64 ml)))
      | (go_at_call 29; ((with_reducible refine (O _).mono ?_); rintro e w2 ⟨rfl, hb2⟩; have J3 := J2.below hb2; clear O))
      | (go_at_call 30; ((with_reducible refine (S _).mono ?_); rintro e w3 ⟨dh, dl, BD, rfl, hb3⟩; obtain rfl := BD.abs_i64 (by omega) (by omega); have J4 := J3.below hb3; obtain ⟨k1, k2, k3, k4, k5⟩ := J4; have k6 := lts k5; have J4 : Holds2 _ _ _ _ := ⟨k1, k2, k3, k4, k5⟩; clear S))
      | (go_at_call 30; ((with_reducible refine (SP _ _ BQ _).mono ?_); rintro e w4 ⟨nh, nl, BN, rfl, hb4⟩; have J5 := J4.below hb4; have n0 := BN.h0; have n1 := BN.h1; have n2 := BN.l0; have n3 := BN.l1; have hlt2 : nh < dl := (by have h1 := BN.unsigned m0 (by omega); have h2 := BN.l0; omega); obtain ⟨l1, l2, l3, l4, l5⟩ := J5; have l6 := lts l5; have J5 : Holds2 _ _ _ _ := ⟨l1, l2, l3, l4, l5⟩; clear SP))
      | (go_at_call 31; ((with_reducible refine (DV _ _ BN _).mono ?_); rintro e w5 ⟨rfl, hb5⟩; have J6 := (J5.alloc _).below hb5; obtain ⟨o1, o2, o3, o4, o5⟩ := J6; have o6 := lts o5; have J6 : Holds2 _ _ _ _ := ⟨o1, o2, o3, o4, o5⟩; clear DV))
      | (go_at_call 32; ((with_reducible refine (BL _ _ BQ _).mono ?_); rintro e w8 ⟨rfl, hb8⟩; have I9 := (Holds2.new w5 (.int .u64 0) (.int .u64 q) 46).below hb8; obtain ⟨v1, v2, v3, v4, v5⟩ := I9; have v6 := lts v5; have I9 : Holds2 _ _ _ _ := ⟨v1, v2, v3, v4, v5⟩))
      | (go_at_call 34; ((with_reducible refine (plain_calls BQ0 (by omega) (by omega) _).mono ?_); rintro e w10 ⟨rfl, hb10⟩; skip)))
  go_ret2
  refine ⟨rfl, ?_⟩
  have z_hb1 := hb1.size; (try simp at z_hb1); have z_hbm := hbm.size; (try simp at z_hbm); have z_hb2 := hb2.size; (try simp at z_hb2); have z_hb3 := hb3.size; (try simp at z_hb3); have z_hb4 := hb4.size; (try simp at z_hb4); have z_hb5 := hb5.size; (try simp at z_hb5); have z_hb8 := hb8.size; (try simp at z_hb8); have z_hb10 := hb10.size; (try simp at z_hb10); repeat' (first | exact Below.refl _ _ | (refine Below.setCell ?_ (by first | omega | (simp; done) | (simp; omega)) _) | (refine Below.alloc ?_ (by first | omega | (simp; done) | (simp; omega)) _) | (refine Below.trans ?_ (hb1.mono (by first | omega | (simp; done) | (simp; omega)))) | (refine Below.trans ?_ (hbm.mono (by first | omega | (simp; done) | (simp; omega)))) | (refine Below.trans ?_ (hb2.mono (by first | omega | (simp; done) | (simp; omega)))) | (refine Below.trans ?_ (hb3.mono (by first | omega | (simp; done) | (simp; omega)))) | (refine Below.trans ?_ (hb4.mono (by first | omega | (simp; done) | (simp; omega)))) | (refine Below.trans ?_ (hb5.mono (by first | omega | (simp; done) | (simp; omega)))) | (refine Below.trans ?_ (hb8.mono (by first | omega | (simp; done) | (simp; omega)))) | (refine Below.trans ?_ (hb10.mono (by first | omega | (simp; done) | (simp; omega)))))

set_option maxHeartbeats 4000000 in
theorem md_neg_cm (a b c P M q r d : Int) (w : World)
    (h0 : (c == 0) = false) (hc : c ≤ -1) (T : ∀ w, Calls Try.prog 27 #[.int .i64 a, .int .i64 b] w (GivesBig (-P) w))
    (O : ∀ w, Calls Try.prog 29 #[.int .i64 c] w fun e w' => e = .returned (.agg #[.int .u64 (c / 9223372036854775808 % 18446744073709551616), .int .u64 (c % 18446744073709551616)]) ∧ Below w.heap.size w w')
    (S : ∀ w, Calls Try.prog 30 #[.agg #[.int .u64 (c / 9223372036854775808 % 18446744073709551616), .int .u64 (c % 18446744073709551616)]] w (GivesBig d w)) (d0 : 1 ≤ d) (d1 : d ≤ 9223372036854775808)
    (SP : ∀ ph pl, Big (- -P) ph pl → ∀ w, Calls Try.prog 30 #[.agg #[.int .u64 ph, .int .u64 pl]] w (GivesBig M w)) (m0 : 0 ≤ M) (m1 : M ≤ 85070591730234615865843651857942052864)
    (hbig : M < d * 18446744073709551616) (DV : ∀ nh nl, Big M nh nl → ∀ w, Calls Try.prog 31 #[.int .u64 nh, .int .u64 nl, .int .u64 d] w fun e w' => e = .returned (.tuple #[.int .u64 q, .int .u64 r]) ∧ Below w.heap.size w w')
    (q0 : 0 ≤ q) (q1 : q ≤ 18446744073709551615) (r0 : 0 ≤ r) (r1 : r < d) (BL : ∀ ph pl, Big (- -P) ph pl → ∀ w, Calls Try.prog 32 #[.agg #[.int .u64 ph, .int .u64 pl]] w fun e w' => e = .returned (.bool true) ∧ Below w.heap.size w w')
    (hr : (r == d - r) = false) (hr' : 2 * r < d) :
    Calls Try.prog 14 #[.int .i64 a, .int .i64 b, .int .i64 c] w fun e w' => e = .returned (.tuple #[.int .i64 (fitV (-q)), .bool (fitB (-q))]) ∧ Below w.heap.size w w' := by
  have FL := field_lo
  have BQ0 : Big q 0 q := Big.small q0 q1
  have BO1 : Big 1 0 1 := Big.small (by omega) (by omega)
  go_enter Try.func14, Try.ntmps14
  go_wp2_with (first
      | (go_at_call 27; ((with_reducible refine (T _).mono ?_); rintro e w1 ⟨ph, pl, BP, rfl, hb1⟩; have J0 := Holds2.new w1 (.int .u64 ph) (.int .u64 pl) 46; clear T))
      | (go_at_call 28; ((with_reducible refine (minus_calls BP _).mono ?_); rintro e wm ⟨mh, ml, BQ, rfl, hbm⟩; have J1 := J0.below hbm; obtain ⟨j1, j2, j3, j4, j5⟩ := J1; have j6 := lts j5; have J2 := Holds2.set ⟨j1, j2, j3, j4, j5⟩ (.int .u64 mh) (.int .u64 ml)))
      | (go_at_call 29; ((with_reducible refine (O _).mono ?_); rintro e w2 ⟨rfl, hb2⟩; have J3 := J2.below hb2; clear O))
      | (go_at_call 30; ((with_reducible refine (S _).mono ?_); rintro e w3 ⟨dh, dl, BD, rfl, hb3⟩; obtain rfl := BD.abs_i64 (by omega) (by omega); have J4 := J3.below hb3; obtain ⟨k1, k2, k3, k4, k5⟩ := J4; have k6 := lts k5; have J4 : Holds2 _ _ _ _ := ⟨k1, k2, k3, k4, k5⟩; clear S))
      | (go_at_call 30; ((with_reducible refine (SP _ _ BQ _).mono ?_); rintro e w4 ⟨nh, nl, BN, rfl, hb4⟩; have J5 := J4.below hb4; have n0 := BN.h0; have n1 := BN.h1; have n2 := BN.l0; have n3 := BN.l1; have hlt2 : nh < dl := (by have h1 := BN.unsigned m0 (by omega); have h2 := BN.l0; omega); obtain ⟨l1, l2, l3, l4, l5⟩ := J5; have l6 := lts l5; have J5 : Holds2 _ _ _ _ := ⟨l1, l2, l3, l4, l5⟩; clear SP))
      | (go_at_call 31; ((with_reducible refine (DV _ _ BN _).mono ?_); rintro e w5 ⟨rfl, hb5⟩; have J6 := (J5.alloc _).below hb5; obtain ⟨o1, o2, o3, o4, o5⟩ := J6; have o6 := lts o5; have J6 : Holds2 _ _ _ _ := ⟨o1, o2, o3, o4, o5⟩; clear DV))
      | (go_at_call 32; ((with_reducible refine (BL _ _ BQ _).mono ?_); rintro e w8 ⟨rfl, hb8⟩; have I9 := (Holds2.new w5 (.int .u64 0) (.int .u64 q) 46).below hb8; obtain ⟨v1, v2, v3, v4, v5⟩ := I9; have v6 := lts v5; have I9 : Holds2 _ _ _ _ := ⟨v1, v2, v3, v4, v5⟩))
      | (go_at_call 28; ((with_reducible refine (minus_calls BQ0 _).mono ?_); rintro e w9 ⟨zh, zl, BZ, rfl, hb9⟩; have I10 := I9.below hb9; obtain ⟨x1, x2, x3, x4, x5⟩ := I10; have x6 := lts x5))
      | (go_at_call 34; ((with_reducible refine (plain_calls BZ (by omega) (by omega) _).mono ?_); rintro e w10 ⟨rfl, hb10⟩; skip)))
  go_ret2
  refine ⟨rfl, ?_⟩
  have z_hb1 := hb1.size; (try simp at z_hb1); have z_hbm := hbm.size; (try simp at z_hbm); have z_hb2 := hb2.size; (try simp at z_hb2); have z_hb3 := hb3.size; (try simp at z_hb3); have z_hb4 := hb4.size; (try simp at z_hb4); have z_hb5 := hb5.size; (try simp at z_hb5); have z_hb8 := hb8.size; (try simp at z_hb8); have z_hb9 := hb9.size; (try simp at z_hb9); have z_hb10 := hb10.size; (try simp at z_hb10); repeat' (first | exact Below.refl _ _ | (refine Below.setCell ?_ (by first | omega | (simp; done) | (simp; omega)) _) | (refine Below.alloc ?_ (by first | omega | (simp; done) | (simp; omega)) _) | (refine Below.trans ?_ (hb1.mono (by first | omega | (simp; done) | (simp; omega)))) | (refine Below.trans ?_ (hbm.mono (by first | omega | (simp; done) | (simp; omega)))) | (refine Below.trans ?_ (hb2.mono (by first | omega | (simp; done) | (simp; omega)))) | (refine Below.trans ?_ (hb3.mono (by first | omega | (simp; done) | (simp; omega)))) | (refine Below.trans ?_ (hb4.mono (by first | omega | (simp; done) | (simp; omega)))) | (refine Below.trans ?_ (hb5.mono (by first | omega | (simp; done) | (simp; omega)))) | (refine Below.trans ?_ (hb8.mono (by first | omega | (simp; done) | (simp; omega)))) | (refine Below.trans ?_ (hb9.mono (by first | omega | (simp; done) | (simp; omega)))) | (refine Below.trans ?_ (hb10.mono (by first | omega | (simp; done) | (simp; omega)))))

end Go.Proofs.Ytngnkgnobgfjeaa.Wide
