/- Package ref21's Pixel, walked; what comes of a pixel, by both. For all operators, coverages and colours. -/
import Derived.Test.YtpmfcedhmfgkiaaDoorBlendB
import Derived.StillTailTactics
import Derived.LoopTactic
namespace Go.Proofs.YtpmfcedhmfgkiaaDoor.Ops
open Go Go.RowKit
set_option maxRecDepth 100000
set_option linter.unusedVariables false
set_option linter.unusedSimpArgs false
attribute [local go_sem high] eqColour

theorem nameB_empty (o : Int) : ((nameB o).toList == []) = !decide (0 ≤ o ∧ o < 12) := by
  have := nameB_ne o
  rw [← this]; cases (nameB o).toList <;> rfl

set_option maxHeartbeats 8000000 in
theorem refpixel_go (o c s0 s1 s2 s3 d0 d1 d2 d3 : Int) (o0 : -9223372036854775808 ≤ o) (o1 : o ≤ 9223372036854775807) (c0 : 0 ≤ c) (c1 : c ≤ 255) (S : Col s0 s1 s2 s3) (D : Col d0 d1 d2 d3)
    (hk : okV o s0 s1 s2 s3 d0 d1 d2 d3 = true) (w : World) :
    Calls Tryd.prog 21 #[.int .i64 o, .int .u8 c, .agg #[.int .u8 s0, .int .u8 s1, .int .u8 s2, .int .u8 s3], .agg #[.int .u8 d0, .int .u8 d1, .int .u8 d2, .int .u8 d3]] w fun e w' =>
      e = .returned (.agg #[.int .u8 (chanV o c s0 d0 s3 d3), .int .u8 (chanV o c s1 d1 s3 d3), .int .u8 (chanV o c s2 d2 s3 d3), .int .u8 (chanV o c s3 d3 s3 d3)]) ∧ Below w.heap.size w w' := by
  simp only [okV, Bool.and_eq_true] at hk
  obtain ⟨hR, hS, hD⟩ := hk
  have rS := of_decide_eq_true (show decide (s0 ≤ s3 ∧ s1 ≤ s3 ∧ s2 ≤ s3) = true from hS)
  have rD := of_decide_eq_true (show decide (d0 ≤ d3 ∧ d1 ≤ d3 ∧ d2 ≤ d3) = true from hD)
  have NE := nameB_ne o
  have NE2 := nameB_empty o
  rw [hR] at NE NE2
  have NM := Lib.hid (fun w => refname_calls o w)
  have RS := Lib.hid (fun w => by have := refright_calls s0 s1 s2 s3 w; rw [hS] at this; exact this)
  have RD := Lib.hid (fun w => by have := refright_calls d0 d1 d2 d3 w; rw [hD] at this; exact this)
  generalize nameB o = nm at *
  simp only [Bool.not_true] at NE NE2
  clear hR hS hD
  have B0 := numV_bd (o := o) c0 c1 S.a0 rS.1 S.d1 D.a0 rD.1 D.d1
  have N0 := Lib.hid (fun w => number_calls o c s0 d0 s3 d3 c0 c1 S.a0 S.a1 D.a0 D.a1 S.d0 S.d1 D.d0 D.d1 w)
  have q0 : chanV o c s0 d0 s3 d3 = (2 * numV o c s0 d0 s3 d3 + 65025) / 130050 := rfl
  have B1 := numV_bd (o := o) c0 c1 S.b0 rS.2.1 S.d1 D.b0 rD.2.1 D.d1
  have N1 := Lib.hid (fun w => number_calls o c s1 d1 s3 d3 c0 c1 S.b0 S.b1 D.b0 D.b1 S.d0 S.d1 D.d0 D.d1 w)
  have q1 : chanV o c s1 d1 s3 d3 = (2 * numV o c s1 d1 s3 d3 + 65025) / 130050 := rfl
  have B2 := numV_bd (o := o) c0 c1 S.c0 rS.2.2 S.d1 D.c0 rD.2.2 D.d1
  have N2 := Lib.hid (fun w => number_calls o c s2 d2 s3 d3 c0 c1 S.c0 S.c1 D.c0 D.c1 S.d0 S.d1 D.d0 D.d1 w)
  have q2 : chanV o c s2 d2 s3 d3 = (2 * numV o c s2 d2 s3 d3 + 65025) / 130050 := rfl
  have B3 := numV_bd (o := o) c0 c1 S.d0 (Int.le_refl _) S.d1 D.d0 (Int.le_refl _) D.d1
  have N3 := Lib.hid (fun w => number_calls o c s3 d3 s3 d3 c0 c1 S.d0 S.d1 D.d0 D.d1 S.d0 S.d1 D.d0 D.d1 w)
  have q3 : chanV o c s3 d3 s3 d3 = (2 * numV o c s3 d3 s3 d3 + 65025) / 130050 := rfl
  obtain ⟨sa0, sa1, sb0, sb1, sc0, sc1, sd0, sd1⟩ := S
  obtain ⟨da0, da1, db0, db1, dc0, dc1, dd0, dd1⟩ := D
  generalize chanV o c s0 d0 s3 d3 = z0 at *
  generalize numV o c s0 d0 s3 d3 = m0 at *
  have Q0 := Lib.hid q0
  obtain ⟨B0, B0'⟩ := B0
  generalize chanV o c s1 d1 s3 d3 = z1 at *
  generalize numV o c s1 d1 s3 d3 = m1 at *
  have Q1 := Lib.hid q1
  obtain ⟨B1, B1'⟩ := B1
  generalize chanV o c s2 d2 s3 d3 = z2 at *
  generalize numV o c s2 d2 s3 d3 = m2 at *
  have Q2 := Lib.hid q2
  obtain ⟨B2, B2'⟩ := B2
  generalize chanV o c s3 d3 s3 d3 = z3 at *
  generalize numV o c s3 d3 s3 d3 = m3 at *
  have Q3 := Lib.hid q3
  obtain ⟨B3, B3'⟩ := B3
  clear q0 q1 q2 q3 rS rD
  have e_c : IntKind.i64.wrap c = c := IntWalk.i64_in _ (by omega)
  have e_s0 : IntKind.i64.wrap s0 = s0 := IntWalk.i64_in _ (by omega)
  have e_d0 : IntKind.i64.wrap d0 = d0 := IntWalk.i64_in _ (by omega)
  have e_s1 : IntKind.i64.wrap s1 = s1 := IntWalk.i64_in _ (by omega)
  have e_d1 : IntKind.i64.wrap d1 = d1 := IntWalk.i64_in _ (by omega)
  have e_s2 : IntKind.i64.wrap s2 = s2 := IntWalk.i64_in _ (by omega)
  have e_d2 : IntKind.i64.wrap d2 = d2 := IntWalk.i64_in _ (by omega)
  have e_s3 : IntKind.i64.wrap s3 = s3 := IntWalk.i64_in _ (by omega)
  have e_d3 : IntKind.i64.wrap d3 = d3 := IntWalk.i64_in _ (by omega)
  go_enter Tryd.func21, Tryd.ntmps21
  go_wp2_with (first
    | (go_at_call 17; ((with_reducible refine (NM.out _).mono ?_); rintro e w1 ⟨rfl, rfl⟩))
    | (go_at_call 23; ((with_reducible refine (RS.out _).mono ?_); rintro e w2 ⟨rfl, hb2⟩; obtain ⟨hc2, hf2⟩ := Eq.bcell hb2; have hq2 := hb2.size; (try simp at hq2); have hz2_0 : w.heap.size < w2.heap.size := (by omega); have hz2_1 : w.heap.size + 1 < w2.heap.size := (by omega); have hz2_2 : w.heap.size + 1 + 1 < w2.heap.size := (by omega); clear hq2; have HB2 : Below w.heap.size w w2 := (by have z_hb2 := hb2.size; (try simp at z_hb2); repeat' (first | (with_reducible exact Below.refl _ _) | (with_reducible refine Below.drew ?_) | (with_reducible refine below_drewN ?_ _) | ((with_reducible refine Below.setCell ?_ ?side_ _); case side_ => (first | (with_reducible exact Nat.le_refl _) | (with_reducible assumption) | omega | (simp; done) | (simp; omega))) | ((with_reducible refine Below.alloc ?_ ?side_ _); case side_ => (first | (with_reducible exact Nat.le_refl _) | (with_reducible assumption) | omega | (simp; done) | (simp; omega))) | ((with_reducible refine Below.trans ?_ (hb2.mono ?side_)); case side_ => (first | (with_reducible exact Nat.le_refl _) | (with_reducible assumption) | omega | (simp; done) | (simp; omega)))))))
    | (go_at_call 23; ((with_reducible refine (RD.out _).mono ?_); rintro e w3 ⟨rfl, hb3⟩; obtain ⟨hc3, hf3⟩ := Eq.bcell hb3; have hq3 := hb3.size; (try simp at hq3); have hz3_0 : w.heap.size < w3.heap.size := (by omega); have hz3_1 : w.heap.size + 1 < w3.heap.size := (by omega); have hz3_2 : w.heap.size + 1 + 1 < w3.heap.size := (by omega); clear hq3; have HB3 : Below w.heap.size w w3 := (by have z_hb2 := hb2.size; (try simp at z_hb2); have z_hb3 := hb3.size; (try simp at z_hb3); repeat' (first | (with_reducible exact Below.refl _ _) | (with_reducible refine Below.drew ?_) | (with_reducible refine below_drewN ?_ _) | ((with_reducible refine Below.setCell ?_ ?side_ _); case side_ => (first | (with_reducible exact Nat.le_refl _) | (with_reducible assumption) | omega | (simp; done) | (simp; omega))) | ((with_reducible refine Below.alloc ?_ ?side_ _); case side_ => (first | (with_reducible exact Nat.le_refl _) | (with_reducible assumption) | omega | (simp; done) | (simp; omega))) | ((with_reducible refine Below.trans ?_ (hb2.mono ?side_)); case side_ => (first | (with_reducible exact Nat.le_refl _) | (with_reducible assumption) | omega | (simp; done) | (simp; omega))) | ((with_reducible refine Below.trans ?_ (hb3.mono ?side_)); case side_ => (first | (with_reducible exact Nat.le_refl _) | (with_reducible assumption) | omega | (simp; done) | (simp; omega))))))))
  refine wp_loop_rounds 5 ?_
  rw [rounds_succ]
  go_wp2
  (refine Eq.still_tail 18 (by kernel_rfl) (by kernel_rfl) ?_; simp only [List.take_succ_cons, List.take_zero, List.drop_succ_cons, List.drop_zero]; repeat still_step; try refine wpStill_nil ?_)
  go_wp2_with ((go_at_call 24; ((with_reducible refine (N0.out _).mono ?_); rintro e w4 ⟨rfl, hb4⟩; obtain ⟨hc4, hf4⟩ := Eq.bcell hb4; have hq4 := hb4.size; (try simp at hq4); have hz4_0 : w.heap.size < w4.heap.size := (by omega); have hz4_1 : w.heap.size + 1 < w4.heap.size := (by omega); have hz4_2 : w.heap.size + 1 + 1 < w4.heap.size := (by omega); have hy4_0 : w3.heap.size < w4.heap.size := (by omega); clear hq4)))
  go_loop [12] (fun v => ∃ k : Nat, (k : Int) ≤ z0 ∧ v = .int .i64 k) (fun v => (z0 - intOf v).toNat)
  case atStart => exact ⟨0, by have := Q0.out; omega, rfl⟩
  case round =>
    obtain ⟨k0, hk, rfl⟩ := hrel
    have hkz : (k0 : Int) ≤ 255 := by have := Q0.out; omega
    by_cases hlt : 130050 * (k0 : Int) + 65025 ≤ 2 * m0
    · have hk1 : ((k0 + 1 : Nat) : Int) ≤ z0 := by have := Q0.out; omega
      go_wp2
      go_round
      case rel => exact ⟨k0 + 1, hk1, by go_num⟩
      case measure => simp [intOf]; omega
    · obtain rfl : (k0 : Int) = z0 := by have := Q0.out; omega
      clear hk
      go_wp2
      rw [rounds_succ]
      go_wp2
      (refine Eq.still_tail 18 (by kernel_rfl) (by kernel_rfl) ?_; simp only [List.take_succ_cons, List.take_zero, List.drop_succ_cons, List.drop_zero]; repeat still_step; try refine wpStill_nil ?_)
      go_wp2_with ((go_at_call 24; ((with_reducible refine (N1.out _).mono ?_); rintro e w5 ⟨rfl, hb5⟩; obtain ⟨hc5, hf5⟩ := Eq.bcell hb5; have hq5 := hb5.size; (try simp at hq5); have hz5_0 : w.heap.size < w5.heap.size := (by omega); have hz5_1 : w.heap.size + 1 < w5.heap.size := (by omega); have hz5_2 : w.heap.size + 1 + 1 < w5.heap.size := (by omega); have hy5_0 : w3.heap.size < w5.heap.size := (by omega); clear hq5)))
      go_loop [12] (fun v => ∃ k : Nat, (k : Int) ≤ z1 ∧ v = .int .i64 k) (fun v => (z1 - intOf v).toNat)
      case atStart => exact ⟨0, by have := Q1.out; omega, rfl⟩
      case round =>
        obtain ⟨k1, hk, rfl⟩ := hrel
        have hkz : (k1 : Int) ≤ 255 := by have := Q1.out; omega
        by_cases hlt : 130050 * (k1 : Int) + 65025 ≤ 2 * m1
        · have hk1 : ((k1 + 1 : Nat) : Int) ≤ z1 := by have := Q1.out; omega
          go_wp2
          go_round
          case rel => exact ⟨k1 + 1, hk1, by go_num⟩
          case measure => simp [intOf]; omega
        · obtain rfl : (k1 : Int) = z1 := by have := Q1.out; omega
          clear hk
          go_wp2
          rw [rounds_succ]
          go_wp2
          (refine Eq.still_tail 18 (by kernel_rfl) (by kernel_rfl) ?_; simp only [List.take_succ_cons, List.take_zero, List.drop_succ_cons, List.drop_zero]; repeat still_step; try refine wpStill_nil ?_)
          go_wp2_with ((go_at_call 24; ((with_reducible refine (N2.out _).mono ?_); rintro e w6 ⟨rfl, hb6⟩; obtain ⟨hc6, hf6⟩ := Eq.bcell hb6; have hq6 := hb6.size; (try simp at hq6); have hz6_0 : w.heap.size < w6.heap.size := (by omega); have hz6_1 : w.heap.size + 1 < w6.heap.size := (by omega); have hz6_2 : w.heap.size + 1 + 1 < w6.heap.size := (by omega); have hy6_0 : w3.heap.size < w6.heap.size := (by omega); clear hq6)))
          go_loop [12] (fun v => ∃ k : Nat, (k : Int) ≤ z2 ∧ v = .int .i64 k) (fun v => (z2 - intOf v).toNat)
          case atStart => exact ⟨0, by have := Q2.out; omega, rfl⟩
          case round =>
            obtain ⟨k2, hk, rfl⟩ := hrel
            have hkz : (k2 : Int) ≤ 255 := by have := Q2.out; omega
            by_cases hlt : 130050 * (k2 : Int) + 65025 ≤ 2 * m2
            · have hk1 : ((k2 + 1 : Nat) : Int) ≤ z2 := by have := Q2.out; omega
              go_wp2
              go_round
              case rel => exact ⟨k2 + 1, hk1, by go_num⟩
              case measure => simp [intOf]; omega
            · obtain rfl : (k2 : Int) = z2 := by have := Q2.out; omega
              clear hk
              go_wp2
              rw [rounds_succ]
              go_wp2
              (refine Eq.still_tail 18 (by kernel_rfl) (by kernel_rfl) ?_; simp only [List.take_succ_cons, List.take_zero, List.drop_succ_cons, List.drop_zero]; repeat still_step; try refine wpStill_nil ?_)
              go_wp2_with ((go_at_call 24; ((with_reducible refine (N3.out _).mono ?_); rintro e w7 ⟨rfl, hb7⟩; obtain ⟨hc7, hf7⟩ := Eq.bcell hb7; have hq7 := hb7.size; (try simp at hq7); have hz7_0 : w.heap.size < w7.heap.size := (by omega); have hz7_1 : w.heap.size + 1 < w7.heap.size := (by omega); have hz7_2 : w.heap.size + 1 + 1 < w7.heap.size := (by omega); have hy7_0 : w3.heap.size < w7.heap.size := (by omega); clear hq7)))
              go_loop [12] (fun v => ∃ k : Nat, (k : Int) ≤ z3 ∧ v = .int .i64 k) (fun v => (z3 - intOf v).toNat)
              case atStart => exact ⟨0, by have := Q3.out; omega, rfl⟩
              case round =>
                obtain ⟨k3, hk, rfl⟩ := hrel
                have hkz : (k3 : Int) ≤ 255 := by have := Q3.out; omega
                by_cases hlt : 130050 * (k3 : Int) + 65025 ≤ 2 * m3
                · have hk1 : ((k3 + 1 : Nat) : Int) ≤ z3 := by have := Q3.out; omega
                  go_wp2
                  go_round
                  case rel => exact ⟨k3 + 1, hk1, by go_num⟩
                  case measure => simp [intOf]; omega
                · obtain rfl : (k3 : Int) = z3 := by have := Q3.out; omega
                  clear hk
                  go_wp2
                  rw [rounds_succ]
                  go_wp2
                  exact bodyPost_ret (v := .agg #[.int .u8 k0, .int .u8 k1, .int .u8 k2, .int .u8 k3]) (by simp only [results, Tryd.results21]; go_simp) rfl ⟨rfl, by have z_hb2 := hb2.size; (try simp at z_hb2); have z_hb3 := hb3.size; (try simp at z_hb3); have z_hb4 := hb4.size; (try simp at z_hb4); have z_hb5 := hb5.size; (try simp at z_hb5); have z_hb6 := hb6.size; (try simp at z_hb6); have z_hb7 := hb7.size; (try simp at z_hb7); repeat' (first | (with_reducible exact Below.refl _ _) | (with_reducible refine Below.drew ?_) | (with_reducible refine below_drewN ?_ _) | ((with_reducible refine Below.setCell ?_ ?side_ _); case side_ => (first | (with_reducible exact Nat.le_refl _) | (with_reducible assumption) | omega | (simp; done) | (simp; omega))) | ((with_reducible refine Below.alloc ?_ ?side_ _); case side_ => (first | (with_reducible exact Nat.le_refl _) | (with_reducible assumption) | omega | (simp; done) | (simp; omega))) | ((with_reducible refine Below.trans ?_ (hb2.mono ?side_)); case side_ => (first | (with_reducible exact Nat.le_refl _) | (with_reducible assumption) | omega | (simp; done) | (simp; omega))) | ((with_reducible refine Below.trans ?_ (hb3.mono ?side_)); case side_ => (first | (with_reducible exact Nat.le_refl _) | (with_reducible assumption) | omega | (simp; done) | (simp; omega))) | ((with_reducible refine Below.trans ?_ (hb4.mono ?side_)); case side_ => (first | (with_reducible exact Nat.le_refl _) | (with_reducible assumption) | omega | (simp; done) | (simp; omega))) | ((with_reducible refine Below.trans ?_ (hb5.mono ?side_)); case side_ => (first | (with_reducible exact Nat.le_refl _) | (with_reducible assumption) | omega | (simp; done) | (simp; omega))) | ((with_reducible refine Below.trans ?_ (hb6.mono ?side_)); case side_ => (first | (with_reducible exact Nat.le_refl _) | (with_reducible assumption) | omega | (simp; done) | (simp; omega))) | ((with_reducible refine Below.trans ?_ (hb7.mono ?side_)); case side_ => (first | (with_reducible exact Nat.le_refl _) | (with_reducible assumption) | omega | (simp; done) | (simp; omega))))⟩

set_option maxHeartbeats 8000000 in
theorem refpixel_same (o c s0 s1 s2 s3 d0 d1 d2 d3 : Int) (h : okV o s0 s1 s2 s3 d0 d1 d2 d3 = false) (w : World) :
    Calls Tryd.prog 21 #[.int .i64 o, .int .u8 c, .agg #[.int .u8 s0, .int .u8 s1, .int .u8 s2, .int .u8 s3], .agg #[.int .u8 d0, .int .u8 d1, .int .u8 d2, .int .u8 d3]] w fun e w' =>
      e = .returned (.agg #[.int .u8 d0, .int .u8 d1, .int .u8 d2, .int .u8 d3]) ∧ Below w.heap.size w w' := by
  have NE := nameB_ne o
  have NE2 := nameB_empty o
  have NM := Lib.hid (fun w => refname_calls o w)
  have RS := Lib.hid (fun w => refright_calls s0 s1 s2 s3 w)
  have RD := Lib.hid (fun w => refright_calls d0 d1 d2 d3 w)
  unfold okV at h
  generalize decide (0 ≤ o ∧ o < 12) = r at *
  generalize rightB s0 s1 s2 s3 = rs at *
  generalize rightB d0 d1 d2 d3 = rd at *
  generalize nameB o = nm at *
  cases r
  · clear h
    simp only [Bool.not_false] at NE NE2
    go_enter Tryd.func21, Tryd.ntmps21
    go_wp2_with ((go_at_call 17; ((with_reducible refine (NM.out _).mono ?_); rintro e w1 ⟨rfl, rfl⟩)))
    exact bodyPost_ret (v := .agg #[.int .u8 d0, .int .u8 d1, .int .u8 d2, .int .u8 d3]) (by simp only [results, Tryd.results21]; go_simp) rfl ⟨rfl, by repeat' (first | (with_reducible exact Below.refl _ _) | (with_reducible refine Below.drew ?_) | (with_reducible refine below_drewN ?_ _) | ((with_reducible refine Below.setCell ?_ ?side_ _); case side_ => (first | (with_reducible exact Nat.le_refl _) | (with_reducible assumption) | omega | (simp; done) | (simp; omega))) | ((with_reducible refine Below.alloc ?_ ?side_ _); case side_ => (first | (with_reducible exact Nat.le_refl _) | (with_reducible assumption) | omega | (simp; done) | (simp; omega))))⟩
  · simp only [Bool.not_true] at NE NE2
    cases rs
    · clear h
      go_enter Tryd.func21, Tryd.ntmps21
      go_wp2_with (first
        | (go_at_call 17; ((with_reducible refine (NM.out _).mono ?_); rintro e w1 ⟨rfl, rfl⟩))
        | (go_at_call 23; ((with_reducible refine (RS.out _).mono ?_); rintro e w2 ⟨rfl, hb2⟩; obtain ⟨hc2, hf2⟩ := Eq.bcell hb2; have hq2 := hb2.size; (try simp at hq2); have hz2_0 : w.heap.size < w2.heap.size := (by omega); have hz2_1 : w.heap.size + 1 < w2.heap.size := (by omega); have hz2_2 : w.heap.size + 1 + 1 < w2.heap.size := (by omega); clear hq2; have HB2 : Below w.heap.size w w2 := (by have z_hb2 := hb2.size; (try simp at z_hb2); repeat' (first | (with_reducible exact Below.refl _ _) | (with_reducible refine Below.drew ?_) | (with_reducible refine below_drewN ?_ _) | ((with_reducible refine Below.setCell ?_ ?side_ _); case side_ => (first | (with_reducible exact Nat.le_refl _) | (with_reducible assumption) | omega | (simp; done) | (simp; omega))) | ((with_reducible refine Below.alloc ?_ ?side_ _); case side_ => (first | (with_reducible exact Nat.le_refl _) | (with_reducible assumption) | omega | (simp; done) | (simp; omega))) | ((with_reducible refine Below.trans ?_ (hb2.mono ?side_)); case side_ => (first | (with_reducible exact Nat.le_refl _) | (with_reducible assumption) | omega | (simp; done) | (simp; omega))))))))
      exact bodyPost_ret (v := .agg #[.int .u8 d0, .int .u8 d1, .int .u8 d2, .int .u8 d3]) (by simp only [results, Tryd.results21]; go_simp) rfl ⟨rfl, by have z_hb2 := hb2.size; (try simp at z_hb2); repeat' (first | (with_reducible exact Below.refl _ _) | (with_reducible refine Below.drew ?_) | (with_reducible refine below_drewN ?_ _) | ((with_reducible refine Below.setCell ?_ ?side_ _); case side_ => (first | (with_reducible exact Nat.le_refl _) | (with_reducible assumption) | omega | (simp; done) | (simp; omega))) | ((with_reducible refine Below.alloc ?_ ?side_ _); case side_ => (first | (with_reducible exact Nat.le_refl _) | (with_reducible assumption) | omega | (simp; done) | (simp; omega))) | ((with_reducible refine Below.trans ?_ (hb2.mono ?side_)); case side_ => (first | (with_reducible exact Nat.le_refl _) | (with_reducible assumption) | omega | (simp; done) | (simp; omega))))⟩
    · obtain rfl : rd = false := by simpa using h
      clear h
      go_enter Tryd.func21, Tryd.ntmps21
      go_wp2_with (first
        | (go_at_call 17; ((with_reducible refine (NM.out _).mono ?_); rintro e w1 ⟨rfl, rfl⟩))
        | (go_at_call 23; ((with_reducible refine (RS.out _).mono ?_); rintro e w2 ⟨rfl, hb2⟩; obtain ⟨hc2, hf2⟩ := Eq.bcell hb2; have hq2 := hb2.size; (try simp at hq2); have hz2_0 : w.heap.size < w2.heap.size := (by omega); have hz2_1 : w.heap.size + 1 < w2.heap.size := (by omega); have hz2_2 : w.heap.size + 1 + 1 < w2.heap.size := (by omega); clear hq2; have HB2 : Below w.heap.size w w2 := (by have z_hb2 := hb2.size; (try simp at z_hb2); repeat' (first | (with_reducible exact Below.refl _ _) | (with_reducible refine Below.drew ?_) | (with_reducible refine below_drewN ?_ _) | ((with_reducible refine Below.setCell ?_ ?side_ _); case side_ => (first | (with_reducible exact Nat.le_refl _) | (with_reducible assumption) | omega | (simp; done) | (simp; omega))) | ((with_reducible refine Below.alloc ?_ ?side_ _); case side_ => (first | (with_reducible exact Nat.le_refl _) | (with_reducible assumption) | omega | (simp; done) | (simp; omega))) | ((with_reducible refine Below.trans ?_ (hb2.mono ?side_)); case side_ => (first | (with_reducible exact Nat.le_refl _) | (with_reducible assumption) | omega | (simp; done) | (simp; omega)))))))
        | (go_at_call 23; ((with_reducible refine (RD.out _).mono ?_); rintro e w3 ⟨rfl, hb3⟩; obtain ⟨hc3, hf3⟩ := Eq.bcell hb3; have hq3 := hb3.size; (try simp at hq3); have hz3_0 : w.heap.size < w3.heap.size := (by omega); have hz3_1 : w.heap.size + 1 < w3.heap.size := (by omega); have hz3_2 : w.heap.size + 1 + 1 < w3.heap.size := (by omega); clear hq3; have HB3 : Below w.heap.size w w3 := (by have z_hb2 := hb2.size; (try simp at z_hb2); have z_hb3 := hb3.size; (try simp at z_hb3); repeat' (first | (with_reducible exact Below.refl _ _) | (with_reducible refine Below.drew ?_) | (with_reducible refine below_drewN ?_ _) | ((with_reducible refine Below.setCell ?_ ?side_ _); case side_ => (first | (with_reducible exact Nat.le_refl _) | (with_reducible assumption) | omega | (simp; done) | (simp; omega))) | ((with_reducible refine Below.alloc ?_ ?side_ _); case side_ => (first | (with_reducible exact Nat.le_refl _) | (with_reducible assumption) | omega | (simp; done) | (simp; omega))) | ((with_reducible refine Below.trans ?_ (hb2.mono ?side_)); case side_ => (first | (with_reducible exact Nat.le_refl _) | (with_reducible assumption) | omega | (simp; done) | (simp; omega))) | ((with_reducible refine Below.trans ?_ (hb3.mono ?side_)); case side_ => (first | (with_reducible exact Nat.le_refl _) | (with_reducible assumption) | omega | (simp; done) | (simp; omega))))))))
      exact bodyPost_ret (v := .agg #[.int .u8 d0, .int .u8 d1, .int .u8 d2, .int .u8 d3]) (by simp only [results, Tryd.results21]; go_simp) rfl ⟨rfl, by have z_hb2 := hb2.size; (try simp at z_hb2); have z_hb3 := hb3.size; (try simp at z_hb3); repeat' (first | (with_reducible exact Below.refl _ _) | (with_reducible refine Below.drew ?_) | (with_reducible refine below_drewN ?_ _) | ((with_reducible refine Below.setCell ?_ ?side_ _); case side_ => (first | (with_reducible exact Nat.le_refl _) | (with_reducible assumption) | omega | (simp; done) | (simp; omega))) | ((with_reducible refine Below.alloc ?_ ?side_ _); case side_ => (first | (with_reducible exact Nat.le_refl _) | (with_reducible assumption) | omega | (simp; done) | (simp; omega))) | ((with_reducible refine Below.trans ?_ (hb2.mono ?side_)); case side_ => (first | (with_reducible exact Nat.le_refl _) | (with_reducible assumption) | omega | (simp; done) | (simp; omega))) | ((with_reducible refine Below.trans ?_ (hb3.mono ?side_)); case side_ => (first | (with_reducible exact Nat.le_refl _) | (with_reducible assumption) | omega | (simp; done) | (simp; omega))))⟩

/-- Without coverage, and with dst of the same, a number stays. -/
theorem chanV_zero (o s d sa da : Int) (d0 : 0 ≤ d) : chanV o 0 s d sa da = d := by
  unfold chanV numV; rw [Int.zero_mul]; omega
theorem chanV_dst (c d sa da : Int) (d0 : 0 ≤ d) : chanV 2 c d d sa da = d := by
  have e : numV 2 c d d sa da = 65025 * d := by
    unfold numV
    have e1 : srcV 2 da = 0 := rfl
    have e2 : srcV (othV 2) sa = 255 := rfl
    rw [e1, e2, Int.mul_zero, Int.zero_add]
    have h1 : (255 - c) * 255 * d = 65025 * d - c * (d * 255) := by
      rw [Int.sub_mul, Int.sub_mul, Int.mul_assoc c 255 d, Int.mul_comm 255 d]; omega
    rw [h1]; omega
  unfold chanV; rw [e]; omega

/-- What comes of a pixel: all four numbers. -/
def pixA (o c s0 s1 s2 s3 d0 d1 d2 d3 : Int) : Value :=
  .agg #[.int .u8 (pixV (okV o s0 s1 s2 s3 d0 d1 d2 d3) o c s0 d0 s3 d3), .int .u8 (pixV (okV o s0 s1 s2 s3 d0 d1 d2 d3) o c s1 d1 s3 d3), .int .u8 (pixV (okV o s0 s1 s2 s3 d0 d1 d2 d3) o c s2 d2 s3 d3), .int .u8 (pixV (okV o s0 s1 s2 s3 d0 d1 d2 d3) o c s3 d3 s3 d3)]

theorem refpixel_calls (o c s0 s1 s2 s3 d0 d1 d2 d3 : Int) (o0 : -9223372036854775808 ≤ o) (o1 : o ≤ 9223372036854775807) (c0 : 0 ≤ c) (c1 : c ≤ 255) (S : Col s0 s1 s2 s3) (D : Col d0 d1 d2 d3) (w : World) :
    Calls Tryd.prog 21 #[.int .i64 o, .int .u8 c, .agg #[.int .u8 s0, .int .u8 s1, .int .u8 s2, .int .u8 s3], .agg #[.int .u8 d0, .int .u8 d1, .int .u8 d2, .int .u8 d3]] w fun e w' =>
      e = .returned (pixA o c s0 s1 s2 s3 d0 d1 d2 d3) ∧ Below w.heap.size w w' := by
  unfold pixA pixV
  by_cases h : okV o s0 s1 s2 s3 d0 d1 d2 d3 = true
  · rw [h]; exact refpixel_go o c s0 s1 s2 s3 d0 d1 d2 d3 o0 o1 c0 c1 S D h w
  · rw [Bool.not_eq_true] at h; rw [h]; exact refpixel_same o c s0 s1 s2 s3 d0 d1 d2 d3 h w

theorem pixel_calls (o c s0 s1 s2 s3 d0 d1 d2 d3 : Int) (o0 : -9223372036854775808 ≤ o) (o1 : o ≤ 9223372036854775807) (c0 : 0 ≤ c) (c1 : c ≤ 255) (S : Col s0 s1 s2 s3) (D : Col d0 d1 d2 d3) (w : World) (hK : Kinds w) :
    Calls Tryd.prog 20 #[.int .i64 o, .int .u8 c, .agg #[.int .u8 s0, .int .u8 s1, .int .u8 s2, .int .u8 s3], .agg #[.int .u8 d0, .int .u8 d1, .int .u8 d2, .int .u8 d3]] w fun e w' =>
      e = .returned (pixA o c s0 s1 s2 s3 d0 d1 d2 d3) ∧ Below w.heap.size w w' := by
  have same := fun h => pixel_same o c s0 s1 s2 s3 d0 d1 d2 d3 o0 o1 c0 c1 _ rfl h w
  unfold pixA pixV
  by_cases h : okV o s0 s1 s2 s3 d0 d1 d2 d3 = true
  · rw [h]
    by_cases hc : c = 0
    · subst hc
      simp only [if_true, chanV_zero _ _ _ _ _ D.a0, chanV_zero _ _ _ _ _ D.b0, chanV_zero _ _ _ _ _ D.c0, chanV_zero _ _ _ _ _ D.d0]
      exact same (.inl rfl)
    · by_cases he : (Eq.eq4 s0 s1 s2 s3 d0 d1 d2 d3 && (o == 2)) = true
      · have := same (.inr (.inl he))
        simp only [Bool.and_eq_true, beq_iff_eq, Eq.eq4_iff] at he
        obtain ⟨⟨rfl, rfl, rfl, rfl⟩, rfl⟩ := he
        simp only [if_true, chanV_dst _ _ _ _ D.a0, chanV_dst _ _ _ _ D.b0, chanV_dst _ _ _ _ D.c0, chanV_dst _ _ _ _ D.d0]
        exact this
      · exact pixel_go o c s0 s1 s2 s3 d0 d1 d2 d3 o0 o1 (by omega) c1 S D _ rfl (by simpa using he) h w hK
  · rw [Bool.not_eq_true] at h; rw [h]; exact same (.inr (.inr h))
end Go.Proofs.YtpmfcedhmfgkiaaDoor.Ops
