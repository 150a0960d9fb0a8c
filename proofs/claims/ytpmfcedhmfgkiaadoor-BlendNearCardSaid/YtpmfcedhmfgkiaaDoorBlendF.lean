/- The law BlendNear, walked: what comes of right colours lies within half of the real value, and is right. For all operators, coverages and colours. -/
import Derived.Test.YtpmfcedhmfgkiaaDoorBlendE
namespace Go.Proofs.YtpmfcedhmfgkiaaDoor.Ops
open Go Go.RowKit
set_option maxRecDepth 100000
set_option linter.unusedVariables false
set_option linter.unusedSimpArgs false
attribute [local go_sem high] eqColour

theorem numV_mono {o c s d t e sa da : Int} (c0 : 0 ≤ c) (c1 : c ≤ 255) (hs : s ≤ t) (hd : d ≤ e) (sa0 : 0 ≤ sa) (sa1 : sa ≤ 255) (da0 : 0 ≤ da) (da1 : da ≤ 255) : numV o c s d sa da ≤ numV o c t e sa da := by
  unfold numV
  have A := srcV_bd o da da0 da1
  have B := srcV_bd (othV o) sa sa0 sa1
  generalize srcV o da = a at *
  generalize srcV (othV o) sa = b at *
  have h1 : s * a ≤ t * a := Int.mul_le_mul_of_nonneg_right hs A.1
  have h2 : d * b ≤ e * b := Int.mul_le_mul_of_nonneg_right hd B.1
  have h3 : c * (s * a + d * b) ≤ c * (t * a + e * b) := Int.mul_le_mul_of_nonneg_left (by omega) c0
  have h4 : (255 - c) * 255 * d ≤ (255 - c) * 255 * e := Int.mul_le_mul_of_nonneg_left hd (by omega)
  omega
theorem chanV_mono {o c s d t e sa da : Int} (c0 : 0 ≤ c) (c1 : c ≤ 255) (hs : s ≤ t) (hd : d ≤ e) (sa0 : 0 ≤ sa) (sa1 : sa ≤ 255) (da0 : 0 ≤ da) (da1 : da ≤ 255) : chanV o c s d sa da ≤ chanV o c t e sa da := by
  have := numV_mono (o := o) c0 c1 hs hd sa0 sa1 da0 da1
  unfold chanV; omega

set_option maxHeartbeats 8000000 in
theorem near_no (o c s0 s1 s2 s3 d0 d1 d2 d3 : Int) (h : okV o s0 s1 s2 s3 d0 d1 d2 d3 = false) (w : World) (hk : Kinds w) :
    Calls Tryd.prog 6 #[.agg #[.int .i64 o, .int .u8 c, .int .u8 s0, .int .u8 s1, .int .u8 s2, .int .u8 s3, .int .u8 d0, .int .u8 d1, .int .u8 d2, .int .u8 d3]] w fun e w' => e = .returned (.bool true) ∧ Below w.heap.size w w' := by
  have WK := Lib.hid (fun (w1 : World) (hb : Below w.heap.size w w1) => wakes21_calls w1 (hk.below hb))
  have NE := nameB_ne o
  have NE2 := nameB_empty o
  have NM := Lib.hid (fun w => refname_calls o w)
  have RS := Lib.hid (fun w => refright_calls s0 s1 s2 s3 w)
  have RD := Lib.hid (fun w => refright_calls d0 d1 d2 d3 w)
  unfold okV at h
  generalize decide (0 ≤ o ∧ o < 12) = r at *
  generalize rightB s0 s1 s2 s3 = rs at *
  generalize rightB d0 d1 d2 d3 = rd at *
  generalize nameB o = nm at *
  clear hk
  cases r
  · clear h
    simp only [Bool.not_false] at NE NE2
    go_enter Tryd.func6, Tryd.ntmps6
    go_wp2_with (first
      | (go_at_call 19; ((with_reducible refine (WK.out _ (by repeat' (first | (with_reducible exact Below.refl _ _) | (with_reducible refine Below.drew ?_) | (with_reducible refine below_drewN ?_ _) | ((with_reducible refine Below.setCell ?_ ?side_ _); case side_ => (first | (with_reducible exact Nat.le_refl _) | (with_reducible assumption) | omega | (simp; done) | (simp; omega))) | ((with_reducible refine Below.alloc ?_ ?side_ _); case side_ => (first | (with_reducible exact Nat.le_refl _) | (with_reducible assumption) | omega | (simp; done) | (simp; omega)))))).mono ?_); rintro e w1 ⟨rfl, hb1⟩; obtain ⟨hc1, hf1⟩ := Eq.bcell hb1; (try simp only [World.size_drew] at hc1 hf1); have hq1 := hb1.size; (try simp at hq1); have hz1_0 : w.heap.size < w1.heap.size := (by omega); clear hq1; have HB1 : Below w.heap.size w w1 := (by have z_hb1 := hb1.size; (try simp at z_hb1); repeat' (first | (with_reducible exact Below.refl _ _) | (with_reducible refine Below.drew ?_) | (with_reducible refine below_drewN ?_ _) | ((with_reducible refine Below.setCell ?_ ?side_ _); case side_ => (first | (with_reducible exact Nat.le_refl _) | (with_reducible assumption) | omega | (simp; done) | (simp; omega))) | ((with_reducible refine Below.alloc ?_ ?side_ _); case side_ => (first | (with_reducible exact Nat.le_refl _) | (with_reducible assumption) | omega | (simp; done) | (simp; omega))) | ((with_reducible refine Below.trans ?_ (hb1.mono ?side_)); case side_ => (first | (with_reducible exact Nat.le_refl _) | (with_reducible assumption) | omega | (simp; done) | (simp; omega)))))))
      | (go_at_call 17; ((with_reducible refine (NM.out _).mono ?_); rintro e w2 ⟨rfl, rfl⟩)))
    go_ret
    exact ⟨rfl, HB1⟩
  · simp only [Bool.not_true] at NE NE2
    cases rs
    · clear h
      go_enter Tryd.func6, Tryd.ntmps6
      go_wp2_with (first
        | (go_at_call 19; ((with_reducible refine (WK.out _ (by repeat' (first | (with_reducible exact Below.refl _ _) | (with_reducible refine Below.drew ?_) | (with_reducible refine below_drewN ?_ _) | ((with_reducible refine Below.setCell ?_ ?side_ _); case side_ => (first | (with_reducible exact Nat.le_refl _) | (with_reducible assumption) | omega | (simp; done) | (simp; omega))) | ((with_reducible refine Below.alloc ?_ ?side_ _); case side_ => (first | (with_reducible exact Nat.le_refl _) | (with_reducible assumption) | omega | (simp; done) | (simp; omega)))))).mono ?_); rintro e w1 ⟨rfl, hb1⟩; obtain ⟨hc1, hf1⟩ := Eq.bcell hb1; (try simp only [World.size_drew] at hc1 hf1); have hq1 := hb1.size; (try simp at hq1); have hz1_0 : w.heap.size < w1.heap.size := (by omega); clear hq1; have HB1 : Below w.heap.size w w1 := (by have z_hb1 := hb1.size; (try simp at z_hb1); repeat' (first | (with_reducible exact Below.refl _ _) | (with_reducible refine Below.drew ?_) | (with_reducible refine below_drewN ?_ _) | ((with_reducible refine Below.setCell ?_ ?side_ _); case side_ => (first | (with_reducible exact Nat.le_refl _) | (with_reducible assumption) | omega | (simp; done) | (simp; omega))) | ((with_reducible refine Below.alloc ?_ ?side_ _); case side_ => (first | (with_reducible exact Nat.le_refl _) | (with_reducible assumption) | omega | (simp; done) | (simp; omega))) | ((with_reducible refine Below.trans ?_ (hb1.mono ?side_)); case side_ => (first | (with_reducible exact Nat.le_refl _) | (with_reducible assumption) | omega | (simp; done) | (simp; omega)))))))
        | (go_at_call 17; ((with_reducible refine (NM.out _).mono ?_); rintro e w2 ⟨rfl, rfl⟩))
        | (go_at_call 23; ((with_reducible refine (RS.out _).mono ?_); rintro e w2 ⟨rfl, hb2⟩; obtain ⟨hc2, hf2⟩ := Eq.bcell hb2; (try simp only [World.size_drew] at hc2 hf2); have hq2 := hb2.size; (try simp at hq2); have hz2_0 : w.heap.size < w2.heap.size := (by omega); clear hq2; have HB2 : Below w.heap.size w w2 := (by have z_hb1 := hb1.size; (try simp at z_hb1); have z_hb2 := hb2.size; (try simp at z_hb2); repeat' (first | (with_reducible exact Below.refl _ _) | (with_reducible refine Below.drew ?_) | (with_reducible refine below_drewN ?_ _) | ((with_reducible refine Below.setCell ?_ ?side_ _); case side_ => (first | (with_reducible exact Nat.le_refl _) | (with_reducible assumption) | omega | (simp; done) | (simp; omega))) | ((with_reducible refine Below.alloc ?_ ?side_ _); case side_ => (first | (with_reducible exact Nat.le_refl _) | (with_reducible assumption) | omega | (simp; done) | (simp; omega))) | ((with_reducible refine Below.trans ?_ (hb1.mono ?side_)); case side_ => (first | (with_reducible exact Nat.le_refl _) | (with_reducible assumption) | omega | (simp; done) | (simp; omega))) | ((with_reducible refine Below.trans ?_ (hb2.mono ?side_)); case side_ => (first | (with_reducible exact Nat.le_refl _) | (with_reducible assumption) | omega | (simp; done) | (simp; omega))))))))
      go_ret
      exact ⟨rfl, HB2⟩
    · obtain rfl : rd = false := by simpa using h
      clear h
      go_enter Tryd.func6, Tryd.ntmps6
      go_wp2_with (first
        | (go_at_call 19; ((with_reducible refine (WK.out _ (by repeat' (first | (with_reducible exact Below.refl _ _) | (with_reducible refine Below.drew ?_) | (with_reducible refine below_drewN ?_ _) | ((with_reducible refine Below.setCell ?_ ?side_ _); case side_ => (first | (with_reducible exact Nat.le_refl _) | (with_reducible assumption) | omega | (simp; done) | (simp; omega))) | ((with_reducible refine Below.alloc ?_ ?side_ _); case side_ => (first | (with_reducible exact Nat.le_refl _) | (with_reducible assumption) | omega | (simp; done) | (simp; omega)))))).mono ?_); rintro e w1 ⟨rfl, hb1⟩; obtain ⟨hc1, hf1⟩ := Eq.bcell hb1; (try simp only [World.size_drew] at hc1 hf1); have hq1 := hb1.size; (try simp at hq1); have hz1_0 : w.heap.size < w1.heap.size := (by omega); clear hq1; have HB1 : Below w.heap.size w w1 := (by have z_hb1 := hb1.size; (try simp at z_hb1); repeat' (first | (with_reducible exact Below.refl _ _) | (with_reducible refine Below.drew ?_) | (with_reducible refine below_drewN ?_ _) | ((with_reducible refine Below.setCell ?_ ?side_ _); case side_ => (first | (with_reducible exact Nat.le_refl _) | (with_reducible assumption) | omega | (simp; done) | (simp; omega))) | ((with_reducible refine Below.alloc ?_ ?side_ _); case side_ => (first | (with_reducible exact Nat.le_refl _) | (with_reducible assumption) | omega | (simp; done) | (simp; omega))) | ((with_reducible refine Below.trans ?_ (hb1.mono ?side_)); case side_ => (first | (with_reducible exact Nat.le_refl _) | (with_reducible assumption) | omega | (simp; done) | (simp; omega)))))))
        | (go_at_call 17; ((with_reducible refine (NM.out _).mono ?_); rintro e w2 ⟨rfl, rfl⟩))
        | (go_at_call 23; ((with_reducible refine (RS.out _).mono ?_); rintro e w2 ⟨rfl, hb2⟩; obtain ⟨hc2, hf2⟩ := Eq.bcell hb2; (try simp only [World.size_drew] at hc2 hf2); have hq2 := hb2.size; (try simp at hq2); have hz2_0 : w.heap.size < w2.heap.size := (by omega); clear hq2; have HB2 : Below w.heap.size w w2 := (by have z_hb1 := hb1.size; (try simp at z_hb1); have z_hb2 := hb2.size; (try simp at z_hb2); repeat' (first | (with_reducible exact Below.refl _ _) | (with_reducible refine Below.drew ?_) | (with_reducible refine below_drewN ?_ _) | ((with_reducible refine Below.setCell ?_ ?side_ _); case side_ => (first | (with_reducible exact Nat.le_refl _) | (with_reducible assumption) | omega | (simp; done) | (simp; omega))) | ((with_reducible refine Below.alloc ?_ ?side_ _); case side_ => (first | (with_reducible exact Nat.le_refl _) | (with_reducible assumption) | omega | (simp; done) | (simp; omega))) | ((with_reducible refine Below.trans ?_ (hb1.mono ?side_)); case side_ => (first | (with_reducible exact Nat.le_refl _) | (with_reducible assumption) | omega | (simp; done) | (simp; omega))) | ((with_reducible refine Below.trans ?_ (hb2.mono ?side_)); case side_ => (first | (with_reducible exact Nat.le_refl _) | (with_reducible assumption) | omega | (simp; done) | (simp; omega)))))))
        | (go_at_call 23; ((with_reducible refine (RD.out _).mono ?_); rintro e w3 ⟨rfl, hb3⟩; obtain ⟨hc3, hf3⟩ := Eq.bcell hb3; (try simp only [World.size_drew] at hc3 hf3); have hq3 := hb3.size; (try simp at hq3); have hz3_0 : w.heap.size < w3.heap.size := (by omega); clear hq3; have HB3 : Below w.heap.size w w3 := (by have z_hb1 := hb1.size; (try simp at z_hb1); have z_hb2 := hb2.size; (try simp at z_hb2); have z_hb3 := hb3.size; (try simp at z_hb3); repeat' (first | (with_reducible exact Below.refl _ _) | (with_reducible refine Below.drew ?_) | (with_reducible refine below_drewN ?_ _) | ((with_reducible refine Below.setCell ?_ ?side_ _); case side_ => (first | (with_reducible exact Nat.le_refl _) | (with_reducible assumption) | omega | (simp; done) | (simp; omega))) | ((with_reducible refine Below.alloc ?_ ?side_ _); case side_ => (first | (with_reducible exact Nat.le_refl _) | (with_reducible assumption) | omega | (simp; done) | (simp; omega))) | ((with_reducible refine Below.trans ?_ (hb1.mono ?side_)); case side_ => (first | (with_reducible exact Nat.le_refl _) | (with_reducible assumption) | omega | (simp; done) | (simp; omega))) | ((with_reducible refine Below.trans ?_ (hb2.mono ?side_)); case side_ => (first | (with_reducible exact Nat.le_refl _) | (with_reducible assumption) | omega | (simp; done) | (simp; omega))) | ((with_reducible refine Below.trans ?_ (hb3.mono ?side_)); case side_ => (first | (with_reducible exact Nat.le_refl _) | (with_reducible assumption) | omega | (simp; done) | (simp; omega))))))))
      go_ret
      exact ⟨rfl, HB3⟩

set_option maxHeartbeats 8000000 in
theorem near_go (o c s0 s1 s2 s3 d0 d1 d2 d3 : Int) (o0 : -9223372036854775808 ≤ o) (o1 : o ≤ 9223372036854775807) (c0 : 0 ≤ c) (c1 : c ≤ 255) (S : Col s0 s1 s2 s3) (D : Col d0 d1 d2 d3) (hok : okV o s0 s1 s2 s3 d0 d1 d2 d3 = true) (w : World) (hk : Kinds w) :
    Calls Tryd.prog 6 #[.agg #[.int .i64 o, .int .u8 c, .int .u8 s0, .int .u8 s1, .int .u8 s2, .int .u8 s3, .int .u8 d0, .int .u8 d1, .int .u8 d2, .int .u8 d3]] w fun e w' => e = .returned (.bool true) ∧ Below w.heap.size w w' := by
  have WK := Lib.hid (fun (w1 : World) (hb : Below w.heap.size w w1) => wakes21_calls w1 (hk.below hb))
  have px := fun (w1 : World) (hb : Below w.heap.size w w1) => pixel_calls o c s0 s1 s2 s3 d0 d1 d2 d3 o0 o1 c0 c1 S D w1 (hk.below hb)
  unfold pixA pixV at px
  rw [hok] at px
  simp only [if_true] at px
  simp only [okV, Bool.and_eq_true] at hok
  obtain ⟨hR, hS, hD⟩ := hok
  have rS := of_decide_eq_true (show decide (s0 ≤ s3 ∧ s1 ≤ s3 ∧ s2 ≤ s3) = true from hS)
  have rD := of_decide_eq_true (show decide (d0 ≤ d3 ∧ d1 ≤ d3 ∧ d2 ≤ d3) = true from hD)
  have NE := nameB_ne o
  have NE2 := nameB_empty o
  rw [hR] at NE NE2
  have NM := Lib.hid (fun w => refname_calls o w)
  have RS := Lib.hid (fun w => by have := refright_calls s0 s1 s2 s3 w; rw [hS] at this; exact this)
  have RD := Lib.hid (fun w => by have := refright_calls d0 d1 d2 d3 w; rw [hD] at this; exact this)
  generalize nameB o = nm at *
  simp only [Bool.not_true] at NE NE2
  clear hR hS hD hk
  have B0 := numV_bd (o := o) c0 c1 S.a0 rS.1 S.d1 D.a0 rD.1 D.d1
  have N0 := Lib.hid (fun w => number_calls o c s0 d0 s3 d3 c0 c1 S.a0 S.a1 D.a0 D.a1 S.d0 S.d1 D.d0 D.d1 w)
  have q0 : chanV o c s0 d0 s3 d3 = (2 * numV o c s0 d0 s3 d3 + 65025) / 130050 := rfl
  have g0 := chanV_mono (o := o) c0 c1 rS.1 rD.1 S.d0 S.d1 D.d0 D.d1
  have B1 := numV_bd (o := o) c0 c1 S.b0 rS.2.1 S.d1 D.b0 rD.2.1 D.d1
  have N1 := Lib.hid (fun w => number_calls o c s1 d1 s3 d3 c0 c1 S.b0 S.b1 D.b0 D.b1 S.d0 S.d1 D.d0 D.d1 w)
  have q1 : chanV o c s1 d1 s3 d3 = (2 * numV o c s1 d1 s3 d3 + 65025) / 130050 := rfl
  have g1 := chanV_mono (o := o) c0 c1 rS.2.1 rD.2.1 S.d0 S.d1 D.d0 D.d1
  have B2 := numV_bd (o := o) c0 c1 S.c0 rS.2.2 S.d1 D.c0 rD.2.2 D.d1
  have N2 := Lib.hid (fun w => number_calls o c s2 d2 s3 d3 c0 c1 S.c0 S.c1 D.c0 D.c1 S.d0 S.d1 D.d0 D.d1 w)
  have q2 : chanV o c s2 d2 s3 d3 = (2 * numV o c s2 d2 s3 d3 + 65025) / 130050 := rfl
  have g2 := chanV_mono (o := o) c0 c1 rS.2.2 rD.2.2 S.d0 S.d1 D.d0 D.d1
  have B3 := numV_bd (o := o) c0 c1 S.d0 (Int.le_refl _) S.d1 D.d0 (Int.le_refl _) D.d1
  have N3 := Lib.hid (fun w => number_calls o c s3 d3 s3 d3 c0 c1 S.d0 S.d1 D.d0 D.d1 S.d0 S.d1 D.d0 D.d1 w)
  have q3 : chanV o c s3 d3 s3 d3 = (2 * numV o c s3 d3 s3 d3 + 65025) / 130050 := rfl
  obtain ⟨sa0, sa1, sb0, sb1, sc0, sc1, sd0, sd1⟩ := S
  obtain ⟨da0, da1, db0, db1, dc0, dc1, dd0, dd1⟩ := D
  generalize chanV o c s0 d0 s3 d3 = z0 at *
  generalize numV o c s0 d0 s3 d3 = m0 at *
  obtain ⟨B0, B0'⟩ := B0
  have x0 : 0 ≤ z0 := by omega
  have y0 : z0 ≤ 255 := by omega
  have u0 : 130050 * z0 - 2 * m0 ≤ 65025 := by omega
  have v0 : -65025 < 130050 * z0 - 2 * m0 := by omega
  generalize chanV o c s1 d1 s3 d3 = z1 at *
  generalize numV o c s1 d1 s3 d3 = m1 at *
  obtain ⟨B1, B1'⟩ := B1
  have x1 : 0 ≤ z1 := by omega
  have y1 : z1 ≤ 255 := by omega
  have u1 : 130050 * z1 - 2 * m1 ≤ 65025 := by omega
  have v1 : -65025 < 130050 * z1 - 2 * m1 := by omega
  generalize chanV o c s2 d2 s3 d3 = z2 at *
  generalize numV o c s2 d2 s3 d3 = m2 at *
  obtain ⟨B2, B2'⟩ := B2
  have x2 : 0 ≤ z2 := by omega
  have y2 : z2 ≤ 255 := by omega
  have u2 : 130050 * z2 - 2 * m2 ≤ 65025 := by omega
  have v2 : -65025 < 130050 * z2 - 2 * m2 := by omega
  generalize chanV o c s3 d3 s3 d3 = z3 at *
  generalize numV o c s3 d3 s3 d3 = m3 at *
  obtain ⟨B3, B3'⟩ := B3
  have x3 : 0 ≤ z3 := by omega
  have y3 : z3 ≤ 255 := by omega
  have u3 : 130050 * z3 - 2 * m3 ≤ 65025 := by omega
  have v3 : -65025 < 130050 * z3 - 2 * m3 := by omega
  have rz : rightB z0 z1 z2 z3 = true := decide_eq_true ⟨g0, g1, g2⟩
  have RZ := Lib.hid (fun w => by have := refright_calls z0 z1 z2 z3 w; rw [rz] at this; exact this)
  have PX := Lib.hid px
  clear q0 q1 q2 q3 rS rD g0 g1 g2 rz px
  have e_c : IntKind.i64.wrap c = c := IntWalk.i64_in _ (by omega)
  have e_s0 : IntKind.i64.wrap s0 = s0 := IntWalk.i64_in _ (by omega)
  have e_d0 : IntKind.i64.wrap d0 = d0 := IntWalk.i64_in _ (by omega)
  have e_s1 : IntKind.i64.wrap s1 = s1 := IntWalk.i64_in _ (by omega)
  have e_d1 : IntKind.i64.wrap d1 = d1 := IntWalk.i64_in _ (by omega)
  have e_s2 : IntKind.i64.wrap s2 = s2 := IntWalk.i64_in _ (by omega)
  have e_d2 : IntKind.i64.wrap d2 = d2 := IntWalk.i64_in _ (by omega)
  have e_s3 : IntKind.i64.wrap s3 = s3 := IntWalk.i64_in _ (by omega)
  have e_d3 : IntKind.i64.wrap d3 = d3 := IntWalk.i64_in _ (by omega)
  go_enter Tryd.func6, Tryd.ntmps6
  go_wp2_with (first
    | (go_at_call 19; ((with_reducible refine (WK.out _ (by repeat' (first | (with_reducible exact Below.refl _ _) | (with_reducible refine Below.drew ?_) | (with_reducible refine below_drewN ?_ _) | ((with_reducible refine Below.setCell ?_ ?side_ _); case side_ => (first | (with_reducible exact Nat.le_refl _) | (with_reducible assumption) | omega | (simp; done) | (simp; omega))) | ((with_reducible refine Below.alloc ?_ ?side_ _); case side_ => (first | (with_reducible exact Nat.le_refl _) | (with_reducible assumption) | omega | (simp; done) | (simp; omega)))))).mono ?_); rintro e w1 ⟨rfl, hb1⟩; obtain ⟨hc1, hf1⟩ := Eq.bcell hb1; (try simp only [World.size_drew] at hc1 hf1); have hq1 := hb1.size; (try simp at hq1); have hz1_0 : w.heap.size < w1.heap.size := (by omega); clear hq1; have HB1 : Below w.heap.size w w1 := (by have z_hb1 := hb1.size; (try simp at z_hb1); repeat' (first | (with_reducible exact Below.refl _ _) | (with_reducible refine Below.drew ?_) | (with_reducible refine below_drewN ?_ _) | ((with_reducible refine Below.setCell ?_ ?side_ _); case side_ => (first | (with_reducible exact Nat.le_refl _) | (with_reducible assumption) | omega | (simp; done) | (simp; omega))) | ((with_reducible refine Below.alloc ?_ ?side_ _); case side_ => (first | (with_reducible exact Nat.le_refl _) | (with_reducible assumption) | omega | (simp; done) | (simp; omega))) | ((with_reducible refine Below.trans ?_ (hb1.mono ?side_)); case side_ => (first | (with_reducible exact Nat.le_refl _) | (with_reducible assumption) | omega | (simp; done) | (simp; omega)))))))
    | (go_at_call 17; ((with_reducible refine (NM.out _).mono ?_); rintro e w2 ⟨rfl, rfl⟩))
    | (go_at_call 23; ((with_reducible refine (RS.out _).mono ?_); rintro e w2 ⟨rfl, hb2⟩; obtain ⟨hc2, hf2⟩ := Eq.bcell hb2; (try simp only [World.size_drew] at hc2 hf2); have hq2 := hb2.size; (try simp at hq2); have hz2_0 : w.heap.size < w2.heap.size := (by omega); clear hq2; have HB2 : Below w.heap.size w w2 := (by have z_hb1 := hb1.size; (try simp at z_hb1); have z_hb2 := hb2.size; (try simp at z_hb2); repeat' (first | (with_reducible exact Below.refl _ _) | (with_reducible refine Below.drew ?_) | (with_reducible refine below_drewN ?_ _) | ((with_reducible refine Below.setCell ?_ ?side_ _); case side_ => (first | (with_reducible exact Nat.le_refl _) | (with_reducible assumption) | omega | (simp; done) | (simp; omega))) | ((with_reducible refine Below.alloc ?_ ?side_ _); case side_ => (first | (with_reducible exact Nat.le_refl _) | (with_reducible assumption) | omega | (simp; done) | (simp; omega))) | ((with_reducible refine Below.trans ?_ (hb1.mono ?side_)); case side_ => (first | (with_reducible exact Nat.le_refl _) | (with_reducible assumption) | omega | (simp; done) | (simp; omega))) | ((with_reducible refine Below.trans ?_ (hb2.mono ?side_)); case side_ => (first | (with_reducible exact Nat.le_refl _) | (with_reducible assumption) | omega | (simp; done) | (simp; omega)))))))
    | (go_at_call 23; ((with_reducible refine (RD.out _).mono ?_); rintro e w3 ⟨rfl, hb3⟩; obtain ⟨hc3, hf3⟩ := Eq.bcell hb3; (try simp only [World.size_drew] at hc3 hf3); have hq3 := hb3.size; (try simp at hq3); have hz3_0 : w.heap.size < w3.heap.size := (by omega); clear hq3; have HB3 : Below w.heap.size w w3 := (by have z_hb1 := hb1.size; (try simp at z_hb1); have z_hb2 := hb2.size; (try simp at z_hb2); have z_hb3 := hb3.size; (try simp at z_hb3); repeat' (first | (with_reducible exact Below.refl _ _) | (with_reducible refine Below.drew ?_) | (with_reducible refine below_drewN ?_ _) | ((with_reducible refine Below.setCell ?_ ?side_ _); case side_ => (first | (with_reducible exact Nat.le_refl _) | (with_reducible assumption) | omega | (simp; done) | (simp; omega))) | ((with_reducible refine Below.alloc ?_ ?side_ _); case side_ => (first | (with_reducible exact Nat.le_refl _) | (with_reducible assumption) | omega | (simp; done) | (simp; omega))) | ((with_reducible refine Below.trans ?_ (hb1.mono ?side_)); case side_ => (first | (with_reducible exact Nat.le_refl _) | (with_reducible assumption) | omega | (simp; done) | (simp; omega))) | ((with_reducible refine Below.trans ?_ (hb2.mono ?side_)); case side_ => (first | (with_reducible exact Nat.le_refl _) | (with_reducible assumption) | omega | (simp; done) | (simp; omega))) | ((with_reducible refine Below.trans ?_ (hb3.mono ?side_)); case side_ => (first | (with_reducible exact Nat.le_refl _) | (with_reducible assumption) | omega | (simp; done) | (simp; omega)))))))
    | (go_at_call 20; ((with_reducible refine (PX.out _ HB3).mono ?_); rintro e w4 ⟨rfl, hb4⟩; obtain ⟨hc4, hf4⟩ := Eq.bcell hb4; (try simp only [World.size_drew] at hc4 hf4); have hq4 := hb4.size; (try simp at hq4); have hz4_0 : w.heap.size < w4.heap.size := (by omega); clear hq4)))
  refine wp_loop_rounds 5 ?_
  rw [rounds_succ]
  go_wp2
  (refine Eq.still_tail 24 (by kernel_rfl) (by kernel_rfl) ?_; simp only [List.take_succ_cons, List.take_zero, List.drop_succ_cons, List.drop_zero]; repeat still_step; try refine wpStill_nil ?_)
  go_wp2_with ((go_at_call 24; ((with_reducible refine (N0.out _).mono ?_); rintro e w5 ⟨rfl, hb5⟩; obtain ⟨hc5, hf5⟩ := Eq.bcell hb5; (try simp only [World.size_drew] at hc5 hf5); have hq5 := hb5.size; (try simp at hq5); have hz5_0 : w.heap.size < w5.heap.size := (by omega); have hy5_0 : w4.heap.size < w5.heap.size := (by omega); clear hq5)))
  rw [rounds_succ]
  go_wp2
  (refine Eq.still_tail 24 (by kernel_rfl) (by kernel_rfl) ?_; simp only [List.take_succ_cons, List.take_zero, List.drop_succ_cons, List.drop_zero]; repeat still_step; try refine wpStill_nil ?_)
  go_wp2_with ((go_at_call 24; ((with_reducible refine (N1.out _).mono ?_); rintro e w6 ⟨rfl, hb6⟩; obtain ⟨hc6, hf6⟩ := Eq.bcell hb6; (try simp only [World.size_drew] at hc6 hf6); have hq6 := hb6.size; (try simp at hq6); have hz6_0 : w.heap.size < w6.heap.size := (by omega); have hy6_0 : w4.heap.size < w6.heap.size := (by omega); clear hq6)))
  rw [rounds_succ]
  go_wp2
  (refine Eq.still_tail 24 (by kernel_rfl) (by kernel_rfl) ?_; simp only [List.take_succ_cons, List.take_zero, List.drop_succ_cons, List.drop_zero]; repeat still_step; try refine wpStill_nil ?_)
  go_wp2_with ((go_at_call 24; ((with_reducible refine (N2.out _).mono ?_); rintro e w7 ⟨rfl, hb7⟩; obtain ⟨hc7, hf7⟩ := Eq.bcell hb7; (try simp only [World.size_drew] at hc7 hf7); have hq7 := hb7.size; (try simp at hq7); have hz7_0 : w.heap.size < w7.heap.size := (by omega); have hy7_0 : w4.heap.size < w7.heap.size := (by omega); clear hq7)))
  rw [rounds_succ]
  go_wp2
  (refine Eq.still_tail 24 (by kernel_rfl) (by kernel_rfl) ?_; simp only [List.take_succ_cons, List.take_zero, List.drop_succ_cons, List.drop_zero]; repeat still_step; try refine wpStill_nil ?_)
  go_wp2_with ((go_at_call 24; ((with_reducible refine (N3.out _).mono ?_); rintro e w8 ⟨rfl, hb8⟩; obtain ⟨hc8, hf8⟩ := Eq.bcell hb8; (try simp only [World.size_drew] at hc8 hf8); have hq8 := hb8.size; (try simp at hq8); have hz8_0 : w.heap.size < w8.heap.size := (by omega); have hy8_0 : w4.heap.size < w8.heap.size := (by omega); clear hq8)))
  rw [rounds_succ]
  go_wp2_with ((go_at_call 23; ((with_reducible refine (RZ.out _).mono ?_); rintro e w9 ⟨rfl, hb9⟩; obtain ⟨hc9, hf9⟩ := Eq.bcell hb9; (try simp only [World.size_drew] at hc9 hf9); have hq9 := hb9.size; (try simp at hq9); have hz9_0 : w.heap.size < w9.heap.size := (by omega); clear hq9)))
  go_ret
  exact ⟨rfl, by have z_hb1 := hb1.size; (try simp at z_hb1); have z_hb2 := hb2.size; (try simp at z_hb2); have z_hb3 := hb3.size; (try simp at z_hb3); have z_hb4 := hb4.size; (try simp at z_hb4); have z_hb5 := hb5.size; (try simp at z_hb5); have z_hb6 := hb6.size; (try simp at z_hb6); have z_hb7 := hb7.size; (try simp at z_hb7); have z_hb8 := hb8.size; (try simp at z_hb8); have z_hb9 := hb9.size; (try simp at z_hb9); repeat' (first | (with_reducible exact Below.refl _ _) | (with_reducible refine Below.drew ?_) | (with_reducible refine below_drewN ?_ _) | ((with_reducible refine Below.setCell ?_ ?side_ _); case side_ => (first | (with_reducible exact Nat.le_refl _) | (with_reducible assumption) | omega | (simp; done) | (simp; omega))) | ((with_reducible refine Below.alloc ?_ ?side_ _); case side_ => (first | (with_reducible exact Nat.le_refl _) | (with_reducible assumption) | omega | (simp; done) | (simp; omega))) | ((with_reducible refine Below.trans ?_ (hb1.mono ?side_)); case side_ => (first | (with_reducible exact Nat.le_refl _) | (with_reducible assumption) | omega | (simp; done) | (simp; omega))) | ((with_reducible refine Below.trans ?_ (hb2.mono ?side_)); case side_ => (first | (with_reducible exact Nat.le_refl _) | (with_reducible assumption) | omega | (simp; done) | (simp; omega))) | ((with_reducible refine Below.trans ?_ (hb3.mono ?side_)); case side_ => (first | (with_reducible exact Nat.le_refl _) | (with_reducible assumption) | omega | (simp; done) | (simp; omega))) | ((with_reducible refine Below.trans ?_ (hb4.mono ?side_)); case side_ => (first | (with_reducible exact Nat.le_refl _) | (with_reducible assumption) | omega | (simp; done) | (simp; omega))) | ((with_reducible refine Below.trans ?_ (hb5.mono ?side_)); case side_ => (first | (with_reducible exact Nat.le_refl _) | (with_reducible assumption) | omega | (simp; done) | (simp; omega))) | ((with_reducible refine Below.trans ?_ (hb6.mono ?side_)); case side_ => (first | (with_reducible exact Nat.le_refl _) | (with_reducible assumption) | omega | (simp; done) | (simp; omega))) | ((with_reducible refine Below.trans ?_ (hb7.mono ?side_)); case side_ => (first | (with_reducible exact Nat.le_refl _) | (with_reducible assumption) | omega | (simp; done) | (simp; omega))) | ((with_reducible refine Below.trans ?_ (hb8.mono ?side_)); case side_ => (first | (with_reducible exact Nat.le_refl _) | (with_reducible assumption) | omega | (simp; done) | (simp; omega))) | ((with_reducible refine Below.trans ?_ (hb9.mono ?side_)); case side_ => (first | (with_reducible exact Nat.le_refl _) | (with_reducible assumption) | omega | (simp; done) | (simp; omega))))⟩

theorem blendnear_calls (o c s0 s1 s2 s3 d0 d1 d2 d3 : Int) (o0 : -9223372036854775808 ≤ o) (o1 : o ≤ 9223372036854775807) (c0 : 0 ≤ c) (c1 : c ≤ 255) (S : Col s0 s1 s2 s3) (D : Col d0 d1 d2 d3) (w : World) (hk : Kinds w) :
    Calls Tryd.prog 6 #[.agg #[.int .i64 o, .int .u8 c, .int .u8 s0, .int .u8 s1, .int .u8 s2, .int .u8 s3, .int .u8 d0, .int .u8 d1, .int .u8 d2, .int .u8 d3]] w fun e w' => e = .returned (.bool true) ∧ Below w.heap.size w w' := by
  by_cases h : okV o s0 s1 s2 s3 d0 d1 d2 d3 = true
  · exact near_go o c s0 s1 s2 s3 d0 d1 d2 d3 o0 o1 c0 c1 S D h w hk
  · exact near_no o c s0 s1 s2 s3 d0 d1 d2 d3 (by simpa using h) w hk
end Go.Proofs.YtpmfcedhmfgkiaaDoor.Ops
