/- Package blend's Pixel, walked: what comes of a pixel. For all operators, coverages and colours. -/
import Derived.Test.YtpmfcedhmfgkiaaDoorBlendA
import Derived.LoopN
import Derived.Outline
namespace Go.Proofs.YtpmfcedhmfgkiaaDoor.Ops
open Go Go.RowKit
set_option maxRecDepth 100000
set_option linter.unusedVariables false
set_option linter.unusedSimpArgs false
attribute [local go_sem high] eqColour

def chanV (o c s d sa da : Int) : Int := (2 * numV o c s d sa da + 65025) / 130050
def okV (o s0 s1 s2 s3 d0 d1 d2 d3 : Int) : Bool := decide (0 ≤ o ∧ o < 12) && (rightB s0 s1 s2 s3 && rightB d0 d1 d2 d3)
def pixV (k : Bool) (o c s d sa da : Int) : Int := if k then chanV o c s d sa da else d

theorem numV_bd {o c s d sa da : Int} (c0 : 0 ≤ c) (c1 : c ≤ 255) (s0 : 0 ≤ s) (s1 : s ≤ sa) (sa1 : sa ≤ 255) (d0 : 0 ≤ d) (d1 : d ≤ da) (da1 : da ≤ 255) : 0 ≤ numV o c s d sa da ∧ numV o c s d sa da ≤ 16581375 := by
  unfold numV
  have A := srcV_bd o da (by omega) da1
  have B := srcV_bd (othV o) sa (by omega) sa1
  have L := both_le o sa da (by omega) sa1 (by omega) da1
  generalize srcV o da = a at *
  generalize srcV (othV o) sa = b at *
  have h1 := mul_in s0 s1 A.1 (Int.le_refl a)
  have h2 := mul_in d0 d1 B.1 (Int.le_refl b)
  have h3 := mul_in (s := c) (a := s * a + d * b) (S := c) c0 (Int.le_refl _) (by omega) (show _ ≤ 65025 by omega)
  have h4 := mul_in (s := (255 - c) * 255) (a := d) (by omega) (Int.le_refl _) d0 (show d ≤ 255 by omega)
  omega
theorem chanV_bd {o c s d sa da : Int} (c0 : 0 ≤ c) (c1 : c ≤ 255) (s0 : 0 ≤ s) (s1 : s ≤ sa) (sa1 : sa ≤ 255) (d0 : 0 ≤ d) (d1 : d ≤ da) (da1 : da ≤ 255) : 0 ≤ chanV o c s d sa da ∧ chanV o c s d sa da ≤ 255 := by
  have := numV_bd (o := o) c0 c1 s0 s1 sa1 d0 d1 da1
  unfold chanV; omega

/-- A pixel's numbers. -/
structure Col (s0 s1 s2 s3 : Int) : Prop where
  a0 : 0 ≤ s0
  a1 : s0 ≤ 255
  b0 : 0 ≤ s1
  b1 : s1 ≤ 255
  c0 : 0 ≤ s2
  c1 : s2 ≤ 255
  d0 : 0 ≤ s3
  d1 : s3 ≤ 255

theorem wrap_u8_in {x : Int} (h0 : 0 ≤ x) (h1 : x ≤ 255) : IntKind.u8.wrap x = x := by
  have : IntKind.u8.wrap x = x % 256 := by simp [IntKind.wrap, IntKind.bits, IntKind.signed]
  rw [this]; omega

/-- The sums of one round fit. -/
theorem fits {c s d a b sa da : Int} (c0 : 0 ≤ c) (c1 : c ≤ 255) (s0 : 0 ≤ s) (s1 : s ≤ sa) (d0 : 0 ≤ d) (d1 : d ≤ da) (sa1 : sa ≤ 255) (da1 : da ≤ 255) (a0 : 0 ≤ a) (a1 : a ≤ 255) (b0 : 0 ≤ b) (b1 : b ≤ 255) (L : sa * a + da * b ≤ 65025) :
    (0 ≤ s ∧ s ≤ 255) ∧ (0 ≤ d ∧ d ≤ 255) ∧ (0 ≤ s * a ∧ s * a ≤ 65025) ∧ (0 ≤ d * b ∧ d * b ≤ 65025) ∧ (0 ≤ c * (s * a + d * b) ∧ c * (s * a + d * b) ≤ 16581375) ∧ (0 ≤ (255 - c) * 255 * d ∧ (255 - c) * 255 * d ≤ 16581375) ∧
    (255 - c) * 255 * d + c * (s * a + d * b) ≤ 16581375 := by
  have h1 := mul_in s0 s1 a0 (Int.le_refl a)
  have h2 := mul_in d0 d1 b0 (Int.le_refl b)
  have h3 := mul_in (s := c) (a := s * a + d * b) (S := c) c0 (Int.le_refl _) (by omega) (show _ ≤ 65025 by omega)
  have h4 := mul_in (s := (255 - c) * 255) (a := d) (by omega) (Int.le_refl _) d0 (show d ≤ 255 by omega)
  have h5 := mul_in s0 (show s ≤ 255 by omega) a0 a1
  have h6 := mul_in d0 (show d ≤ 255 by omega) b0 b1
  generalize s * a = p at *
  generalize d * b = q at *
  generalize c * (p + q) = r at *
  generalize (255 - c) * 255 * d = t at *
  omega

set_option maxHeartbeats 8000000 in
theorem pixel_go (o c s0 s1 s2 s3 d0 d1 d2 d3 : Int) (o0 : -9223372036854775808 ≤ o) (o1 : o ≤ 9223372036854775807) (c0 : 0 < c) (c1 : c ≤ 255) (S : Col s0 s1 s2 s3) (D : Col d0 d1 d2 d3)
    (E : Bool) (hE : Eq.eq4 s0 s1 s2 s3 d0 d1 d2 d3 = E) (hEo : (E && (o == 2)) = false) (hk : okV o s0 s1 s2 s3 d0 d1 d2 d3 = true) (w : World) (hK : Kinds w) :
    Calls Tryd.prog 20 #[.int .i64 o, .int .u8 c, .agg #[.int .u8 s0, .int .u8 s1, .int .u8 s2, .int .u8 s3], .agg #[.int .u8 d0, .int .u8 d1, .int .u8 d2, .int .u8 d3]] w fun e w' =>
      e = .returned (.agg #[.int .u8 (chanV o c s0 d0 s3 d3), .int .u8 (chanV o c s1 d1 s3 d3), .int .u8 (chanV o c s2 d2 s3 d3), .int .u8 (chanV o c s3 d3 s3 d3)]) ∧ Below w.heap.size w w' := by
  simp only [okV, Bool.and_eq_true] at hk
  obtain ⟨hR, hS, hD⟩ := hk
  have R := Lib.hid (fun w => by have := right_calls o w; rw [hR] at this; exact this)
  have RS := Lib.hid (fun w => by have := right21_calls s0 s1 s2 s3 w; rw [hS] at this; exact this)
  have RD := Lib.hid (fun w => by have := right21_calls d0 d1 d2 d3 w; rw [hD] at this; exact this)
  have F := Lib.hid (fun (w1 : World) (hb : Below w.heap.size w w1) => factors_calls o s3 d3 S.d0 S.d1 D.d0 D.d1 w1 (hK.below hb))
  have hc : (c == 0) = false := by simp; omega
  have rS := of_decide_eq_true (show decide (s0 ≤ s3 ∧ s1 ≤ s3 ∧ s2 ≤ s3) = true from hS)
  have rD := of_decide_eq_true (show decide (d0 ≤ d3 ∧ d1 ≤ d3 ∧ d2 ≤ d3) = true from hD)
  clear hR hS hD hK
  have q0 : chanV o c s0 d0 s3 d3 = (2 * ((255 - c) * 255 * d0 + c * (s0 * srcV o d3 + d0 * srcV (othV o) s3)) + 65025) / 130050 := rfl
  have q1 : chanV o c s1 d1 s3 d3 = (2 * ((255 - c) * 255 * d1 + c * (s1 * srcV o d3 + d1 * srcV (othV o) s3)) + 65025) / 130050 := rfl
  have q2 : chanV o c s2 d2 s3 d3 = (2 * ((255 - c) * 255 * d2 + c * (s2 * srcV o d3 + d2 * srcV (othV o) s3)) + 65025) / 130050 := rfl
  have q3 : chanV o c s3 d3 s3 d3 = (2 * ((255 - c) * 255 * d3 + c * (s3 * srcV o d3 + d3 * srcV (othV o) s3)) + 65025) / 130050 := rfl
  rw [q0, q1, q2, q3]
  clear q0 q1 q2 q3
  have A := srcV_bd o d3 D.d0 D.d1
  have B := srcV_bd (othV o) s3 S.d0 S.d1
  have L := both_le o s3 d3 S.d0 S.d1 D.d0 D.d1
  generalize srcV o d3 = a at *
  generalize srcV (othV o) s3 = b at *
  obtain ⟨⟨t1, t2⟩, ⟨t3, t4⟩, ⟨t5, t6⟩, ⟨t7, t8⟩, ⟨t9, t10⟩, ⟨t11, t12⟩, t13⟩ := fits (c := c) (s := s0) (d := d0) (by omega) c1 S.a0 rS.1 D.a0 rD.1 S.d1 D.d1 A.1 A.2 B.1 B.2 L
  obtain ⟨⟨u1, u2⟩, ⟨u3, u4⟩, ⟨u5, u6⟩, ⟨u7, u8⟩, ⟨u9, u10⟩, ⟨u11, u12⟩, u13⟩ := fits (c := c) (s := s1) (d := d1) (by omega) c1 S.b0 rS.2.1 D.b0 rD.2.1 S.d1 D.d1 A.1 A.2 B.1 B.2 L
  obtain ⟨⟨v1, v2⟩, ⟨v3, v4⟩, ⟨v5, v6⟩, ⟨v7, v8⟩, ⟨v9, v10⟩, ⟨v11, v12⟩, v13⟩ := fits (c := c) (s := s2) (d := d2) (by omega) c1 S.c0 rS.2.2 D.c0 rD.2.2 S.d1 D.d1 A.1 A.2 B.1 B.2 L
  obtain ⟨⟨y1, y2⟩, ⟨y3, y4⟩, ⟨y5, y6⟩, ⟨y7, y8⟩, ⟨y9, y10⟩, ⟨y11, y12⟩, y13⟩ := fits (c := c) (s := s3) (d := d3) (by omega) c1 S.d0 (Int.le_refl _) D.d0 (Int.le_refl _) S.d1 D.d1 A.1 A.2 B.1 B.2 L
  clear A B L rS rD S D
  have hEo' : (E && (o == 2)) = false := hEo
  clear hEo
  cases E
  all_goals
    (try (have ho2 : (o == 2) = false := by simpa using hEo'))
    clear hEo'
    go_enter Tryd.func20, Tryd.ntmps20
    go_wp2_with (first
      | (go_at_call 16; ((with_reducible refine (R.out _).mono ?_); rintro e w1 ⟨rfl, rfl⟩))
      | (go_at_call 22; ((with_reducible refine (RS.out _).mono ?_); rintro e w2 ⟨rfl, hb2⟩; obtain ⟨hc2, hf2⟩ := Eq.bcell hb2; have hq2 := hb2.size; (try simp at hq2); have hz2_0 : w.heap.size < w2.heap.size := (by omega); have hz2_1 : w.heap.size + 1 < w2.heap.size := (by omega); have hz2_2 : w.heap.size + 1 + 1 < w2.heap.size := (by omega); clear hq2; have HB2 : Below w.heap.size w w2 := (by have z_hb2 := hb2.size; (try simp at z_hb2); repeat' (first | (with_reducible exact Below.refl _ _) | (with_reducible refine Below.drew ?_) | (with_reducible refine below_drewN ?_ _) | ((with_reducible refine Below.setCell ?_ ?side_ _); case side_ => (first | (with_reducible exact Nat.le_refl _) | (with_reducible assumption) | omega | (simp; done) | (simp; omega))) | ((with_reducible refine Below.alloc ?_ ?side_ _); case side_ => (first | (with_reducible exact Nat.le_refl _) | (with_reducible assumption) | omega | (simp; done) | (simp; omega))) | ((with_reducible refine Below.trans ?_ (hb2.mono ?side_)); case side_ => (first | (with_reducible exact Nat.le_refl _) | (with_reducible assumption) | omega | (simp; done) | (simp; omega)))))))
      | (go_at_call 22; ((with_reducible refine (RD.out _).mono ?_); rintro e w3 ⟨rfl, hb3⟩; obtain ⟨hc3, hf3⟩ := Eq.bcell hb3; have hq3 := hb3.size; (try simp at hq3); have hz3_0 : w.heap.size < w3.heap.size := (by omega); have hz3_1 : w.heap.size + 1 < w3.heap.size := (by omega); have hz3_2 : w.heap.size + 1 + 1 < w3.heap.size := (by omega); clear hq3; have HB3 : Below w.heap.size w w3 := (by have z_hb2 := hb2.size; (try simp at z_hb2); have z_hb3 := hb3.size; (try simp at z_hb3); repeat' (first | (with_reducible exact Below.refl _ _) | (with_reducible refine Below.drew ?_) | (with_reducible refine below_drewN ?_ _) | ((with_reducible refine Below.setCell ?_ ?side_ _); case side_ => (first | (with_reducible exact Nat.le_refl _) | (with_reducible assumption) | omega | (simp; done) | (simp; omega))) | ((with_reducible refine Below.alloc ?_ ?side_ _); case side_ => (first | (with_reducible exact Nat.le_refl _) | (with_reducible assumption) | omega | (simp; done) | (simp; omega))) | ((with_reducible refine Below.trans ?_ (hb2.mono ?side_)); case side_ => (first | (with_reducible exact Nat.le_refl _) | (with_reducible assumption) | omega | (simp; done) | (simp; omega))) | ((with_reducible refine Below.trans ?_ (hb3.mono ?side_)); case side_ => (first | (with_reducible exact Nat.le_refl _) | (with_reducible assumption) | omega | (simp; done) | (simp; omega)))))))
      | (go_at_call 13; ((with_reducible refine (F.out _ HB3).mono ?_); rintro e w4 ⟨rfl, hb4⟩; obtain ⟨hc4, hf4⟩ := Eq.bcell hb4; have hq4 := hb4.size; (try simp at hq4); have hz4_0 : w.heap.size < w4.heap.size := (by omega); have hz4_1 : w.heap.size + 1 < w4.heap.size := (by omega); have hz4_2 : w.heap.size + 1 + 1 < w4.heap.size := (by omega); clear hq4)))
    refine wp_loop_rounds 5 ?_
    rw [rounds_succ]
    go_wp2
    go_quiet (fail)
    go_wp2
    rw [rounds_succ]
    go_wp2
    go_quiet (fail)
    go_wp2
    rw [rounds_succ]
    go_wp2
    go_quiet (fail)
    go_wp2
    rw [rounds_succ]
    go_wp2
    go_quiet (fail)
    go_wp2
    rw [rounds_succ]
    go_wp2
    generalize (2 * ((255 - c) * 255 * d0 + c * (s0 * a + d0 * b)) + 65025) / 130050 = z0
    generalize (2 * ((255 - c) * 255 * d1 + c * (s1 * a + d1 * b)) + 65025) / 130050 = z1
    generalize (2 * ((255 - c) * 255 * d2 + c * (s2 * a + d2 * b)) + 65025) / 130050 = z2
    generalize (2 * ((255 - c) * 255 * d3 + c * (s3 * a + d3 * b)) + 65025) / 130050 = z3
    exact bodyPost_ret (v := .agg #[.int .u8 z0, .int .u8 z1, .int .u8 z2, .int .u8 z3]) (by simp only [results, Tryd.results20]; go_simp) rfl ⟨rfl, by have z_hb2 := hb2.size; (try simp at z_hb2); have z_hb3 := hb3.size; (try simp at z_hb3); have z_hb4 := hb4.size; (try simp at z_hb4); repeat' (first | (with_reducible exact Below.refl _ _) | (with_reducible refine Below.drew ?_) | (with_reducible refine below_drewN ?_ _) | ((with_reducible refine Below.setCell ?_ ?side_ _); case side_ => (first | (with_reducible exact Nat.le_refl _) | (with_reducible assumption) | omega | (simp; done) | (simp; omega))) | ((with_reducible refine Below.alloc ?_ ?side_ _); case side_ => (first | (with_reducible exact Nat.le_refl _) | (with_reducible assumption) | omega | (simp; done) | (simp; omega))) | ((with_reducible refine Below.trans ?_ (hb2.mono ?side_)); case side_ => (first | (with_reducible exact Nat.le_refl _) | (with_reducible assumption) | omega | (simp; done) | (simp; omega))) | ((with_reducible refine Below.trans ?_ (hb3.mono ?side_)); case side_ => (first | (with_reducible exact Nat.le_refl _) | (with_reducible assumption) | omega | (simp; done) | (simp; omega))) | ((with_reducible refine Below.trans ?_ (hb4.mono ?side_)); case side_ => (first | (with_reducible exact Nat.le_refl _) | (with_reducible assumption) | omega | (simp; done) | (simp; omega))))⟩

set_option maxHeartbeats 8000000 in
theorem pixel_same (o c s0 s1 s2 s3 d0 d1 d2 d3 : Int) (o0 : -9223372036854775808 ≤ o) (o1 : o ≤ 9223372036854775807) (c0 : 0 ≤ c) (c1 : c ≤ 255)
    (E : Bool) (hE : Eq.eq4 s0 s1 s2 s3 d0 d1 d2 d3 = E) (h : c = 0 ∨ (E && (o == 2)) = true ∨ okV o s0 s1 s2 s3 d0 d1 d2 d3 = false) (w : World) :
    Calls Tryd.prog 20 #[.int .i64 o, .int .u8 c, .agg #[.int .u8 s0, .int .u8 s1, .int .u8 s2, .int .u8 s3], .agg #[.int .u8 d0, .int .u8 d1, .int .u8 d2, .int .u8 d3]] w fun e w' =>
      e = .returned (.agg #[.int .u8 d0, .int .u8 d1, .int .u8 d2, .int .u8 d3]) ∧ Below w.heap.size w w' := by
  have R := Lib.hid (fun w => right_calls o w)
  have RS := Lib.hid (fun w => right21_calls s0 s1 s2 s3 w)
  have RD := Lib.hid (fun w => right21_calls d0 d1 d2 d3 w)
  unfold okV at h
  generalize decide (0 ≤ o ∧ o < 12) = r at *
  generalize rightB s0 s1 s2 s3 = rs at *
  generalize rightB d0 d1 d2 d3 = rd at *
  by_cases hc0 : c = 0
  · subst hc0
    clear h
    go_enter Tryd.func20, Tryd.ntmps20
    go_wp2_with (first
      | (go_at_call 16; ((with_reducible refine (R.out _).mono ?_); rintro e w1 ⟨rfl, rfl⟩))
      | (go_at_call 22; ((with_reducible refine (RS.out _).mono ?_); rintro e w2 ⟨rfl, hb2⟩; obtain ⟨hc2, hf2⟩ := Eq.bcell hb2; have hq2 := hb2.size; (try simp at hq2); have hz2_0 : w.heap.size < w2.heap.size := (by omega); have hz2_1 : w.heap.size + 1 < w2.heap.size := (by omega); have hz2_2 : w.heap.size + 1 + 1 < w2.heap.size := (by omega); clear hq2; have HB2 : Below w.heap.size w w2 := (by have z_hb2 := hb2.size; (try simp at z_hb2); repeat' (first | (with_reducible exact Below.refl _ _) | (with_reducible refine Below.drew ?_) | (with_reducible refine below_drewN ?_ _) | ((with_reducible refine Below.setCell ?_ ?side_ _); case side_ => (first | (with_reducible exact Nat.le_refl _) | (with_reducible assumption) | omega | (simp; done) | (simp; omega))) | ((with_reducible refine Below.alloc ?_ ?side_ _); case side_ => (first | (with_reducible exact Nat.le_refl _) | (with_reducible assumption) | omega | (simp; done) | (simp; omega))) | ((with_reducible refine Below.trans ?_ (hb2.mono ?side_)); case side_ => (first | (with_reducible exact Nat.le_refl _) | (with_reducible assumption) | omega | (simp; done) | (simp; omega)))))))
      | (go_at_call 22; ((with_reducible refine (RD.out _).mono ?_); rintro e w3 ⟨rfl, hb3⟩; obtain ⟨hc3, hf3⟩ := Eq.bcell hb3; have hq3 := hb3.size; (try simp at hq3); have hz3_0 : w.heap.size < w3.heap.size := (by omega); have hz3_1 : w.heap.size + 1 < w3.heap.size := (by omega); have hz3_2 : w.heap.size + 1 + 1 < w3.heap.size := (by omega); clear hq3; have HB3 : Below w.heap.size w w3 := (by have z_hb2 := hb2.size; (try simp at z_hb2); have z_hb3 := hb3.size; (try simp at z_hb3); repeat' (first | (with_reducible exact Below.refl _ _) | (with_reducible refine Below.drew ?_) | (with_reducible refine below_drewN ?_ _) | ((with_reducible refine Below.setCell ?_ ?side_ _); case side_ => (first | (with_reducible exact Nat.le_refl _) | (with_reducible assumption) | omega | (simp; done) | (simp; omega))) | ((with_reducible refine Below.alloc ?_ ?side_ _); case side_ => (first | (with_reducible exact Nat.le_refl _) | (with_reducible assumption) | omega | (simp; done) | (simp; omega))) | ((with_reducible refine Below.trans ?_ (hb2.mono ?side_)); case side_ => (first | (with_reducible exact Nat.le_refl _) | (with_reducible assumption) | omega | (simp; done) | (simp; omega))) | ((with_reducible refine Below.trans ?_ (hb3.mono ?side_)); case side_ => (first | (with_reducible exact Nat.le_refl _) | (with_reducible assumption) | omega | (simp; done) | (simp; omega))))))))
    exact bodyPost_ret (v := .agg #[.int .u8 d0, .int .u8 d1, .int .u8 d2, .int .u8 d3]) (by simp only [results, Tryd.results20]; go_simp) rfl ⟨rfl, by repeat' (first | (with_reducible exact Below.refl _ _) | (with_reducible refine Below.drew ?_) | (with_reducible refine below_drewN ?_ _) | ((with_reducible refine Below.setCell ?_ ?side_ _); case side_ => (first | (with_reducible exact Nat.le_refl _) | (with_reducible assumption) | omega | (simp; done) | (simp; omega))) | ((with_reducible refine Below.alloc ?_ ?side_ _); case side_ => (first | (with_reducible exact Nat.le_refl _) | (with_reducible assumption) | omega | (simp; done) | (simp; omega))))⟩
  · have hc : (c == 0) = false := by simp; omega
    have h' := h.resolve_left hc0
    clear h hc0
    by_cases h2 : (E && (o == 2)) = true
    · simp only [Bool.and_eq_true, beq_iff_eq] at h2
      obtain ⟨rfl, rfl⟩ := h2
      clear h'
      go_enter Tryd.func20, Tryd.ntmps20
      go_wp2_with (first
        | (go_at_call 16; ((with_reducible refine (R.out _).mono ?_); rintro e w1 ⟨rfl, rfl⟩))
        | (go_at_call 22; ((with_reducible refine (RS.out _).mono ?_); rintro e w2 ⟨rfl, hb2⟩; obtain ⟨hc2, hf2⟩ := Eq.bcell hb2; have hq2 := hb2.size; (try simp at hq2); have hz2_0 : w.heap.size < w2.heap.size := (by omega); have hz2_1 : w.heap.size + 1 < w2.heap.size := (by omega); have hz2_2 : w.heap.size + 1 + 1 < w2.heap.size := (by omega); clear hq2; have HB2 : Below w.heap.size w w2 := (by have z_hb2 := hb2.size; (try simp at z_hb2); repeat' (first | (with_reducible exact Below.refl _ _) | (with_reducible refine Below.drew ?_) | (with_reducible refine below_drewN ?_ _) | ((with_reducible refine Below.setCell ?_ ?side_ _); case side_ => (first | (with_reducible exact Nat.le_refl _) | (with_reducible assumption) | omega | (simp; done) | (simp; omega))) | ((with_reducible refine Below.alloc ?_ ?side_ _); case side_ => (first | (with_reducible exact Nat.le_refl _) | (with_reducible assumption) | omega | (simp; done) | (simp; omega))) | ((with_reducible refine Below.trans ?_ (hb2.mono ?side_)); case side_ => (first | (with_reducible exact Nat.le_refl _) | (with_reducible assumption) | omega | (simp; done) | (simp; omega)))))))
        | (go_at_call 22; ((with_reducible refine (RD.out _).mono ?_); rintro e w3 ⟨rfl, hb3⟩; obtain ⟨hc3, hf3⟩ := Eq.bcell hb3; have hq3 := hb3.size; (try simp at hq3); have hz3_0 : w.heap.size < w3.heap.size := (by omega); have hz3_1 : w.heap.size + 1 < w3.heap.size := (by omega); have hz3_2 : w.heap.size + 1 + 1 < w3.heap.size := (by omega); clear hq3; have HB3 : Below w.heap.size w w3 := (by have z_hb2 := hb2.size; (try simp at z_hb2); have z_hb3 := hb3.size; (try simp at z_hb3); repeat' (first | (with_reducible exact Below.refl _ _) | (with_reducible refine Below.drew ?_) | (with_reducible refine below_drewN ?_ _) | ((with_reducible refine Below.setCell ?_ ?side_ _); case side_ => (first | (with_reducible exact Nat.le_refl _) | (with_reducible assumption) | omega | (simp; done) | (simp; omega))) | ((with_reducible refine Below.alloc ?_ ?side_ _); case side_ => (first | (with_reducible exact Nat.le_refl _) | (with_reducible assumption) | omega | (simp; done) | (simp; omega))) | ((with_reducible refine Below.trans ?_ (hb2.mono ?side_)); case side_ => (first | (with_reducible exact Nat.le_refl _) | (with_reducible assumption) | omega | (simp; done) | (simp; omega))) | ((with_reducible refine Below.trans ?_ (hb3.mono ?side_)); case side_ => (first | (with_reducible exact Nat.le_refl _) | (with_reducible assumption) | omega | (simp; done) | (simp; omega))))))))
      exact bodyPost_ret (v := .agg #[.int .u8 d0, .int .u8 d1, .int .u8 d2, .int .u8 d3]) (by simp only [results, Tryd.results20]; go_simp) rfl ⟨rfl, by repeat' (first | (with_reducible exact Below.refl _ _) | (with_reducible refine Below.drew ?_) | (with_reducible refine below_drewN ?_ _) | ((with_reducible refine Below.setCell ?_ ?side_ _); case side_ => (first | (with_reducible exact Nat.le_refl _) | (with_reducible assumption) | omega | (simp; done) | (simp; omega))) | ((with_reducible refine Below.alloc ?_ ?side_ _); case side_ => (first | (with_reducible exact Nat.le_refl _) | (with_reducible assumption) | omega | (simp; done) | (simp; omega))))⟩
    · have h3 := h'.resolve_left h2
      cases E
      all_goals
        (try (have ho2 : (o == 2) = false := by simpa using h2))
        clear h2 h'
        cases r
        · clear h3
          go_enter Tryd.func20, Tryd.ntmps20
          go_wp2_with (first
            | (go_at_call 16; ((with_reducible refine (R.out _).mono ?_); rintro e w1 ⟨rfl, rfl⟩))
            | (go_at_call 22; ((with_reducible refine (RS.out _).mono ?_); rintro e w2 ⟨rfl, hb2⟩; obtain ⟨hc2, hf2⟩ := Eq.bcell hb2; have hq2 := hb2.size; (try simp at hq2); have hz2_0 : w.heap.size < w2.heap.size := (by omega); have hz2_1 : w.heap.size + 1 < w2.heap.size := (by omega); have hz2_2 : w.heap.size + 1 + 1 < w2.heap.size := (by omega); clear hq2; have HB2 : Below w.heap.size w w2 := (by have z_hb2 := hb2.size; (try simp at z_hb2); repeat' (first | (with_reducible exact Below.refl _ _) | (with_reducible refine Below.drew ?_) | (with_reducible refine below_drewN ?_ _) | ((with_reducible refine Below.setCell ?_ ?side_ _); case side_ => (first | (with_reducible exact Nat.le_refl _) | (with_reducible assumption) | omega | (simp; done) | (simp; omega))) | ((with_reducible refine Below.alloc ?_ ?side_ _); case side_ => (first | (with_reducible exact Nat.le_refl _) | (with_reducible assumption) | omega | (simp; done) | (simp; omega))) | ((with_reducible refine Below.trans ?_ (hb2.mono ?side_)); case side_ => (first | (with_reducible exact Nat.le_refl _) | (with_reducible assumption) | omega | (simp; done) | (simp; omega)))))))
            | (go_at_call 22; ((with_reducible refine (RD.out _).mono ?_); rintro e w3 ⟨rfl, hb3⟩; obtain ⟨hc3, hf3⟩ := Eq.bcell hb3; have hq3 := hb3.size; (try simp at hq3); have hz3_0 : w.heap.size < w3.heap.size := (by omega); have hz3_1 : w.heap.size + 1 < w3.heap.size := (by omega); have hz3_2 : w.heap.size + 1 + 1 < w3.heap.size := (by omega); clear hq3; have HB3 : Below w.heap.size w w3 := (by have z_hb2 := hb2.size; (try simp at z_hb2); have z_hb3 := hb3.size; (try simp at z_hb3); repeat' (first | (with_reducible exact Below.refl _ _) | (with_reducible refine Below.drew ?_) | (with_reducible refine below_drewN ?_ _) | ((with_reducible refine Below.setCell ?_ ?side_ _); case side_ => (first | (with_reducible exact Nat.le_refl _) | (with_reducible assumption) | omega | (simp; done) | (simp; omega))) | ((with_reducible refine Below.alloc ?_ ?side_ _); case side_ => (first | (with_reducible exact Nat.le_refl _) | (with_reducible assumption) | omega | (simp; done) | (simp; omega))) | ((with_reducible refine Below.trans ?_ (hb2.mono ?side_)); case side_ => (first | (with_reducible exact Nat.le_refl _) | (with_reducible assumption) | omega | (simp; done) | (simp; omega))) | ((with_reducible refine Below.trans ?_ (hb3.mono ?side_)); case side_ => (first | (with_reducible exact Nat.le_refl _) | (with_reducible assumption) | omega | (simp; done) | (simp; omega))))))))
          exact bodyPost_ret (v := .agg #[.int .u8 d0, .int .u8 d1, .int .u8 d2, .int .u8 d3]) (by simp only [results, Tryd.results20]; go_simp) rfl ⟨rfl, by repeat' (first | (with_reducible exact Below.refl _ _) | (with_reducible refine Below.drew ?_) | (with_reducible refine below_drewN ?_ _) | ((with_reducible refine Below.setCell ?_ ?side_ _); case side_ => (first | (with_reducible exact Nat.le_refl _) | (with_reducible assumption) | omega | (simp; done) | (simp; omega))) | ((with_reducible refine Below.alloc ?_ ?side_ _); case side_ => (first | (with_reducible exact Nat.le_refl _) | (with_reducible assumption) | omega | (simp; done) | (simp; omega))))⟩
        · cases rs
          · clear h3
            go_enter Tryd.func20, Tryd.ntmps20
            go_wp2_with (first
              | (go_at_call 16; ((with_reducible refine (R.out _).mono ?_); rintro e w1 ⟨rfl, rfl⟩))
              | (go_at_call 22; ((with_reducible refine (RS.out _).mono ?_); rintro e w2 ⟨rfl, hb2⟩; obtain ⟨hc2, hf2⟩ := Eq.bcell hb2; have hq2 := hb2.size; (try simp at hq2); have hz2_0 : w.heap.size < w2.heap.size := (by omega); have hz2_1 : w.heap.size + 1 < w2.heap.size := (by omega); have hz2_2 : w.heap.size + 1 + 1 < w2.heap.size := (by omega); clear hq2; have HB2 : Below w.heap.size w w2 := (by have z_hb2 := hb2.size; (try simp at z_hb2); repeat' (first | (with_reducible exact Below.refl _ _) | (with_reducible refine Below.drew ?_) | (with_reducible refine below_drewN ?_ _) | ((with_reducible refine Below.setCell ?_ ?side_ _); case side_ => (first | (with_reducible exact Nat.le_refl _) | (with_reducible assumption) | omega | (simp; done) | (simp; omega))) | ((with_reducible refine Below.alloc ?_ ?side_ _); case side_ => (first | (with_reducible exact Nat.le_refl _) | (with_reducible assumption) | omega | (simp; done) | (simp; omega))) | ((with_reducible refine Below.trans ?_ (hb2.mono ?side_)); case side_ => (first | (with_reducible exact Nat.le_refl _) | (with_reducible assumption) | omega | (simp; done) | (simp; omega)))))))
              | (go_at_call 22; ((with_reducible refine (RD.out _).mono ?_); rintro e w3 ⟨rfl, hb3⟩; obtain ⟨hc3, hf3⟩ := Eq.bcell hb3; have hq3 := hb3.size; (try simp at hq3); have hz3_0 : w.heap.size < w3.heap.size := (by omega); have hz3_1 : w.heap.size + 1 < w3.heap.size := (by omega); have hz3_2 : w.heap.size + 1 + 1 < w3.heap.size := (by omega); clear hq3; have HB3 : Below w.heap.size w w3 := (by have z_hb2 := hb2.size; (try simp at z_hb2); have z_hb3 := hb3.size; (try simp at z_hb3); repeat' (first | (with_reducible exact Below.refl _ _) | (with_reducible refine Below.drew ?_) | (with_reducible refine below_drewN ?_ _) | ((with_reducible refine Below.setCell ?_ ?side_ _); case side_ => (first | (with_reducible exact Nat.le_refl _) | (with_reducible assumption) | omega | (simp; done) | (simp; omega))) | ((with_reducible refine Below.alloc ?_ ?side_ _); case side_ => (first | (with_reducible exact Nat.le_refl _) | (with_reducible assumption) | omega | (simp; done) | (simp; omega))) | ((with_reducible refine Below.trans ?_ (hb2.mono ?side_)); case side_ => (first | (with_reducible exact Nat.le_refl _) | (with_reducible assumption) | omega | (simp; done) | (simp; omega))) | ((with_reducible refine Below.trans ?_ (hb3.mono ?side_)); case side_ => (first | (with_reducible exact Nat.le_refl _) | (with_reducible assumption) | omega | (simp; done) | (simp; omega))))))))
            exact bodyPost_ret (v := .agg #[.int .u8 d0, .int .u8 d1, .int .u8 d2, .int .u8 d3]) (by simp only [results, Tryd.results20]; go_simp) rfl ⟨rfl, by have z_hb2 := hb2.size; (try simp at z_hb2); repeat' (first | (with_reducible exact Below.refl _ _) | (with_reducible refine Below.drew ?_) | (with_reducible refine below_drewN ?_ _) | ((with_reducible refine Below.setCell ?_ ?side_ _); case side_ => (first | (with_reducible exact Nat.le_refl _) | (with_reducible assumption) | omega | (simp; done) | (simp; omega))) | ((with_reducible refine Below.alloc ?_ ?side_ _); case side_ => (first | (with_reducible exact Nat.le_refl _) | (with_reducible assumption) | omega | (simp; done) | (simp; omega))) | ((with_reducible refine Below.trans ?_ (hb2.mono ?side_)); case side_ => (first | (with_reducible exact Nat.le_refl _) | (with_reducible assumption) | omega | (simp; done) | (simp; omega))))⟩
          · obtain rfl : rd = false := by simpa using h3
            clear h3
            go_enter Tryd.func20, Tryd.ntmps20
            go_wp2_with (first
              | (go_at_call 16; ((with_reducible refine (R.out _).mono ?_); rintro e w1 ⟨rfl, rfl⟩))
              | (go_at_call 22; ((with_reducible refine (RS.out _).mono ?_); rintro e w2 ⟨rfl, hb2⟩; obtain ⟨hc2, hf2⟩ := Eq.bcell hb2; have hq2 := hb2.size; (try simp at hq2); have hz2_0 : w.heap.size < w2.heap.size := (by omega); have hz2_1 : w.heap.size + 1 < w2.heap.size := (by omega); have hz2_2 : w.heap.size + 1 + 1 < w2.heap.size := (by omega); clear hq2; have HB2 : Below w.heap.size w w2 := (by have z_hb2 := hb2.size; (try simp at z_hb2); repeat' (first | (with_reducible exact Below.refl _ _) | (with_reducible refine Below.drew ?_) | (with_reducible refine below_drewN ?_ _) | ((with_reducible refine Below.setCell ?_ ?side_ _); case side_ => (first | (with_reducible exact Nat.le_refl _) | (with_reducible assumption) | omega | (simp; done) | (simp; omega))) | ((with_reducible refine Below.alloc ?_ ?side_ _); case side_ => (first | (with_reducible exact Nat.le_refl _) | (with_reducible assumption) | omega | (simp; done) | (simp; omega))) | ((with_reducible refine Below.trans ?_ (hb2.mono ?side_)); case side_ => (first | (with_reducible exact Nat.le_refl _) | (with_reducible assumption) | omega | (simp; done) | (simp; omega)))))))
              | (go_at_call 22; ((with_reducible refine (RD.out _).mono ?_); rintro e w3 ⟨rfl, hb3⟩; obtain ⟨hc3, hf3⟩ := Eq.bcell hb3; have hq3 := hb3.size; (try simp at hq3); have hz3_0 : w.heap.size < w3.heap.size := (by omega); have hz3_1 : w.heap.size + 1 < w3.heap.size := (by omega); have hz3_2 : w.heap.size + 1 + 1 < w3.heap.size := (by omega); clear hq3; have HB3 : Below w.heap.size w w3 := (by have z_hb2 := hb2.size; (try simp at z_hb2); have z_hb3 := hb3.size; (try simp at z_hb3); repeat' (first | (with_reducible exact Below.refl _ _) | (with_reducible refine Below.drew ?_) | (with_reducible refine below_drewN ?_ _) | ((with_reducible refine Below.setCell ?_ ?side_ _); case side_ => (first | (with_reducible exact Nat.le_refl _) | (with_reducible assumption) | omega | (simp; done) | (simp; omega))) | ((with_reducible refine Below.alloc ?_ ?side_ _); case side_ => (first | (with_reducible exact Nat.le_refl _) | (with_reducible assumption) | omega | (simp; done) | (simp; omega))) | ((with_reducible refine Below.trans ?_ (hb2.mono ?side_)); case side_ => (first | (with_reducible exact Nat.le_refl _) | (with_reducible assumption) | omega | (simp; done) | (simp; omega))) | ((with_reducible refine Below.trans ?_ (hb3.mono ?side_)); case side_ => (first | (with_reducible exact Nat.le_refl _) | (with_reducible assumption) | omega | (simp; done) | (simp; omega))))))))
            exact bodyPost_ret (v := .agg #[.int .u8 d0, .int .u8 d1, .int .u8 d2, .int .u8 d3]) (by simp only [results, Tryd.results20]; go_simp) rfl ⟨rfl, by have z_hb2 := hb2.size; (try simp at z_hb2); have z_hb3 := hb3.size; (try simp at z_hb3); repeat' (first | (with_reducible exact Below.refl _ _) | (with_reducible refine Below.drew ?_) | (with_reducible refine below_drewN ?_ _) | ((with_reducible refine Below.setCell ?_ ?side_ _); case side_ => (first | (with_reducible exact Nat.le_refl _) | (with_reducible assumption) | omega | (simp; done) | (simp; omega))) | ((with_reducible refine Below.alloc ?_ ?side_ _); case side_ => (first | (with_reducible exact Nat.le_refl _) | (with_reducible assumption) | omega | (simp; done) | (simp; omega))) | ((with_reducible refine Below.trans ?_ (hb2.mono ?side_)); case side_ => (first | (with_reducible exact Nat.le_refl _) | (with_reducible assumption) | omega | (simp; done) | (simp; omega))) | ((with_reducible refine Below.trans ?_ (hb3.mono ?side_)); case side_ => (first | (with_reducible exact Nat.le_refl _) | (with_reducible assumption) | omega | (simp; done) | (simp; omega))))⟩

end Go.Proofs.YtpmfcedhmfgkiaaDoor.Ops
