/- The laws BlendPlain and BlendNear, walked. For all operators, coverages and colours. -/
import Derived.Test.YtpmfcedhmfgkiaaDoorBlendD
namespace Go.Proofs.YtpmfcedhmfgkiaaDoor.Ops
open Go Go.RowKit
set_option maxRecDepth 100000
set_option linter.unusedVariables false
set_option linter.unusedSimpArgs false
attribute [local go_sem high] eqColour

theorem chanV_src (o c s d da : Int) (h : srcV o da = 255) (h2 : srcV (othV o) 255 = 0) : chanV o c s d 255 da = (2 * ((255 - c) * 255 * d + c * (s * 255 + d * 0)) + 65025) / 130050 := by
  unfold chanV numV; rw [h, h2]
theorem chanV_src255 (s d sa da : Int) (s0 : 0 ≤ s) : chanV 1 255 s d sa da = s := by
  unfold chanV numV
  rw [show srcV 1 da = 255 from rfl, show srcV (othV 1) sa = 0 from rfl]
  omega
theorem chanV_clear255 (s d sa da : Int) : chanV 0 255 s d sa da = 0 := by
  unfold chanV numV
  rw [show srcV 0 da = 0 from rfl, show srcV (othV 0) sa = 0 from rfl]
  omega
theorem chanV_dst' (c s d sa da : Int) (d0 : 0 ≤ d) : chanV 2 c s d sa da = d := by
  have e : numV 2 c s d sa da = 65025 * d := by
    unfold numV
    rw [show srcV 2 da = 0 from rfl, show srcV (othV 2) sa = 255 from rfl, Int.mul_zero, Int.zero_add]
    have h1 : (255 - c) * 255 * d = 65025 * d - c * (d * 255) := by
      rw [Int.sub_mul, Int.sub_mul, Int.mul_assoc c 255 d, Int.mul_comm 255 d]; omega
    rw [h1]; omega
  unfold chanV; rw [e]; omega
theorem chanV_over (c s d da : Int) : chanV 3 c s d 255 da = chanV 1 c s d 255 da := by
  unfold chanV numV
  rw [show srcV 3 da = srcV 1 da from rfl, show srcV (othV 3) 255 = srcV (othV 1) 255 from rfl]

section
variable {o c s0 s1 s2 s3 d0 d1 d2 d3 : Int}
def colA (a b c d : Int) : Value := .agg #[.int .u8 a, .int .u8 b, .int .u8 c, .int .u8 d]
theorem pixA_no (h : okV o s0 s1 s2 s3 d0 d1 d2 d3 = false) : pixA o c s0 s1 s2 s3 d0 d1 d2 d3 = colA d0 d1 d2 d3 := by unfold pixA pixV; rw [h]; rfl
theorem pixA_zero (D : Col d0 d1 d2 d3) : pixA o 0 s0 s1 s2 s3 d0 d1 d2 d3 = colA d0 d1 d2 d3 := by
  unfold pixA pixV
  rw [chanV_zero _ _ _ _ _ D.a0, chanV_zero _ _ _ _ _ D.b0, chanV_zero _ _ _ _ _ D.c0, chanV_zero _ _ _ _ _ D.d0]
  simp [colA]
theorem pixA_dst (D : Col d0 d1 d2 d3) : pixA 2 c s0 s1 s2 s3 d0 d1 d2 d3 = colA d0 d1 d2 d3 := by
  unfold pixA pixV
  rw [chanV_dst' _ _ _ _ _ D.a0, chanV_dst' _ _ _ _ _ D.b0, chanV_dst' _ _ _ _ _ D.c0, chanV_dst' _ _ _ _ _ D.d0]
  simp [colA]
theorem pixA_src (S : Col s0 s1 s2 s3) (hs : rightB s0 s1 s2 s3 = true) (hd : rightB d0 d1 d2 d3 = true) : pixA 1 255 s0 s1 s2 s3 d0 d1 d2 d3 = colA s0 s1 s2 s3 := by
  unfold pixA pixV okV
  rw [hs, hd, chanV_src255 _ _ _ _ S.a0, chanV_src255 _ _ _ _ S.b0, chanV_src255 _ _ _ _ S.c0, chanV_src255 _ _ _ _ S.d0]
  rfl
theorem pixA_clear (hs : rightB s0 s1 s2 s3 = true) (hd : rightB d0 d1 d2 d3 = true) : pixA 0 255 s0 s1 s2 s3 d0 d1 d2 d3 = colA 0 0 0 0 := by
  unfold pixA pixV okV
  rw [hs, hd, chanV_clear255, chanV_clear255, chanV_clear255, chanV_clear255]
  rfl
theorem pixA_over : pixA 3 c s0 s1 s2 255 d0 d1 d2 d3 = pixA 1 c s0 s1 s2 255 d0 d1 d2 d3 := by
  unfold pixA pixV okV
  rw [chanV_over, chanV_over, chanV_over, chanV_over]
  rfl
end

section
variable {w wc w1 : World} {o c s0 s1 s2 s3 d0 d1 d2 d3 t0 t1 t2 t3 : Int} {B : Nat}
theorem two_begin (h : (wc.cell? ⟨w.heap.size, 0, none⟩ = some (.int .i64 o) ∧ wc.cell? ⟨w.heap.size, 1, none⟩ = some (.int .u8 c) ∧ wc.cell? ⟨w.heap.size, 2, none⟩ = some (.int .u8 s0) ∧ wc.cell? ⟨w.heap.size, 3, none⟩ = some (.int .u8 s1) ∧ wc.cell? ⟨w.heap.size, 4, none⟩ = some (.int .u8 s2) ∧ wc.cell? ⟨w.heap.size, 5, none⟩ = some (.int .u8 s3) ∧ wc.cell? ⟨w.heap.size, 6, none⟩ = some (.int .u8 d0) ∧ wc.cell? ⟨w.heap.size, 7, none⟩ = some (.int .u8 d1) ∧ wc.cell? ⟨w.heap.size, 8, none⟩ = some (.int .u8 d2) ∧ wc.cell? ⟨w.heap.size, 9, none⟩ = some (.int .u8 d3) ∧ w.heap.size < wc.heap.size ∧ Below w.heap.size w wc)) (t : TypeId) : (((wc.alloc (.cells #[.int .u8 s0, .int .u8 s1, .int .u8 s2, .int .u8 255] t)).drew.cell? ⟨w.heap.size, 0, none⟩ = some (.int .i64 o) ∧ (wc.alloc (.cells #[.int .u8 s0, .int .u8 s1, .int .u8 s2, .int .u8 255] t)).drew.cell? ⟨w.heap.size, 1, none⟩ = some (.int .u8 c) ∧ (wc.alloc (.cells #[.int .u8 s0, .int .u8 s1, .int .u8 s2, .int .u8 255] t)).drew.cell? ⟨w.heap.size, 2, none⟩ = some (.int .u8 s0) ∧ (wc.alloc (.cells #[.int .u8 s0, .int .u8 s1, .int .u8 s2, .int .u8 255] t)).drew.cell? ⟨w.heap.size, 3, none⟩ = some (.int .u8 s1) ∧ (wc.alloc (.cells #[.int .u8 s0, .int .u8 s1, .int .u8 s2, .int .u8 255] t)).drew.cell? ⟨w.heap.size, 4, none⟩ = some (.int .u8 s2) ∧ (wc.alloc (.cells #[.int .u8 s0, .int .u8 s1, .int .u8 s2, .int .u8 255] t)).drew.cell? ⟨w.heap.size, 5, none⟩ = some (.int .u8 s3) ∧ (wc.alloc (.cells #[.int .u8 s0, .int .u8 s1, .int .u8 s2, .int .u8 255] t)).drew.cell? ⟨w.heap.size, 6, none⟩ = some (.int .u8 d0) ∧ (wc.alloc (.cells #[.int .u8 s0, .int .u8 s1, .int .u8 s2, .int .u8 255] t)).drew.cell? ⟨w.heap.size, 7, none⟩ = some (.int .u8 d1) ∧ (wc.alloc (.cells #[.int .u8 s0, .int .u8 s1, .int .u8 s2, .int .u8 255] t)).drew.cell? ⟨w.heap.size, 8, none⟩ = some (.int .u8 d2) ∧ (wc.alloc (.cells #[.int .u8 s0, .int .u8 s1, .int .u8 s2, .int .u8 255] t)).drew.cell? ⟨w.heap.size, 9, none⟩ = some (.int .u8 d3) ∧ w.heap.size < (wc.alloc (.cells #[.int .u8 s0, .int .u8 s1, .int .u8 s2, .int .u8 255] t)).drew.heap.size ∧ Below w.heap.size w (wc.alloc (.cells #[.int .u8 s0, .int .u8 s1, .int .u8 s2, .int .u8 255] t)).drew) ∧ ((wc.alloc (.cells #[.int .u8 s0, .int .u8 s1, .int .u8 s2, .int .u8 255] t)).drew.cell? ⟨wc.heap.size, 0, none⟩ = some (.int .u8 s0) ∧ (wc.alloc (.cells #[.int .u8 s0, .int .u8 s1, .int .u8 s2, .int .u8 255] t)).drew.cell? ⟨wc.heap.size, 1, none⟩ = some (.int .u8 s1) ∧ (wc.alloc (.cells #[.int .u8 s0, .int .u8 s1, .int .u8 s2, .int .u8 255] t)).drew.cell? ⟨wc.heap.size, 2, none⟩ = some (.int .u8 s2) ∧ (wc.alloc (.cells #[.int .u8 s0, .int .u8 s1, .int .u8 s2, .int .u8 255] t)).drew.cell? ⟨wc.heap.size, 3, none⟩ = some (.int .u8 255) ∧ wc.heap.size < (wc.alloc (.cells #[.int .u8 s0, .int .u8 s1, .int .u8 s2, .int .u8 255] t)).drew.heap.size)) := by
  refine ⟨pair_drew (pair_keep h ((Below.refl _ _).alloc (Nat.le_refl _) _)), ?_⟩
  refine ⟨?_, ?_, ?_, ?_, ?_⟩
  · show (wc.alloc _).cell? _ = _; simp
  · show (wc.alloc _).cell? _ = _; simp
  · show (wc.alloc _).cell? _ = _; simp
  · show (wc.alloc _).cell? _ = _; simp
  · show _ < (wc.alloc _).heap.size; simp
theorem four_keep (h : (wc.cell? ⟨B, 0, none⟩ = some (.int .u8 t0) ∧ wc.cell? ⟨B, 1, none⟩ = some (.int .u8 t1) ∧ wc.cell? ⟨B, 2, none⟩ = some (.int .u8 t2) ∧ wc.cell? ⟨B, 3, none⟩ = some (.int .u8 t3) ∧ B < wc.heap.size)) (hb : Below wc.heap.size wc w1) : (w1.cell? ⟨B, 0, none⟩ = some (.int .u8 t0) ∧ w1.cell? ⟨B, 1, none⟩ = some (.int .u8 t1) ∧ w1.cell? ⟨B, 2, none⟩ = some (.int .u8 t2) ∧ w1.cell? ⟨B, 3, none⟩ = some (.int .u8 t3) ∧ B < w1.heap.size) := by
  obtain ⟨h0, h1, h2, h3, hs⟩ := h
  have k : ∀ i, w1.cell? ⟨B, i, none⟩ = wc.cell? ⟨B, i, none⟩ := fun i => hb.cell (p := ⟨B, i, none⟩) hs
  exact ⟨(k _).trans h0, (k _).trans h1, (k _).trans h2, (k _).trans h3, Nat.lt_of_lt_of_le hs hb.size⟩
theorem two_keep (h : (wc.cell? ⟨w.heap.size, 0, none⟩ = some (.int .i64 o) ∧ wc.cell? ⟨w.heap.size, 1, none⟩ = some (.int .u8 c) ∧ wc.cell? ⟨w.heap.size, 2, none⟩ = some (.int .u8 s0) ∧ wc.cell? ⟨w.heap.size, 3, none⟩ = some (.int .u8 s1) ∧ wc.cell? ⟨w.heap.size, 4, none⟩ = some (.int .u8 s2) ∧ wc.cell? ⟨w.heap.size, 5, none⟩ = some (.int .u8 s3) ∧ wc.cell? ⟨w.heap.size, 6, none⟩ = some (.int .u8 d0) ∧ wc.cell? ⟨w.heap.size, 7, none⟩ = some (.int .u8 d1) ∧ wc.cell? ⟨w.heap.size, 8, none⟩ = some (.int .u8 d2) ∧ wc.cell? ⟨w.heap.size, 9, none⟩ = some (.int .u8 d3) ∧ w.heap.size < wc.heap.size ∧ Below w.heap.size w wc) ∧ (wc.cell? ⟨B, 0, none⟩ = some (.int .u8 t0) ∧ wc.cell? ⟨B, 1, none⟩ = some (.int .u8 t1) ∧ wc.cell? ⟨B, 2, none⟩ = some (.int .u8 t2) ∧ wc.cell? ⟨B, 3, none⟩ = some (.int .u8 t3) ∧ B < wc.heap.size)) (hb : Below wc.heap.size wc w1) : (w1.cell? ⟨w.heap.size, 0, none⟩ = some (.int .i64 o) ∧ w1.cell? ⟨w.heap.size, 1, none⟩ = some (.int .u8 c) ∧ w1.cell? ⟨w.heap.size, 2, none⟩ = some (.int .u8 s0) ∧ w1.cell? ⟨w.heap.size, 3, none⟩ = some (.int .u8 s1) ∧ w1.cell? ⟨w.heap.size, 4, none⟩ = some (.int .u8 s2) ∧ w1.cell? ⟨w.heap.size, 5, none⟩ = some (.int .u8 s3) ∧ w1.cell? ⟨w.heap.size, 6, none⟩ = some (.int .u8 d0) ∧ w1.cell? ⟨w.heap.size, 7, none⟩ = some (.int .u8 d1) ∧ w1.cell? ⟨w.heap.size, 8, none⟩ = some (.int .u8 d2) ∧ w1.cell? ⟨w.heap.size, 9, none⟩ = some (.int .u8 d3) ∧ w.heap.size < w1.heap.size ∧ Below w.heap.size w w1) ∧ (w1.cell? ⟨B, 0, none⟩ = some (.int .u8 t0) ∧ w1.cell? ⟨B, 1, none⟩ = some (.int .u8 t1) ∧ w1.cell? ⟨B, 2, none⟩ = some (.int .u8 t2) ∧ w1.cell? ⟨B, 3, none⟩ = some (.int .u8 t3) ∧ B < w1.heap.size) := ⟨pair_keep h.1 hb, four_keep h.2 hb⟩
end

set_option maxHeartbeats 8000000 in
theorem blendplain_calls (o c s0 s1 s2 s3 d0 d1 d2 d3 : Int) (o0 : -9223372036854775808 ≤ o) (o1 : o ≤ 9223372036854775807) (c0 : 0 ≤ c) (c1 : c ≤ 255) (S : Col s0 s1 s2 s3) (D : Col d0 d1 d2 d3) (w : World) (hk : Kinds w) :
    Calls Tryd.prog 7 #[.agg #[.int .i64 o, .int .u8 c, .int .u8 s0, .int .u8 s1, .int .u8 s2, .int .u8 s3, .int .u8 d0, .int .u8 d1, .int .u8 d2, .int .u8 d3]] w fun e w' => e = .returned (.bool true) ∧ Below w.heap.size w w' := by
  have WK := Lib.hid (fun (w1 : World) (hb : Below w.heap.size w w1) => wakes21_calls w1 (hk.below hb))
  have RS := Lib.hid (fun w => refright_calls s0 s1 s2 s3 w)
  have RD := Lib.hid (fun w => refright_calls d0 d1 d2 d3 w)
  have ED := Eq.eq4_self d0 d1 d2 d3
  by_cases hr : rightB s0 s1 s2 s3 = true ∧ rightB d0 d1 d2 d3 = true
  · have S' : Col s0 s1 s2 255 := ⟨S.a0, S.a1, S.b0, S.b1, S.c0, S.c1, by decide, by decide⟩
    have p1 := fun (w1 : World) (hb : Below w.heap.size w w1) => by have := pixel_calls o 0 s0 s1 s2 s3 d0 d1 d2 d3 o0 o1 (by decide) (by decide) S D w1 (hk.below hb); rw [pixA_zero D] at this; exact this
    have p2 := fun (w1 : World) (hb : Below w.heap.size w w1) => by have := pixel_calls 1 255 s0 s1 s2 s3 d0 d1 d2 d3 (by decide) (by decide) (by decide) (by decide) S D w1 (hk.below hb); rw [pixA_src S hr.1 hr.2] at this; exact this
    have p3 := fun (w1 : World) (hb : Below w.heap.size w w1) => by have := pixel_calls 0 255 s0 s1 s2 s3 d0 d1 d2 d3 (by decide) (by decide) (by decide) (by decide) S D w1 (hk.below hb); rw [pixA_clear hr.1 hr.2] at this; exact this
    have p4 := fun (w1 : World) (hb : Below w.heap.size w w1) => by have := pixel_calls 2 c s0 s1 s2 s3 d0 d1 d2 d3 (by decide) (by decide) c0 c1 S D w1 (hk.below hb); rw [pixA_dst D] at this; exact this
    have p5 := fun (w1 : World) (hb : Below w.heap.size w w1) => by have := pixel_calls 3 c s0 s1 s2 255 d0 d1 d2 d3 (by decide) (by decide) c0 c1 S' D w1 (hk.below hb); rw [pixA_over] at this; exact this
    have p6 := fun (w1 : World) (hb : Below w.heap.size w w1) => pixel_calls 1 c s0 s1 s2 255 d0 d1 d2 d3 (by decide) (by decide) c0 c1 S' D w1 (hk.below hb)
    unfold colA at p1 p2 p3 p4
    unfold pixA at p5 p6
    generalize pixV (okV 1 s0 s1 s2 255 d0 d1 d2 d3) 1 c s0 d0 255 d3 = q0 at *
    generalize pixV (okV 1 s0 s1 s2 255 d0 d1 d2 d3) 1 c s1 d1 255 d3 = q1 at *
    generalize pixV (okV 1 s0 s1 s2 255 d0 d1 d2 d3) 1 c s2 d2 255 d3 = q2 at *
    generalize pixV (okV 1 s0 s1 s2 255 d0 d1 d2 d3) 1 c 255 d3 255 d3 = q3 at *
    rw [hr.1] at RS
    rw [hr.2] at RD
    have ES := Eq.eq4_self s0 s1 s2 s3
    have EQ := Eq.eq4_self q0 q1 q2 q3
    have EZ : Eq.eq4 0 0 0 0 0 0 0 0 = true := rfl
    have P1 := Lib.hid p1
    have P2 := Lib.hid p2
    have P3 := Lib.hid p3
    have P4 := Lib.hid p4
    have P5 := Lib.hid p5
    have P6 := Lib.hid p6
    clear p1 p2 p3 p4 p5 p6 hr hk S D S' c0 c1
    go_enter Tryd.func7, Tryd.ntmps7
    go_wp2_with (first
      | (go_at_call 19; ((with_reducible refine (WK.out _ (by repeat' (first | (with_reducible exact Below.refl _ _) | (with_reducible refine Below.drew ?_) | (with_reducible refine below_drewN ?_ _) | ((with_reducible refine Below.setCell ?_ ?side_ _); case side_ => (first | (with_reducible exact Nat.le_refl _) | (with_reducible assumption) | omega | (simp; done) | (simp; omega))) | ((with_reducible refine Below.alloc ?_ ?side_ _); case side_ => (first | (with_reducible exact Nat.le_refl _) | (with_reducible assumption) | omega | (simp; done) | (simp; omega)))))).mono ?_); rintro e w1 ⟨rfl, hb1⟩; obtain ⟨hc1, hf1⟩ := Eq.bcell hb1; have hq1 := hb1.size; (try simp at hq1); have hz1_0 : w.heap.size < w1.heap.size := (by omega); clear hq1))
      | (go_at_call 23; ((with_reducible refine (RS.out _).mono ?_); rintro e w2 ⟨rfl, hb2⟩; obtain ⟨hc2, hf2⟩ := Eq.bcell hb2; have hq2 := hb2.size; (try simp at hq2); have hz2_0 : w.heap.size < w2.heap.size := (by omega); clear hq2))
      | (go_at_call 23; ((with_reducible refine (RD.out _).mono ?_); rintro e w3 ⟨rfl, hb3⟩; obtain ⟨hc3, hf3⟩ := Eq.bcell hb3; have hq3 := hb3.size; (try simp at hq3); have hz3_0 : w.heap.size < w3.heap.size := (by omega); clear hq3)))
    have H1 := pair_keep (pair_keep (pair_keep (pair_alloc _) hb1) hb2) hb3
    clear hc1 hf1 hc2 hf2 hc3 hf3 hz1_0 hz2_0 hz3_0 hb1 hb2 hb3
    go_region_held3 (fun w' => (w'.cell? ⟨w.heap.size, 0, none⟩ = some (.int .i64 o) ∧ w'.cell? ⟨w.heap.size, 1, none⟩ = some (.int .u8 c) ∧ w'.cell? ⟨w.heap.size, 2, none⟩ = some (.int .u8 s0) ∧ w'.cell? ⟨w.heap.size, 3, none⟩ = some (.int .u8 s1) ∧ w'.cell? ⟨w.heap.size, 4, none⟩ = some (.int .u8 s2) ∧ w'.cell? ⟨w.heap.size, 5, none⟩ = some (.int .u8 s3) ∧ w'.cell? ⟨w.heap.size, 6, none⟩ = some (.int .u8 d0) ∧ w'.cell? ⟨w.heap.size, 7, none⟩ = some (.int .u8 d1) ∧ w'.cell? ⟨w.heap.size, 8, none⟩ = some (.int .u8 d2) ∧ w'.cell? ⟨w.heap.size, 9, none⟩ = some (.int .u8 d3) ∧ w.heap.size < w'.heap.size ∧ Below w.heap.size w w') ∧ (w'.cell? ⟨w3.heap.size, 0, none⟩ = some (.int .u8 s0) ∧ w'.cell? ⟨w3.heap.size, 1, none⟩ = some (.int .u8 s1) ∧ w'.cell? ⟨w3.heap.size, 2, none⟩ = some (.int .u8 s2) ∧ w'.cell? ⟨w3.heap.size, 3, none⟩ = some (.int .u8 255) ∧ w3.heap.size < w'.heap.size)) (first | exact two_begin H1 _ | exact two_keep (by assumption) (by assumption))
      (first
        | (go_at_call 20; ((with_reducible refine (P1.out _ ?hk).mono ?_); (case hk => exact pair_below (And.left (by assumption))); rintro e w2 ⟨rfl, hb2⟩))
        | (go_at_call 20; ((with_reducible refine (P2.out _ ?hk).mono ?_); (case hk => exact pair_below (And.left (by assumption))); rintro e w2 ⟨rfl, hb2⟩))
        | (go_at_call 20; ((with_reducible refine (P3.out _ ?hk).mono ?_); (case hk => exact pair_below (And.left (by assumption))); rintro e w2 ⟨rfl, hb2⟩))
        | (go_at_call 20; ((with_reducible refine (P4.out _ ?hk).mono ?_); (case hk => exact pair_below (And.left (by assumption))); rintro e w2 ⟨rfl, hb2⟩))
        | (go_at_call 20; ((with_reducible refine (P5.out _ ?hk).mono ?_); (case hk => exact pair_below (And.left (by assumption))); rintro e w2 ⟨rfl, hb2⟩))
        | (go_at_call 20; ((with_reducible refine (P6.out _ ?hk).mono ?_); (case hk => exact pair_below (And.left (by assumption))); rintro e w2 ⟨rfl, hb2⟩)))
    rename_i hH
    have hB := pair_below hH.1
    clear hH
    go_wp2
    go_ret
    exact ⟨rfl, hB⟩
  · have hn : okV o s0 s1 s2 s3 d0 d1 d2 d3 = false := by
      unfold okV
      cases h1 : rightB s0 s1 s2 s3 <;> cases h2 : rightB d0 d1 d2 d3 <;> simp_all
    have px := fun (w1 : World) (hb : Below w.heap.size w w1) => by have := pixel_calls o c s0 s1 s2 s3 d0 d1 d2 d3 o0 o1 c0 c1 S D w1 (hk.below hb); rw [pixA_no hn] at this; exact this
    unfold colA at px
    have PX := Lib.hid px
    have HR : (rightB s0 s1 s2 s3 && rightB d0 d1 d2 d3) = false := by cases h1 : rightB s0 s1 s2 s3 <;> cases h2 : rightB d0 d1 d2 d3 <;> simp_all
    generalize rightB s0 s1 s2 s3 = rs at *
    generalize rightB d0 d1 d2 d3 = rd at *
    clear px hn hr hk S D c0 c1
    cases rs
    · clear HR
      go_enter Tryd.func7, Tryd.ntmps7
      go_wp2_with (first
        | (go_at_call 19; ((with_reducible refine (WK.out _ (by repeat' (first | (with_reducible exact Below.refl _ _) | (with_reducible refine Below.drew ?_) | (with_reducible refine below_drewN ?_ _) | ((with_reducible refine Below.setCell ?_ ?side_ _); case side_ => (first | (with_reducible exact Nat.le_refl _) | (with_reducible assumption) | omega | (simp; done) | (simp; omega))) | ((with_reducible refine Below.alloc ?_ ?side_ _); case side_ => (first | (with_reducible exact Nat.le_refl _) | (with_reducible assumption) | omega | (simp; done) | (simp; omega)))))).mono ?_); rintro e w1 ⟨rfl, hb1⟩; obtain ⟨hc1, hf1⟩ := Eq.bcell hb1; have hq1 := hb1.size; (try simp at hq1); have hz1_0 : w.heap.size < w1.heap.size := (by omega); clear hq1))
        | (go_at_call 23; ((with_reducible refine (RS.out _).mono ?_); rintro e w2 ⟨rfl, hb2⟩; obtain ⟨hc2, hf2⟩ := Eq.bcell hb2; have hq2 := hb2.size; (try simp at hq2); have hz2_0 : w.heap.size < w2.heap.size := (by omega); clear hq2)))
      have H1 := pair_keep (pair_keep (pair_alloc _) hb1) hb2
      clear hc1 hf1 hc2 hf2 hz1_0 hz2_0 hb1 hb2
      go_region_held3 (fun w' => (w'.cell? ⟨w.heap.size, 0, none⟩ = some (.int .i64 o) ∧ w'.cell? ⟨w.heap.size, 1, none⟩ = some (.int .u8 c) ∧ w'.cell? ⟨w.heap.size, 2, none⟩ = some (.int .u8 s0) ∧ w'.cell? ⟨w.heap.size, 3, none⟩ = some (.int .u8 s1) ∧ w'.cell? ⟨w.heap.size, 4, none⟩ = some (.int .u8 s2) ∧ w'.cell? ⟨w.heap.size, 5, none⟩ = some (.int .u8 s3) ∧ w'.cell? ⟨w.heap.size, 6, none⟩ = some (.int .u8 d0) ∧ w'.cell? ⟨w.heap.size, 7, none⟩ = some (.int .u8 d1) ∧ w'.cell? ⟨w.heap.size, 8, none⟩ = some (.int .u8 d2) ∧ w'.cell? ⟨w.heap.size, 9, none⟩ = some (.int .u8 d3) ∧ w.heap.size < w'.heap.size ∧ Below w.heap.size w w')) (first | exact pair_drew H1 | exact pair_keep (by assumption) (by assumption))
        (first | (go_at_call 20; ((with_reducible refine (PX.out _ ?hk).mono ?_); (case hk => exact pair_below (by assumption)); rintro e w2 ⟨rfl, hb2⟩)))
      rename_i hH
      have hB := pair_below hH
      clear hH
      go_wp2
      go_ret
      exact ⟨rfl, hB⟩
    · obtain rfl : rd = false := by simpa using HR
      clear HR
      go_enter Tryd.func7, Tryd.ntmps7
      go_wp2_with (first
        | (go_at_call 19; ((with_reducible refine (WK.out _ (by repeat' (first | (with_reducible exact Below.refl _ _) | (with_reducible refine Below.drew ?_) | (with_reducible refine below_drewN ?_ _) | ((with_reducible refine Below.setCell ?_ ?side_ _); case side_ => (first | (with_reducible exact Nat.le_refl _) | (with_reducible assumption) | omega | (simp; done) | (simp; omega))) | ((with_reducible refine Below.alloc ?_ ?side_ _); case side_ => (first | (with_reducible exact Nat.le_refl _) | (with_reducible assumption) | omega | (simp; done) | (simp; omega)))))).mono ?_); rintro e w1 ⟨rfl, hb1⟩; obtain ⟨hc1, hf1⟩ := Eq.bcell hb1; have hq1 := hb1.size; (try simp at hq1); have hz1_0 : w.heap.size < w1.heap.size := (by omega); clear hq1))
        | (go_at_call 23; ((with_reducible refine (RS.out _).mono ?_); rintro e w2 ⟨rfl, hb2⟩; obtain ⟨hc2, hf2⟩ := Eq.bcell hb2; have hq2 := hb2.size; (try simp at hq2); have hz2_0 : w.heap.size < w2.heap.size := (by omega); clear hq2))
        | (go_at_call 23; ((with_reducible refine (RD.out _).mono ?_); rintro e w3 ⟨rfl, hb3⟩; obtain ⟨hc3, hf3⟩ := Eq.bcell hb3; have hq3 := hb3.size; (try simp at hq3); have hz3_0 : w.heap.size < w3.heap.size := (by omega); clear hq3)))
      have H1 := pair_keep (pair_keep (pair_keep (pair_alloc _) hb1) hb2) hb3
      clear hc1 hf1 hc2 hf2 hc3 hf3 hz1_0 hz2_0 hz3_0 hb1 hb2 hb3
      go_region_held3 (fun w' => (w'.cell? ⟨w.heap.size, 0, none⟩ = some (.int .i64 o) ∧ w'.cell? ⟨w.heap.size, 1, none⟩ = some (.int .u8 c) ∧ w'.cell? ⟨w.heap.size, 2, none⟩ = some (.int .u8 s0) ∧ w'.cell? ⟨w.heap.size, 3, none⟩ = some (.int .u8 s1) ∧ w'.cell? ⟨w.heap.size, 4, none⟩ = some (.int .u8 s2) ∧ w'.cell? ⟨w.heap.size, 5, none⟩ = some (.int .u8 s3) ∧ w'.cell? ⟨w.heap.size, 6, none⟩ = some (.int .u8 d0) ∧ w'.cell? ⟨w.heap.size, 7, none⟩ = some (.int .u8 d1) ∧ w'.cell? ⟨w.heap.size, 8, none⟩ = some (.int .u8 d2) ∧ w'.cell? ⟨w.heap.size, 9, none⟩ = some (.int .u8 d3) ∧ w.heap.size < w'.heap.size ∧ Below w.heap.size w w')) (first | exact pair_drew H1 | exact pair_keep (by assumption) (by assumption))
        (first | (go_at_call 20; ((with_reducible refine (PX.out _ ?hk).mono ?_); (case hk => exact pair_below (by assumption)); rintro e w2 ⟨rfl, hb2⟩)))
      rename_i hH
      have hB := pair_below hH
      clear hH
      go_wp2
      go_ret
      exact ⟨rfl, hB⟩
end Go.Proofs.YtpmfcedhmfgkiaaDoor.Ops
