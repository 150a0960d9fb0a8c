/- The law BlendPixels, walked: what comes of any pixel is the document's; any colour is right, or not. For all operators, coverages and colours. -/
import Derived.Test.YtpmfcedhmfgkiaaDoorBlendC
import Derived.Deep.RegionHeld3
namespace Go.Proofs.YtpmfcedhmfgkiaaDoor.Ops
open Go Go.RowKit
set_option maxRecDepth 100000
set_option linter.unusedVariables false
set_option linter.unusedSimpArgs false
attribute [local go_sem high] eqColour

section
variable {w wc w1 : World} {o c s0 s1 s2 s3 d0 d1 d2 d3 : Int}
theorem pair_alloc (t : TypeId) : ((w.alloc (.cells #[.int .i64 o, .int .u8 c, .int .u8 s0, .int .u8 s1, .int .u8 s2, .int .u8 s3, .int .u8 d0, .int .u8 d1, .int .u8 d2, .int .u8 d3] t)).cell? ⟨w.heap.size, 0, none⟩ = some (.int .i64 o) ∧ (w.alloc (.cells #[.int .i64 o, .int .u8 c, .int .u8 s0, .int .u8 s1, .int .u8 s2, .int .u8 s3, .int .u8 d0, .int .u8 d1, .int .u8 d2, .int .u8 d3] t)).cell? ⟨w.heap.size, 1, none⟩ = some (.int .u8 c) ∧ (w.alloc (.cells #[.int .i64 o, .int .u8 c, .int .u8 s0, .int .u8 s1, .int .u8 s2, .int .u8 s3, .int .u8 d0, .int .u8 d1, .int .u8 d2, .int .u8 d3] t)).cell? ⟨w.heap.size, 2, none⟩ = some (.int .u8 s0) ∧ (w.alloc (.cells #[.int .i64 o, .int .u8 c, .int .u8 s0, .int .u8 s1, .int .u8 s2, .int .u8 s3, .int .u8 d0, .int .u8 d1, .int .u8 d2, .int .u8 d3] t)).cell? ⟨w.heap.size, 3, none⟩ = some (.int .u8 s1) ∧ (w.alloc (.cells #[.int .i64 o, .int .u8 c, .int .u8 s0, .int .u8 s1, .int .u8 s2, .int .u8 s3, .int .u8 d0, .int .u8 d1, .int .u8 d2, .int .u8 d3] t)).cell? ⟨w.heap.size, 4, none⟩ = some (.int .u8 s2) ∧ (w.alloc (.cells #[.int .i64 o, .int .u8 c, .int .u8 s0, .int .u8 s1, .int .u8 s2, .int .u8 s3, .int .u8 d0, .int .u8 d1, .int .u8 d2, .int .u8 d3] t)).cell? ⟨w.heap.size, 5, none⟩ = some (.int .u8 s3) ∧ (w.alloc (.cells #[.int .i64 o, .int .u8 c, .int .u8 s0, .int .u8 s1, .int .u8 s2, .int .u8 s3, .int .u8 d0, .int .u8 d1, .int .u8 d2, .int .u8 d3] t)).cell? ⟨w.heap.size, 6, none⟩ = some (.int .u8 d0) ∧ (w.alloc (.cells #[.int .i64 o, .int .u8 c, .int .u8 s0, .int .u8 s1, .int .u8 s2, .int .u8 s3, .int .u8 d0, .int .u8 d1, .int .u8 d2, .int .u8 d3] t)).cell? ⟨w.heap.size, 7, none⟩ = some (.int .u8 d1) ∧ (w.alloc (.cells #[.int .i64 o, .int .u8 c, .int .u8 s0, .int .u8 s1, .int .u8 s2, .int .u8 s3, .int .u8 d0, .int .u8 d1, .int .u8 d2, .int .u8 d3] t)).cell? ⟨w.heap.size, 8, none⟩ = some (.int .u8 d2) ∧ (w.alloc (.cells #[.int .i64 o, .int .u8 c, .int .u8 s0, .int .u8 s1, .int .u8 s2, .int .u8 s3, .int .u8 d0, .int .u8 d1, .int .u8 d2, .int .u8 d3] t)).cell? ⟨w.heap.size, 9, none⟩ = some (.int .u8 d3) ∧ w.heap.size < (w.alloc (.cells #[.int .i64 o, .int .u8 c, .int .u8 s0, .int .u8 s1, .int .u8 s2, .int .u8 s3, .int .u8 d0, .int .u8 d1, .int .u8 d2, .int .u8 d3] t)).heap.size ∧ Below w.heap.size w (w.alloc (.cells #[.int .i64 o, .int .u8 c, .int .u8 s0, .int .u8 s1, .int .u8 s2, .int .u8 s3, .int .u8 d0, .int .u8 d1, .int .u8 d2, .int .u8 d3] t))) := by
  refine ⟨?_, ?_, ?_, ?_, ?_, ?_, ?_, ?_, ?_, ?_, by simp, (Below.refl _ _).alloc (Nat.le_refl _) _⟩ <;> simp
theorem pair_drew (h : (wc.cell? ⟨w.heap.size, 0, none⟩ = some (.int .i64 o) ∧ wc.cell? ⟨w.heap.size, 1, none⟩ = some (.int .u8 c) ∧ wc.cell? ⟨w.heap.size, 2, none⟩ = some (.int .u8 s0) ∧ wc.cell? ⟨w.heap.size, 3, none⟩ = some (.int .u8 s1) ∧ wc.cell? ⟨w.heap.size, 4, none⟩ = some (.int .u8 s2) ∧ wc.cell? ⟨w.heap.size, 5, none⟩ = some (.int .u8 s3) ∧ wc.cell? ⟨w.heap.size, 6, none⟩ = some (.int .u8 d0) ∧ wc.cell? ⟨w.heap.size, 7, none⟩ = some (.int .u8 d1) ∧ wc.cell? ⟨w.heap.size, 8, none⟩ = some (.int .u8 d2) ∧ wc.cell? ⟨w.heap.size, 9, none⟩ = some (.int .u8 d3) ∧ w.heap.size < wc.heap.size ∧ Below w.heap.size w wc)) : (wc.drew.cell? ⟨w.heap.size, 0, none⟩ = some (.int .i64 o) ∧ wc.drew.cell? ⟨w.heap.size, 1, none⟩ = some (.int .u8 c) ∧ wc.drew.cell? ⟨w.heap.size, 2, none⟩ = some (.int .u8 s0) ∧ wc.drew.cell? ⟨w.heap.size, 3, none⟩ = some (.int .u8 s1) ∧ wc.drew.cell? ⟨w.heap.size, 4, none⟩ = some (.int .u8 s2) ∧ wc.drew.cell? ⟨w.heap.size, 5, none⟩ = some (.int .u8 s3) ∧ wc.drew.cell? ⟨w.heap.size, 6, none⟩ = some (.int .u8 d0) ∧ wc.drew.cell? ⟨w.heap.size, 7, none⟩ = some (.int .u8 d1) ∧ wc.drew.cell? ⟨w.heap.size, 8, none⟩ = some (.int .u8 d2) ∧ wc.drew.cell? ⟨w.heap.size, 9, none⟩ = some (.int .u8 d3) ∧ w.heap.size < wc.drew.heap.size ∧ Below w.heap.size w wc.drew) := ⟨h.1, h.2.1, h.2.2.1, h.2.2.2.1, h.2.2.2.2.1, h.2.2.2.2.2.1, h.2.2.2.2.2.2.1, h.2.2.2.2.2.2.2.1, h.2.2.2.2.2.2.2.2.1, h.2.2.2.2.2.2.2.2.2.1, h.2.2.2.2.2.2.2.2.2.2.1, h.2.2.2.2.2.2.2.2.2.2.2.drew⟩
theorem pair_below (h : (wc.cell? ⟨w.heap.size, 0, none⟩ = some (.int .i64 o) ∧ wc.cell? ⟨w.heap.size, 1, none⟩ = some (.int .u8 c) ∧ wc.cell? ⟨w.heap.size, 2, none⟩ = some (.int .u8 s0) ∧ wc.cell? ⟨w.heap.size, 3, none⟩ = some (.int .u8 s1) ∧ wc.cell? ⟨w.heap.size, 4, none⟩ = some (.int .u8 s2) ∧ wc.cell? ⟨w.heap.size, 5, none⟩ = some (.int .u8 s3) ∧ wc.cell? ⟨w.heap.size, 6, none⟩ = some (.int .u8 d0) ∧ wc.cell? ⟨w.heap.size, 7, none⟩ = some (.int .u8 d1) ∧ wc.cell? ⟨w.heap.size, 8, none⟩ = some (.int .u8 d2) ∧ wc.cell? ⟨w.heap.size, 9, none⟩ = some (.int .u8 d3) ∧ w.heap.size < wc.heap.size ∧ Below w.heap.size w wc)) : Below w.heap.size w wc := h.2.2.2.2.2.2.2.2.2.2.2
theorem pair_keep (h : (wc.cell? ⟨w.heap.size, 0, none⟩ = some (.int .i64 o) ∧ wc.cell? ⟨w.heap.size, 1, none⟩ = some (.int .u8 c) ∧ wc.cell? ⟨w.heap.size, 2, none⟩ = some (.int .u8 s0) ∧ wc.cell? ⟨w.heap.size, 3, none⟩ = some (.int .u8 s1) ∧ wc.cell? ⟨w.heap.size, 4, none⟩ = some (.int .u8 s2) ∧ wc.cell? ⟨w.heap.size, 5, none⟩ = some (.int .u8 s3) ∧ wc.cell? ⟨w.heap.size, 6, none⟩ = some (.int .u8 d0) ∧ wc.cell? ⟨w.heap.size, 7, none⟩ = some (.int .u8 d1) ∧ wc.cell? ⟨w.heap.size, 8, none⟩ = some (.int .u8 d2) ∧ wc.cell? ⟨w.heap.size, 9, none⟩ = some (.int .u8 d3) ∧ w.heap.size < wc.heap.size ∧ Below w.heap.size w wc)) (hb : Below wc.heap.size wc w1) : (w1.cell? ⟨w.heap.size, 0, none⟩ = some (.int .i64 o) ∧ w1.cell? ⟨w.heap.size, 1, none⟩ = some (.int .u8 c) ∧ w1.cell? ⟨w.heap.size, 2, none⟩ = some (.int .u8 s0) ∧ w1.cell? ⟨w.heap.size, 3, none⟩ = some (.int .u8 s1) ∧ w1.cell? ⟨w.heap.size, 4, none⟩ = some (.int .u8 s2) ∧ w1.cell? ⟨w.heap.size, 5, none⟩ = some (.int .u8 s3) ∧ w1.cell? ⟨w.heap.size, 6, none⟩ = some (.int .u8 d0) ∧ w1.cell? ⟨w.heap.size, 7, none⟩ = some (.int .u8 d1) ∧ w1.cell? ⟨w.heap.size, 8, none⟩ = some (.int .u8 d2) ∧ w1.cell? ⟨w.heap.size, 9, none⟩ = some (.int .u8 d3) ∧ w.heap.size < w1.heap.size ∧ Below w.heap.size w w1) := by
  obtain ⟨h0, h1, h2, h3, h4, h5, h6, h7, h8, h9, hs, hB⟩ := h
  have k : ∀ i, w1.cell? ⟨w.heap.size, i, none⟩ = wc.cell? ⟨w.heap.size, i, none⟩ := fun i => hb.cell (p := ⟨w.heap.size, i, none⟩) hs
  exact ⟨(k _).trans h0, (k _).trans h1, (k _).trans h2, (k _).trans h3, (k _).trans h4, (k _).trans h5, (k _).trans h6, (k _).trans h7, (k _).trans h8, (k _).trans h9, Nat.lt_of_lt_of_le hs hb.size, hB.trans (hb.mono (Nat.le_of_lt hs))⟩
end

set_option maxHeartbeats 4000000 in
theorem wakes21_calls (w : World) (hk : Kinds w) : Calls Tryd.prog 19 #[] w fun e w' => e = .returned (.bool true) ∧ Below w.heap.size w w' := by
  have p := fun (w1 : World) (hb : Below w.heap.size w w1) => pixel_calls 3 128 255 255 255 255 0 0 0 0 (by decide) (by decide) (by decide) (by decide) (by constructor <;> decide) (by constructor <;> decide) w1 (hk.below hb)
  have e : pixA 3 128 255 255 255 255 0 0 0 0 = .agg #[.int .u8 128, .int .u8 128, .int .u8 128, .int .u8 128] := by kernel_rfl
  rw [e] at p
  have PX := Lib.hid p
  have E4 : Eq.eq4 128 128 128 128 128 128 128 128 = true := rfl
  clear p e hk
  go_enter Tryd.func19, Tryd.ntmps19
  go_wp2_with ((go_at_call 20; ((with_reducible refine (PX.out _ (by repeat' (first | (with_reducible exact Below.refl _ _) | (with_reducible refine Below.drew ?_) | (with_reducible refine below_drewN ?_ _) | ((with_reducible refine Below.setCell ?_ ?side_ _); case side_ => (first | (with_reducible exact Nat.le_refl _) | (with_reducible assumption) | omega | (simp; done) | (simp; omega))) | ((with_reducible refine Below.alloc ?_ ?side_ _); case side_ => (first | (with_reducible exact Nat.le_refl _) | (with_reducible assumption) | omega | (simp; done) | (simp; omega)))))).mono ?_); rintro e w1 ⟨rfl, hb1⟩; obtain ⟨hc1, hf1⟩ := Eq.bcell hb1; have hq1 := hb1.size; (try simp at hq1); have hz1_0 : w.heap.size < w1.heap.size := (by omega); clear hq1)))
  go_ret
  exact ⟨by simp, by have z_hb1 := hb1.size; (try simp at z_hb1); repeat' (first | (with_reducible exact Below.refl _ _) | (with_reducible refine Below.drew ?_) | (with_reducible refine below_drewN ?_ _) | ((with_reducible refine Below.setCell ?_ ?side_ _); case side_ => (first | (with_reducible exact Nat.le_refl _) | (with_reducible assumption) | omega | (simp; done) | (simp; omega))) | ((with_reducible refine Below.alloc ?_ ?side_ _); case side_ => (first | (with_reducible exact Nat.le_refl _) | (with_reducible assumption) | omega | (simp; done) | (simp; omega))) | ((with_reducible refine Below.trans ?_ (hb1.mono ?side_)); case side_ => (first | (with_reducible exact Nat.le_refl _) | (with_reducible assumption) | omega | (simp; done) | (simp; omega))))⟩

set_option maxHeartbeats 8000000 in
theorem blendpixels_calls (o c s0 s1 s2 s3 d0 d1 d2 d3 : Int) (o0 : -9223372036854775808 ≤ o) (o1 : o ≤ 9223372036854775807) (c0 : 0 ≤ c) (c1 : c ≤ 255) (S : Col s0 s1 s2 s3) (D : Col d0 d1 d2 d3) (w : World) (hk : Kinds w) :
    Calls Tryd.prog 5 #[.agg #[.int .i64 o, .int .u8 c, .int .u8 s0, .int .u8 s1, .int .u8 s2, .int .u8 s3, .int .u8 d0, .int .u8 d1, .int .u8 d2, .int .u8 d3]] w fun e w' => e = .returned (.bool true) ∧ Below w.heap.size w w' := by
  have WK := Lib.hid (fun (w1 : World) (hb : Below w.heap.size w w1) => wakes21_calls w1 (hk.below hb))
  have px := fun (w1 : World) (hb : Below w.heap.size w w1) => pixel_calls o c s0 s1 s2 s3 d0 d1 d2 d3 o0 o1 c0 c1 S D w1 (hk.below hb)
  have rx := fun (w1 : World) => refpixel_calls o c s0 s1 s2 s3 d0 d1 d2 d3 o0 o1 c0 c1 S D w1
  have RI := Lib.hid (fun w => right21_calls s0 s1 s2 s3 w)
  have RR := Lib.hid (fun w => refright_calls s0 s1 s2 s3 w)
  unfold pixA at px rx
  generalize pixV (okV o s0 s1 s2 s3 d0 d1 d2 d3) o c s0 d0 s3 d3 = p0 at *
  generalize pixV (okV o s0 s1 s2 s3 d0 d1 d2 d3) o c s1 d1 s3 d3 = p1 at *
  generalize pixV (okV o s0 s1 s2 s3 d0 d1 d2 d3) o c s2 d2 s3 d3 = p2 at *
  generalize pixV (okV o s0 s1 s2 s3 d0 d1 d2 d3) o c s3 d3 s3 d3 = p3 at *
  generalize rightB s0 s1 s2 s3 = rs at *
  have E4 := Eq.eq4_self p0 p1 p2 p3
  have PX := Lib.hid px
  have RX := Lib.hid rx
  clear px rx hk S D c0 c1
  go_enter Tryd.func5, Tryd.ntmps5
  go_wp2_with ((go_at_call 19; ((with_reducible refine (WK.out _ (by repeat' (first | (with_reducible exact Below.refl _ _) | (with_reducible refine Below.drew ?_) | (with_reducible refine below_drewN ?_ _) | ((with_reducible refine Below.setCell ?_ ?side_ _); case side_ => (first | (with_reducible exact Nat.le_refl _) | (with_reducible assumption) | omega | (simp; done) | (simp; omega))) | ((with_reducible refine Below.alloc ?_ ?side_ _); case side_ => (first | (with_reducible exact Nat.le_refl _) | (with_reducible assumption) | omega | (simp; done) | (simp; omega)))))).mono ?_); rintro e w1 ⟨rfl, hb1⟩)))
  have P1 := pair_keep (pair_alloc _) hb1
  clear hb1
  go_region_held3 (fun w' => (w'.cell? ⟨w.heap.size, 0, none⟩ = some (.int .i64 o) ∧ w'.cell? ⟨w.heap.size, 1, none⟩ = some (.int .u8 c) ∧ w'.cell? ⟨w.heap.size, 2, none⟩ = some (.int .u8 s0) ∧ w'.cell? ⟨w.heap.size, 3, none⟩ = some (.int .u8 s1) ∧ w'.cell? ⟨w.heap.size, 4, none⟩ = some (.int .u8 s2) ∧ w'.cell? ⟨w.heap.size, 5, none⟩ = some (.int .u8 s3) ∧ w'.cell? ⟨w.heap.size, 6, none⟩ = some (.int .u8 d0) ∧ w'.cell? ⟨w.heap.size, 7, none⟩ = some (.int .u8 d1) ∧ w'.cell? ⟨w.heap.size, 8, none⟩ = some (.int .u8 d2) ∧ w'.cell? ⟨w.heap.size, 9, none⟩ = some (.int .u8 d3) ∧ w.heap.size < w'.heap.size ∧ Below w.heap.size w w')) (first | exact pair_drew P1 | exact pair_keep (by assumption) (by assumption))
    (first
      | (go_at_call 20; ((with_reducible refine (PX.out _ ?hk).mono ?_); (case hk => exact pair_below (by assumption)); rintro e w2 ⟨rfl, hb2⟩))
      | (go_at_call 21; ((with_reducible refine (RX.out _).mono ?_); rintro e w3 ⟨rfl, hb3⟩))
      | (go_at_call 22; ((with_reducible refine (RI.out _).mono ?_); rintro e w4 ⟨rfl, hb4⟩))
      | (go_at_call 23; ((with_reducible refine (RR.out _).mono ?_); rintro e w5 ⟨rfl, hb5⟩)))
  rename_i hH
  have hB := pair_below hH
  clear hH
  go_wp2
  go_ret
  exact ⟨rfl, hB⟩
end Go.Proofs.YtpmfcedhmfgkiaaDoor.Ops
