/- Package curve's Elevate, walked. -/
import Derived.Test.YtdhegcjclfllmaaPCx0
import Derived.Test.YtdhegcjclfllmaaCurS
import Derived.Test.YtdhegcjclfllmaaCurB
import Derived.Test.YtdhegcjclfllmaaCurR
import Derived.Test.YtdhegcjclfllmaaProg
import Derived.Deep.RegionHeld3
import Derived.Deep.DrawnRows
import Derived.WalkKit
import Derived.OwnWalk
import Derived.Handy
import Derived.KernelRfl
import Derived.Below
import Derived.WideLaws
import Derived.Lib.Hide
namespace Go.Proofs.Ytdhegcjclfllmaa.PC
open Go Go.RowKit
set_option maxRecDepth 100000
set_option linter.unusedVariables false
set_option linter.unusedSimpArgs false
attribute [local go_sem ↓] Go.wp_at_zero Go.wp_at_succ
attribute [local go_sem ↓] st8_curve st8_points
attribute [local go_sem] run_curve run_points
attribute [local go_sem] put8_size put8_far put8_row put8_frozen row8_drew row8_at row8_old row8_set put8_c0 put8_c1 put8_c2 put8_c3 put8_c4 put8_c5 put8_c6 put8_c7
local instance decE (a : Int) : Decidable (R40 a) := by unfold R40; infer_instance
def thirdV (a b : Int) : Int := (2 * (a + 2 * b) + 3) / 6
def curve_Elevate.f (a b c d e f : Int) : Option (Int × Int × Int × Int × Int × Int × Int × Int) := if R40 a ∧ R40 b ∧ R40 c ∧ R40 d ∧ R40 e ∧ R40 f then some (a, b, thirdV a c, thirdV b d, thirdV e c, thirdV f d, e, f) else none
theorem se_keep {w W w1 : World} {a b c d e f : Int} (h : W.cell? ⟨w.heap.size, 0, none⟩ = some (.int .i64 a) ∧ W.cell? ⟨w.heap.size, 1, none⟩ = some (.int .i64 b) ∧ W.cell? ⟨(w.heap.size + 1), 0, none⟩ = some (.int .i64 c) ∧ W.cell? ⟨(w.heap.size + 1), 1, none⟩ = some (.int .i64 d) ∧ W.cell? ⟨(w.heap.size + 1 + 1), 0, none⟩ = some (.int .i64 e) ∧ W.cell? ⟨(w.heap.size + 1 + 1), 1, none⟩ = some (.int .i64 f) ∧ row8 W (w.heap.size + 1 + 1 + 1) = true ∧ w.heap.size + 1 + 1 + 1 < W.heap.size ∧ Below w.heap.size w W) (hb : Below W.heap.size W w1) : w1.cell? ⟨w.heap.size, 0, none⟩ = some (.int .i64 a) ∧ w1.cell? ⟨w.heap.size, 1, none⟩ = some (.int .i64 b) ∧ w1.cell? ⟨(w.heap.size + 1), 0, none⟩ = some (.int .i64 c) ∧ w1.cell? ⟨(w.heap.size + 1), 1, none⟩ = some (.int .i64 d) ∧ w1.cell? ⟨(w.heap.size + 1 + 1), 0, none⟩ = some (.int .i64 e) ∧ w1.cell? ⟨(w.heap.size + 1 + 1), 1, none⟩ = some (.int .i64 f) ∧ row8 w1 (w.heap.size + 1 + 1 + 1) = true ∧ w.heap.size + 1 + 1 + 1 < w1.heap.size ∧ Below w.heap.size w w1 := by
  obtain ⟨hc, hf⟩ := bcell hb
  have hs := h.2.2.2.2.2.2.2.1
  exact ⟨(hc w.heap.size 0 (by omega)).trans h.1, (hc w.heap.size 1 (by omega)).trans h.2.1, (hc (w.heap.size + 1) 0 (by omega)).trans h.2.2.1, (hc (w.heap.size + 1) 1 (by omega)).trans h.2.2.2.1, (hc (w.heap.size + 1 + 1) 0 (by omega)).trans h.2.2.2.2.1, (hc (w.heap.size + 1 + 1) 1 (by omega)).trans h.2.2.2.2.2.1, (row8_below hb hs).trans h.2.2.2.2.2.2.1, Nat.lt_of_lt_of_le hs hb.size, h.2.2.2.2.2.2.2.2.trans (hb.mono (by omega))⟩
theorem se_alloc {w W : World} {a b c d e f : Int} (h : W.cell? ⟨w.heap.size, 0, none⟩ = some (.int .i64 a) ∧ W.cell? ⟨w.heap.size, 1, none⟩ = some (.int .i64 b) ∧ W.cell? ⟨(w.heap.size + 1), 0, none⟩ = some (.int .i64 c) ∧ W.cell? ⟨(w.heap.size + 1), 1, none⟩ = some (.int .i64 d) ∧ W.cell? ⟨(w.heap.size + 1 + 1), 0, none⟩ = some (.int .i64 e) ∧ W.cell? ⟨(w.heap.size + 1 + 1), 1, none⟩ = some (.int .i64 f) ∧ row8 W (w.heap.size + 1 + 1 + 1) = true ∧ w.heap.size + 1 + 1 + 1 < W.heap.size ∧ Below w.heap.size w W) (o : Obj) : (W.alloc o).cell? ⟨w.heap.size, 0, none⟩ = some (.int .i64 a) ∧ (W.alloc o).cell? ⟨w.heap.size, 1, none⟩ = some (.int .i64 b) ∧ (W.alloc o).cell? ⟨(w.heap.size + 1), 0, none⟩ = some (.int .i64 c) ∧ (W.alloc o).cell? ⟨(w.heap.size + 1), 1, none⟩ = some (.int .i64 d) ∧ (W.alloc o).cell? ⟨(w.heap.size + 1 + 1), 0, none⟩ = some (.int .i64 e) ∧ (W.alloc o).cell? ⟨(w.heap.size + 1 + 1), 1, none⟩ = some (.int .i64 f) ∧ row8 (W.alloc o) (w.heap.size + 1 + 1 + 1) = true ∧ w.heap.size + 1 + 1 + 1 < (W.alloc o).heap.size ∧ Below w.heap.size w (W.alloc o) := se_keep h ((Below.refl _ _).alloc (Nat.le_refl _) o)
theorem se_put {w W : World} {a b c d e f : Int} (h : W.cell? ⟨w.heap.size, 0, none⟩ = some (.int .i64 a) ∧ W.cell? ⟨w.heap.size, 1, none⟩ = some (.int .i64 b) ∧ W.cell? ⟨(w.heap.size + 1), 0, none⟩ = some (.int .i64 c) ∧ W.cell? ⟨(w.heap.size + 1), 1, none⟩ = some (.int .i64 d) ∧ W.cell? ⟨(w.heap.size + 1 + 1), 0, none⟩ = some (.int .i64 e) ∧ W.cell? ⟨(w.heap.size + 1 + 1), 1, none⟩ = some (.int .i64 f) ∧ row8 W (w.heap.size + 1 + 1 + 1) = true ∧ w.heap.size + 1 + 1 + 1 < W.heap.size ∧ Below w.heap.size w W) (x0 x1 x2 x3 x4 x5 x6 x7 : Int) : (put8 W (w.heap.size + 1 + 1 + 1) x0 x1 x2 x3 x4 x5 x6 x7).cell? ⟨w.heap.size, 0, none⟩ = some (.int .i64 a) ∧ (put8 W (w.heap.size + 1 + 1 + 1) x0 x1 x2 x3 x4 x5 x6 x7).cell? ⟨w.heap.size, 1, none⟩ = some (.int .i64 b) ∧ (put8 W (w.heap.size + 1 + 1 + 1) x0 x1 x2 x3 x4 x5 x6 x7).cell? ⟨(w.heap.size + 1), 0, none⟩ = some (.int .i64 c) ∧ (put8 W (w.heap.size + 1 + 1 + 1) x0 x1 x2 x3 x4 x5 x6 x7).cell? ⟨(w.heap.size + 1), 1, none⟩ = some (.int .i64 d) ∧ (put8 W (w.heap.size + 1 + 1 + 1) x0 x1 x2 x3 x4 x5 x6 x7).cell? ⟨(w.heap.size + 1 + 1), 0, none⟩ = some (.int .i64 e) ∧ (put8 W (w.heap.size + 1 + 1 + 1) x0 x1 x2 x3 x4 x5 x6 x7).cell? ⟨(w.heap.size + 1 + 1), 1, none⟩ = some (.int .i64 f) ∧ row8 (put8 W (w.heap.size + 1 + 1 + 1) x0 x1 x2 x3 x4 x5 x6 x7) (w.heap.size + 1 + 1 + 1) = true ∧ w.heap.size + 1 + 1 + 1 < (put8 W (w.heap.size + 1 + 1 + 1) x0 x1 x2 x3 x4 x5 x6 x7).heap.size ∧ Below w.heap.size w (put8 W (w.heap.size + 1 + 1 + 1) x0 x1 x2 x3 x4 x5 x6 x7) := ⟨(put8_far (by omega)).trans h.1, (put8_far (by omega)).trans h.2.1, (put8_far (by omega)).trans h.2.2.1, (put8_far (by omega)).trans h.2.2.2.1, (put8_far (by omega)).trans h.2.2.2.2.1, (put8_far (by omega)).trans h.2.2.2.2.2.1, put8_row.trans h.2.2.2.2.2.2.1, (by rw [put8_size]; exact h.2.2.2.2.2.2.2.1), put8_below h.2.2.2.2.2.2.2.2 (by omega)⟩
theorem se_bel {w W : World} {a b c d e f : Int} (h : W.cell? ⟨w.heap.size, 0, none⟩ = some (.int .i64 a) ∧ W.cell? ⟨w.heap.size, 1, none⟩ = some (.int .i64 b) ∧ W.cell? ⟨(w.heap.size + 1), 0, none⟩ = some (.int .i64 c) ∧ W.cell? ⟨(w.heap.size + 1), 1, none⟩ = some (.int .i64 d) ∧ W.cell? ⟨(w.heap.size + 1 + 1), 0, none⟩ = some (.int .i64 e) ∧ W.cell? ⟨(w.heap.size + 1 + 1), 1, none⟩ = some (.int .i64 f) ∧ row8 W (w.heap.size + 1 + 1 + 1) = true ∧ w.heap.size + 1 + 1 + 1 < W.heap.size ∧ Below w.heap.size w W) : Below w.heap.size w W := h.2.2.2.2.2.2.2.2
set_option maxHeartbeats 8000000 in
theorem curve_Elevate.calls (a b c d e f r1 r2 r3 r4 r5 r6 r7 r8 : Int) (w : World) (h : curve_Elevate.f a b c d e f = some (r1, r2, r3, r4, r5, r6, r7, r8)) :
    Calls Try.prog 15 #[.agg #[.int .i64 a, .int .i64 b], .agg #[.int .i64 c, .int .i64 d], .agg #[.int .i64 e, .int .i64 f]] w fun e' w' => e' = .returned (.agg #[.int .i64 r1, .int .i64 r2, .int .i64 r3, .int .i64 r4, .int .i64 r5, .int .i64 r6, .int .i64 r7, .int .i64 r8]) ∧ Below w.heap.size w w' := by
  unfold curve_Elevate.f at h
  split at h
  case isFalse => cases h
  rename_i hr
  obtain ⟨ha, hb, hc, hd, he, hf⟩ := hr
  simp only [Option.some.injEq, Prod.mk.injEq] at h
  obtain ⟨rfl, rfl, rfl, rfl, rfl, rfl, rfl, rfl⟩ := h
  have B1 := Lib.hid (fun g w hg h0 h1 h2 h3 => boththird_calls g 0 2 a b c d ⟨ha, hb, hc, hd⟩ w hg (by decide) h0 h1 h2 h3)
  have B2 := Lib.hid (fun g w hg h0 h1 h2 h3 => boththird_calls g 0 2 e f c d ⟨he, hf, hc, hd⟩ w hg (by decide) h0 h1 h2 h3)
  unfold thirdV
  generalize (2 * (a + 2 * c) + 3) / 6 = v3 at *
  generalize (2 * (b + 2 * d) + 3) / 6 = v4 at *
  generalize (2 * (e + 2 * c) + 3) / 6 = v5 at *
  generalize (2 * (f + 2 * d) + 3) / 6 = v6 at *
  clear ha hb hc hd he hf
  go_enter Try.func15, Try.ntmps15
  go_wp2
  go_region_held3 (fun w' => w'.cell? ⟨w.heap.size, 0, none⟩ = some (.int .i64 a) ∧ w'.cell? ⟨w.heap.size, 1, none⟩ = some (.int .i64 b) ∧ w'.cell? ⟨(w.heap.size + 1), 0, none⟩ = some (.int .i64 c) ∧ w'.cell? ⟨(w.heap.size + 1), 1, none⟩ = some (.int .i64 d) ∧ w'.cell? ⟨(w.heap.size + 1 + 1), 0, none⟩ = some (.int .i64 e) ∧ w'.cell? ⟨(w.heap.size + 1 + 1), 1, none⟩ = some (.int .i64 f) ∧ row8 w' (w.heap.size + 1 + 1 + 1) = true ∧ w.heap.size + 1 + 1 + 1 < w'.heap.size ∧ Below w.heap.size w w') (first | (with_reducible exact se_keep (by assumption) hb2) | (with_reducible exact se_keep (by assumption) hb1) | (with_reducible exact se_alloc (by assumption) _) | (with_reducible exact se_put (by assumption) _ _ _ _ _ _ _ _) | (refine ⟨by simp [go_sem], by simp [go_sem], by simp [go_sem], by simp [go_sem], by simp [go_sem], by simp [go_sem], by simp [go_sem], by simp, by (repeat' (first | (with_reducible exact Below.refl _ _) | (with_reducible refine Below.drew ?_) | (with_reducible refine below_drewN ?_ _) | ((with_reducible refine Below.setCell ?_ ?side_ _); case side_ => (first | (with_reducible exact Nat.le_refl _) | (with_reducible assumption) | omega | (simp; done) | (simp; omega))) | ((with_reducible refine Below.alloc ?_ ?side_ _); case side_ => (first | (with_reducible exact Nat.le_refl _) | (with_reducible assumption) | omega | (simp; done) | (simp; omega)))))⟩))
    (first
    | (go_at_call 46; (fail_if_success (have := w1)); ((with_reducible refine (B1.out _ _ (by simp) (by simp [go_sem]) (by simp [go_sem]) (by simp [go_sem]) (by simp [go_sem])).mono ?_); rintro e' w1 ⟨rfl, hb1⟩; obtain ⟨hc1, hf1⟩ := bcell hb1; clear hf1; have hs1 := hb1.size; (try simp only [World.size_alloc, World.size_drew, World.size_setCell] at hs1); (try have l140 : w.heap.size + 1 + 1 + 1 + 1 < w1.heap.size := (by omega)); (try have l141 : w.heap.size + 1 + 1 + 1 + 1 < w1.heap.size + 1 := (by omega)); (try have l150 : w.heap.size + 1 + 1 + 1 + 1 + 1 < w1.heap.size := (by omega)); (try have l151 : w.heap.size + 1 + 1 + 1 + 1 + 1 < w1.heap.size + 1 := (by omega))))
    | (go_at_call 46; ((with_reducible refine (B2.out _ _ (by first | (simp; done) | omega) (by simp [go_sem, *]) (by simp [go_sem, *]) (by simp [go_sem, *]) (by simp [go_sem, *])).mono ?_); rintro e' w2 ⟨rfl, hb2⟩; have hr2 := (se_keep (by assumption) hb2).2.2.2.2.2.2.1; clear hc1)))
  all_goals
    rename_i hH
    have hB := se_bel hH
    clear hH
    go_wp2
    refine bodyPost_ret (v := .agg #[.int .i64 a, .int .i64 b, .int .i64 v3, .int .i64 v4, .int .i64 v5, .int .i64 v6, .int .i64 e, .int .i64 f]) (by simp [results, Try.results15, go_sem, hr2]) rfl ⟨rfl, hB⟩
end Go.Proofs.Ytdhegcjclfllmaa.PC
