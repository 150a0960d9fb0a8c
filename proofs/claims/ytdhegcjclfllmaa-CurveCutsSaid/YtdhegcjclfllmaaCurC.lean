/- Package curve's middle and Cut, walked. -/
import Derived.Test.YtdhegcjclfllmaaPCx0
import Derived.Test.YtdhegcjclfllmaaCurQ
import Derived.Test.YtdhegcjclfllmaaCurT
import Derived.Test.YtdhegcjclfllmaaCurR
import Derived.Test.YtdhegcjclfllmaaProg
import Derived.Deep.RegionHeld3
import Derived.Deep.RegionWith
import Derived.Deep.DrawnRows
import Derived.WalkKit
import Derived.OwnWalk
import Derived.Handy
import Derived.KernelRfl
import Derived.Below
import Derived.WideLaws
import Derived.Lib.Hide
namespace Go.Proofs.Ytdhegcjclfllmaa.PC
open Go Go.RowKit
set_option maxRecDepth 100000
set_option linter.unusedVariables false
set_option linter.unusedSimpArgs false
attribute [local go_sem ↓] Go.wp_at_zero Go.wp_at_succ
attribute [local go_sem ↓] st8_curve st8_points
attribute [local go_sem] run_curve run_points
attribute [local go_sem] put8_size put8_far put8_row put8_frozen row8_drew row8_at row8_old row8_set row8_frozen put8_c0 put8_c1 put8_c2 put8_c3 put8_c4 put8_c5 put8_c6 put8_c7
local instance decC (a : Int) : Decidable (R40 a) := by unfold R40; infer_instance
def mid (a b : Int) : Int := (a + b + 1) / 2
theorem mid_r40 {a b : Int} (ha : R40 a) (hb : R40 b) : R40 (mid a b) := by unfold R40 mid at *; omega
theorem middle_calls (a b d e : Int) (ha : R40 a) (hb : R40 b) (hd : R40 d) (he : R40 e) (w : World) :
    Calls Try.prog 50 #[.agg #[.int .i64 a, .int .i64 b], .agg #[.int .i64 d, .int .i64 e]] w fun e' w' => e' = .returned (.agg #[.int .i64 (mid a d), .int .i64 (mid b e)]) ∧ Below w.heap.size w w' := by
  have hr := And.intro ha (And.intro hb (And.intro hd he))
  unfold mid
  clear ha hb hd he
  go_enter Try.func50, Try.ntmps50
  go_wp2_with (go_at_call 46; ((with_reducible refine (bothmid1_calls _ 0 2 a b d e ⟨hr.1, hr.2.1, hr.2.2.1, hr.2.2.2⟩ _ (by simp) (by decide) (by simp [go_sem]) (by simp [go_sem]) (by simp [go_sem]) (by simp [go_sem])).mono ?_); rintro e' w1 ⟨rfl, hb1⟩; obtain ⟨hc1, hf1⟩ := bcell hb1; have k0 := (hc1 (w.heap.size + 1 + 1) 0 (by simp)).trans (show _ = some (Value.int .i64 0) by simp [go_sem]); have k1 := (hc1 (w.heap.size + 1 + 1) 1 (by simp)).trans (show _ = some (Value.int .i64 0) by simp [go_sem]); have f0 := (hf1 (w.heap.size + 1 + 1) 0 (by simp)).trans (show _ = false by simp [go_sem]); have f1 := (hf1 (w.heap.size + 1 + 1) 1 (by simp)).trans (show _ = false by simp [go_sem]); clear hc1 hf1))
  refine bodyPost_ret (v := .agg #[.int .i64 ((a + d + 1) / 2), .int .i64 ((b + e + 1) / 2)]) (by simp [results, Try.results50, go_sem, k0, k1]) rfl ⟨rfl, ?_⟩
  have z_hb1 := hb1.size; (try simp at z_hb1); (repeat' (first | (with_reducible exact Below.refl _ _) | (with_reducible refine Below.drew ?_) | (with_reducible refine below_drewN ?_ _) | ((with_reducible refine Below.setCell ?_ ?side_ _); case side_ => (first | (with_reducible exact Nat.le_refl _) | (with_reducible assumption) | omega | (simp; done) | (simp; omega))) | ((with_reducible refine Below.alloc ?_ ?side_ _); case side_ => (first | (with_reducible exact Nat.le_refl _) | (with_reducible assumption) | omega | (simp; done) | (simp; omega))) | ((with_reducible refine Below.trans ?_ (hb1.mono ?side_)); case side_ => (first | (with_reducible exact Nat.le_refl _) | (with_reducible assumption) | omega | (simp; done) | (simp; omega)))))
attribute [local go_sem] run_ix0 run_ix1 run_ix2 run_ix3
theorem curve_calls (a b c d e f g h : Int) (w : World) :
    Calls Try.prog 51 #[.agg #[.int .i64 a, .int .i64 b, .int .i64 c, .int .i64 d, .int .i64 e, .int .i64 f, .int .i64 g, .int .i64 h]] w fun r w' => r = .returned (.agg #[.int .i64 a, .int .i64 b, .int .i64 c, .int .i64 d, .int .i64 e, .int .i64 f, .int .i64 g, .int .i64 h]) ∧ Below w.heap.size w w' := by
  go_enter Try.func51, Try.ntmps51
  go_wp2
  refine bodyPost_ret (v := .agg #[.int .i64 a, .int .i64 b, .int .i64 c, .int .i64 d, .int .i64 e, .int .i64 f, .int .i64 g, .int .i64 h]) (by simp [results, Try.results51, go_sem]) rfl ⟨rfl, ?_⟩
  refine put8_below ?_ (by omega)
  (repeat' (first | (with_reducible exact Below.refl _ _) | (with_reducible refine Below.drew ?_) | (with_reducible refine below_drewN ?_ _) | ((with_reducible refine Below.setCell ?_ ?side_ _); case side_ => (first | (with_reducible exact Nat.le_refl _) | (with_reducible assumption) | omega | (simp; done) | (simp; omega))) | ((with_reducible refine Below.alloc ?_ ?side_ _); case side_ => (first | (with_reducible exact Nat.le_refl _) | (with_reducible assumption) | omega | (simp; done) | (simp; omega)))))
def curve_Cut.f (a b c d e f g h : Int) : Option (Int × Int × Int × Int × Int × Int × Int × Int × Int × Int × Int × Int × Int × Int × Int × Int) := if R40 a ∧ R40 b ∧ R40 c ∧ R40 d ∧ R40 e ∧ R40 f ∧ R40 g ∧ R40 h then some (a, b, (mid a c), (mid b d), (mid (mid a c) (mid c e)), (mid (mid b d) (mid d f)), (mid (mid (mid a c) (mid c e)) (mid (mid c e) (mid e g))), (mid (mid (mid b d) (mid d f)) (mid (mid d f) (mid f h))), (mid (mid (mid a c) (mid c e)) (mid (mid c e) (mid e g))), (mid (mid (mid b d) (mid d f)) (mid (mid d f) (mid f h))), (mid (mid c e) (mid e g)), (mid (mid d f) (mid f h)), (mid e g), (mid f h), g, h) else none
theorem sc_keep {w W w1 : World} {a b c d e f g h : Int} (hh : W.cell? ⟨w.heap.size, 0, none⟩ = some (.int .i64 a) ∧ W.cell? ⟨w.heap.size, 1, none⟩ = some (.int .i64 b) ∧ W.cell? ⟨w.heap.size, 2, none⟩ = some (.int .i64 c) ∧ W.cell? ⟨w.heap.size, 3, none⟩ = some (.int .i64 d) ∧ W.cell? ⟨w.heap.size, 4, none⟩ = some (.int .i64 e) ∧ W.cell? ⟨w.heap.size, 5, none⟩ = some (.int .i64 f) ∧ W.cell? ⟨w.heap.size, 6, none⟩ = some (.int .i64 g) ∧ W.cell? ⟨w.heap.size, 7, none⟩ = some (.int .i64 h) ∧ row8 W (w.heap.size + 1) = true ∧ row8 W (w.heap.size + 1 + 1) = true ∧ w.heap.size + 1 + 1 < W.heap.size ∧ Below w.heap.size w W) (hb' : Below W.heap.size W w1) : w1.cell? ⟨w.heap.size, 0, none⟩ = some (.int .i64 a) ∧ w1.cell? ⟨w.heap.size, 1, none⟩ = some (.int .i64 b) ∧ w1.cell? ⟨w.heap.size, 2, none⟩ = some (.int .i64 c) ∧ w1.cell? ⟨w.heap.size, 3, none⟩ = some (.int .i64 d) ∧ w1.cell? ⟨w.heap.size, 4, none⟩ = some (.int .i64 e) ∧ w1.cell? ⟨w.heap.size, 5, none⟩ = some (.int .i64 f) ∧ w1.cell? ⟨w.heap.size, 6, none⟩ = some (.int .i64 g) ∧ w1.cell? ⟨w.heap.size, 7, none⟩ = some (.int .i64 h) ∧ row8 w1 (w.heap.size + 1) = true ∧ row8 w1 (w.heap.size + 1 + 1) = true ∧ w.heap.size + 1 + 1 < w1.heap.size ∧ Below w.heap.size w w1 := by
  obtain ⟨hc', hf'⟩ := bcell hb'
  have hs := hh.2.2.2.2.2.2.2.2.2.2.1
  exact ⟨(hc' w.heap.size 0 (by omega)).trans hh.1, (hc' w.heap.size 1 (by omega)).trans hh.2.1, (hc' w.heap.size 2 (by omega)).trans hh.2.2.1, (hc' w.heap.size 3 (by omega)).trans hh.2.2.2.1, (hc' w.heap.size 4 (by omega)).trans hh.2.2.2.2.1, (hc' w.heap.size 5 (by omega)).trans hh.2.2.2.2.2.1, (hc' w.heap.size 6 (by omega)).trans hh.2.2.2.2.2.2.1, (hc' w.heap.size 7 (by omega)).trans hh.2.2.2.2.2.2.2.1, (row8_below hb' (by omega)).trans hh.2.2.2.2.2.2.2.2.1, (row8_below hb' (by omega)).trans hh.2.2.2.2.2.2.2.2.2.1, Nat.lt_of_lt_of_le hs hb'.size, hh.2.2.2.2.2.2.2.2.2.2.2.trans (hb'.mono (by omega))⟩
theorem sc_alloc {w W : World} {a b c d e f g h : Int} (hh : W.cell? ⟨w.heap.size, 0, none⟩ = some (.int .i64 a) ∧ W.cell? ⟨w.heap.size, 1, none⟩ = some (.int .i64 b) ∧ W.cell? ⟨w.heap.size, 2, none⟩ = some (.int .i64 c) ∧ W.cell? ⟨w.heap.size, 3, none⟩ = some (.int .i64 d) ∧ W.cell? ⟨w.heap.size, 4, none⟩ = some (.int .i64 e) ∧ W.cell? ⟨w.heap.size, 5, none⟩ = some (.int .i64 f) ∧ W.cell? ⟨w.heap.size, 6, none⟩ = some (.int .i64 g) ∧ W.cell? ⟨w.heap.size, 7, none⟩ = some (.int .i64 h) ∧ row8 W (w.heap.size + 1) = true ∧ row8 W (w.heap.size + 1 + 1) = true ∧ w.heap.size + 1 + 1 < W.heap.size ∧ Below w.heap.size w W) (o : Obj) : (W.alloc o).cell? ⟨w.heap.size, 0, none⟩ = some (.int .i64 a) ∧ (W.alloc o).cell? ⟨w.heap.size, 1, none⟩ = some (.int .i64 b) ∧ (W.alloc o).cell? ⟨w.heap.size, 2, none⟩ = some (.int .i64 c) ∧ (W.alloc o).cell? ⟨w.heap.size, 3, none⟩ = some (.int .i64 d) ∧ (W.alloc o).cell? ⟨w.heap.size, 4, none⟩ = some (.int .i64 e) ∧ (W.alloc o).cell? ⟨w.heap.size, 5, none⟩ = some (.int .i64 f) ∧ (W.alloc o).cell? ⟨w.heap.size, 6, none⟩ = some (.int .i64 g) ∧ (W.alloc o).cell? ⟨w.heap.size, 7, none⟩ = some (.int .i64 h) ∧ row8 (W.alloc o) (w.heap.size + 1) = true ∧ row8 (W.alloc o) (w.heap.size + 1 + 1) = true ∧ w.heap.size + 1 + 1 < (W.alloc o).heap.size ∧ Below w.heap.size w (W.alloc o) := sc_keep hh ((Below.refl _ _).alloc (Nat.le_refl _) o)
theorem sc_put {w W : World} {a b c d e f g h : Int} (hh : W.cell? ⟨w.heap.size, 0, none⟩ = some (.int .i64 a) ∧ W.cell? ⟨w.heap.size, 1, none⟩ = some (.int .i64 b) ∧ W.cell? ⟨w.heap.size, 2, none⟩ = some (.int .i64 c) ∧ W.cell? ⟨w.heap.size, 3, none⟩ = some (.int .i64 d) ∧ W.cell? ⟨w.heap.size, 4, none⟩ = some (.int .i64 e) ∧ W.cell? ⟨w.heap.size, 5, none⟩ = some (.int .i64 f) ∧ W.cell? ⟨w.heap.size, 6, none⟩ = some (.int .i64 g) ∧ W.cell? ⟨w.heap.size, 7, none⟩ = some (.int .i64 h) ∧ row8 W (w.heap.size + 1) = true ∧ row8 W (w.heap.size + 1 + 1) = true ∧ w.heap.size + 1 + 1 < W.heap.size ∧ Below w.heap.size w W) {n : Nat} (hr : row8 W n = true) (hn : w.heap.size + 1 + 1 < n) (x0 x1 x2 x3 x4 x5 x6 x7 : Int) : (put8 W n x0 x1 x2 x3 x4 x5 x6 x7).cell? ⟨w.heap.size, 0, none⟩ = some (.int .i64 a) ∧ (put8 W n x0 x1 x2 x3 x4 x5 x6 x7).cell? ⟨w.heap.size, 1, none⟩ = some (.int .i64 b) ∧ (put8 W n x0 x1 x2 x3 x4 x5 x6 x7).cell? ⟨w.heap.size, 2, none⟩ = some (.int .i64 c) ∧ (put8 W n x0 x1 x2 x3 x4 x5 x6 x7).cell? ⟨w.heap.size, 3, none⟩ = some (.int .i64 d) ∧ (put8 W n x0 x1 x2 x3 x4 x5 x6 x7).cell? ⟨w.heap.size, 4, none⟩ = some (.int .i64 e) ∧ (put8 W n x0 x1 x2 x3 x4 x5 x6 x7).cell? ⟨w.heap.size, 5, none⟩ = some (.int .i64 f) ∧ (put8 W n x0 x1 x2 x3 x4 x5 x6 x7).cell? ⟨w.heap.size, 6, none⟩ = some (.int .i64 g) ∧ (put8 W n x0 x1 x2 x3 x4 x5 x6 x7).cell? ⟨w.heap.size, 7, none⟩ = some (.int .i64 h) ∧ row8 (put8 W n x0 x1 x2 x3 x4 x5 x6 x7) (w.heap.size + 1) = true ∧ row8 (put8 W n x0 x1 x2 x3 x4 x5 x6 x7) (w.heap.size + 1 + 1) = true ∧ w.heap.size + 1 + 1 < (put8 W n x0 x1 x2 x3 x4 x5 x6 x7).heap.size ∧ Below w.heap.size w (put8 W n x0 x1 x2 x3 x4 x5 x6 x7) := ⟨(put8_far (by omega)).trans hh.1, (put8_far (by omega)).trans hh.2.1, (put8_far (by omega)).trans hh.2.2.1, (put8_far (by omega)).trans hh.2.2.2.1, (put8_far (by omega)).trans hh.2.2.2.2.1, (put8_far (by omega)).trans hh.2.2.2.2.2.1, (put8_far (by omega)).trans hh.2.2.2.2.2.2.1, (put8_far (by omega)).trans hh.2.2.2.2.2.2.2.1, put8_row.trans hh.2.2.2.2.2.2.2.2.1, put8_row.trans hh.2.2.2.2.2.2.2.2.2.1, (by rw [put8_size]; exact hh.2.2.2.2.2.2.2.2.2.2.1), put8_below hh.2.2.2.2.2.2.2.2.2.2.2 (by omega)⟩
set_option maxHeartbeats 16000000 in
theorem curve_Cut.calls (a b c d e f g h r1 r2 r3 r4 r5 r6 r7 r8 r9 r10 r11 r12 r13 r14 r15 r16 : Int) (w : World) (hf : curve_Cut.f a b c d e f g h = some (r1, r2, r3, r4, r5, r6, r7, r8, r9, r10, r11, r12, r13, r14, r15, r16)) :
    Calls Try.prog 19 #[.agg #[.int .i64 a, .int .i64 b, .int .i64 c, .int .i64 d, .int .i64 e, .int .i64 f, .int .i64 g, .int .i64 h]] w fun e' w' => e' = .returned (.tuple #[.agg #[.int .i64 r1, .int .i64 r2, .int .i64 r3, .int .i64 r4, .int .i64 r5, .int .i64 r6, .int .i64 r7, .int .i64 r8], .agg #[.int .i64 r9, .int .i64 r10, .int .i64 r11, .int .i64 r12, .int .i64 r13, .int .i64 r14, .int .i64 r15, .int .i64 r16]]) ∧ Below w.heap.size w w' := by
  unfold curve_Cut.f at hf
  split at hf
  case isFalse => cases hf
  rename_i hr
  obtain ⟨ha, hb, hc, hd, he, hf', hg, hh⟩ := hr
  simp only [Option.some.injEq, Prod.mk.injEq] at hf
  obtain ⟨rfl, rfl, rfl, rfl, rfl, rfl, rfl, rfl, rfl, rfl, rfl, rfl, rfl, rfl, rfl, rfl⟩ := hf
  have Hm0 := mid_r40 ha hc
  have Hm1 := mid_r40 hb hd
  have Hm2 := mid_r40 hc he
  have Hm3 := mid_r40 hd hf'
  have Hm4 := mid_r40 he hg
  have Hm5 := mid_r40 hf' hh
  have C0 := Lib.hid (fun w => middle_calls a b c d ha hb hc hd w)
  generalize mid a c = m0 at *
  generalize mid b d = m1 at *
  have C1 := Lib.hid (fun w => middle_calls c d e f hc hd he hf' w)
  generalize mid c e = m2 at *
  generalize mid d f = m3 at *
  have C2 := Lib.hid (fun w => middle_calls e f g h he hf' hg hh w)
  generalize mid e g = m4 at *
  generalize mid f h = m5 at *
  have Hm6 := mid_r40 Hm0 Hm2
  have Hm7 := mid_r40 Hm1 Hm3
  have Hm8 := mid_r40 Hm2 Hm4
  have Hm9 := mid_r40 Hm3 Hm5
  have C3 := Lib.hid (fun w => middle_calls m0 m1 m2 m3 Hm0 Hm1 Hm2 Hm3 w)
  generalize mid m0 m2 = m6 at *
  generalize mid m1 m3 = m7 at *
  have C4 := Lib.hid (fun w => middle_calls m2 m3 m4 m5 Hm2 Hm3 Hm4 Hm5 w)
  generalize mid m2 m4 = m8 at *
  generalize mid m3 m5 = m9 at *
  have Hm10 := mid_r40 Hm6 Hm8
  have Hm11 := mid_r40 Hm7 Hm9
  have C5 := Lib.hid (fun w => middle_calls m6 m7 m8 m9 Hm6 Hm7 Hm8 Hm9 w)
  generalize mid m6 m8 = m10 at *
  generalize mid m7 m9 = m11 at *
  clear ha hb hc hd he hf' hg hh Hm0 Hm1 Hm2 Hm3 Hm4 Hm5 Hm6 Hm7 Hm8 Hm9 Hm10 Hm11
  have kk0 : w.heap.size + 1 + 1 + 1 < w.heap.size + 1 + 1 + 1 + 1 + 1 := by omega
  go_enter Try.func19, Try.ntmps19
  go_wp2
  refine Code.wp_mono (Q := (fun ex ac w' => ex = Exit.normal ∧ ∃ b4 b5, ac = (⟨#[.agg #[.int .i64 a, .int .i64 b, .int .i64 c, .int .i64 d, .int .i64 e, .int .i64 f, .int .i64 g, .int .i64 h], .pointer (some ⟨w.heap.size, 0, none⟩), .pointer (some ⟨w.heap.size + 1, 0, none⟩), .pointer (some ⟨w.heap.size + 1 + 1, 0, none⟩), .pointer (some ⟨b4, 0, none⟩), .pointer (some ⟨b5, 0, none⟩), undef, undef, undef, .agg #[.int .i64 a, .int .i64 b, .int .i64 c, .int .i64 d, .int .i64 e, .int .i64 f, .int .i64 g, .int .i64 h], .agg #[.int .i64 a, .int .i64 b, .int .i64 c, .int .i64 d, .int .i64 e, .int .i64 f, .int .i64 g, .int .i64 h], .agg #[.int .i64 a, .int .i64 b, .int .i64 c, .int .i64 d, .int .i64 e, .int .i64 f, .int .i64 g, .int .i64 h], .agg #[.int .i64 a, .int .i64 b, .int .i64 c, .int .i64 d, .int .i64 e, .int .i64 f, .int .i64 g, .int .i64 h], undef, undef, undef, undef, undef, undef, undef, undef, undef, undef, undef, undef, undef, undef, undef, undef, undef, undef, undef, undef, undef, undef, undef, undef, undef, undef, undef, undef, undef, undef, undef, undef, undef, undef, undef, undef, undef], []⟩ : Act) ∧ b4 ≠ b5 ∧ w.heap.size + 1 + 1 < b4 ∧ w.heap.size + 1 + 1 < b5 ∧ b4 < w'.heap.size ∧ b5 < w'.heap.size ∧ B8 w' b4 a b c d e f g h ∧ B8 w' b5 a b c d e f g h ∧ (w'.cell? ⟨w.heap.size, 0, none⟩ = some (.int .i64 a) ∧ w'.cell? ⟨w.heap.size, 1, none⟩ = some (.int .i64 b) ∧ w'.cell? ⟨w.heap.size, 2, none⟩ = some (.int .i64 c) ∧ w'.cell? ⟨w.heap.size, 3, none⟩ = some (.int .i64 d) ∧ w'.cell? ⟨w.heap.size, 4, none⟩ = some (.int .i64 e) ∧ w'.cell? ⟨w.heap.size, 5, none⟩ = some (.int .i64 f) ∧ w'.cell? ⟨w.heap.size, 6, none⟩ = some (.int .i64 g) ∧ w'.cell? ⟨w.heap.size, 7, none⟩ = some (.int .i64 h) ∧ row8 w' (w.heap.size + 1) = true ∧ row8 w' (w.heap.size + 1 + 1) = true ∧ w.heap.size + 1 + 1 < w'.heap.size ∧ Below w.heap.size w w'))) ?_ ?_
  rotate_left
  · go_region_held3 (fun w' => w'.cell? ⟨w.heap.size, 0, none⟩ = some (.int .i64 a) ∧ w'.cell? ⟨w.heap.size, 1, none⟩ = some (.int .i64 b) ∧ w'.cell? ⟨w.heap.size, 2, none⟩ = some (.int .i64 c) ∧ w'.cell? ⟨w.heap.size, 3, none⟩ = some (.int .i64 d) ∧ w'.cell? ⟨w.heap.size, 4, none⟩ = some (.int .i64 e) ∧ w'.cell? ⟨w.heap.size, 5, none⟩ = some (.int .i64 f) ∧ w'.cell? ⟨w.heap.size, 6, none⟩ = some (.int .i64 g) ∧ w'.cell? ⟨w.heap.size, 7, none⟩ = some (.int .i64 h) ∧ row8 w' (w.heap.size + 1) = true ∧ row8 w' (w.heap.size + 1 + 1) = true ∧ w.heap.size + 1 + 1 < w'.heap.size ∧ Below w.heap.size w w') (first | (with_reducible exact sc_keep (by assumption) hb2) | (with_reducible exact sc_keep (by assumption) hb1) | (with_reducible exact sc_alloc (by assumption) _) | ((with_reducible refine sc_put (by assumption) ?_ ?_ _ _ _ _ _ _ _ _) <;> first | (simp [go_sem, *]; done) | omega) | (refine ⟨by simp [go_sem], by simp [go_sem], by simp [go_sem], by simp [go_sem], by simp [go_sem], by simp [go_sem], by simp [go_sem], by simp [go_sem], by simp [go_sem], by simp [go_sem], by simp, by (repeat' (first | (with_reducible exact Below.refl _ _) | (with_reducible refine Below.drew ?_) | (with_reducible refine below_drewN ?_ _) | ((with_reducible refine Below.setCell ?_ ?side_ _); case side_ => (first | (with_reducible exact Nat.le_refl _) | (with_reducible assumption) | omega | (simp; done) | (simp; omega))) | ((with_reducible refine Below.alloc ?_ ?side_ _); case side_ => (first | (with_reducible exact Nat.le_refl _) | (with_reducible assumption) | omega | (simp; done) | (simp; omega)))))⟩))
      (first
      | (go_at_call 48; (fail_if_success (have := w1)); ((with_reducible refine (of_calls a b c d e f g h _).mono ?_); rintro e' w1 ⟨rfl, hb1⟩; obtain ⟨hc1, hf1⟩ := bcell hb1; clear hf1; have hr1 : ∀ g, g < _ → row8 w1 g = row8 _ g := fun g hg => row8_below hb1 hg; have hs1 := hb1.size; (try simp only [World.size_alloc, World.size_drew, World.size_setCell] at hs1); have kk1 : w1.heap.size < w1.heap.size + 1 + 1 := Nat.lt_succ_of_lt (Nat.lt_succ_self _); (try have l130 : w.heap.size + 1 + 1 + 1 < w1.heap.size := (by omega)); (try have l131 : w.heap.size + 1 + 1 + 1 < w1.heap.size + 1 := (by omega)); (try have l132 : w.heap.size + 1 + 1 + 1 < w1.heap.size + 1 + 1 := (by omega)); (try have l140 : w.heap.size + 1 + 1 + 1 + 1 < w1.heap.size := (by omega)); (try have l141 : w.heap.size + 1 + 1 + 1 + 1 < w1.heap.size + 1 := (by omega)); (try have l142 : w.heap.size + 1 + 1 + 1 + 1 < w1.heap.size + 1 + 1 := (by omega))))
      | (go_at_call 48; ((with_reducible refine (of_calls a b c d e f g h _).mono ?_); rintro e' w2 ⟨rfl, hb2⟩; obtain ⟨hc2, hf2⟩ := bcell hb2; clear hf2; have hr2 : ∀ g, g < _ → row8 w2 g = row8 _ g := fun g hg => row8_below hb2 hg; have hs2 := hb2.size; (try simp only [World.size_alloc, World.size_drew, World.size_setCell] at hs2); have kk2 : w2.heap.size < w2.heap.size + 1 + 1 := Nat.lt_succ_of_lt (Nat.lt_succ_self _); (try have l230 : w.heap.size + 1 + 1 + 1 < w2.heap.size := (by omega)); (try have l231 : w.heap.size + 1 + 1 + 1 < w2.heap.size + 1 := (by omega)); (try have l232 : w.heap.size + 1 + 1 + 1 < w2.heap.size + 1 + 1 := (by omega)); (try have l240 : w.heap.size + 1 + 1 + 1 + 1 < w2.heap.size := (by omega)); (try have l241 : w.heap.size + 1 + 1 + 1 + 1 < w2.heap.size + 1 := (by omega)); (try have l242 : w.heap.size + 1 + 1 + 1 + 1 < w2.heap.size + 1 + 1 := (by omega)); (try have k200 : w1.heap.size < w2.heap.size := (by omega)); (try have k201 : w1.heap.size < w2.heap.size + 1 := (by omega)); (try have k210 : w1.heap.size + 1 < w2.heap.size := (by omega)); (try have k211 : w1.heap.size + 1 < w2.heap.size + 1 := (by omega)))))
    all_goals
      refine ⟨rfl, _, _, rfl, ?_, ?_, ?_, ?_, ?_, B8.putFar (B8.put ?_) ?_ ?_, B8.put ?_, by assumption⟩
      all_goals first | omega | (simp only [put8_size, World.size_alloc, World.size_drew]; omega) | (simp [go_sem, *]; done)
  rintro ex ac u0 ⟨rfl, b4, b5, rfl, hne, h4, h5, h4', h5', BL, BR, hS⟩
  obtain ⟨k0, k1, k2, k3, k4, k5, k6, k7, hr1, hr2, hs0, hbel⟩ := hS
  go_wp2_with (go_at_call 48; ((with_reducible refine (of_calls a b c d e f g h _).mono ?_); rintro e' w3 ⟨rfl, hb3⟩))
  have S1 := St.begin (w := w) (q0 := a) (q1 := b) (q2 := c) (q3 := d) (q4 := e) (q5 := f) (q6 := g) (q7 := h) BL BR hr1 hr2 h4 h5 hne h4' h5' hbel hb3 56
  generalize put8 (w3.alloc (.cells #[.int .i64 0, .int .i64 0, .int .i64 0, .int .i64 0, .int .i64 0, .int .i64 0, .int .i64 0, .int .i64 0] 56)) w3.heap.size a b c d e f g h = u1 at S1 ⊢
  generalize w3.heap.size = b6 at S1 ⊢
  clear BL BR k0 k1 k2 k3 k4 k5 k6 k7 hr1 hr2 hs0 hbel hb3 h4' h5' h4 h5 w3 u0
  have n46 := S1.lq
  have n56 := S1.rq
  have n64 := S1.lq.symm
  have n65 := S1.rq.symm
  have n54 := hne.symm
  refine wp_loop_rounds 4 ?_
  rw [rounds_succ]
  go_wp2
  refine wp_loop_rounds 4 ?_
  rw [rounds_succ]
  obtain ⟨zq, q0, q1, q2, q3, q4, q5, q6, q7⟩ := S1.row
  have zl := S1.left.1
  have zr := S1.right.1
  go_wp2
  apply cut_region (S := fun u' => St w u' b4 b5 b6 a b c d e f g h a b c d e f g h m0 m1 c d e f g h)
  · go_region_with (go_at_call 50; ((with_reducible refine (C0.out _).mono ?_); rintro e' wk ⟨rfl, hbk⟩; have Sk := (St.keep S1.drew hbk); obtain ⟨yq, y0, y1, y2, y3, y4, y5, y6, y7⟩ := Sk.row))
    all_goals exact ⟨rfl, Sk.setQ0 _ _⟩
  intro u2 S2
  clear zq q0 q1 q2 q3 q4 q5 q6 q7 zl zr
  clear S1 u1
  go_wp2
  rw [rounds_succ]
  obtain ⟨zq, q0, q1, q2, q3, q4, q5, q6, q7⟩ := S2.row
  have zl := S2.left.1
  have zr := S2.right.1
  go_wp2
  apply cut_region (S := fun u' => St w u' b4 b5 b6 a b c d e f g h a b c d e f g h m0 m1 m2 m3 e f g h)
  · go_region_with (go_at_call 50; ((with_reducible refine (C1.out _).mono ?_); rintro e' wk ⟨rfl, hbk⟩; have Sk := (St.keep S2.drew hbk); obtain ⟨yq, y0, y1, y2, y3, y4, y5, y6, y7⟩ := Sk.row))
    all_goals exact ⟨rfl, Sk.setQ1 _ _⟩
  intro u3 S3
  clear zq q0 q1 q2 q3 q4 q5 q6 q7 zl zr
  clear S2 u2
  go_wp2
  rw [rounds_succ]
  obtain ⟨zq, q0, q1, q2, q3, q4, q5, q6, q7⟩ := S3.row
  have zl := S3.left.1
  have zr := S3.right.1
  go_wp2
  apply cut_region (S := fun u' => St w u' b4 b5 b6 a b c d e f g h a b c d e f g h m0 m1 m2 m3 m4 m5 g h)
  · go_region_with (go_at_call 50; ((with_reducible refine (C2.out _).mono ?_); rintro e' wk ⟨rfl, hbk⟩; have Sk := (St.keep S3.drew hbk); obtain ⟨yq, y0, y1, y2, y3, y4, y5, y6, y7⟩ := Sk.row))
    all_goals exact ⟨rfl, Sk.setQ2 _ _⟩
  intro u4 S4
  clear zq q0 q1 q2 q3 q4 q5 q6 q7 zl zr
  clear S3 u3
  go_wp2
  obtain ⟨zq, q0, q1, q2, q3, q4, q5, q6, q7⟩ := S4.row
  have zl := S4.left.1
  have zr := S4.right.1
  have v0 := S4.left.2.2.2.1
  have v1 := S4.left.2.2.2.2.1
  have v2 := S4.right.2.2.2.2.2.1
  have v3 := S4.right.2.2.2.2.2.2.1
  rw [rounds_succ]
  go_wp2
  have S5 := ((S4.setL1 m0 m1).setR2 m4 m5)
  generalize (((u4.setCell ⟨b4, 2, none⟩ (.int .i64 m0)).setCell ⟨b4, 3, none⟩ (.int .i64 m1)).setCell ⟨b5, 4, none⟩ (.int .i64 m4)).setCell ⟨b5, 5, none⟩ (.int .i64 m5) = u5 at S5 ⊢
  clear v0 v1 v2 v3
  clear zq q0 q1 q2 q3 q4 q5 q6 q7 zl zr
  clear S4 u4
  rw [rounds_succ]
  go_wp2
  refine wp_loop_rounds 3 ?_
  rw [rounds_succ]
  obtain ⟨zq, q0, q1, q2, q3, q4, q5, q6, q7⟩ := S5.row
  have zl := S5.left.1
  have zr := S5.right.1
  go_wp2
  apply cut_region (S := fun u' => St w u' b4 b5 b6 a b m0 m1 e f g h a b c d m4 m5 g h m6 m7 m2 m3 m4 m5 g h)
  · go_region_with (go_at_call 50; ((with_reducible refine (C3.out _).mono ?_); rintro e' wk ⟨rfl, hbk⟩; have Sk := (St.keep S5.drew hbk); obtain ⟨yq, y0, y1, y2, y3, y4, y5, y6, y7⟩ := Sk.row))
    all_goals exact ⟨rfl, Sk.setQ0 _ _⟩
  intro u6 S6
  clear zq q0 q1 q2 q3 q4 q5 q6 q7 zl zr
  clear S5 u5
  go_wp2
  rw [rounds_succ]
  obtain ⟨zq, q0, q1, q2, q3, q4, q5, q6, q7⟩ := S6.row
  have zl := S6.left.1
  have zr := S6.right.1
  go_wp2
  apply cut_region (S := fun u' => St w u' b4 b5 b6 a b m0 m1 e f g h a b c d m4 m5 g h m6 m7 m8 m9 m4 m5 g h)
  · go_region_with (go_at_call 50; ((with_reducible refine (C4.out _).mono ?_); rintro e' wk ⟨rfl, hbk⟩; have Sk := (St.keep S6.drew hbk); obtain ⟨yq, y0, y1, y2, y3, y4, y5, y6, y7⟩ := Sk.row))
    all_goals exact ⟨rfl, Sk.setQ1 _ _⟩
  intro u7 S7
  clear zq q0 q1 q2 q3 q4 q5 q6 q7 zl zr
  clear S6 u6
  go_wp2
  obtain ⟨zq, q0, q1, q2, q3, q4, q5, q6, q7⟩ := S7.row
  have zl := S7.left.1
  have zr := S7.right.1
  have v0 := S7.left.2.2.2.2.2.1
  have v1 := S7.left.2.2.2.2.2.2.1
  have v2 := S7.right.2.2.2.1
  have v3 := S7.right.2.2.2.2.1
  rw [rounds_succ]
  go_wp2
  have S8 := ((S7.setL2 m6 m7).setR1 m8 m9)
  generalize (((u7.setCell ⟨b4, 4, none⟩ (.int .i64 m6)).setCell ⟨b4, 5, none⟩ (.int .i64 m7)).setCell ⟨b5, 2, none⟩ (.int .i64 m8)).setCell ⟨b5, 3, none⟩ (.int .i64 m9) = u8 at S8 ⊢
  clear v0 v1 v2 v3
  clear zq q0 q1 q2 q3 q4 q5 q6 q7 zl zr
  clear S7 u7
  rw [rounds_succ]
  go_wp2
  refine wp_loop_rounds 2 ?_
  rw [rounds_succ]
  obtain ⟨zq, q0, q1, q2, q3, q4, q5, q6, q7⟩ := S8.row
  have zl := S8.left.1
  have zr := S8.right.1
  go_wp2
  apply cut_region (S := fun u' => St w u' b4 b5 b6 a b m0 m1 m6 m7 g h a b m8 m9 m4 m5 g h m10 m11 m8 m9 m4 m5 g h)
  · go_region_with (go_at_call 50; ((with_reducible refine (C5.out _).mono ?_); rintro e' wk ⟨rfl, hbk⟩; have Sk := (St.keep S8.drew hbk); obtain ⟨yq, y0, y1, y2, y3, y4, y5, y6, y7⟩ := Sk.row))
    all_goals exact ⟨rfl, Sk.setQ0 _ _⟩
  intro u9 S9
  clear zq q0 q1 q2 q3 q4 q5 q6 q7 zl zr
  clear S8 u8
  go_wp2
  obtain ⟨zq, q0, q1, q2, q3, q4, q5, q6, q7⟩ := S9.row
  have zl := S9.left.1
  have zr := S9.right.1
  have v0 := S9.left.2.2.2.2.2.2.2.1
  have v1 := S9.left.2.2.2.2.2.2.2.2
  have v2 := S9.right.2.1
  have v3 := S9.right.2.2.1
  rw [rounds_succ]
  go_wp2
  have S10 := ((S9.setL3 m10 m11).setR0 m10 m11)
  generalize (((u9.setCell ⟨b4, 6, none⟩ (.int .i64 m10)).setCell ⟨b4, 7, none⟩ (.int .i64 m11)).setCell ⟨b5, 0, none⟩ (.int .i64 m10)).setCell ⟨b5, 1, none⟩ (.int .i64 m11) = u10 at S10 ⊢
  clear v0 v1 v2 v3
  clear zq q0 q1 q2 q3 q4 q5 q6 q7 zl zr
  clear S9 u9
  rw [rounds_succ]
  obtain ⟨zq, q0, q1, q2, q3, q4, q5, q6, q7⟩ := S10.row
  have zl := S10.left.1
  have zr := S10.right.1
  have v0 := S10.left.2.1
  have x0 := S10.right.2.1
  have v1 := S10.left.2.2.1
  have x1 := S10.right.2.2.1
  have v2 := S10.left.2.2.2.1
  have x2 := S10.right.2.2.2.1
  have v3 := S10.left.2.2.2.2.1
  have x3 := S10.right.2.2.2.2.1
  have v4 := S10.left.2.2.2.2.2.1
  have x4 := S10.right.2.2.2.2.2.1
  have v5 := S10.left.2.2.2.2.2.2.1
  have x5 := S10.right.2.2.2.2.2.2.1
  have v6 := S10.left.2.2.2.2.2.2.2.1
  have x6 := S10.right.2.2.2.2.2.2.2.1
  have v7 := S10.left.2.2.2.2.2.2.2.2
  have x7 := S10.right.2.2.2.2.2.2.2.2
  have z1 := S10.one
  have z2 := S10.two
  have hg1 : w.heap.size + 1 < u10.heap.size := by have := S10.hl; have := S10.hl'; omega
  have hg2 : w.heap.size + 1 + 1 < u10.heap.size := by have := S10.hl; have := S10.hl'; omega
  have hgl := S10.hl'
  have hgr := S10.hr'
  have hB := S10.bel
  clear S10
  go_wp2
  go_region_with (first
    | (go_at_call 51; (fail_if_success (have := w1)); ((with_reducible refine (curve_calls a b m0 m1 m6 m7 m10 m11 _).mono ?_); rintro e' w1 ⟨rfl, hb1⟩; replace hb1 := undrew hb1; obtain ⟨hc1, hr1, hs1⟩ := old8 hb1; have hg3 : w.heap.size + 1 < w1.heap.size := (by omega); have hg4 : w.heap.size + 1 + 1 < w1.heap.size := (by omega); have hg5 : b5 < w1.heap.size := (by omega); have y0 := (hc1 b5 0 hgr).trans x0; have y1 := (hc1 b5 1 hgr).trans x1; have y2 := (hc1 b5 2 hgr).trans x2; have y3 := (hc1 b5 3 hgr).trans x3; have y4 := (hc1 b5 4 hgr).trans x4; have y5 := (hc1 b5 5 hgr).trans x5; have y6 := (hc1 b5 6 hgr).trans x6; have y7 := (hc1 b5 7 hgr).trans x7))
    | (go_at_call 51; ((with_reducible refine (curve_calls m10 m11 m8 m9 m4 m5 g h _).mono ?_); rintro e' w2 ⟨rfl, hb2⟩; obtain ⟨hc2, hr2, hs2⟩ := old8 hb2; have zz1 : row8 w2 (w.heap.size + 1) = true := (row8_below hb2 hg3).trans ((row8_below hb1 hg1).trans z1); have zz2 : row8 w2 (w.heap.size + 1 + 1) = true := (row8_below hb2 hg4).trans ((row8_below hb1 hg2).trans z2); have hg6 : w.heap.size + 1 < w2.heap.size := (by omega); have hg7 : w.heap.size + 1 + 1 < w2.heap.size := (by omega); have hH : Below w.heap.size w w2 := (hB.trans (hb1.mono hB.size)).trans (hb2.mono (Nat.le_trans hB.size hb1.size)))))
  all_goals go_wp2
  all_goals
    refine bodyPost_ret (v := .tuple #[.agg #[.int .i64 a, .int .i64 b, .int .i64 m0, .int .i64 m1, .int .i64 m6, .int .i64 m7, .int .i64 m10, .int .i64 m11], .agg #[.int .i64 m10, .int .i64 m11, .int .i64 m8, .int .i64 m9, .int .i64 m4, .int .i64 m5, .int .i64 g, .int .i64 h]]) (by simp [results, Try.results19, go_sem, zz1, zz2]) rfl ⟨rfl, ?_⟩
    exact put8_below (put8_below hH (by omega)) (by omega)
end Go.Proofs.Ytdhegcjclfllmaa.PC
