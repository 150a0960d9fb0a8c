/- Package curve's closures, walked, and both with each of them (gen_cur.py prints this). -/
import Derived.Test.YtdhegcjclfllmaaPCx0
import Derived.Test.YtdhegcjclfllmaaWm3
import Derived.Test.YtdhegcjclfllmaaCurQ
import Derived.Test.YtdhegcjclfllmaaWm1
import Derived.Test.YtdhegcjclfllmaaProg
import Derived.WalkKit
import Derived.OwnWalk
import Derived.Handy
import Derived.KernelRfl
import Derived.Below
import Derived.WideLaws
import Derived.Lib.Hide
namespace Go.Proofs.Ytdhegcjclfllmaa.PC
open Go Go.RowKit
set_option maxRecDepth 100000
set_option linter.unusedVariables false
set_option linter.unusedSimpArgs false
attribute [local go_sem] run_make2 run_make3
set_option maxHeartbeats 2000000 in
theorem third_calls (g : Nat) (a b : Int) (w : World) (h0 : w.cell? ⟨g, 0, none⟩ = some (.int .i64 a)) (h1 : w.cell? ⟨g, 1, none⟩ = some (.int .i64 b)) (ha : R40 a) (hb : R40 b) :
    Calls Try.prog 44 #[.slice (some ⟨g, 0, none⟩) 2 2] w fun e w' => e = .returned (.int .i64 ((2 * (a + 2 * b) + 3) / 6)) ∧ Below w.heap.size w w' := by
  unfold R40 at ha hb
  have e1 : wrap64 (2 * b) = 2 * b := w64 (by omega) (by omega)
  have e2 : wrap64 (a + 2 * b) = a + 2 * b := w64 (by omega) (by omega)
  have e3 : IntKind.i64.wrap (2 * b) = 2 * b := (IntKind.wrap_i64 _).trans (by unfold wrap64 at e1; exact e1)
  have e4 : IntKind.i64.wrap (a + 2 * b) = a + 2 * b := (IntKind.wrap_i64 _).trans (by unfold wrap64 at e2; exact e2)
  have hV := third_eq (v := a + 2 * b) (by omega)
  have M := fun w => Wide.muldiv_calls (a + 2 * b) 1 3 (by omega) (by omega) (by omega) (by omega) (by omega) (by omega) w
  rw [hV] at M
  clear hV
  generalize Wide.mulDivB (a + 2 * b) 1 3 = q at M
  go_enter Try.func44, Try.ntmps44
  go_wp2
  have hd0 : w.drew.cell? ⟨g, 0, none⟩ = some (.int .i64 a) := h0
  have hd1 : w.drew.cell? ⟨g, 1, none⟩ = some (.int .i64 b) := h1
  go_region_with (go_at_call 45; ((with_reducible refine (M _).mono ?_); rintro e w1 ⟨rfl, hb1⟩))
  all_goals go_wp2
  all_goals refine bodyPost_ret (v := .int .i64 ((2 * (a + 2 * b) + 3) / 6)) (by simp [results, Try.results44, go_sem]) rfl ⟨rfl, by have z_hb1 := hb1.size; (try simp at z_hb1); (repeat' (first | (with_reducible exact Below.refl _ _) | (with_reducible refine Below.drew ?_) | (with_reducible refine below_drewN ?_ _) | ((with_reducible refine Below.setCell ?_ ?side_ _); case side_ => (first | (with_reducible exact Nat.le_refl _) | (with_reducible assumption) | omega | (simp; done) | (simp; omega))) | ((with_reducible refine Below.alloc ?_ ?side_ _); case side_ => (first | (with_reducible exact Nat.le_refl _) | (with_reducible assumption) | omega | (simp; done) | (simp; omega))) | ((with_reducible refine Below.trans ?_ (hb1.mono ?side_)); case side_ => (first | (with_reducible exact Nat.le_refl _) | (with_reducible assumption) | omega | (simp; done) | (simp; omega)))))⟩
set_option maxHeartbeats 8000000 in
theorem boththird_calls (g o c : Nat) (a b d e : Int) (hr : R40 a ∧ R40 b ∧ R40 d ∧ R40 e) (w : World) (hg : g < w.heap.size) (hc : 2 ≤ c)
    (h0 : w.cell? ⟨g, o, none⟩ = some (.int .i64 a)) (h1 : w.cell? ⟨g, o + 1, none⟩ = some (.int .i64 b)) (h2 : w.cell? ⟨g, o + 2, none⟩ = some (.int .i64 d)) (h3 : w.cell? ⟨g, o + 3, none⟩ = some (.int .i64 e)) :
    Calls Try.prog 46 #[.slice (some ⟨g, o, none⟩) 2 c, .func (.func 44) #[] #[]] w fun e' w' => e' = .returned (.agg #[.int .i64 ((2 * (a + 2 * d) + 3) / 6), .int .i64 ((2 * (b + 2 * e) + 3) / 6)]) ∧ Below w.heap.size w w' := by
  have z1 : g < w.heap.size + 1 := by omega
  have z2 : g < w.heap.size + 1 + 1 := by omega
  have z3 : g < w.heap.size + 1 + 1 + 1 := by omega
  have z4 : g < w.heap.size + 1 + 1 + 1 + 1 := by omega
  have z5 : g < w.heap.size + 1 + 1 + 1 + 1 + 1 := by omega
  unfold R40 at hr
  go_enter Try.func46, Try.ntmps46
  go_wp2
  go_region
  all_goals go_wp2
  all_goals refine wp_loop_rounds 3 ?_
  all_goals rw [rounds_succ]
  all_goals go_wp2
  all_goals go_region
  all_goals go_wp2
  all_goals rw [rounds_succ]
  all_goals go_wp2
  all_goals go_region
  all_goals go_wp2
  all_goals rw [rounds_succ]
  all_goals go_wp2_with (first
    | (go_at_call 44; ((with_reducible refine (third_calls _ a d _ (by simp [go_sem]) (by simp [go_sem]) (by unfold R40; omega) (by unfold R40; omega)).mono ?_); rintro e' w1 ⟨rfl, hb1⟩; obtain ⟨hc1, hf1⟩ := bcell hb1; have hs1 := hb1.size; simp only [World.size_alloc, World.size_drew, World.size_setCell] at hs1))
    | (go_at_call 44; ((with_reducible refine (third_calls _ b e _ ((hc1 _ _ (by simp)).trans (by simp [go_sem])) ((hc1 _ _ (by simp)).trans (by simp [go_sem])) (by unfold R40; omega) (by unfold R40; omega)).mono ?_); rintro e' w2 ⟨rfl, hb2⟩; obtain ⟨hc2, hf2⟩ := bcell hb2; have k0 := ((hc2 w.heap.size 0 (by omega)).trans (hc1 w.heap.size 0 (by simp; omega))).trans (show _ = some (Value.int .i64 0) by simp [go_sem]); have k1 := ((hc2 w.heap.size 1 (by omega)).trans (hc1 w.heap.size 1 (by simp; omega))).trans (show _ = some (Value.int .i64 0) by simp [go_sem]); have f0 := ((hf2 w.heap.size 0 (by omega)).trans (hf1 w.heap.size 0 (by simp; omega))).trans (show _ = false by simp [go_sem]); have f1 := ((hf2 w.heap.size 1 (by omega)).trans (hf1 w.heap.size 1 (by simp; omega))).trans (show _ = false by simp [go_sem]); clear hc1 hf1 hc2 hf2)))
  all_goals
    refine bodyPost_ret (v := .agg #[.int .i64 ((2 * (a + 2 * d) + 3) / 6), .int .i64 ((2 * (b + 2 * e) + 3) / 6)]) (by simp [results, Try.results46, go_sem, k0, k1]) rfl ⟨rfl, ?_⟩
    have z_hb1 := hb1.size; (try simp at z_hb1); have z_hb2 := hb2.size; (try simp at z_hb2); (repeat' (first | (with_reducible exact Below.refl _ _) | (with_reducible refine Below.drew ?_) | (with_reducible refine below_drewN ?_ _) | ((with_reducible refine Below.setCell ?_ ?side_ _); case side_ => (first | (with_reducible exact Nat.le_refl _) | (with_reducible assumption) | omega | (simp; done) | (simp; omega))) | ((with_reducible refine Below.alloc ?_ ?side_ _); case side_ => (first | (with_reducible exact Nat.le_refl _) | (with_reducible assumption) | omega | (simp; done) | (simp; omega))) | ((with_reducible refine Below.trans ?_ (hb1.mono ?side_)); case side_ => (first | (with_reducible exact Nat.le_refl _) | (with_reducible assumption) | omega | (simp; done) | (simp; omega))) | ((with_reducible refine Below.trans ?_ (hb2.mono ?side_)); case side_ => (first | (with_reducible exact Nat.le_refl _) | (with_reducible assumption) | omega | (simp; done) | (simp; omega)))))
set_option maxHeartbeats 2000000 in
theorem part_calls (g : Nat) (a b t : Int) (tb : Nat) (w : World) (h0 : w.cell? ⟨g, 0, none⟩ = some (.int .i64 a)) (h1 : w.cell? ⟨g, 1, none⟩ = some (.int .i64 b)) (ha : R40 a) (hb' : R40 b) (ht : 0 ≤ t ∧ t ≤ 65536) (hg : g < w.heap.size) (hb : w.cell? ⟨tb, 0, none⟩ = some (.int .i64 t)) :
    Calls Try.prog 55 #[.slice (some ⟨g, 0, none⟩) 2 2, .pointer (some ⟨tb, 0, none⟩)] w fun e w' => e = .returned (.int .i64 (step a b t)) ∧ Below w.heap.size w w' := by
  have hV := dot_eq ht.1 ht.2 ha hb'
  have hS := step_r40 ht.1 ht.2 ha hb'
  unfold R40 at hS
  unfold R40 at ha hb'
  have e1 : wrap64 (b - a) = b - a := w64 (by omega) (by omega)
  have e3 : IntKind.i64.wrap (b - a) = b - a := (IntKind.wrap_i64 _).trans (by unfold wrap64 at e1; exact e1)
  have M := fun w => Wide.mulshift_calls (b - a) t 16 (by omega) (by omega) (by omega) (by omega) w
  generalize Wide.dotV (b - a) t 0 0 16 = v at *
  have e5 : wrap64 (a + v) = step a b t := by rw [hV]; exact w64 (by omega) (by omega)
  clear hV hS
  generalize Wide.dotB (b - a) t 0 0 16 = q at *
  go_enter Try.func55, Try.ntmps55
  go_wp2
  have hd0 : w.drew.cell? ⟨g, 0, none⟩ = some (.int .i64 a) := h0
  have hd1 : w.drew.cell? ⟨g, 1, none⟩ = some (.int .i64 b) := h1
  have hd2 : w.drew.cell? ⟨tb, 0, none⟩ = some (.int .i64 t) := hb
  go_region_with (go_at_call 56; ((with_reducible refine (M _).mono ?_); rintro e w1 ⟨rfl, hb1⟩; have k0 := (hb1.cell (p := ⟨g, 0, none⟩) hg).trans hd0))
  all_goals go_wp2
  all_goals refine bodyPost_ret (v := .int .i64 (step a b t)) (by simp [results, Try.results55, go_sem, e5]) rfl ⟨rfl, by have z_hb1 := hb1.size; (try simp at z_hb1); (repeat' (first | (with_reducible exact Below.refl _ _) | (with_reducible refine Below.drew ?_) | (with_reducible refine below_drewN ?_ _) | ((with_reducible refine Below.setCell ?_ ?side_ _); case side_ => (first | (with_reducible exact Nat.le_refl _) | (with_reducible assumption) | omega | (simp; done) | (simp; omega))) | ((with_reducible refine Below.alloc ?_ ?side_ _); case side_ => (first | (with_reducible exact Nat.le_refl _) | (with_reducible assumption) | omega | (simp; done) | (simp; omega))) | ((with_reducible refine Below.trans ?_ (hb1.mono ?side_)); case side_ => (first | (with_reducible exact Nat.le_refl _) | (with_reducible assumption) | omega | (simp; done) | (simp; omega)))))⟩
set_option maxHeartbeats 8000000 in
theorem bothpart_calls (g o c : Nat) (a b d e t : Int) (tb : Nat) (hr : R40 a ∧ R40 b ∧ R40 d ∧ R40 e) (ht : 0 ≤ t ∧ t ≤ 65536) (w : World) (hg : g < w.heap.size) (hc : 2 ≤ c)
    (h0 : w.cell? ⟨g, o, none⟩ = some (.int .i64 a)) (h1 : w.cell? ⟨g, o + 1, none⟩ = some (.int .i64 b)) (h2 : w.cell? ⟨g, o + 2, none⟩ = some (.int .i64 d)) (h3 : w.cell? ⟨g, o + 3, none⟩ = some (.int .i64 e)) (hb : w.cell? ⟨tb, 0, none⟩ = some (.int .i64 t)) (htb : tb < w.heap.size) :
    Calls Try.prog 46 #[.slice (some ⟨g, o, none⟩) 2 c, .func (.func 55) #[] #[.pointer (some ⟨tb, 0, none⟩)]] w fun e' w' => e' = .returned (.agg #[.int .i64 (step a d t), .int .i64 (step b e t)]) ∧ Below w.heap.size w w' := by
  have z1 : g < w.heap.size + 1 := by omega
  have y1 : tb < w.heap.size + 1 := by omega
  have z2 : g < w.heap.size + 1 + 1 := by omega
  have y2 : tb < w.heap.size + 1 + 1 := by omega
  have z3 : g < w.heap.size + 1 + 1 + 1 := by omega
  have y3 : tb < w.heap.size + 1 + 1 + 1 := by omega
  have z4 : g < w.heap.size + 1 + 1 + 1 + 1 := by omega
  have y4 : tb < w.heap.size + 1 + 1 + 1 + 1 := by omega
  have z5 : g < w.heap.size + 1 + 1 + 1 + 1 + 1 := by omega
  have y5 : tb < w.heap.size + 1 + 1 + 1 + 1 + 1 := by omega
  unfold R40 at hr
  go_enter Try.func46, Try.ntmps46
  go_wp2
  go_region
  all_goals go_wp2
  all_goals refine wp_loop_rounds 3 ?_
  all_goals rw [rounds_succ]
  all_goals go_wp2
  all_goals go_region
  all_goals go_wp2
  all_goals rw [rounds_succ]
  all_goals go_wp2
  all_goals go_region
  all_goals go_wp2
  all_goals rw [rounds_succ]
  all_goals go_wp2_with (first
    | (go_at_call 55; ((with_reducible refine (part_calls _ a d t tb _ (by simp [go_sem]) (by simp [go_sem]) (by unfold R40; omega) (by unfold R40; omega) ht (by simp) (by simp [go_sem, hb, htb, y1, y2, y3, y4, y5])).mono ?_); rintro e' w1 ⟨rfl, hb1⟩; obtain ⟨hc1, hf1⟩ := bcell hb1; have hs1 := hb1.size; simp only [World.size_alloc, World.size_drew, World.size_setCell] at hs1))
    | (go_at_call 55; ((with_reducible refine (part_calls _ b e t tb _ ((hc1 _ _ (by simp)).trans (by simp [go_sem])) ((hc1 _ _ (by simp)).trans (by simp [go_sem])) (by unfold R40; omega) (by unfold R40; omega) ht (by omega) ((hc1 _ _ (by simp; omega)).trans (by simp [go_sem, hb, htb, y1, y2, y3, y4, y5]))).mono ?_); rintro e' w2 ⟨rfl, hb2⟩; obtain ⟨hc2, hf2⟩ := bcell hb2; have k0 := ((hc2 w.heap.size 0 (by omega)).trans (hc1 w.heap.size 0 (by simp; omega))).trans (show _ = some (Value.int .i64 0) by simp [go_sem]); have k1 := ((hc2 w.heap.size 1 (by omega)).trans (hc1 w.heap.size 1 (by simp; omega))).trans (show _ = some (Value.int .i64 0) by simp [go_sem]); have f0 := ((hf2 w.heap.size 0 (by omega)).trans (hf1 w.heap.size 0 (by simp; omega))).trans (show _ = false by simp [go_sem]); have f1 := ((hf2 w.heap.size 1 (by omega)).trans (hf1 w.heap.size 1 (by simp; omega))).trans (show _ = false by simp [go_sem]); clear hc1 hf1 hc2 hf2)))
  all_goals
    refine bodyPost_ret (v := .agg #[.int .i64 (step a d t), .int .i64 (step b e t)]) (by simp [results, Try.results46, go_sem, k0, k1]) rfl ⟨rfl, ?_⟩
    have z_hb1 := hb1.size; (try simp at z_hb1); have z_hb2 := hb2.size; (try simp at z_hb2); (repeat' (first | (with_reducible exact Below.refl _ _) | (with_reducible refine Below.drew ?_) | (with_reducible refine below_drewN ?_ _) | ((with_reducible refine Below.setCell ?_ ?side_ _); case side_ => (first | (with_reducible exact Nat.le_refl _) | (with_reducible assumption) | omega | (simp; done) | (simp; omega))) | ((with_reducible refine Below.alloc ?_ ?side_ _); case side_ => (first | (with_reducible exact Nat.le_refl _) | (with_reducible assumption) | omega | (simp; done) | (simp; omega))) | ((with_reducible refine Below.trans ?_ (hb1.mono ?side_)); case side_ => (first | (with_reducible exact Nat.le_refl _) | (with_reducible assumption) | omega | (simp; done) | (simp; omega))) | ((with_reducible refine Below.trans ?_ (hb2.mono ?side_)); case side_ => (first | (with_reducible exact Nat.le_refl _) | (with_reducible assumption) | omega | (simp; done) | (simp; omega)))))
end Go.Proofs.Ytdhegcjclfllmaa.PC
