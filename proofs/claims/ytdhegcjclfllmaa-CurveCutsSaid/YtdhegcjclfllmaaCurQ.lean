/- Package curve's closures, walked, and both with each of them (gen_cur.py prints this). -/
import Derived.Test.YtdhegcjclfllmaaPCx0
import Derived.Test.YtdhegcjclfllmaaWm3
import Derived.Test.YtdhegcjclfllmaaWm1
import Derived.Test.YtdhegcjclfllmaaProg
import Derived.WalkKit
import Derived.OwnWalk
import Derived.Handy
import Derived.KernelRfl
import Derived.Below
import Derived.WideLaws
import Derived.Lib.Hide
namespace Go.Proofs.Ytdhegcjclfllmaa.PC
open Go Go.RowKit
set_option maxRecDepth 100000
set_option linter.unusedVariables false
set_option linter.unusedSimpArgs false
theorem bcell {W w1 : World} (hb : Below W.heap.size W w1) : (∀ b o, b < W.heap.size → w1.cell? ⟨b, o, none⟩ = W.cell? ⟨b, o, none⟩) ∧ (∀ b o, b < W.heap.size → w1.frozen? ⟨b, o, none⟩ = W.frozen? ⟨b, o, none⟩) :=
  ⟨fun b o h => hb.cell (p := ⟨b, o, none⟩) h, fun b o h => hb.frozen (p := ⟨b, o, none⟩) h⟩
theorem info_i64 : (Try.prog.info? 2).map (fun i => (i.zero, i.size, i.bytes)) = some (some (.int .i64 0), 1, 8) := by kernel_rfl
theorem run_made (n : Nat) (hn : n ≤ 1000) (w : World) : (Instr.makeSlice 49 (.int .i64 (n : Int)) (.int .i64 (n : Int))).run Try.prog w = .ok (.slice (some ⟨w.heap.size, 0, none⟩) n n) (w.alloc (.cells (madeCells #[.int .i64 0] n) 2)) := by
  obtain ⟨i0, hi, hz0, hz1, hz2⟩ := info_parts info_i64
  have h := run_make (P := Try.prog) w 49 2 i0 (.int .i64 0) Try.underlying49 hi hz0 .i64 .i64 n n (by omega) (by omega) (by rw [hz2]; omega) (by omega)
  rw [h, hz1]; simp [Value.cells]
theorem run_make2 (w : World) : (Instr.makeSlice 49 (.int .i64 2) (.int .i64 2)).run Try.prog w = .ok (.slice (some ⟨w.heap.size, 0, none⟩) 2 2) (w.alloc (.cells #[.int .i64 0, .int .i64 0] 2)) := (run_made 2 (by decide) w).trans (by rw [show madeCells #[Value.int .i64 0] 2 = #[.int .i64 0, .int .i64 0] by kernel_rfl])
theorem run_make3 (w : World) : (Instr.makeSlice 49 (.int .i64 3) (.int .i64 3)).run Try.prog w = .ok (.slice (some ⟨w.heap.size, 0, none⟩) 3 3) (w.alloc (.cells #[.int .i64 0, .int .i64 0, .int .i64 0] 2)) := (run_made 3 (by decide) w).trans (by rw [show madeCells #[Value.int .i64 0] 3 = #[.int .i64 0, .int .i64 0, .int .i64 0] by kernel_rfl])
attribute [local go_sem] run_make2 run_make3
theorem w64 {x : Int} (h0 : -9223372036854775808 ≤ x) (h1 : x ≤ 9223372036854775807) : wrap64 x = x := by unfold wrap64; omega
/-- Is it a number of a right curve? -/
def R40 (a : Int) : Prop := -1099511627776 ≤ a ∧ a ≤ 1099511627776
theorem third_eq {v : Int} (h : -4398046511104 ≤ v ∧ v ≤ 4398046511104) : Wide.mulDivV v 1 3 = (2 * v + 3) / 6 := by
  unfold Wide.mulDivV Wide.near Wide.fitV; simp; intro h1; omega
theorem part_in {x t : Int} (h0 : 0 ≤ t) (h1 : t ≤ 65536) : (0 ≤ x → 0 ≤ x * t ∧ x * t ≤ x * 65536) ∧ (x ≤ 0 → x * 65536 ≤ x * t ∧ x * t ≤ 0) :=
  ⟨fun h => ⟨Int.mul_nonneg h h0, Int.mul_le_mul_of_nonneg_left h1 h⟩, fun h => ⟨Int.mul_le_mul_of_nonpos_left h h1, Int.mul_nonpos_of_nonpos_of_nonneg h h0⟩⟩
/-- What At adds to the first of two numbers. -/
def step (a b t : Int) : Int := a + (2 * ((b - a) * t) + 65536) / 131072
theorem step_in {a b t : Int} (h0 : 0 ≤ t) (h1 : t ≤ 65536) : (a ≤ b → a ≤ step a b t ∧ step a b t ≤ b) ∧ (b ≤ a → b ≤ step a b t ∧ step a b t ≤ a) := by
  unfold step
  obtain ⟨h2, h3⟩ := part_in (x := b - a) h0 h1
  generalize (b - a) * t = y at *
  omega
theorem step_r40 {a b t : Int} (h0 : 0 ≤ t) (h1 : t ≤ 65536) (ha : R40 a) (hb : R40 b) : R40 (step a b t) := by
  obtain ⟨h2, h3⟩ := step_in (a := a) (b := b) h0 h1
  unfold R40 at *
  omega
theorem dot_eq {a b t : Int} (h0 : 0 ≤ t) (h1 : t ≤ 65536) (ha : R40 a) (hb : R40 b) : a + Wide.dotV (b - a) t 0 0 16 = step a b t := by
  unfold step Wide.dotV Wide.near Wide.fitV R40 at *
  obtain ⟨h2, h3⟩ := part_in (x := b - a) h0 h1
  generalize (b - a) * t = y at *
  simp
  intro h4; omega
set_option maxHeartbeats 2000000 in
theorem mid1_calls (g : Nat) (a b : Int) (w : World) (h0 : w.cell? ⟨g, 0, none⟩ = some (.int .i64 a)) (h1 : w.cell? ⟨g, 1, none⟩ = some (.int .i64 b)) (ha : R40 a) (hb : R40 b) :
    Calls Try.prog 78 #[.slice (some ⟨g, 0, none⟩) 2 2] w fun e w' => e = .returned (.int .i64 ((a + b + 1) / 2)) ∧ Below w.heap.size w w' := by
  unfold R40 at ha hb
  have e1 : wrap64 (a + b) = a + b := w64 (by omega) (by omega)
  have e2 : wrap64 (a + b + 1) = a + b + 1 := w64 (by omega) (by omega)
  go_enter Try.func78, Try.ntmps78
  go_wp2
  have hd0 : w.drew.cell? ⟨g, 0, none⟩ = some (.int .i64 a) := h0
  have hd1 : w.drew.cell? ⟨g, 1, none⟩ = some (.int .i64 b) := h1
  go_region
  all_goals go_wp2
  refine bodyPost_ret (v := .int .i64 ((a + b + 1) / 2)) (by simp [results, Try.results78, go_sem]) rfl ⟨rfl, by (repeat' (first | (with_reducible exact Below.refl _ _) | (with_reducible refine Below.drew ?_) | (with_reducible refine below_drewN ?_ _) | ((with_reducible refine Below.setCell ?_ ?side_ _); case side_ => (first | (with_reducible exact Nat.le_refl _) | (with_reducible assumption) | omega | (simp; done) | (simp; omega))) | ((with_reducible refine Below.alloc ?_ ?side_ _); case side_ => (first | (with_reducible exact Nat.le_refl _) | (with_reducible assumption) | omega | (simp; done) | (simp; omega)))))⟩
set_option maxHeartbeats 8000000 in
theorem bothmid1_calls (g o c : Nat) (a b d e : Int) (hr : R40 a ∧ R40 b ∧ R40 d ∧ R40 e) (w : World) (hg : g < w.heap.size) (hc : 2 ≤ c)
    (h0 : w.cell? ⟨g, o, none⟩ = some (.int .i64 a)) (h1 : w.cell? ⟨g, o + 1, none⟩ = some (.int .i64 b)) (h2 : w.cell? ⟨g, o + 2, none⟩ = some (.int .i64 d)) (h3 : w.cell? ⟨g, o + 3, none⟩ = some (.int .i64 e)) :
    Calls Try.prog 46 #[.slice (some ⟨g, o, none⟩) 2 c, .func (.func 78) #[] #[]] w fun e' w' => e' = .returned (.agg #[.int .i64 ((a + d + 1) / 2), .int .i64 ((b + e + 1) / 2)]) ∧ Below w.heap.size w w' := by
  have z1 : g < w.heap.size + 1 := by omega
  have z2 : g < w.heap.size + 1 + 1 := by omega
  have z3 : g < w.heap.size + 1 + 1 + 1 := by omega
  have z4 : g < w.heap.size + 1 + 1 + 1 + 1 := by omega
  have z5 : g < w.heap.size + 1 + 1 + 1 + 1 + 1 := by omega
  unfold R40 at hr
  go_enter Try.func46, Try.ntmps46
  go_wp2
  go_region
  all_goals go_wp2
  all_goals refine wp_loop_rounds 3 ?_
  all_goals rw [rounds_succ]
  all_goals go_wp2
  all_goals go_region
  all_goals go_wp2
  all_goals rw [rounds_succ]
  all_goals go_wp2
  all_goals go_region
  all_goals go_wp2
  all_goals rw [rounds_succ]
  all_goals go_wp2_with (first
    | (go_at_call 78; ((with_reducible refine (mid1_calls _ a d _ (by simp [go_sem]) (by simp [go_sem]) (by unfold R40; omega) (by unfold R40; omega)).mono ?_); rintro e' w1 ⟨rfl, hb1⟩; obtain ⟨hc1, hf1⟩ := bcell hb1; have hs1 := hb1.size; simp only [World.size_alloc, World.size_drew, World.size_setCell] at hs1))
    | (go_at_call 78; ((with_reducible refine (mid1_calls _ b e _ ((hc1 _ _ (by simp)).trans (by simp [go_sem])) ((hc1 _ _ (by simp)).trans (by simp [go_sem])) (by unfold R40; omega) (by unfold R40; omega)).mono ?_); rintro e' w2 ⟨rfl, hb2⟩; obtain ⟨hc2, hf2⟩ := bcell hb2; have k0 := ((hc2 w.heap.size 0 (by omega)).trans (hc1 w.heap.size 0 (by simp; omega))).trans (show _ = some (Value.int .i64 0) by simp [go_sem]); have k1 := ((hc2 w.heap.size 1 (by omega)).trans (hc1 w.heap.size 1 (by simp; omega))).trans (show _ = some (Value.int .i64 0) by simp [go_sem]); have f0 := ((hf2 w.heap.size 0 (by omega)).trans (hf1 w.heap.size 0 (by simp; omega))).trans (show _ = false by simp [go_sem]); have f1 := ((hf2 w.heap.size 1 (by omega)).trans (hf1 w.heap.size 1 (by simp; omega))).trans (show _ = false by simp [go_sem]); clear hc1 hf1 hc2 hf2)))
  all_goals
    refine bodyPost_ret (v := .agg #[.int .i64 ((a + d + 1) / 2), .int .i64 ((b + e + 1) / 2)]) (by simp [results, Try.results46, go_sem, k0, k1]) rfl ⟨rfl, ?_⟩
    have z_hb1 := hb1.size; (try simp at z_hb1); have z_hb2 := hb2.size; (try simp at z_hb2); (repeat' (first | (with_reducible exact Below.refl _ _) | (with_reducible refine Below.drew ?_) | (with_reducible refine below_drewN ?_ _) | ((with_reducible refine Below.setCell ?_ ?side_ _); case side_ => (first | (with_reducible exact Nat.le_refl _) | (with_reducible assumption) | omega | (simp; done) | (simp; omega))) | ((with_reducible refine Below.alloc ?_ ?side_ _); case side_ => (first | (with_reducible exact Nat.le_refl _) | (with_reducible assumption) | omega | (simp; done) | (simp; omega))) | ((with_reducible refine Below.trans ?_ (hb1.mono ?side_)); case side_ => (first | (with_reducible exact Nat.le_refl _) | (with_reducible assumption) | omega | (simp; done) | (simp; omega))) | ((with_reducible refine Below.trans ?_ (hb2.mono ?side_)); case side_ => (first | (with_reducible exact Nat.le_refl _) | (with_reducible assumption) | omega | (simp; done) | (simp; omega)))))
set_option maxHeartbeats 2000000 in
theorem bent_calls (g : Nat) (a b d : Int) (w : World) (h0 : w.cell? ⟨g, 0, none⟩ = some (.int .i64 a)) (h1 : w.cell? ⟨g, 1, none⟩ = some (.int .i64 b)) (h2 : w.cell? ⟨g, 2, none⟩ = some (.int .i64 d)) (ha : R40 a) (hb : R40 b) (hd : R40 d) :
    Calls Try.prog 53 #[.slice (some ⟨g, 0, none⟩) 3 3] w fun e w' => e = .returned (.int .i64 (a - 2 * b + d)) ∧ Below w.heap.size w w' := by
  unfold R40 at ha hb hd
  have e1 : wrap64 (2 * b) = 2 * b := w64 (by omega) (by omega)
  have e2 : wrap64 (a - 2 * b) = a - 2 * b := w64 (by omega) (by omega)
  have e3 : wrap64 (a - 2 * b + d) = a - 2 * b + d := w64 (by omega) (by omega)
  go_enter Try.func53, Try.ntmps53
  go_wp2
  have hd0 : w.drew.cell? ⟨g, 0, none⟩ = some (.int .i64 a) := h0
  have hd1 : w.drew.cell? ⟨g, 1, none⟩ = some (.int .i64 b) := h1
  have hd2 : w.drew.cell? ⟨g, 2, none⟩ = some (.int .i64 d) := h2
  go_region
  all_goals go_wp2
  all_goals refine bodyPost_ret (v := .int .i64 (a - 2 * b + d)) (by simp [results, Try.results53, go_sem]) rfl ⟨rfl, by (repeat' (first | (with_reducible exact Below.refl _ _) | (with_reducible refine Below.drew ?_) | (with_reducible refine below_drewN ?_ _) | ((with_reducible refine Below.setCell ?_ ?side_ _); case side_ => (first | (with_reducible exact Nat.le_refl _) | (with_reducible assumption) | omega | (simp; done) | (simp; omega))) | ((with_reducible refine Below.alloc ?_ ?side_ _); case side_ => (first | (with_reducible exact Nat.le_refl _) | (with_reducible assumption) | omega | (simp; done) | (simp; omega)))))⟩
set_option maxHeartbeats 8000000 in
theorem bothbent_calls (g o c : Nat) (a b d e i j : Int) (hr : R40 a ∧ R40 b ∧ R40 d ∧ R40 e ∧ R40 i ∧ R40 j) (w : World) (hg : g < w.heap.size) (hc : 3 ≤ c)
    (h0 : w.cell? ⟨g, o, none⟩ = some (.int .i64 a)) (h1 : w.cell? ⟨g, o + 1, none⟩ = some (.int .i64 b)) (h2 : w.cell? ⟨g, o + 2, none⟩ = some (.int .i64 d)) (h3 : w.cell? ⟨g, o + 3, none⟩ = some (.int .i64 e)) (h4 : w.cell? ⟨g, o + 4, none⟩ = some (.int .i64 i)) (h5 : w.cell? ⟨g, o + 5, none⟩ = some (.int .i64 j)) :
    Calls Try.prog 46 #[.slice (some ⟨g, o, none⟩) 3 c, .func (.func 53) #[] #[]] w fun e' w' => e' = .returned (.agg #[.int .i64 (a - 2 * d + i), .int .i64 (b - 2 * e + j)]) ∧ Below w.heap.size w w' := by
  have z1 : g < w.heap.size + 1 := by omega
  have z2 : g < w.heap.size + 1 + 1 := by omega
  have z3 : g < w.heap.size + 1 + 1 + 1 := by omega
  have z4 : g < w.heap.size + 1 + 1 + 1 + 1 := by omega
  have z5 : g < w.heap.size + 1 + 1 + 1 + 1 + 1 := by omega
  unfold R40 at hr
  go_enter Try.func46, Try.ntmps46
  go_wp2
  go_region
  all_goals go_wp2
  all_goals refine wp_loop_rounds 4 ?_
  all_goals rw [rounds_succ]
  all_goals go_wp2
  all_goals go_region
  all_goals go_wp2
  all_goals rw [rounds_succ]
  all_goals go_wp2
  all_goals go_region
  all_goals go_wp2
  all_goals rw [rounds_succ]
  all_goals go_wp2
  all_goals go_region
  all_goals go_wp2
  all_goals rw [rounds_succ]
  all_goals go_wp2_with (first
    | (go_at_call 53; ((with_reducible refine (bent_calls _ a d i _ (by simp [go_sem]) (by simp [go_sem]) (by simp [go_sem]) (by unfold R40; omega) (by unfold R40; omega) (by unfold R40; omega)).mono ?_); rintro e' w1 ⟨rfl, hb1⟩; obtain ⟨hc1, hf1⟩ := bcell hb1; have hs1 := hb1.size; simp only [World.size_alloc, World.size_drew, World.size_setCell] at hs1))
    | (go_at_call 53; ((with_reducible refine (bent_calls _ b e j _ ((hc1 _ _ (by simp)).trans (by simp [go_sem])) ((hc1 _ _ (by simp)).trans (by simp [go_sem])) ((hc1 _ _ (by simp)).trans (by simp [go_sem])) (by unfold R40; omega) (by unfold R40; omega) (by unfold R40; omega)).mono ?_); rintro e' w2 ⟨rfl, hb2⟩; obtain ⟨hc2, hf2⟩ := bcell hb2; have k0 := ((hc2 w.heap.size 0 (by omega)).trans (hc1 w.heap.size 0 (by simp; omega))).trans (show _ = some (Value.int .i64 0) by simp [go_sem]); have k1 := ((hc2 w.heap.size 1 (by omega)).trans (hc1 w.heap.size 1 (by simp; omega))).trans (show _ = some (Value.int .i64 0) by simp [go_sem]); have f0 := ((hf2 w.heap.size 0 (by omega)).trans (hf1 w.heap.size 0 (by simp; omega))).trans (show _ = false by simp [go_sem]); have f1 := ((hf2 w.heap.size 1 (by omega)).trans (hf1 w.heap.size 1 (by simp; omega))).trans (show _ = false by simp [go_sem]); clear hc1 hf1 hc2 hf2)))
  all_goals
    refine bodyPost_ret (v := .agg #[.int .i64 (a - 2 * d + i), .int .i64 (b - 2 * e + j)]) (by simp [results, Try.results46, go_sem, k0, k1]) rfl ⟨rfl, ?_⟩
    have z_hb1 := hb1.size; (try simp at z_hb1); have z_hb2 := hb2.size; (try simp at z_hb2); (repeat' (first | (with_reducible exact Below.refl _ _) | (with_reducible refine Below.drew ?_) | (with_reducible refine below_drewN ?_ _) | ((with_reducible refine Below.setCell ?_ ?side_ _); case side_ => (first | (with_reducible exact Nat.le_refl _) | (with_reducible assumption) | omega | (simp; done) | (simp; omega))) | ((with_reducible refine Below.alloc ?_ ?side_ _); case side_ => (first | (with_reducible exact Nat.le_refl _) | (with_reducible assumption) | omega | (simp; done) | (simp; omega))) | ((with_reducible refine Below.trans ?_ (hb1.mono ?side_)); case side_ => (first | (with_reducible exact Nat.le_refl _) | (with_reducible assumption) | omega | (simp; done) | (simp; omega))) | ((with_reducible refine Below.trans ?_ (hb2.mono ?side_)); case side_ => (first | (with_reducible exact Nat.le_refl _) | (with_reducible assumption) | omega | (simp; done) | (simp; omega)))))
end Go.Proofs.Ytdhegcjclfllmaa.PC
