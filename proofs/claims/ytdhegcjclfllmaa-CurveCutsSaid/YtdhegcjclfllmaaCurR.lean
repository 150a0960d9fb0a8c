/- Package curve's of and Right, walked: a curve's four points; may it be? -/
import Derived.Test.YtdhegcjclfllmaaPCx0
import Derived.Test.YtdhegcjclfllmaaWideN
import Derived.Test.YtdhegcjclfllmaaCurQ
import Derived.Test.YtdhegcjclfllmaaWm1
import Derived.Test.YtdhegcjclfllmaaProg
import Derived.WalkKit
import Derived.OwnWalk
import Derived.Handy
import Derived.KernelRfl
import Derived.Below
import Derived.WideLaws
import Derived.Lib.Hide
namespace Go.Proofs.Ytdhegcjclfllmaa.PC
open Go Go.RowKit
set_option maxRecDepth 100000
set_option linter.unusedVariables false
set_option linter.unusedSimpArgs false
theorem of_calls (a b c d e f g h : Int) (w : World) :
    Calls Try.prog 48 #[.agg #[.int .i64 a, .int .i64 b, .int .i64 c, .int .i64 d, .int .i64 e, .int .i64 f, .int .i64 g, .int .i64 h]] w fun r w' => r = .returned (.agg #[.int .i64 a, .int .i64 b, .int .i64 c, .int .i64 d, .int .i64 e, .int .i64 f, .int .i64 g, .int .i64 h]) ∧ Below w.heap.size w w' := by
  go_enter Try.func48, Try.ntmps48
  go_wp2
  refine bodyPost_ret (v := .agg #[.int .i64 a, .int .i64 b, .int .i64 c, .int .i64 d, .int .i64 e, .int .i64 f, .int .i64 g, .int .i64 h]) (by simp [results, Try.results48, go_sem]) rfl ⟨rfl, ?_⟩
  (repeat' (first | (with_reducible exact Below.refl _ _) | (with_reducible refine Below.drew ?_) | (with_reducible refine below_drewN ?_ _) | ((with_reducible refine Below.setCell ?_ ?side_ _); case side_ => (first | (with_reducible exact Nat.le_refl _) | (with_reducible assumption) | omega | (simp; done) | (simp; omega))) | ((with_reducible refine Below.alloc ?_ ?side_ _); case side_ => (first | (with_reducible exact Nat.le_refl _) | (with_reducible assumption) | omega | (simp; done) | (simp; omega)))))
theorem run_ix0 (v0 v1 v2 v3 v4 v5 v6 v7 : Value) (w : World) : (Instr.index 56 (.agg #[v0, v1, v2, v3, v4, v5, v6, v7]) (.int .i64 0)).run Try.prog w = .ok (.agg #[v0, v1]) w := by kernel_rfl
theorem run_ix1 (v0 v1 v2 v3 v4 v5 v6 v7 : Value) (w : World) : (Instr.index 56 (.agg #[v0, v1, v2, v3, v4, v5, v6, v7]) (.int .i64 1)).run Try.prog w = .ok (.agg #[v2, v3]) w := by kernel_rfl
theorem run_ix2 (v0 v1 v2 v3 v4 v5 v6 v7 : Value) (w : World) : (Instr.index 56 (.agg #[v0, v1, v2, v3, v4, v5, v6, v7]) (.int .i64 2)).run Try.prog w = .ok (.agg #[v4, v5]) w := by kernel_rfl
theorem run_ix3 (v0 v1 v2 v3 v4 v5 v6 v7 : Value) (w : World) : (Instr.index 56 (.agg #[v0, v1, v2, v3, v4, v5, v6, v7]) (.int .i64 3)).run Try.prog w = .ok (.agg #[v6, v7]) w := by kernel_rfl
attribute [local go_sem] run_ix0 run_ix1 run_ix2 run_ix3
def rightB (a b c d e f g h : Int) : Bool := [a, b].all (Wide.inB 1099511627777) && ([c, d].all (Wide.inB 1099511627777) && ([e, f].all (Wide.inB 1099511627777) && [g, h].all (Wide.inB 1099511627777)))
def curve_Right.f (a b c d e f g h : Int) : Option Bool := if (-9223372036854775808 ≤ a ∧ a ≤ 9223372036854775807) ∧ (-9223372036854775808 ≤ b ∧ b ≤ 9223372036854775807) ∧ (-9223372036854775808 ≤ c ∧ c ≤ 9223372036854775807) ∧ (-9223372036854775808 ≤ d ∧ d ≤ 9223372036854775807) ∧ (-9223372036854775808 ≤ e ∧ e ≤ 9223372036854775807) ∧ (-9223372036854775808 ≤ f ∧ f ≤ 9223372036854775807) ∧ (-9223372036854775808 ≤ g ∧ g ≤ 9223372036854775807) ∧ (-9223372036854775808 ≤ h ∧ h ≤ 9223372036854775807) then some (rightB a b c d e f g h) else none
theorem i64_wf {x : Int} (h : -9223372036854775808 ≤ x ∧ x ≤ 9223372036854775807) : (Lit.int .i64 x).wf = true := by
  simp [Lit.wf, IntKind.min, IntKind.max, IntKind.signed, IntKind.bits]; omega
theorem pair_row {w : World} {g : Nat} {a b : Int} (hg : g < w.heap.size) (ha : (-9223372036854775808 ≤ a ∧ a ≤ 9223372036854775807)) (hb : (-9223372036854775808 ≤ b ∧ b ≤ 9223372036854775807)) (h0 : w.cell? ⟨g, 0, none⟩ = some (.int .i64 a)) (h1 : w.cell? ⟨g, 1, none⟩ = some (.int .i64 b)) : Open.IntRow w .i64 (some ⟨g, 0, none⟩) [a, b] := by
  refine ⟨fun i hi => ?_, fun z hz => ?_⟩
  · refine ⟨g, 0, rfl, hg, ?_⟩
    match i, hi with
    | 0, _ => simpa using h0
    | 1, _ => simpa using h1
  · simp at hz
    rcases hz with rfl | rfl
    · exact i64_wf ha
    · exact i64_wf hb
set_option maxHeartbeats 8000000 in
theorem curve_Right.calls (a b c d e f g h : Int) (r : Bool) (w : World) (hf : curve_Right.f a b c d e f g h = some r) :
    Calls Try.prog 17 #[.agg #[.int .i64 a, .int .i64 b, .int .i64 c, .int .i64 d, .int .i64 e, .int .i64 f, .int .i64 g, .int .i64 h]] w fun e w' => e = .returned (.bool r) ∧ Below w.heap.size w w' := by
  unfold curve_Right.f at hf
  split at hf
  case isFalse => cases hf
  rename_i hr
  obtain ⟨ha, hb, hc, hd, he, hf', hg, hh⟩ := hr
  injection hf with hf
  subst hf
  unfold rightB
  generalize q1 : [a, b].all (Wide.inB 1099511627777) = r1
  generalize q2 : [c, d].all (Wide.inB 1099511627777) = r2
  generalize q3 : [e, f].all (Wide.inB 1099511627777) = r3
  generalize q4 : [g, h].all (Wide.inB 1099511627777) = r4
  have W1 := fun g0 w h0 => Wide.within_calls 1099511627777 (some ⟨g0, 0, none⟩) [a, b] 2 (by omega) (by omega) (by simp [maxLen]) w h0
  have W2 := fun g0 w h0 => Wide.within_calls 1099511627777 (some ⟨g0, 0, none⟩) [c, d] 2 (by omega) (by omega) (by simp [maxLen]) w h0
  have W3 := fun g0 w h0 => Wide.within_calls 1099511627777 (some ⟨g0, 0, none⟩) [e, f] 2 (by omega) (by omega) (by simp [maxLen]) w h0
  have W4 := fun g0 w h0 => Wide.within_calls 1099511627777 (some ⟨g0, 0, none⟩) [g, h] 2 (by omega) (by omega) (by simp [maxLen]) w h0
  simp only [q1, q2, q3, q4, List.length_cons, List.length_nil, Nat.zero_add, Nat.reduceAdd] at W1 W2 W3 W4
  clear q1 q2 q3 q4
  go_enter Try.func17, Try.ntmps17
  go_wp2_with (go_at_call 48; ((with_reducible refine (of_calls a b c d e f g h _).mono ?_); rintro e' w1 ⟨rfl, hb1⟩))
  refine wp_loop_rounds 5 ?_
  rw [rounds_succ]
  rcases r1 with _ | _
  · go_wp2_with (go_at_call 49; ((with_reducible refine (W1 _ _ (pair_row (by simp) ha hb (by simp [go_sem]) (by simp [go_sem]))).mono ?_); rintro e' w2 ⟨rfl, rfl⟩))
    refine bodyPost_ret (v := .bool false) (by simp [results, Try.results17, go_sem]) rfl ⟨by simp, ?_⟩
    have z_hb1 := hb1.size; (try simp at z_hb1); (repeat' (first | (with_reducible exact Below.refl _ _) | (with_reducible refine Below.drew ?_) | (with_reducible refine below_drewN ?_ _) | ((with_reducible refine Below.setCell ?_ ?side_ _); case side_ => (first | (with_reducible exact Nat.le_refl _) | (with_reducible assumption) | omega | (simp; done) | (simp; omega))) | ((with_reducible refine Below.alloc ?_ ?side_ _); case side_ => (first | (with_reducible exact Nat.le_refl _) | (with_reducible assumption) | omega | (simp; done) | (simp; omega))) | ((with_reducible refine Below.trans ?_ (hb1.mono ?side_)); case side_ => (first | (with_reducible exact Nat.le_refl _) | (with_reducible assumption) | omega | (simp; done) | (simp; omega)))))
  go_wp2_with (go_at_call 49; ((with_reducible refine (W1 _ _ (pair_row (by simp) ha hb (by simp [go_sem]) (by simp [go_sem]))).mono ?_); rintro e' w2 ⟨rfl, rfl⟩))
  rw [rounds_succ]
  rcases r2 with _ | _
  · go_wp2_with (go_at_call 49; ((with_reducible refine (W2 _ _ (pair_row (by simp) hc hd (by simp [go_sem]) (by simp [go_sem]))).mono ?_); rintro e' w2 ⟨rfl, rfl⟩))
    refine bodyPost_ret (v := .bool false) (by simp [results, Try.results17, go_sem]) rfl ⟨by simp, ?_⟩
    have z_hb1 := hb1.size; (try simp at z_hb1); (repeat' (first | (with_reducible exact Below.refl _ _) | (with_reducible refine Below.drew ?_) | (with_reducible refine below_drewN ?_ _) | ((with_reducible refine Below.setCell ?_ ?side_ _); case side_ => (first | (with_reducible exact Nat.le_refl _) | (with_reducible assumption) | omega | (simp; done) | (simp; omega))) | ((with_reducible refine Below.alloc ?_ ?side_ _); case side_ => (first | (with_reducible exact Nat.le_refl _) | (with_reducible assumption) | omega | (simp; done) | (simp; omega))) | ((with_reducible refine Below.trans ?_ (hb1.mono ?side_)); case side_ => (first | (with_reducible exact Nat.le_refl _) | (with_reducible assumption) | omega | (simp; done) | (simp; omega)))))
  go_wp2_with (go_at_call 49; ((with_reducible refine (W2 _ _ (pair_row (by simp) hc hd (by simp [go_sem]) (by simp [go_sem]))).mono ?_); rintro e' w2 ⟨rfl, rfl⟩))
  rw [rounds_succ]
  rcases r3 with _ | _
  · go_wp2_with (go_at_call 49; ((with_reducible refine (W3 _ _ (pair_row (by simp) he hf' (by simp [go_sem]) (by simp [go_sem]))).mono ?_); rintro e' w2 ⟨rfl, rfl⟩))
    refine bodyPost_ret (v := .bool false) (by simp [results, Try.results17, go_sem]) rfl ⟨by simp, ?_⟩
    have z_hb1 := hb1.size; (try simp at z_hb1); (repeat' (first | (with_reducible exact Below.refl _ _) | (with_reducible refine Below.drew ?_) | (with_reducible refine below_drewN ?_ _) | ((with_reducible refine Below.setCell ?_ ?side_ _); case side_ => (first | (with_reducible exact Nat.le_refl _) | (with_reducible assumption) | omega | (simp; done) | (simp; omega))) | ((with_reducible refine Below.alloc ?_ ?side_ _); case side_ => (first | (with_reducible exact Nat.le_refl _) | (with_reducible assumption) | omega | (simp; done) | (simp; omega))) | ((with_reducible refine Below.trans ?_ (hb1.mono ?side_)); case side_ => (first | (with_reducible exact Nat.le_refl _) | (with_reducible assumption) | omega | (simp; done) | (simp; omega)))))
  go_wp2_with (go_at_call 49; ((with_reducible refine (W3 _ _ (pair_row (by simp) he hf' (by simp [go_sem]) (by simp [go_sem]))).mono ?_); rintro e' w2 ⟨rfl, rfl⟩))
  rw [rounds_succ]
  rcases r4 with _ | _
  · go_wp2_with (go_at_call 49; ((with_reducible refine (W4 _ _ (pair_row (by simp) hg hh (by simp [go_sem]) (by simp [go_sem]))).mono ?_); rintro e' w2 ⟨rfl, rfl⟩))
    refine bodyPost_ret (v := .bool false) (by simp [results, Try.results17, go_sem]) rfl ⟨by simp, ?_⟩
    have z_hb1 := hb1.size; (try simp at z_hb1); (repeat' (first | (with_reducible exact Below.refl _ _) | (with_reducible refine Below.drew ?_) | (with_reducible refine below_drewN ?_ _) | ((with_reducible refine Below.setCell ?_ ?side_ _); case side_ => (first | (with_reducible exact Nat.le_refl _) | (with_reducible assumption) | omega | (simp; done) | (simp; omega))) | ((with_reducible refine Below.alloc ?_ ?side_ _); case side_ => (first | (with_reducible exact Nat.le_refl _) | (with_reducible assumption) | omega | (simp; done) | (simp; omega))) | ((with_reducible refine Below.trans ?_ (hb1.mono ?side_)); case side_ => (first | (with_reducible exact Nat.le_refl _) | (with_reducible assumption) | omega | (simp; done) | (simp; omega)))))
  go_wp2_with (go_at_call 49; ((with_reducible refine (W4 _ _ (pair_row (by simp) hg hh (by simp [go_sem]) (by simp [go_sem]))).mono ?_); rintro e' w2 ⟨rfl, rfl⟩))
  rw [rounds_succ]
  go_wp2
  refine bodyPost_ret (v := .bool true) (by simp [results, Try.results17, go_sem]) rfl ⟨by simp, ?_⟩
  have z_hb1 := hb1.size; (try simp at z_hb1); (repeat' (first | (with_reducible exact Below.refl _ _) | (with_reducible refine Below.drew ?_) | (with_reducible refine below_drewN ?_ _) | ((with_reducible refine Below.setCell ?_ ?side_ _); case side_ => (first | (with_reducible exact Nat.le_refl _) | (with_reducible assumption) | omega | (simp; done) | (simp; omega))) | ((with_reducible refine Below.alloc ?_ ?side_ _); case side_ => (first | (with_reducible exact Nat.le_refl _) | (with_reducible assumption) | omega | (simp; done) | (simp; omega))) | ((with_reducible refine Below.trans ?_ (hb1.mono ?side_)); case side_ => (first | (with_reducible exact Nat.le_refl _) | (with_reducible assumption) | omega | (simp; done) | (simp; omega)))))
end Go.Proofs.Ytdhegcjclfllmaa.PC
