-- Printed by xprint.py, a program of this session: the kit's print, with own texts for some functions.
import Derived.Test.YtdhegcjclfllmaaPCx0
namespace Go.Proofs.Ytdhegcjclfllmaa.PC
open Go.RowKit Go.Proofs.YtdhegcjclfllmaaW.PrintWords Go.Proofs.YtdhegcjclfllmaaW.PrintLast Go.Proofs.YtdhegcjclfllmaaW.PrintMore
attribute [local go_sem] max2_int min2_int max_two min_two max_three min_three max_four min_four   -- for this text's walks alone
set_option linter.unusedVariables false
set_option linter.unusedSimpArgs false

/-! ### pointillistref11_bent: function 54 -/
def pointillistref11_bent.f (a0 : Int) (a1 : Int) (a2 : Int) : Option (Bool) := if (wrap64 ((wrap64 (a0 - (wrap64 (2 * a1)))) + a2)) ≤ 512 then (some (decide ((wrap64 ((wrap64 (a0 - (wrap64 (2 * a1)))) + a2)) ≥ (-512)))) else (some false)
set_option maxHeartbeats 8000000 in
set_option maxRecDepth 100000 in
theorem pointillistref11_bent.calls (a0 : Int) (a1 : Int) (a2 : Int) (r : Bool) (w : World) (h : pointillistref11_bent.f a0 a1 a2 = some r) :
    Calls Try.prog 54 #[.int .i64 a0, .int .i64 a1, .int .i64 a2] w fun e w' => e = .returned (.bool r) ∧ Drawn0 w w' := by
  have H : (if (wrap64 ((wrap64 (a0 - (wrap64 (2 * a1)))) + a2)) ≤ 512 then (some (decide ((wrap64 ((wrap64 (a0 - (wrap64 (2 * a1)))) + a2)) ≥ (-512)))) else (some false)) = some r := h
  clear h
  by_cases c4 : (wrap64 ((wrap64 (a0 - (wrap64 (2 * a1)))) + a2)) ≤ 512
  · rw [if_pos c4] at H
    have c4b0 : decide ((wrap64 ((wrap64 (a0 - (wrap64 (2 * a1)))) + a2)) ≤ 512) = true := decide_eq_true c4
    clear c4
    obtain rfl := Option.some.inj H
    go_enter Try.func54, Try.ntmps54
    go_wp2
    go_ret
    exact ⟨by first | rfl | (simp; done) | (simp [*]; done), by repeat (first | exact Drawn0.refl _ | apply Drawn0.step)⟩
  · rw [if_neg c4] at H
    have c4b0 : decide ((wrap64 ((wrap64 (a0 - (wrap64 (2 * a1)))) + a2)) ≤ 512) = false := decide_eq_false c4
    clear c4
    obtain rfl := Option.some.inj H
    go_enter Try.func54, Try.ntmps54
    go_wp2
    go_ret
    exact ⟨by first | rfl | (simp; done) | (simp [*]; done), by repeat (first | exact Drawn0.refl _ | apply Drawn0.step)⟩

end Go.Proofs.Ytdhegcjclfllmaa.PC
