-- Printed by xprint.py, a program of this session: the kit's print, with own texts for some functions.
import Derived.Test.YtjdpmaachehpnaaPEx0
namespace Go.Proofs.Ytjdpmaachehpnaa.PE
open Go.RowKit Go.Proofs.YtjdpmaachehpnaaW.PrintWords Go.Proofs.YtjdpmaachehpnaaW.PrintLast Go.Proofs.YtjdpmaachehpnaaW.PrintMore
attribute [local go_sem] max2_int min2_int max_two min_two max_three min_three max_four min_four   -- for this text's walks alone
set_option linter.unusedVariables false
set_option linter.unusedSimpArgs false

/-! ### pointillistlaw15_beside: function 21 -/
def pointillistlaw15_beside.f (a0 : Int) (a1 : Int) : Option (Bool) := if (wrap64 (a0 - a1)) ≤ 1 then (some (decide ((wrap64 (a1 - a0)) ≤ 1))) else (some false)
set_option maxHeartbeats 8000000 in
set_option maxRecDepth 100000 in
theorem pointillistlaw15_beside.calls (a0 : Int) (a1 : Int) (r : Bool) (w : World) (h : pointillistlaw15_beside.f a0 a1 = some r) :
    Calls Try.prog 21 #[.int .i64 a0, .int .i64 a1] w fun e w' => e = .returned (.bool r) ∧ Drawn0 w w' := by
  have H : (if (wrap64 (a0 - a1)) ≤ 1 then (some (decide ((wrap64 (a1 - a0)) ≤ 1))) else (some false)) = some r := h
  clear h
  by_cases c3 : (wrap64 (a0 - a1)) ≤ 1
  · rw [if_pos c3] at H
    have c3b0 : decide ((wrap64 (a0 - a1)) ≤ 1) = true := decide_eq_true c3
    clear c3
    obtain rfl := Option.some.inj H
    go_enter Try.func21, Try.ntmps21
    go_wp2
    go_ret
    exact ⟨by first | rfl | (simp; done) | (simp [*]; done), by repeat (first | exact Drawn0.refl _ | apply Drawn0.step)⟩
  · rw [if_neg c3] at H
    have c3b0 : decide ((wrap64 (a0 - a1)) ≤ 1) = false := decide_eq_false c3
    clear c3
    obtain rfl := Option.some.inj H
    go_enter Try.func21, Try.ntmps21
    go_wp2
    go_ret
    exact ⟨by first | rfl | (simp; done) | (simp [*]; done), by repeat (first | exact Drawn0.refl _ | apply Drawn0.step)⟩

end Go.Proofs.Ytjdpmaachehpnaa.PE
