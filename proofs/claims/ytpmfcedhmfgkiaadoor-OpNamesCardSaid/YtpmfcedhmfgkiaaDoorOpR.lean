/- Package ref20, walked: Source, Other, Dest: switches on a number. For all numbers. -/
import Derived.Test.YtpmfcedhmfgkiaaDoorOpW
namespace Go.Proofs.YtpmfcedhmfgkiaaDoor.Ops
open Go Go.RowKit
set_option maxRecDepth 100000
set_option linter.unusedVariables false
set_option linter.unusedSimpArgs false
def srcV (o d : Int) : Int := if o = 1 ∨ o = 3 then 255 else if o = 4 ∨ o = 7 ∨ o = 10 ∨ o = 11 then 255 - d else if o = 5 ∨ o = 9 then d else 0
def othV (o : Int) : Int := if o = 1 ∨ o = 3 ∨ o = 5 ∨ o = 7 ∨ o = 9 then o + 1 else if o = 2 ∨ o = 4 ∨ o = 6 ∨ o = 8 ∨ o = 10 then o - 1 else o

set_option maxHeartbeats 8000000 in
theorem source_calls (o d : Int) (d0 : 0 ≤ d) (d1 : d ≤ 255) (w : World) : Calls Tryd.prog 14 #[.int .i64 o, .int .i64 d] w fun e w' => e = .returned (.int .i64 (srcV o d)) ∧ w = w' := by
  unfold srcV
  by_cases h : o = 1 ∨ o = 3 ∨ o = 4 ∨ o = 7 ∨ o = 10 ∨ o = 11 ∨ o = 5 ∨ o = 9
  · rcases h with rfl | rfl | rfl | rfl | rfl | rfl | rfl | rfl
    all_goals
      simp only [if_true, if_false, reduceIte, Int.reduceEq, or_false, or_true, false_or, true_or]
      go_enter Tryd.func14, Tryd.ntmps14
      go_wp2
      go_ret
      exact ⟨by simp, rfl⟩
  · have e1 : ¬ (o = 1 ∨ o = 3) := by omega
    have e2 : ¬ (o = 4 ∨ o = 7 ∨ o = 10 ∨ o = 11) := by omega
    have e3 : ¬ (o = 5 ∨ o = 9) := by omega
    rw [if_neg e1, if_neg e2, if_neg e3]
    have n1 : o ≠ 1 := by omega
    have n3 : o ≠ 3 := by omega
    have n4 : o ≠ 4 := by omega
    have n7 : o ≠ 7 := by omega
    have n10 : o ≠ 10 := by omega
    have n11 : o ≠ 11 := by omega
    have n5 : o ≠ 5 := by omega
    have n9 : o ≠ 9 := by omega
    clear h e1 e2 e3
    go_enter Tryd.func14, Tryd.ntmps14
    go_wp2
    go_ret
    exact ⟨by simp, rfl⟩

set_option maxHeartbeats 8000000 in
theorem other_calls (o : Int) (w : World) : Calls Tryd.prog 18 #[.int .i64 o] w fun e w' => e = .returned (.int .i64 (othV o)) ∧ w = w' := by
  unfold othV
  by_cases h : o = 1 ∨ o = 2 ∨ o = 3 ∨ o = 4 ∨ o = 5 ∨ o = 6 ∨ o = 7 ∨ o = 8 ∨ o = 9 ∨ o = 10
  · rcases h with rfl | rfl | rfl | rfl | rfl | rfl | rfl | rfl | rfl | rfl
    all_goals
      simp only [if_true, if_false, reduceIte, Int.reduceEq, or_false, or_true, false_or, true_or]
      go_enter Tryd.func18, Tryd.ntmps18
      go_wp2
      go_ret
      exact ⟨by simp, rfl⟩
  · have e1 : ¬ (o = 1 ∨ o = 3 ∨ o = 5 ∨ o = 7 ∨ o = 9) := by omega
    have e2 : ¬ (o = 2 ∨ o = 4 ∨ o = 6 ∨ o = 8 ∨ o = 10) := by omega
    rw [if_neg e1, if_neg e2]
    have n1 : o ≠ 1 := by omega
    have n2 : o ≠ 2 := by omega
    have n3 : o ≠ 3 := by omega
    have n4 : o ≠ 4 := by omega
    have n5 : o ≠ 5 := by omega
    have n6 : o ≠ 6 := by omega
    have n7 : o ≠ 7 := by omega
    have n8 : o ≠ 8 := by omega
    have n9 : o ≠ 9 := by omega
    have n10 : o ≠ 10 := by omega
    clear h e1 e2
    go_enter Tryd.func18, Tryd.ntmps18
    go_wp2
    go_ret
    exact ⟨by simp, rfl⟩
end Go.Proofs.YtpmfcedhmfgkiaaDoor.Ops
