/- The law WideSums, walked: the sum of any numbers is ref01's. In a world that holds nought. -/
import Derived.Test.YtngnkgnobgfjeaaDoorWideAd
import Derived.Test.YtngnkgnobgfjeaaDoorRefS
namespace Go.Proofs.YtngnkgnobgfjeaaDoor.Wide
open Go Go.RowKit Open
set_option maxRecDepth 100000
set_option linter.unusedVariables false
set_option linter.unusedSimpArgs false

theorem rsum_eq : ∀ l : List Int, Ref.rsum l = sumV l
  | [] => rfl
  | a :: l => by simp only [Ref.rsum, sumV, rsum_eq l]
set_option maxHeartbeats 4000000 in
theorem sums_calls (A : Option Addr) (l : List Int) (cap : Nat) (hm : l.length ≤ maxLen) (w : World) (hA : IntRow w .i64 A l) (hN : Nought w) :
    Calls Tryd.prog 3 #[.slice A l.length cap] w fun e w' => e = .returned (.bool true) ∧ Below w.heap.size w w' := by
  by_cases hl : l.length ≤ 100
  · have M := Lib.hid (fun (w1 : World) (hb : Below w.heap.size w w1) => sum_calls A l cap w1 (hA.below hb) hl (hN.below hb))
    have R := fun (w1 : World) (hb : Below w.heap.size w w1) => Ref.rsum_calls A l cap w1 (hA.below hb) hl
    rw [rsum_eq] at R
    have R' : ∀ (w1 : World) (hb : Below w.heap.size w w1), Calls Tryd.prog 6 #[.slice A l.length cap] w1 fun e w' => e = .returned (.tuple #[.int .i64 (fitV (sumV l)), .bool (fitB (sumV l))]) ∧ Below w1.heap.size w1 w' := R
    have RR := Lib.hid R'
    have q1 : ∀ n : Int, (n == n) = true := fun n => by simp
    have q2 : ∀ b : Bool, (b == b) = true := fun b => by cases b <;> rfl
    have hl1 : ¬ (100 : Int) < (l.length : Int) := by omega
    clear R R'
    go_enter Tryd.func3, Tryd.ntmps3
    go_wp2_with (first
      | (go_at_call 4; ((with_reducible refine (wakes01_calls _).mono ?_); rintro e w1 ⟨rfl, hb1⟩))
      | (go_at_call 5; ((with_reducible refine (M.out _ hb1).mono ?_); rintro e w2 ⟨rfl, hb2⟩; have hb12 := below_more hb1 hb2))
      | (go_at_call 6; ((with_reducible refine (RR.out _ hb12).mono ?_); rintro e w3 ⟨rfl, hb3⟩)))
    all_goals
      go_ret
      exact ⟨by simp, below_more hb12 hb3⟩
  · have hl1 : (100 : Int) < (l.length : Int) := by omega
    go_enter Tryd.func3, Tryd.ntmps3
    go_wp2_with (go_at_call 4; ((with_reducible refine (wakes01_calls _).mono ?_); rintro e w1 ⟨rfl, hb1⟩))
    all_goals
      go_ret
      exact ⟨rfl, hb1⟩
end Go.Proofs.YtngnkgnobgfjeaaDoor.Wide
