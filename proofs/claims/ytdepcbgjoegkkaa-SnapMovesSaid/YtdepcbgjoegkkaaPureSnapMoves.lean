/- A number that is moved by 64ths is snapped to what it was snapped to, moved, and the greater of two numbers isn't snapped to less: for every input, without a condition. -/
import Derived.Test.YtdepcbgjoegkkaaPSnapMovesx1
import Derived.Test.YtdepcbgjoegkkaaSnapNum
namespace Go.Proofs.Ytdepcbgjoegkkaa.Pure
open Go.RowKit Go.Proofs.Ytdepcbgjoegkkaa.PSnapMoves Go.Proofs.YtdepcbgjoegkkaaW.PrintWords Go.Proofs.YtdepcbgjoegkkaaW.PrintLast Go.Proofs.Ytdepcbgjoegkkaa.Num

namespace SnapMovesL
theorem number {n : Int} (h0 : -9223372036854775808 ≤ n) (h1 : n ≤ 9223372036854775295) : snap_Number.f n = some (snapN n) := by
  unfold snap_Number.f; rw [snap_bits h0 h1]
theorem wakes : pointillistlaw14_wakes.f = some true := by
  unfold pointillistlaw14_wakes.f
  rw [number (by omega) (by omega), number (by omega) (by omega), number (by omega) (by omega), number (by omega) (by omega)]
  decide
theorem j1 (a b c : Int) (k : Nat) (ha : -1152921504606846976 ≤ a) (ha1 : a ≤ 1152921504606846976) (hb : -1152921504606846976 ≤ b) (hb1 : b ≤ 1152921504606846976) (h : a ≤ b)
    (hc : -2147483648 ≤ c) (hc1 : c ≤ 2147483647) : pointillistlaw14_SnapMoves.j1 (k + 1) a b c = some true := by
  simp only [pointillistlaw14_SnapMoves.j1]
  have e1 : wrap64 c = c := wrap64_in (by omega) (by omega)
  have e2 : wrap64 (c * 1024) = c * 1024 := wrap64_in (by omega) (by omega)
  have e3 : wrap64 (a + c * 1024) = a + c * 1024 := wrap64_in (by omega) (by omega)
  have e4 : wrap64 (snapN a + c * 1024) = snapN a + c * 1024 := by unfold snapN; exact wrap64_in (by omega) (by omega)
  rw [e1, e2, e3, number (by omega) (by omega), number (by omega) (by omega), number (by omega) (by omega)]
  simp only [Option.bind_some, e4]
  rw [if_pos (by unfold snapN; omega)]
  have : snapN a ≤ snapN b := by unfold snapN; omega
  simp [this]
theorem j0 (a b c : Int) (k : Nat) (t : Bool) (ht : t = false → -1152921504606846976 ≤ a ∧ a ≤ 1152921504606846976 ∧ -1152921504606846976 ≤ b ∧ b ≤ 1152921504606846976)
    (hc : -2147483648 ≤ c) (hc1 : c ≤ 2147483647) : pointillistlaw14_SnapMoves.j0 (k + 2) a b c t = some true := by
  simp only [pointillistlaw14_SnapMoves.j0]
  cases t with
  | true => simp
  | false =>
    obtain ⟨h1, h2, h3, h4⟩ := ht rfl
    rw [if_neg (by decide)]
    by_cases h : a > b
    · rw [if_pos h]; exact j1 b a c k h3 h4 h1 h2 (by omega) hc hc1
    · rw [if_neg h]; exact j1 a b c k h1 h2 h3 h4 (by omega) hc hc1
end SnapMovesL
open SnapMovesL in
theorem SnapMoves : pointillistlaw14_SnapMoves.Pure := by
  intro a b c ha hb hc
  have ha := wf_i64 ha
  have hb := wf_i64 hb
  have hc := wf_i32 hc
  refine ⟨2, ?_⟩
  unfold pointillistlaw14_SnapMoves.f
  rw [wakes]; simp only [Option.bind_some, if_true]
  split
  · exact j0 a b c 0 true (fun h => by cases h) hc.1 hc.2
  split
  · exact j0 a b c 0 true (fun h => by cases h) hc.1 hc.2
  split
  · exact j0 a b c 0 true (fun h => by cases h) hc.1 hc.2
  · refine j0 a b c 0 _ (fun h => ?_) hc.1 hc.2
    have h := of_decide_eq_false h
    omega

end Go.Proofs.Ytdepcbgjoegkkaa.Pure
