/- Any number is snapped to the document's, near what it was, and then it stays, and points are snapped number by number: for every input, without a condition. -/
import Derived.Test.YtdepcbgjoegkkaaPSnapNumbersx2
import Derived.Test.YtdepcbgjoegkkaaSnapNum
namespace Go.Proofs.Ytdepcbgjoegkkaa.Pure
open Go.RowKit Go.Proofs.Ytdepcbgjoegkkaa.PSnapNumbers Go.Proofs.YtdepcbgjoegkkaaW.PrintWords Go.Proofs.YtdepcbgjoegkkaaW.PrintLast Go.Proofs.Ytdepcbgjoegkkaa.Num

namespace SnapNumbersL
theorem number {n : Int} (h0 : -9223372036854775808 ≤ n) (h1 : n ≤ 9223372036854775295) : snap_Number.f n = some (snapN n) := by
  unfold snap_Number.f; rw [snap_bits h0 h1]
theorem wakes : pointillistlaw14_wakes.f = some true := by
  unfold pointillistlaw14_wakes.f
  rw [number (by omega) (by omega), number (by omega) (by omega), number (by omega) (by omega), number (by omega) (by omega)]
  decide
theorem refN {n : Int} (h0 : -4611686018427387904 ≤ n) (h1 : n ≤ 4611686018427387904) : pointillistref14_Number.f n = some (snapN n) := by
  unfold pointillistref14_Number.f snapN
  have hm : n.tmod 1024 = n % 1024 ∨ (n.tmod 1024 = n % 1024 - 1024 ∧ n % 1024 ≠ 0) := by
    rcases Int.le_total 0 n with h | h
    · left; exact Int.tmod_eq_emod_of_nonneg h
    · rw [Int.tmod_eq_emod]; by_cases hd : (1024 : Int) ∣ n
      · left; simp [hd]
      · by_cases hn : 0 ≤ n
        · left; simp [hn]
        · right; refine ⟨by simp [hd, hn], fun e => hd (Int.dvd_of_emod_eq_zero e)⟩
  generalize n.tmod 1024 = t at *
  split
  · have e1 : wrap64 (t + 1024) = t + 1024 := wrap64_in (by omega) (by omega)
    have e2 : wrap64 (n - (t + 1024)) = n - (t + 1024) := wrap64_in (by omega) (by omega)
    rw [e1, e2]
    split
    · rw [wrap64_in (by omega) (by omega)]; congr 1; omega
    · congr 1; omega
  · have e2 : wrap64 (n - t) = n - t := wrap64_in (by omega) (by omega)
    rw [e2]
    split
    · rw [wrap64_in (by omega) (by omega)]; congr 1; omega
    · congr 1; omega
theorem j0 (a b : Int) (k : Nat) (t : Bool) (ht : t = false → -4611686018427387904 ≤ a ∧ a ≤ 4611686018427387904 ∧ -4611686018427387904 ≤ b ∧ b ≤ 4611686018427387904) : pointillistlaw14_SnapNumbers.j0 (k + 1) a b t = some true := by
  simp only [pointillistlaw14_SnapNumbers.j0]
  cases t with
  | true => simp
  | false =>
    obtain ⟨h1, h2, h3, h4⟩ := ht rfl
    have hs : a - 511 ≤ snapN a ∧ snapN a ≤ a + 512 := by unfold snapN; omega
    have hss : snapN (snapN a) = snapN a := by unfold snapN; omega
    rw [if_neg (by decide), number (by omega) (by omega), refN h1 h2]
    simp only [Option.bind_some, if_true]
    rw [wrap64_in (by omega) (by omega), wrap64_in (by omega) (by omega), if_pos (by omega), if_pos (by omega), number (by omega) (by omega), hss]
    simp only [Option.bind_some, if_true]
    unfold snap_Point.f
    rw [number (by omega) (by omega), number (by omega) (by omega), refN h3 h4]
    simp
end SnapNumbersL
open SnapNumbersL in
theorem SnapNumbers : pointillistlaw14_SnapNumbers.Pure := by
  intro a b ha hb
  have ha := wf_i64 ha
  have hb := wf_i64 hb
  refine ⟨1, ?_⟩
  unfold pointillistlaw14_SnapNumbers.f
  rw [wakes]; simp only [Option.bind_some, if_true]
  split
  · exact j0 a b 0 true (fun h => by cases h)
  split
  · exact j0 a b 0 true (fun h => by cases h)
  split
  · exact j0 a b 0 true (fun h => by cases h)
  · refine j0 a b 0 _ (fun h => ?_)
    have h := of_decide_eq_false h
    omega

end Go.Proofs.Ytdepcbgjoegkkaa.Pure
