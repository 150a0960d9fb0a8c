/- Chapter 16's cells as numbers: the document's are package cell's. For all strips and widths that may be asked about. -/
import Derived.Test.YtjdpmaachehpnaaCellP
import Derived.Test.YtjdpmaachehpnaaCells
import Derived.Test.YtjdpmaachehpnaaPEx15
import Derived.Test.YtjdpmaachehpnaaPEx17
namespace Go.Proofs.Ytjdpmaachehpnaa.Cell
open Go Go.RowKit Go.Proofs.Ytjdpmaachehpnaa.PE Go.Proofs.YtjdpmaachehpnaaW.PrintWords Go.Proofs.YtjdpmaachehpnaaW.PrintLast Go.Proofs.YtjdpmaachehpnaaW.PrintMore
set_option linter.unusedVariables false
set_option linter.unusedSimpArgs false
theorem wakes : pointillistlaw16_wakes.f = some true := by
  unfold pointillistlaw16_wakes.f
  rw [cells_f (v := 4) ⟨by decide, by decide, by decide, by decide, by decide, by decide⟩ (by decide) (by decide)]
  kernel_rfl
def fm (o : Option Cl) (l : List Cl) : List Cl := match o with | none => l | some b => b :: l
theorem fm_cons (f : Pc → Option Cl) (x : Pc) (xs : List Pc) : (x :: xs).filterMap f = fm (f x) (xs.filterMap f) := by
  rw [List.filterMap_cons]; cases f x <;> rfl
section
variable {X0 Y0 X1 Y1 w : Int}
theorem all_l0 (hd : Dom X0 Y0 X1 Y1 w) : ∀ (n i k : Nat) (acc : List Cl), i + n = (cuts X0 Y0 X1 Y1 w).length → acc.length ≤ i → 3 * n < k →
    pointillistref16_All.l0 k w acc (cuts X0 Y0 X1 Y1 w) (i : Int) = some (acc ++ ((cuts X0 Y0 X1 Y1 w).drop i).filterMap (cellOf w)) := by
  intro n
  have hs := cuts_short hd
  have hw0 := hd.w0
  have hw1 := hd.w1
  induction n with
  | zero =>
    intro i k acc e ha hk
    obtain ⟨k, rfl⟩ : ∃ m, k = m + 1 := ⟨k - 1, by omega⟩
    simp only [pointillistref16_All.l0]
    rw [if_neg (by omega), List.drop_of_length_le (by omega)]
    simp
  | succ n ihn =>
    intro i k acc e ha hk
    obtain ⟨k, rfl⟩ : ∃ m, k = m + 3 := ⟨k - 3, by omega⟩
    have hi : i < (cuts X0 Y0 X1 Y1 w).length := by omega
    have hrd : rd_T32 (cuts X0 Y0 X1 Y1 w) (i : Int) = (cuts X0 Y0 X1 Y1 w)[i] := by simp [rd_T32, hi]
    obtain ⟨⟨b0, b0'⟩, ⟨b1, b1'⟩, ⟨b2, b2'⟩, b3, b3'⟩ := cuts_mem hd (List.getElem?_eq_getElem hi)
    have ih := fun acc h => ihn (i + 1) k acc (by omega) h (by omega)
    clear ihn
    rw [List.drop_eq_getElem_cons hi, fm_cons]
    generalize (cuts X0 Y0 X1 Y1 w)[i] = x at *
    obtain ⟨p0, p1, p2, p3⟩ := x
    dsimp only at b0 b0' b1 b1' b2 b2' b3 b3'
    have hnext : ∀ _ : Unit, wrap64 ((i : Int) + 1) = ((i + 1 : Nat) : Int) := fun _ => by rw [w64 (by omega) (by omega)]; omega
    have ed : wrap64 (p3 - p1) = p3 - p1 := w64 (by omega) (by omega)
    have eD : -65536 ≤ p3 - p1 ∧ p3 - p1 ≤ 65536 := by omega
    have key : ∀ M, M = mn p0 p2 → pointillistref16_All.j1 (k + 2) w acc (cuts X0 Y0 X1 Y1 w) (i : Int) M p0 p1 p2 p3 = some (acc ++ fm (cellOf w ⟨p0, p1, p2, p3⟩) (((cuts X0 Y0 X1 Y1 w).drop (i + 1)).filterMap (cellOf w))) := by
      intro M hM
      have em1 : -17179869184 ≤ M ∧ M ≤ 17179869184 := by rw [hM]; unfold mn; split <;> omega
      have CD : cellOf w ⟨p0, p1, p2, p3⟩ = if p3 - p1 = 0 ∨ M / 65536 ≥ w then none else if M / 65536 < 0 then some ⟨0, ⟨p3 - p1, 0⟩⟩ else some ⟨M / 65536, ⟨p3 - p1, (p3 - p1) * (p0 + p2 - 2 * (M / 65536) * 65536)⟩⟩ := by rw [hM]; rfl
      have key2 : ∀ b : Bool, b = decide (p3 - p1 = 0 ∨ M / 65536 ≥ w) → pointillistref16_All.j2 (k + 1) w acc (cuts X0 Y0 X1 Y1 w) (i : Int) M (p3 - p1) b p0 p1 p2 p3 = some (acc ++ fm (cellOf w ⟨p0, p1, p2, p3⟩) (((cuts X0 Y0 X1 Y1 w).drop (i + 1)).filterMap (cellOf w))) := by
        intro b hb
        rw [CD]
        clear CD hM
        simp only [pointillistref16_All.j2]
        rw [hnext ()]
        by_cases hc : p3 - p1 = 0 ∨ M / 65536 ≥ w
        · rw [decide_eq_true hc] at hb
          rw [hb, if_pos rfl, if_pos hc, ih _ (by omega)]
          rfl
        · rw [decide_eq_false hc] at hb
          rw [hb, if_neg (by decide), if_neg hc]
          by_cases hn : M < 0
          · rw [if_pos hn, if_pos (by omega), if_pos (by omega), ih _ (by simp; omega), List.append_assoc]; rfl
          · rw [if_neg hn, if_pos (by omega), if_neg (by omega), ih _ (by simp; omega), List.append_assoc, Int.tdiv_eq_ediv_of_nonneg (by omega)]
            have e5 := mul_in (b := p0 + p2 - 2 * (M / 65536) * 65536) eD (by omega)
            rw [w64 (x := M / 65536) (by omega) (by omega), w64 (x := M / 65536 * 65536) (by omega) (by omega), w64 (x := p0 - M / 65536 * 65536) (by omega) (by omega), w64 (x := p0 - M / 65536 * 65536 + p2) (by omega) (by omega), w64 (x := p0 - M / 65536 * 65536 + p2 - M / 65536 * 65536) (by omega) (by omega)]
            rw [show p0 - M / 65536 * 65536 + p2 - M / 65536 * 65536 = p0 + p2 - 2 * (M / 65536) * 65536 by omega, w64 (x := (p3 - p1) * _) (by omega) (by omega)]
            rfl
      simp only [pointillistref16_All.j1]
      rw [ed, w64 (x := w * 65536) (by omega) (by omega)]
      split
      · exact key2 true (by rw [eq_comm, decide_eq_true_eq]; left; assumption)
      · exact key2 _ (by rw [decide_eq_decide]; omega)
    rw [show k + 3 = (k + 2) + 1 from rfl]
    simp only [pointillistref16_All.l0]
    rw [if_pos (by omega), if_pos (by omega), hrd]
    dsimp only
    split
    · exact key p2 (by unfold mn; rw [if_pos (by assumption)])
    · exact key p0 (by unfold mn; rw [if_neg (by assumption)])
theorem all_f (hd : Dom X0 Y0 X1 Y1 w) {k : Nat} (hk : 3 * (w.toNat + 4) < k) : pointillistref16_All.f k X0 Y0 X1 Y1 w = some (cells X0 Y0 X1 Y1 w) := by
  have h0 := hd.w0
  have hl := lN_le hd
  unfold pointillistref16_All.f
  rw [cuts_f hd (by omega)]
  simp only [Option.bind_some]
  have := all_l0 hd (cuts X0 Y0 X1 Y1 w).length 0 k [] (by omega) (by simp) (by rw [cuts_len]; omega)
  rw [List.drop_zero, List.nil_append] at this
  exact this
end
end Go.Proofs.Ytjdpmaachehpnaa.Cell
