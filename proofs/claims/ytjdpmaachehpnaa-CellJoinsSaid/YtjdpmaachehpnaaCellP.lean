/- Chapter 16's document as numbers: it answers what package cell does. For all strips and widths that may be asked about. -/
import Derived.Test.YtjdpmaachehpnaaCuts
import Derived.Test.YtjdpmaachehpnaaMdEq
import Derived.Test.YtjdpmaachehpnaaPEx13
import Derived.Test.YtjdpmaachehpnaaPEx14
namespace Go.Proofs.Ytjdpmaachehpnaa.Cell
open Go Go.RowKit Go.Proofs.Ytjdpmaachehpnaa.PE Go.Proofs.YtjdpmaachehpnaaW.PrintWords Go.Proofs.YtjdpmaachehpnaaW.PrintLast Go.Proofs.YtjdpmaachehpnaaW.PrintMore
set_option linter.unusedVariables false
set_option linter.unusedSimpArgs false
theorem right_f (a b c d : Int) : ∃ t, pointillistref16_Right.f a b c d = some t ∧ (t = true ↔ ((-17179869184 ≤ a ∧ a ≤ 17179869184) ∧ (-17179869184 ≤ c ∧ c ≤ 17179869184) ∧ (0 ≤ b ∧ b ≤ 65536) ∧ 0 ≤ d ∧ d ≤ 65536)) := by
  unfold pointillistref16_Right.f
  (repeat' split) <;> refine ⟨_, rfl, ?_⟩ <;> simp <;> omega
section
variable {X0 Y0 X1 Y1 w : Int}
theorem refheight_f (hd : Dom X0 Y0 X1 Y1 w) {x : Int} (hx : (X0 < x ∧ x < X1) ∨ (X1 < x ∧ x < X0)) : pointillistref16_height.f X0 Y0 X1 Y1 x = some (hAt X0 Y0 X1 Y1 x) := by
  obtain ⟨p, q⟩ := hAt_in hd hx
  have h1 := hd.x0
  have h2 := hd.x1
  have h3 := hd.y0
  have h4 := hd.y1
  unfold pointillistref16_height.f pointillistref01_MulDiv.f
  rw [w64 (x := Y1 - Y0) (by omega) (by omega), w64 (x := x - X0) (by omega) (by omega), w64 (x := X1 - X0) (by omega) (by omega), if_pos (by omega), MdEq.mdV]
  show some (wrap64 (hAt X0 Y0 X1 Y1 x)) = _
  rw [w64 (by have := p; have := q; omega) (by have := p; have := q; omega)]
theorem between_f (x a b : Int) : pointillistref16_between.f x a b = some (decide ((a < x ∧ x < b) ∨ (b < x ∧ x < a))) := by
  unfold pointillistref16_between.f
  (repeat' split) <;> refine congrArg some ?_ <;> first | (exact (decide_eq_true (by omega)).symm) | (exact (decide_eq_false (by omega)).symm) | (rw [decide_eq_decide]; omega)
/-- The line that is tried at i; where the lines begin. -/
def cand (X0 X1 w : Int) (i : Nat) : Int := if X0 > X1 then w - i else i
def lS (X0 X1 w : Int) : Int := if X0 > X1 then w - lL X0 X1 w else lF X0 X1
theorem cand_in (hd : Dom X0 Y0 X1 Y1 w) {i : Nat} (hi : (i : Int) ≤ w) : ((X0 < cand X0 X1 w i * 65536 ∧ cand X0 X1 w i * 65536 < X1) ∨ (X1 < cand X0 X1 w i * 65536 ∧ cand X0 X1 w i * 65536 < X0)) ↔ (lS X0 X1 w ≤ i ∧ (i : Int) < lS X0 X1 w + lN X0 X1 w) := by
  have h0 := hd.w0
  unfold lN lS cand
  by_cases h : X0 > X1
  · simp only [if_pos h]
    have e1 : mn X0 X1 = X1 := by unfold mn; rw [if_pos h]
    have e2 : mx X0 X1 = X0 := by unfold mx; rw [if_neg (by omega)]
    unfold lL lF
    rw [e1, e2]
    unfold mn mx
    (repeat' split) <;> omega
  · simp only [if_neg h]
    have e1 : mn X0 X1 = X0 := by unfold mn; rw [if_neg (by omega)]
    have e2 : mx X0 X1 = X1 := by unfold mx; split <;> omega
    unfold lL lF
    rw [e1, e2]
    unfold mn mx
    (repeat' split) <;> omega
theorem lS_pos (hd : Dom X0 Y0 X1 Y1 w) : 0 ≤ lS X0 X1 w ∧ lS X0 X1 w + lN X0 X1 w ≤ w + 1 ∨ lN X0 X1 w = 0 := by
  have h0 := hd.w0
  unfold lN lS lL lF mx
  unfold mn
  (repeat' split) <;> omega
theorem cand_lK {i j : Nat} (h : (i : Int) = lS X0 X1 w + j) : cand X0 X1 w i = lK X0 X1 w j := by
  unfold cand lK; unfold lS at h; split at h <;> split <;> omega
/-- The pieces up to the j-th line. -/
def accL (X0 Y0 X1 Y1 w : Int) (j : Nat) : List Pc := (List.range j).map (piece X0 Y0 X1 Y1 w) ++ [⟨pX X0 X1 w j, pY X0 Y0 X1 Y1 w j, X1, Y1⟩]
theorem accL_len (j : Nat) : (accL X0 Y0 X1 Y1 w j).length = j + 1 := by simp [accL]
theorem accL_last (j : Nat) : (accL X0 Y0 X1 Y1 w j).getD j z32 = ⟨pX X0 X1 w j, pY X0 Y0 X1 Y1 w j, X1, Y1⟩ := by simp [accL]
theorem accL_all : accL X0 Y0 X1 Y1 w (lN X0 X1 w) = cuts X0 Y0 X1 Y1 w := by
  unfold accL cuts
  rw [List.range_succ, List.map_append]
  congr 1
  simp only [List.map_cons, List.map_nil]
  unfold piece pX pY
  simp
  exact ⟨fun h => absurd h (by omega), fun h => absurd h (by omega)⟩
theorem accL_next {j : Nat} (hj : j < lN X0 X1 w) : (accL X0 Y0 X1 Y1 w j).set j ⟨pX X0 X1 w j, pY X0 Y0 X1 Y1 w j, lK X0 X1 w j * 65536, hAt X0 Y0 X1 Y1 (lK X0 X1 w j * 65536)⟩ ++ [⟨lK X0 X1 w j * 65536, hAt X0 Y0 X1 Y1 (lK X0 X1 w j * 65536), X1, Y1⟩] = accL X0 Y0 X1 Y1 w (j + 1) := by
  have e1 : pX X0 X1 w (j + 1) = lK X0 X1 w j * 65536 := by unfold pX; rw [if_neg (by omega), if_pos (by omega)]; rfl
  have e2 : pY X0 Y0 X1 Y1 w (j + 1) = hAt X0 Y0 X1 Y1 (lK X0 X1 w j * 65536) := by unfold pY; rw [if_neg (by omega), if_pos (by omega)]; rfl
  unfold accL
  rw [List.range_succ, List.map_append, e1, e2]
  simp only [List.map_cons, List.map_nil]
  unfold piece
  rw [e1, e2, List.set_append_right _ _ (by simp)]
  simp
theorem cuts_l0 (hd : Dom X0 Y0 X1 Y1 w) : ∀ (n i k : Nat), ((i + n : Nat) : Int) = w + 1 → 2 * n < k →
    pointillistref16_Cuts.l0 k w (accL X0 Y0 X1 Y1 w (min (i - (lS X0 X1 w).toNat) (lN X0 X1 w))) (i : Int) X0 Y0 X1 Y1 = some (cuts X0 Y0 X1 Y1 w) := by
  intro n
  have hS := lS_pos hd
  have hw := hd.w1
  have hL := lN_le hd
  induction n with
  | zero =>
    intro i k e hk
    obtain ⟨k, rfl⟩ : ∃ m, k = m + 1 := ⟨k - 1, by omega⟩
    simp only [pointillistref16_Cuts.l0]
    rw [if_neg (by omega), ← accL_all, show min (i - (lS X0 X1 w).toNat) (lN X0 X1 w) = lN X0 X1 w by omega]
  | succ n ihn =>
    intro i k e hk
    obtain ⟨k, rfl⟩ : ∃ m, k = m + 2 := ⟨k - 2, by omega⟩
    have ih := ihn (i + 1) k (by omega) (by omega)
    clear ihn
    have hc := cand_in hd (i := i) (by omega)
    have hc0 : 0 ≤ cand X0 X1 w i ∧ cand X0 X1 w i ≤ w := by unfold cand; split <;> omega
    have key : pointillistref16_Cuts.j1 (k + 1) w (accL X0 Y0 X1 Y1 w (min (i - (lS X0 X1 w).toNat) (lN X0 X1 w))) (i : Int) (cand X0 X1 w i * 65536) X0 Y0 X1 Y1 = some (cuts X0 Y0 X1 Y1 w) := by
      simp only [pointillistref16_Cuts.j1]
      rw [between_f]
      simp only [Option.bind_some]
      have hnext : wrap64 ((i : Int) + 1) = ((i + 1 : Nat) : Int) := by rw [w64 (by omega) (by omega)]; omega
      rw [hnext]
      clear hnext
      by_cases hb : lS X0 X1 w ≤ i ∧ (i : Int) < lS X0 X1 w + lN X0 X1 w
      · have hb' := hc.2 hb
        obtain ⟨j, hj⟩ : ∃ j : Nat, (i : Int) = lS X0 X1 w + j := ⟨((i : Int) - lS X0 X1 w).toNat, by omega⟩
        have hj2 : i - (lS X0 X1 w).toNat = j := by omega
        have hj3 : min j (lN X0 X1 w) = j := by omega
        have hj4 : min (i + 1 - (lS X0 X1 w).toNat) (lN X0 X1 w) = j + 1 := by omega
        have ejk := cand_lK hj
        rw [decide_eq_true hb', if_pos rfl, refheight_f hd hb', ejk]
        simp only [Option.bind_some]
        rw [hj2, hj3, accL_len, w64 (x := ((j + 1 : Nat) : Int) - 1) (by omega) (by omega), if_pos (by omega), if_pos (by omega), show ((j + 1 : Nat) : Int) - 1 = (j : Int) by omega]
        unfold rd_T32
        rw [Int.toNat_natCast, accL_last, if_pos (by rw [List.length_set, accL_len]; omega), accL_next (by omega), ← hj4, ih]
      · rw [decide_eq_false (fun h => hb (hc.1 h)), if_neg (by decide)]
        rw [show min (i - (lS X0 X1 w).toNat) (lN X0 X1 w) = min (i + 1 - (lS X0 X1 w).toNat) (lN X0 X1 w) by omega]
        exact ih
    rw [show k + 2 = (k + 1) + 1 from rfl]
    simp only [pointillistref16_Cuts.l0]
    rw [if_pos (by omega)]
    have ec : cand X0 X1 w i = if X0 > X1 then w - i else i := rfl
    split
    · rename_i h
      rw [if_pos h] at ec
      rw [w64 (x := w - i) (by omega) (by omega), ← ec, w64 (x := cand X0 X1 w i * 65536) (by omega) (by omega)]
      exact key
    · rename_i h
      rw [if_neg h] at ec
      rw [← ec, w64 (x := cand X0 X1 w i * 65536) (by omega) (by omega), ec, ← ec]
      have key2 := key
      rw [ec] at key2 ⊢
      exact key2
theorem cuts_f (hd : Dom X0 Y0 X1 Y1 w) {k : Nat} (hk : 2 * (w.toNat + 1) < k) : pointillistref16_Cuts.f k X0 Y0 X1 Y1 w = some (cuts X0 Y0 X1 Y1 w) := by
  have h0 := hd.w0
  have := cuts_l0 hd (w.toNat + 1) 0 k (by omega) hk
  rw [show min (0 - (lS X0 X1 w).toNat) (lN X0 X1 w) = 0 by omega] at this
  exact this
end
end Go.Proofs.Ytjdpmaachehpnaa.Cell
