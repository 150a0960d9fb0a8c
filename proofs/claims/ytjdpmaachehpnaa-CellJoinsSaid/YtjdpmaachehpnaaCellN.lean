/- The pieces and the cells of a strip, as numbers: what package cell's functions answer. For all strips and widths that may be asked about. -/
import Derived.Test.YtjdpmaachehpnaaExtMd
import Derived.Test.YtjdpmaachehpnaaMdShare
import Derived.Test.YtjdpmaachehpnaaPEx8
namespace Go.Proofs.Ytjdpmaachehpnaa.Cell
open Go Go.RowKit Go.Proofs.Ytjdpmaachehpnaa.PE Go.Proofs.YtjdpmaachehpnaaW.PrintWords Go.Proofs.YtjdpmaachehpnaaW.PrintLast Go.Proofs.YtjdpmaachehpnaaW.PrintMore
set_option linter.unusedVariables false

abbrev Pc := S32
abbrev Cl := S58
theorem w64 {x : Int} (h0 : -9223372036854775808 ≤ x) (h1 : x ≤ 9223372036854775807) : wrap64 x = x := by unfold wrap64; omega
/-- What may be asked. -/
structure Dom (X0 Y0 X1 Y1 w : Int) : Prop where
  x0 : -17179869184 ≤ X0 ∧ X0 ≤ 17179869184
  x1 : -17179869184 ≤ X1 ∧ X1 ≤ 17179869184
  y0 : 0 ≤ Y0 ∧ Y0 ≤ 65536
  y1 : 0 ≤ Y1 ∧ Y1 ≤ 65536
  w0 : 1 ≤ w
  w1 : w ≤ 100000
def hAt (X0 Y0 X1 Y1 x : Int) : Int := Y0 + Wide.mulDivV (Y1 - Y0) (x - X0) (X1 - X0)
/-- The first line, the last one, how many; the i-th one. -/
def lF (X0 X1 : Int) : Int := mx ((mn X0 X1 + 65536) / 65536) 0
def lL (X0 X1 w : Int) : Int := mn ((mx X0 X1 - 1) / 65536) w
def lN (X0 X1 w : Int) : Nat := (lL X0 X1 w - lF X0 X1 + 1).toNat
def lK (X0 X1 w : Int) (i : Nat) : Int := if X0 > X1 then lL X0 X1 w - i else lF X0 X1 + i
def lns (X0 X1 w : Int) : List Int := (List.range (lN X0 X1 w)).map (fun i => lK X0 X1 w i * 65536)
def pX (X0 X1 w : Int) (i : Nat) : Int := if i = 0 then X0 else if i ≤ lN X0 X1 w then lK X0 X1 w (i - 1) * 65536 else X1
def pY (X0 Y0 X1 Y1 w : Int) (i : Nat) : Int := if i = 0 then Y0 else if i ≤ lN X0 X1 w then hAt X0 Y0 X1 Y1 (lK X0 X1 w (i - 1) * 65536) else Y1
def piece (X0 Y0 X1 Y1 w : Int) (i : Nat) : Pc := ⟨pX X0 X1 w i, pY X0 Y0 X1 Y1 w i, pX X0 X1 w (i + 1), pY X0 Y0 X1 Y1 w (i + 1)⟩
def cuts (X0 Y0 X1 Y1 w : Int) : List Pc := (List.range (lN X0 X1 w + 1)).map (piece X0 Y0 X1 Y1 w)
def cellOf (w : Int) (p : Pc) : Option Cl :=
  if p.f3 - p.f1 = 0 ∨ mn p.f0 p.f2 / 65536 ≥ w then none
  else if mn p.f0 p.f2 / 65536 < 0 then some ⟨0, ⟨p.f3 - p.f1, 0⟩⟩
  else some ⟨mn p.f0 p.f2 / 65536, ⟨p.f3 - p.f1, (p.f3 - p.f1) * (p.f0 + p.f2 - 2 * (mn p.f0 p.f2 / 65536) * 65536)⟩⟩
def cells (X0 Y0 X1 Y1 w : Int) : List Cl := (cuts X0 Y0 X1 Y1 w).filterMap (cellOf w)

section
variable {X0 Y0 X1 Y1 w : Int}
theorem lns_len : (lns X0 X1 w).length = lN X0 X1 w := by simp [lns]
theorem lns_at {i : Nat} (h : i < lN X0 X1 w) : (lns X0 X1 w)[i]? = some (lK X0 X1 w i * 65536) := by simp [lns, h]
theorem cuts_len : (cuts X0 Y0 X1 Y1 w).length = lN X0 X1 w + 1 := by simp [cuts]
theorem cuts_at {i : Nat} (h : i < lN X0 X1 w + 1) : (cuts X0 Y0 X1 Y1 w)[i]? = some (piece X0 Y0 X1 Y1 w i) := by simp [cuts, h]
/-- A line lies between the ends, and in the picture. -/
theorem line_in (hd : Dom X0 Y0 X1 Y1 w) {i : Nat} (h : i < lN X0 X1 w) : 0 ≤ lK X0 X1 w i ∧ lK X0 X1 w i ≤ w ∧ mn X0 X1 < lK X0 X1 w i * 65536 ∧ lK X0 X1 w i * 65536 < mx X0 X1 := by
  unfold lN at h
  have h1 : lF X0 X1 ≥ 0 ∧ lF X0 X1 * 65536 > mn X0 X1 := by
    unfold lF mx; split <;> omega
  have h2 : lL X0 X1 w ≤ w ∧ lL X0 X1 w * 65536 < mx X0 X1 := by
    unfold lL mn; split <;> omega
  unfold lK
  split <;> omega
theorem lN_le (hd : Dom X0 Y0 X1 Y1 w) : (lN X0 X1 w : Int) ≤ w + 1 := by
  have := hd.w0
  unfold lN lL lF mx mn; (repeat' split) <;> omega
theorem hAt_in (hd : Dom X0 Y0 X1 Y1 w) {x : Int} (hx : (X0 < x ∧ x < X1) ∨ (X1 < x ∧ x < X0)) : (Y0 ≤ Y1 → Y0 ≤ hAt X0 Y0 X1 Y1 x ∧ hAt X0 Y0 X1 Y1 x ≤ Y1) ∧ (Y1 ≤ Y0 → Y1 ≤ hAt X0 Y0 X1 Y1 x ∧ hAt X0 Y0 X1 Y1 x ≤ Y0) := by
  have h1 := hd.y0
  have h2 := hd.y1
  obtain ⟨p, q⟩ := MdShare.md_share (a := Y1 - Y0) (b := x - X0) (c := X1 - X0) (by omega) (by omega)
  unfold hAt
  generalize Wide.mulDivV (Y1 - Y0) (x - X0) (X1 - X0) = z at *
  constructor <;> intro hh
  · have := p (by omega); omega
  · have := q (by omega); omega
theorem height_f (hd : Dom X0 Y0 X1 Y1 w) {x : Int} (hx : (X0 < x ∧ x < X1) ∨ (X1 < x ∧ x < X0)) : cell_height.f X0 Y0 X1 Y1 x = some (hAt X0 Y0 X1 Y1 x) := by
  obtain ⟨p, q⟩ := hAt_in hd hx
  have h1 := hd.x0
  have h2 := hd.x1
  have h3 := hd.y0
  have h4 := hd.y1
  unfold cell_height.f wide_MulDiv.f
  rw [w64 (x := Y1 - Y0) (by omega) (by omega), w64 (x := x - X0) (by omega) (by omega), w64 (x := X1 - X0) (by omega) (by omega), if_pos (by omega)]
  show some (wrap64 (hAt X0 Y0 X1 Y1 x)) = _
  rw [w64 (by have := p; have := q; omega) (by have := p; have := q; omega)]
theorem line_lt (hd : Dom X0 Y0 X1 Y1 w) {i : Nat} (h : i < lN X0 X1 w) : (X0 < lK X0 X1 w i * 65536 ∧ lK X0 X1 w i * 65536 < X1) ∨ (X1 < lK X0 X1 w i * 65536 ∧ lK X0 X1 w i * 65536 < X0) := by
  obtain ⟨_, _, h1, h2⟩ := line_in hd h
  unfold mn at h1; unfold mx at h2
  (repeat' split at h1) <;> (repeat' split at h2) <;> omega
theorem pX_in (hd : Dom X0 Y0 X1 Y1 w) (i : Nat) : mn X0 X1 ≤ pX X0 X1 w i ∧ pX X0 X1 w i ≤ mx X0 X1 := by
  unfold pX
  split
  · unfold mn mx; (repeat' split) <;> omega
  · split
    · obtain ⟨_, _, h1, h2⟩ := line_in hd (i := i - 1) (by omega); omega
    · unfold mn mx; (repeat' split) <;> omega
theorem pY_in (hd : Dom X0 Y0 X1 Y1 w) (i : Nat) : mn Y0 Y1 ≤ pY X0 Y0 X1 Y1 w i ∧ pY X0 Y0 X1 Y1 w i ≤ mx Y0 Y1 := by
  unfold pY
  split
  · unfold mn mx; (repeat' split) <;> omega
  · split
    · obtain ⟨p, q⟩ := hAt_in hd (line_lt hd (i := i - 1) (by omega))
      generalize hAt X0 Y0 X1 Y1 (lK X0 X1 w (i - 1) * 65536) = z at *
      unfold mn mx
      rcases Int.le_total Y0 Y1 with h | h
      · have := p h; (repeat' split) <;> omega
      · have := q h; (repeat' split) <;> omega
    · unfold mn mx; (repeat' split) <;> omega
end
end Go.Proofs.Ytjdpmaachehpnaa.Cell
