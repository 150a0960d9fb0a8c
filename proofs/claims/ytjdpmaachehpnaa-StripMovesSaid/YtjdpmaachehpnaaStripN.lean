/- The strips of an edge, as numbers: what package strip's functions answer. For all edges and heights that may be asked about. -/
import Derived.Test.YtjdpmaachehpnaaExtMd
import Derived.Test.YtjdpmaachehpnaaPEx4
import Derived.Test.YtjdpmaachehpnaaPEx2
namespace Go.Proofs.Ytjdpmaachehpnaa.Strip
open Go Go.RowKit Go.Proofs.Ytjdpmaachehpnaa.PE Go.Proofs.YtjdpmaachehpnaaW.PrintWords Go.Proofs.YtjdpmaachehpnaaW.PrintLast Go.Proofs.YtjdpmaachehpnaaW.PrintMore
set_option linter.unusedVariables false

theorem w64 {x : Int} (h0 : -9223372036854775808 ≤ x) (h1 : x ≤ 9223372036854775807) : wrap64 x = x := by unfold wrap64; omega
/-- A share of a, b of c: it lies between 0 and a. -/
theorem near_share {a b c : Int} (hc : 0 < c) (hb : 0 ≤ b) (hbc : b ≤ c) : (0 ≤ a → 0 ≤ Wide.near (a * b) c ∧ Wide.near (a * b) c ≤ a) ∧ (a ≤ 0 → a ≤ Wide.near (a * b) c ∧ Wide.near (a * b) c ≤ 0) := by
  unfold Wide.near
  have h2 : 0 < 2 * c := by omega
  constructor
  · intro ha
    have h0 : 0 ≤ a * b := Int.mul_nonneg ha hb
    have h1 : a * b ≤ a * c := Int.mul_le_mul_of_nonneg_left hbc ha
    refine ⟨Int.ediv_nonneg (by omega) (by omega), ?_⟩
    have : (2 * (a * b) + c) / (2 * c) < a + 1 := Int.ediv_lt_of_lt_mul h2 (by
      have : (a + 1) * (2 * c) = 2 * (a * c) + 2 * c := by rw [Int.add_mul, Int.one_mul, Int.mul_left_comm]
      omega)
    omega
  · intro ha
    have h0 : a * b ≤ 0 := Int.mul_nonpos_of_nonpos_of_nonneg ha hb
    have h1 : a * c ≤ a * b := Int.mul_le_mul_of_nonpos_left ha hbc
    constructor
    · refine Int.le_ediv_of_mul_le h2 ?_
      have : a * (2 * c) = 2 * (a * c) := Int.mul_left_comm _ _ _
      omega
    · have : (2 * (a * b) + c) / (2 * c) < 1 := Int.ediv_lt_of_lt_mul h2 (by omega)
      omega
theorem md_share {a b c : Int} (ha : -1152921504606846976 ≤ a ∧ a ≤ 1152921504606846976) (h : (0 < c ∧ 0 ≤ b ∧ b ≤ c) ∨ (c < 0 ∧ c ≤ b ∧ b ≤ 0)) :
    (0 ≤ a → 0 ≤ Wide.mulDivV a b c ∧ Wide.mulDivV a b c ≤ a) ∧ (a ≤ 0 → a ≤ Wide.mulDivV a b c ∧ Wide.mulDivV a b c ≤ 0) := by
  unfold Wide.mulDivV Wide.fitV
  rcases h with ⟨hc, hb, hbc⟩ | ⟨hc, hb, hbc⟩
  · obtain ⟨p, q⟩ := near_share (a := a) hc hb hbc
    simp only [show ¬ c = 0 by omega, show ¬ c < 0 by omega, if_false]
    generalize Wide.near (a * b) c = z at *
    split <;> constructor <;> intro h <;> first | exact p h | exact q h | (have := p; have := q; omega)
  · obtain ⟨p, q⟩ := near_share (a := a) (b := -b) (c := -c) (by omega) (by omega) (by omega)
    rw [Int.mul_neg] at p q
    simp only [show ¬ c = 0 by omega, hc, if_true, if_false]
    generalize Wide.near (-(a * b)) (-c) = z at *
    split <;> constructor <;> intro h <;> first | exact p h | exact q h | (have := p; have := q; omega)

/-- The X of an edge at a height. -/
def xAt (px py qx qy y : Int) : Int := px + Wide.mulDivV (qx - px) (y - py) (qy - py)
def sT (py qy : Int) : Int := mx (mn py qy) 0
def sE (py qy h : Int) : Int := mn (mx py qy) (h * 65536)
def sA (py qy : Int) : Int := sT py qy / 65536
def sB (py qy h : Int) : Int := (sE py qy h - 1) / 65536
/-- How many strips; the k-th one's row. -/
def sN (py qy h : Int) : Nat := if sT py qy < sE py qy h then (sB py qy h - sA py qy + 1).toNat else 0
def sRow (py qy h : Int) (k : Nat) : Int := if py > qy then sB py qy h - k else sA py qy + k
def cl (p row : Int) : Int := mn (mx p (row * 65536)) (row * 65536 + 65536)
abbrev Rw := S34
def rowS (px py qx qy row : Int) : Rw := ⟨row, ⟨xAt px py qx qy (cl py row), cl py row - row * 65536, xAt px py qx qy (cl qy row), cl qy row - row * 65536⟩⟩
def strips (px py qx qy h : Int) : List Rw := (List.range (sN py qy h)).map (fun k => rowS px py qx qy (sRow py qy h k))
def InE (n : Int) : Prop := -17179869184 ≤ n ∧ n ≤ 17179869184
/-- What may be asked. -/
structure Dom (px py qx qy h : Int) : Prop where
  ipx : InE px
  ipy : InE py
  iqx : InE qx
  iqy : InE qy
  ne : py ≠ qy
  h0 : 0 ≤ h
  h1 : h ≤ 100000

section
variable {px py qx qy h : Int}
theorem xAt_in (hd : Dom px py qx qy h) {y : Int} (hy : (py ≤ y ∧ y ≤ qy) ∨ (qy ≤ y ∧ y ≤ py)) : (px ≤ qx → px ≤ xAt px py qx qy y ∧ xAt px py qx qy y ≤ qx) ∧ (qx ≤ px → qx ≤ xAt px py qx qy y ∧ xAt px py qx qy y ≤ px) := by
  have hne := hd.ne
  obtain ⟨h1, h2⟩ := hd.ipx
  obtain ⟨h3, h4⟩ := hd.iqx
  obtain ⟨p, q⟩ := md_share (a := qx - px) (b := y - py) (c := qy - py) (by omega) (by omega)
  unfold xAt
  generalize Wide.mulDivV (qx - px) (y - py) (qy - py) = z at *
  constructor <;> intro hh
  · have := p (by omega); omega
  · have := q (by omega); omega
theorem x_f (hd : Dom px py qx qy h) {y : Int} (hy : (py ≤ y ∧ y ≤ qy) ∨ (qy ≤ y ∧ y ≤ py)) : strip_X.f px py qx qy y = some (xAt px py qx qy y) := by
  obtain ⟨p, q⟩ := xAt_in hd hy
  obtain ⟨h1, h2⟩ := hd.ipx
  obtain ⟨h3, h4⟩ := hd.iqx
  obtain ⟨h5, h6⟩ := hd.ipy
  obtain ⟨h7, h8⟩ := hd.iqy
  unfold strip_X.f wide_MulDiv.f
  rw [w64 (x := qx - px) (by omega) (by omega), w64 (x := y - py) (by omega) (by omega), w64 (x := qy - py) (by omega) (by omega), if_pos (by omega)]
  show some (wrap64 (xAt px py qx qy y)) = _
  rw [w64 (by have := p; have := q; omega) (by have := p; have := q; omega)]
theorem row_bounds (hd : Dom px py qx qy h) {k : Nat} (hk : k < sN py qy h) : 0 ≤ sRow py qy h k ∧ sRow py qy h k < h ∧ sRow py qy h k * 65536 < mx py qy ∧ mn py qy < sRow py qy h k * 65536 + 65536 := by
  obtain ⟨h5, h6⟩ := hd.ipy
  obtain ⟨h7, h8⟩ := hd.iqy
  have := hd.h0
  unfold sN at hk
  unfold sRow
  split at hk
  · rename_i hlt
    unfold sA sB at *
    unfold sT sE at *
    unfold mx mn at *
    split <;> (repeat' split at hk) <;> (repeat' split at hlt) <;> (repeat' split) <;> omega
  · omega
theorem cl_in {row : Int} (h1 : row * 65536 < mx py qy) (h2 : mn py qy < row * 65536 + 65536) : ((py ≤ cl py row ∧ cl py row ≤ qy) ∨ (qy ≤ cl py row ∧ cl py row ≤ py)) ∧ ((py ≤ cl qy row ∧ cl qy row ≤ qy) ∨ (qy ≤ cl qy row ∧ cl qy row ≤ py)) ∧ row * 65536 ≤ cl py row ∧ cl py row ≤ row * 65536 + 65536 ∧ row * 65536 ≤ cl qy row ∧ cl qy row ≤ row * 65536 + 65536 := by
  unfold cl mx mn at *
  refine ⟨?_, ?_, ?_, ?_, ?_, ?_⟩ <;> (repeat' split) <;> (repeat' split at h1) <;> (repeat' split at h2) <;> omega
theorem one_f (hd : Dom px py qx qy h) {row : Int} (r0 : 0 ≤ row) (r1 : row < h) (h1 : row * 65536 < mx py qy) (h2 : mn py qy < row * 65536 + 65536) :
    strip_one.f px py qx qy row = some ((rowS px py qx qy row).f1.f0, (rowS px py qx qy row).f1.f1, (rowS px py qx qy row).f1.f2, (rowS px py qx qy row).f1.f3) := by
  have hh := hd.h1
  obtain ⟨c1, c2, c3, c4, c5, c6⟩ := cl_in h1 h2
  unfold strip_one.f
  rw [w64 (x := row * 65536) (by omega) (by omega), w64 (x := row * 65536 + 65536) (by omega) (by omega)]
  rw [show mn (mx py (row * 65536)) (row * 65536 + 65536) = cl py row from rfl, show mn (mx qy (row * 65536)) (row * 65536 + 65536) = cl qy row from rfl]
  rw [x_f hd c1, x_f hd c2, w64 (x := cl py row - row * 65536) (by omega) (by omega), w64 (x := cl qy row - row * 65536) (by omega) (by omega)]
  rfl
theorem rows_f (hd : Dom px py qx qy h) : strip_Rows.f px py qx qy h = if sT py qy < sE py qy h then some (sA py qy, sB py qy h, true) else some (0, 0, false) := by
  have hh := hd.h1
  have hh0 := hd.h0
  obtain ⟨h5, h6⟩ := hd.ipy
  obtain ⟨h7, h8⟩ := hd.iqy
  unfold strip_Rows.f
  rw [w64 (x := h * 65536) (by omega) (by omega)]
  rw [show mx (mn py qy) 0 = sT py qy from rfl, show mn (mx py qy) (h * 65536) = sE py qy h from rfl]
  by_cases hlt : sT py qy < sE py qy h
  · have t0 : 0 ≤ sT py qy ∧ sT py qy ≤ 17179869184 := by unfold sT mx mn; (repeat' split) <;> omega
    have e0 : sE py qy h ≤ 17179869184 := by unfold sE mx mn; (repeat' split) <;> omega
    rw [if_neg (by omega), if_pos hlt, w64 (x := sE py qy h - 1) (by omega) (by omega), Int.tdiv_eq_ediv_of_nonneg (by omega), Int.tdiv_eq_ediv_of_nonneg (by omega), w64 (by omega) (by omega), w64 (by omega) (by omega)]
    rfl
  · rw [if_pos (by omega), if_neg hlt]
end
end Go.Proofs.Ytjdpmaachehpnaa.Strip
