/- Strips of an edge that is moved by whole rows, and across: the same ones, further. No program in sight. -/
import Derived.Test.YtjdpmaachehpnaaStripN
namespace Go.Proofs.Ytjdpmaachehpnaa.Strip
open Go Go.RowKit Go.Proofs.YtjdpmaachehpnaaW.PrintWords Go.Proofs.Ytjdpmaachehpnaa.PE
set_option maxRecDepth 100000
set_option linter.unusedVariables false
set_option linter.unusedSimpArgs false

def mvR (rows dx : Int) (x : Rw) : Rw := ⟨x.f0 - rows, ⟨x.f1.f0 - dx, x.f1.f1, x.f1.f2 - dx, x.f1.f3⟩⟩
theorem cl_mv (p r rows : Int) : cl (p + rows * 65536) (r + rows) = cl p r + rows * 65536 := by
  unfold cl mx mn; (repeat' split) <;> omega
theorem xAt_mv (px py qx qy dx D y : Int) : xAt (px + dx) (py + D) (qx + dx) (qy + D) (y + D) = xAt px py qx qy y + dx := by
  unfold xAt
  rw [show qx + dx - (px + dx) = qx - px by omega, show y + D - (py + D) = y - py by omega, show qy + D - (py + D) = qy - py by omega]
  omega
theorem rowS_mv (px py qx qy dx rows r : Int) : mvR rows dx (rowS (px + dx) (py + rows * 65536) (qx + dx) (qy + rows * 65536) (r + rows)) = rowS px py qx qy r := by
  unfold mvR rowS
  simp only [cl_mv, xAt_mv]
  rw [show r + rows - rows = r by omega, show ∀ z : Int, z + dx - dx = z from fun z => by omega, show ∀ z : Int, z + rows * 65536 - (r + rows) * 65536 = z - r * 65536 from fun z => by omega]
  simp only [show ∀ z : Int, z + dx - dx = z from fun z => by omega, show ∀ z : Int, z + rows * 65536 - (r + rows) * 65536 = z - r * 65536 from fun z => by omega]
section
variable {px py qx qy h rows dx : Int}
theorem cnt_asc (hd : Dom px py qx qy h) (hr : 0 ≤ rows) (hlt : py < qy) : sN py qy h ≤ sN (py + rows * 65536) (qy + rows * 65536) (h + rows) ∧ ∀ i, i < sN (py + rows * 65536) (qy + rows * 65536) (h + rows) →
    (i < sN (py + rows * 65536) (qy + rows * 65536) (h + rows) - sN py qy h → sRow (py + rows * 65536) (qy + rows * 65536) (h + rows) i < rows) ∧
    (sN (py + rows * 65536) (qy + rows * 65536) (h + rows) - sN py qy h ≤ i → sRow (py + rows * 65536) (qy + rows * 65536) (h + rows) i = sRow py qy h (i - (sN (py + rows * 65536) (qy + rows * 65536) (h + rows) - sN py qy h)) + rows) := by
  have h0 := hd.h0
  have hT : sT (py + rows * 65536) (qy + rows * 65536) = max (py + rows * 65536) 0 := by unfold sT mx mn; (repeat' split) <;> omega
  have hE : sE (py + rows * 65536) (qy + rows * 65536) (h + rows) = min qy (h * 65536) + rows * 65536 := by unfold sE mx mn; (repeat' split) <;> omega
  have hT0 : sT py qy = max py 0 := by unfold sT mx mn; (repeat' split) <;> omega
  have hE0 : sE py qy h = min qy (h * 65536) := by unfold sE mx mn; (repeat' split) <;> omega
  have hn : sN py qy h = if max py 0 < min qy (h * 65536) then ((min qy (h * 65536) - 1) / 65536 - max py 0 / 65536 + 1).toNat else 0 := by unfold sN sA sB; rw [hT0, hE0]
  have hn' : sN (py + rows * 65536) (qy + rows * 65536) (h + rows) = if max (py + rows * 65536) 0 < min qy (h * 65536) + rows * 65536 then ((min qy (h * 65536) + rows * 65536 - 1) / 65536 - max (py + rows * 65536) 0 / 65536 + 1).toNat else 0 := by unfold sN sA sB; rw [hT, hE]
  have hw : ∀ k, sRow py qy h k = max py 0 / 65536 + k := fun k => by unfold sRow sA; rw [if_neg (by omega), hT0]
  have hw' : ∀ k, sRow (py + rows * 65536) (qy + rows * 65536) (h + rows) k = max (py + rows * 65536) 0 / 65536 + k := fun k => by unfold sRow sA; rw [if_neg (by omega), hT]
  generalize sN py qy h = n at *
  generalize sN (py + rows * 65536) (qy + rows * 65536) (h + rows) = n' at *
  clear hT hE hT0 hE0
  have e1 : n ≤ n' := by subst hn hn'; split <;> split <;> omega
  refine ⟨e1, fun i hi => ?_⟩
  rw [hw', hw]
  clear hw hw'
  by_cases q : max py 0 < min qy (h * 65536)
  · rw [if_pos q] at hn
    rw [if_pos (by omega)] at hn'
    omega
  · rw [if_neg q] at hn
    split at hn' <;> omega
theorem cnt_desc (hd : Dom px py qx qy h) (hr : 0 ≤ rows) (hlt : qy < py) : sN py qy h ≤ sN (py + rows * 65536) (qy + rows * 65536) (h + rows) ∧ ∀ i, i < sN (py + rows * 65536) (qy + rows * 65536) (h + rows) →
    (i < sN py qy h → sRow (py + rows * 65536) (qy + rows * 65536) (h + rows) i = sRow py qy h i + rows) ∧
    (sN py qy h ≤ i → sRow (py + rows * 65536) (qy + rows * 65536) (h + rows) i < rows) := by
  have h0 := hd.h0
  have hT : sT (py + rows * 65536) (qy + rows * 65536) = max (qy + rows * 65536) 0 := by unfold sT mx mn; (repeat' split) <;> omega
  have hE : sE (py + rows * 65536) (qy + rows * 65536) (h + rows) = min py (h * 65536) + rows * 65536 := by unfold sE mx mn; (repeat' split) <;> omega
  have hT0 : sT py qy = max qy 0 := by unfold sT mx mn; (repeat' split) <;> omega
  have hE0 : sE py qy h = min py (h * 65536) := by unfold sE mx mn; (repeat' split) <;> omega
  have hn : sN py qy h = if max qy 0 < min py (h * 65536) then ((min py (h * 65536) - 1) / 65536 - max qy 0 / 65536 + 1).toNat else 0 := by unfold sN sA sB; rw [hT0, hE0]
  have hn' : sN (py + rows * 65536) (qy + rows * 65536) (h + rows) = if max (qy + rows * 65536) 0 < min py (h * 65536) + rows * 65536 then ((min py (h * 65536) + rows * 65536 - 1) / 65536 - max (qy + rows * 65536) 0 / 65536 + 1).toNat else 0 := by unfold sN sA sB; rw [hT, hE]
  have hw : ∀ k : Nat, sRow py qy h k = (min py (h * 65536) - 1) / 65536 - k := fun k => by unfold sRow sB; rw [if_pos (by omega), hE0]
  have hw' : ∀ k : Nat, sRow (py + rows * 65536) (qy + rows * 65536) (h + rows) k = (min py (h * 65536) + rows * 65536 - 1) / 65536 - k := fun k => by unfold sRow sB; rw [if_pos (by omega), hE]
  generalize sN py qy h = n at *
  generalize sN (py + rows * 65536) (qy + rows * 65536) (h + rows) = n' at *
  clear hT hE hT0 hE0
  have e1 : n ≤ n' := by subst hn hn'; split <;> split <;> omega
  refine ⟨e1, fun i hi => ?_⟩
  rw [hw', hw]
  clear hw hw'
  by_cases q : max qy 0 < min py (h * 65536)
  · rw [if_pos q] at hn
    rw [if_pos (by omega)] at hn'
    omega
  · rw [if_neg q] at hn
    split at hn' <;> omega
/-- How many of the first i rows lie low enough. -/
def cnt (py qy h rows : Int) (i : Nat) : Nat := if py < qy then i - (sN (py + rows * 65536) (qy + rows * 65536) (h + rows) - sN py qy h) else min i (sN py qy h)
theorem cnt_zero : cnt py qy h rows 0 = 0 := by unfold cnt; split <;> simp
theorem cnt_all (hd : Dom px py qx qy h) (hr : 0 ≤ rows) : cnt py qy h rows (sN (py + rows * 65536) (qy + rows * 65536) (h + rows)) = sN py qy h := by
  unfold cnt
  split
  · have := (cnt_asc hd hr (by assumption)).1; omega
  · have := (cnt_desc hd hr (by have := hd.ne; omega)).1; omega
theorem moved_at (hd : Dom px py qx qy h) (hr : 0 ≤ rows) {i : Nat} {x : Rw} (hx : (strips (px + dx) (py + rows * 65536) (qx + dx) (qy + rows * 65536) (h + rows))[i]? = some x) :
    (x.f0 < rows → cnt py qy h rows (i + 1) = cnt py qy h rows i) ∧ (rows ≤ x.f0 → (strips px py qx qy h)[cnt py qy h rows i]? = some (mvR rows dx x) ∧ cnt py qy h rows (i + 1) = cnt py qy h rows i + 1) := by
  unfold strips at hx
  rw [List.getElem?_map, Option.map_eq_some_iff] at hx
  obtain ⟨k, hk, rfl⟩ := hx
  obtain ⟨hi, hk⟩ := List.getElem?_eq_some_iff.1 hk
  simp only [List.length_range] at hi
  simp only [List.getElem_range] at hk
  subst hk
  have f0 : ∀ r, (rowS (px + dx) (py + rows * 65536) (qx + dx) (qy + rows * 65536) r).f0 = r := fun r => rfl
  rw [f0]
  have at_ : ∀ j, j < sN py qy h → (strips px py qx qy h)[j]? = some (rowS px py qx qy (sRow py qy h j)) := fun j hj => by unfold strips; simp [hj]
  rcases Int.lt_or_gt_of_ne hd.ne with hlt | hlt
  · obtain ⟨c1, c2⟩ := cnt_asc hd hr hlt
    obtain ⟨d1, d2⟩ := c2 i hi
    unfold cnt
    rw [if_pos hlt, if_pos hlt]
    constructor
    · intro hlo
      have : ¬ (sN (py + rows * 65536) (qy + rows * 65536) (h + rows) - sN py qy h ≤ i) := fun hj => by
        have e := d2 hj
        have := (row_bounds hd (k := i - (sN (py + rows * 65536) (qy + rows * 65536) (h + rows) - sN py qy h)) (by omega)).1
        omega
      omega
    · intro hhi
      have hj : sN (py + rows * 65536) (qy + rows * 65536) (h + rows) - sN py qy h ≤ i := Nat.not_lt.1 fun hj => by have := d1 hj; omega
      rw [d2 hj, rowS_mv, at_ _ (by omega)]
      exact ⟨rfl, by omega⟩
  · obtain ⟨c1, c2⟩ := cnt_desc hd hr hlt
    obtain ⟨d1, d2⟩ := c2 i hi
    unfold cnt
    rw [if_neg (by omega), if_neg (by omega)]
    constructor
    · intro hlo
      have : ¬ i < sN py qy h := fun hj => by
        have e := d1 hj
        have := (row_bounds hd (k := i) hj).1
        omega
      omega
    · intro hhi
      have hj : i < sN py qy h := Nat.not_le.1 fun hj => by have := d2 hj; omega
      rw [d1 hj, rowS_mv, Nat.min_eq_left (Nat.le_of_lt hj), at_ _ hj]
      exact ⟨rfl, by omega⟩
end
end Go.Proofs.Ytjdpmaachehpnaa.Strip
