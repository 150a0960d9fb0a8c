/- Chapter 15's document as numbers: it answers what package strip does. For all edges and heights that may be asked about. -/
import Derived.Test.YtejcjonlnijbkaaSp1
import Derived.Test.YtejcjonlnijbkaaMdEq
import Derived.Test.YtejcjonlnijbkaaPEx8
import Derived.Test.YtejcjonlnijbkaaPEx6
import Derived.Test.YtejcjonlnijbkaaCp1
import Derived.Test.YtejcjonlnijbkaaPEx9
import Derived.Test.YtejcjonlnijbkaaPEx10
import Derived.Test.YtejcjonlnijbkaaBf3
import Derived.Test.YtejcjonlnijbkaaPEx13
import Derived.Test.YtejcjonlnijbkaaPEx14
import Derived.Test.YtejcjonlnijbkaaPEx15
import Derived.Test.YtejcjonlnijbkaaPEx12
namespace Go.Proofs.Ytejcjonlnijbkaa.Strip
open Go Go.RowKit Go.Proofs.Ytejcjonlnijbkaa.PE Go.Proofs.YtejcjonlnijbkaaW.PrintWords Go.Proofs.YtejcjonlnijbkaaW.PrintLast Go.Proofs.YtejcjonlnijbkaaW.PrintMore
set_option linter.unusedVariables false
set_option linter.unusedSimpArgs false
theorem right_l {xs : List Int} {a b c d : Int} (hl : xs.length ≤ 100) : ∀ (n i k : Nat), i + n = xs.length → n < k →
    ∃ t, pointillistref15_Right.l0 k xs (xs.length : Int) (i : Int) a b c d = some t ∧ (t = true ↔ (∀ j, i ≤ j → ∀ x, xs[j]? = some x → InE x) ∧ b ≠ d)
  | 0, i, k, h, hk => by
    obtain ⟨k, rfl⟩ : ∃ m, k = m + 1 := ⟨k - 1, by omega⟩
    simp only [pointillistref15_Right.l0]
    rw [if_neg (by omega)]
    refine ⟨_, rfl, ?_⟩
    simp only [bne_iff_ne, ne_eq]
    constructor
    · intro h1
      exact ⟨fun j hj x hx => by have := (List.getElem?_eq_some_iff.1 hx).1; omega, h1⟩
    · exact fun h1 => h1.2
  | n + 1, i, k, h, hk => by
    obtain ⟨k, rfl⟩ : ∃ m, k = m + 1 := ⟨k - 1, by omega⟩
    have hi : i < xs.length := by omega
    have hrd : rd xs (i : Int) = xs[i] := by simp [rd, hi]
    simp only [pointillistref15_Right.l0]
    rw [if_pos (by omega), if_pos (by omega), if_pos (by omega), hrd]
    by_cases h1 : xs[i] > 17179869184
    · rw [if_pos h1]
      refine ⟨false, rfl, by simp; intro h2; have := h2 i (Nat.le_refl _) _ (List.getElem?_eq_getElem hi); unfold InE at this; omega⟩
    rw [if_neg h1]
    by_cases h2 : xs[i] < -17179869184
    · rw [if_pos h2]
      refine ⟨false, rfl, by simp; intro h3; have := h3 i (Nat.le_refl _) _ (List.getElem?_eq_getElem hi); unfold InE at this; omega⟩
    rw [if_neg h2, show wrap64 ((i : Int) + 1) = ((i + 1 : Nat) : Int) by rw [w64 (by omega) (by omega)]; omega]
    obtain ⟨t, ht, hb⟩ := right_l hl n (i + 1) k (by omega) (by omega) (a := a) (b := b) (c := c) (d := d)
    refine ⟨t, ht, hb.trans ?_⟩
    constructor
    · rintro ⟨h3, h4⟩
      refine ⟨fun j hj x hx => ?_, h4⟩
      by_cases e : j = i
      · subst e
        rw [List.getElem?_eq_getElem hi] at hx
        cases hx
        exact ⟨by omega, by omega⟩
      · exact h3 j (by omega) x hx
    · rintro ⟨h3, h4⟩
      exact ⟨fun j hj x hx => h3 j (by omega) x hx, h4⟩
theorem right_f (a b c d : Int) {k : Nat} (hk : 5 ≤ k) : ∃ t, pointillistref15_Right.f k a b c d = some t ∧ (t = true ↔ (InE a ∧ InE b ∧ InE c ∧ InE d) ∧ b ≠ d) := by
  obtain ⟨t, ht, hb⟩ := right_l (xs := [a, b, c, d]) (a := a) (b := b) (c := c) (d := d) (by simp) 4 0 k (by simp) (by omega)
  refine ⟨t, ?_, hb.trans ?_⟩
  · simpa [pointillistref15_Right.f] using ht
  · constructor
    · rintro ⟨h, h2⟩
      exact ⟨⟨h 0 (by omega) _ rfl, h 1 (by omega) _ rfl, h 2 (by omega) _ rfl, h 3 (by omega) _ rfl⟩, h2⟩
    · rintro ⟨⟨h0, h1, h2, h3⟩, h4⟩
      refine ⟨fun j _ x hx => ?_, h4⟩
      match j, hx with
      | 0, hx => cases hx; exact h0
      | 1, hx => cases hx; exact h1
      | 2, hx => cases hx; exact h2
      | 3, hx => cases hx; exact h3

section
variable {px py qx qy h : Int}
theorem refx_f (hd : Dom px py qx qy h) {y : Int} (hy : (py ≤ y ∧ y ≤ qy) ∨ (qy ≤ y ∧ y ≤ py)) : pointillistref15_X.f px py qx qy y = some (xAt px py qx qy y) := by
  obtain ⟨p, q⟩ := xAt_in hd hy
  obtain ⟨h1, h2⟩ := hd.ipx
  obtain ⟨h3, h4⟩ := hd.iqx
  obtain ⟨h5, h6⟩ := hd.ipy
  obtain ⟨h7, h8⟩ := hd.iqy
  unfold pointillistref15_X.f pointillistref01_MulDiv.f
  rw [w64 (x := qx - px) (by omega) (by omega), w64 (x := y - py) (by omega) (by omega), w64 (x := qy - py) (by omega) (by omega), if_pos (by omega), MdEq.mdV]
  show some (wrap64 (xAt px py qx qy y)) = _
  rw [w64 (by have := p; have := q; omega) (by have := p; have := q; omega)]
/-- The rows from r on, of those that the edge (downwards) comes to. -/
def dl (px py qx qy : Int) : Nat → Nat → List Rw
  | 0, _ => []
  | n + 1, r => if (r : Int) * 65536 < qy ∧ py < (r : Int) * 65536 + 65536 then rowS px py qx qy r :: dl px py qx qy n (r + 1) else dl px py qx qy n (r + 1)
theorem dl_succ (n r : Nat) : dl px py qx qy (n + 1) r = if (r : Int) * 65536 < qy ∧ py < (r : Int) * 65536 + 65536 then rowS px py qx qy r :: dl px py qx qy n (r + 1) else dl px py qx qy n (r + 1) := rfl
theorem dl_app (n m r : Nat) : dl px py qx qy (n + m) r = dl px py qx qy n r ++ dl px py qx qy m (r + n) := by
  induction n generalizing r with
  | zero => simp [dl]
  | succ n ih =>
    rw [show n + 1 + m = (n + m) + 1 by omega]
    rw [dl_succ, dl_succ, ih, show r + 1 + n = r + (n + 1) by omega]
    split <;> rfl
theorem dl_none : ∀ (n r : Nat), (∀ i, r ≤ i → i < r + n → ¬ ((i : Int) * 65536 < qy ∧ py < (i : Int) * 65536 + 65536)) → dl px py qx qy n r = []
  | 0, _, _ => rfl
  | n + 1, r, h => by rw [dl_succ, if_neg (h r (by omega) (by omega))]; exact dl_none n (r + 1) (fun i h1 h2 => h i (by omega) (by omega))
theorem dl_all : ∀ (n r : Nat), (∀ i, r ≤ i → i < r + n → ((i : Int) * 65536 < qy ∧ py < (i : Int) * 65536 + 65536)) → dl px py qx qy n r = (List.range n).map (fun k => rowS px py qx qy ((r + k : Nat) : Int))
  | 0, _, _ => rfl
  | n + 1, r, h => by
    rw [dl_succ, if_pos (h r (by omega) (by omega)), dl_all n (r + 1) (fun i h1 h2 => h i (by omega) (by omega)), List.range_succ_eq_map, List.map_cons, List.map_map]
    simp only [Nat.add_zero, List.cons.injEq, true_and]
    apply List.map_congr_left
    intro k _
    simp only [Function.comp]
    rw [show r + 1 + k = r + (k + 1) by omega]
theorem dl_strips (hd : Dom px py qx qy h) (hlt : py < qy) : dl px py qx qy h.toNat 0 = strips px py qx qy h := by
  have h0 := hd.h0
  have hT : sT py qy = max py 0 := by unfold sT mx mn; (repeat' split) <;> omega
  have hE : sE py qy h = min qy (h * 65536) := by unfold sE mx mn; (repeat' split) <;> omega
  unfold strips sN sRow
  simp only [if_neg (show ¬ py > qy by omega)]
  by_cases hok : sT py qy < sE py qy h
  · rw [if_pos hok]
    have a0 : 0 ≤ sA py qy := by unfold sA; omega
    have ab : sA py qy ≤ sB py qy h := by unfold sA sB; omega
    have bh : sB py qy h < h := by unfold sB; omega
    obtain ⟨a, ha⟩ : ∃ a : Nat, sA py qy = a := ⟨(sA py qy).toNat, by omega⟩
    obtain ⟨b, hb⟩ : ∃ b : Nat, sB py qy h = b := ⟨(sB py qy h).toNat, by omega⟩
    have ha2 : sT py qy / 65536 = a := ha
    have hb2 : (sE py qy h - 1) / 65536 = b := hb
    rw [ha] at a0 ab
    rw [hb] at ab bh
    rw [ha, hb]
    rw [show h.toNat = a + ((b - a + 1) + (h.toNat - b - 1)) by omega, dl_app, dl_app, dl_none a 0, dl_all (b - a + 1) (0 + a), dl_none (h.toNat - b - 1)]
    · rw [List.nil_append, List.append_nil, show ((b : Int) - (a : Int) + 1).toNat = b - a + 1 by omega]
      apply List.map_congr_left
      intro k _
      rw [show ((0 + a + k : Nat) : Int) = (a : Int) + (k : Int) by omega]
    · intro i h1 h2
      omega
    · intro i h1 h2
      omega
    · intro i h1 h2
      omega
  · rw [if_neg hok, List.range_zero, List.map_nil]
    apply dl_none
    intro i h1 h2
    omega
theorem down_l (hd : Dom px py qx qy h) (hlt : py < qy) : ∀ (n r k : Nat) (acc : List Rw), (r : Int) + n = h → acc.length ≤ r → 3 * n < k →
    pointillistref15_down.l0 k h acc (r : Int) px py qx qy = some (acc ++ dl px py qx qy n r)
  | 0, r, k, acc, e, ha, hk => by
    obtain ⟨k, rfl⟩ : ∃ m, k = m + 1 := ⟨k - 1, by omega⟩
    simp only [pointillistref15_down.l0]
    rw [if_neg (by omega)]
    simp [dl]
  | n + 1, r, k, acc, e, ha, hk => by
    have hh := hd.h1
    obtain ⟨h5, h6⟩ := hd.ipy
    obtain ⟨h7, h8⟩ := hd.iqy
    obtain ⟨k, rfl⟩ : ∃ m, k = m + 3 := ⟨k - 3, by omega⟩
    have ha' : wrap64 ((r : Int) * 65536) = (r : Int) * 65536 := w64 (by omega) (by omega)
    have hb' : wrap64 ((r : Int) * 65536 + 65536) = (r : Int) * 65536 + 65536 := w64 (by omega) (by omega)
    have hr' : wrap64 ((r : Int) + 1) = ((r + 1 : Nat) : Int) := by rw [w64 (by omega) (by omega)]; omega
    have ih := fun acc ha => down_l hd hlt n (r + 1) k acc (by omega) ha (by omega)
    have key : ∀ a b : Int, a = max py ((r : Int) * 65536) → b = min qy ((r : Int) * 65536 + 65536) →
        pointillistref15_down.j2 (k + 1) h acc (r : Int) a b px py qx qy = some (acc ++ dl px py qx qy (n + 1) r) := by
      intro a b ea eb
      simp only [pointillistref15_down.j2]
      by_cases hc : (r : Int) * 65536 < qy ∧ py < (r : Int) * 65536 + 65536
      · have e1 : cl py r = a := by unfold cl mx mn; (repeat' split) <;> omega
        have e2 : cl qy r = b := by unfold cl mx mn; (repeat' split) <;> omega
        rw [if_pos (by omega), refx_f hd (by omega), refx_f hd (by omega)]
        simp only [Option.bind_some]
        rw [if_pos (by omega), ha', w64 (x := a - _) (by omega) (by omega), w64 (x := b - _) (by omega) (by omega), hr', ih _ (by simp; omega)]
        rw [dl_succ, if_pos hc, List.append_assoc]
        unfold rowS
        rw [e1, e2]; rfl
      · rw [if_neg (by omega), hr', ih _ (by omega)]
        rw [dl_succ, if_neg hc]
    have key1 : ∀ a : Int, a = max py ((r : Int) * 65536) → pointillistref15_down.j1 (k + 2) h acc (r : Int) a ((r : Int) * 65536 + 65536) px py qx qy = some (acc ++ dl px py qx qy (n + 1) r) := by
      intro a ea
      simp only [pointillistref15_down.j1]
      split
      · exact key _ _ ea (by omega)
      · exact key _ _ ea (by omega)
    rw [show k + 3 = (k + 2) + 1 from rfl]
    simp only [pointillistref15_down.l0]
    rw [if_pos (by omega), ha', hb']
    split
    · exact key1 _ (by omega)
    · exact key1 _ (by omega)
theorem down_f (hd : Dom px py qx qy h) (hlt : py < qy) {k : Nat} (hk : 3 * h.toNat < k) : pointillistref15_down.f k px py qx qy h = some (strips px py qx qy h) := by
  have h0 := hd.h0
  have := down_l hd hlt h.toNat 0 k [] (by omega) (by simp) hk
  rw [dl_strips hd hlt, List.nil_append] at this
  exact this
theorem Dom.swap (hd : Dom px py qx qy h) : Dom qx qy px py h := ⟨hd.iqx, hd.iqy, hd.ipx, hd.ipy, fun e => hd.ne e.symm, hd.h0, hd.h1⟩
theorem sT_swap : sT qy py = sT py qy := by unfold sT mx mn; (repeat' split) <;> omega
theorem sE_swap : sE qy py h = sE py qy h := by unfold sE mx mn; (repeat' split) <;> omega
theorem sN_swap : sN qy py h = sN py qy h := by unfold sN sA sB; rw [sT_swap, sE_swap]
theorem row_swap (hne : py ≠ qy) {k : Nat} (hk : k < sN py qy h) : sRow qy py h (sN py qy h - 1 - k) = sRow py qy h k := by
  unfold sN at *
  split at hk
  · rename_i hok
    rw [if_pos hok]
    unfold sRow sA sB at *
    rw [sT_swap (py := py) (qy := qy), sE_swap (py := py) (qy := qy)]
    (repeat' split) <;> omega
  · omega
/-- The row, gone through from its end. -/
def turned (px py qx qy : Int) (x : Rw) : Rw := ⟨x.f0, ⟨xAt px py qx qy (x.f1.f3 + x.f0 * 65536), x.f1.f3, xAt px py qx qy (x.f1.f1 + x.f0 * 65536), x.f1.f1⟩⟩
theorem turned_row (row : Int) : turned px py qx qy (rowS qx qy px py row) = rowS px py qx qy row := by
  unfold turned rowS
  simp only
  rw [show cl py row - row * 65536 + row * 65536 = cl py row by omega, show cl qy row - row * 65536 + row * 65536 = cl qy row by omega]
theorem all_l (hd : Dom px py qx qy h) (xs : List Rw) (hl : xs.length ≤ 100000) (hx : ∀ x ∈ xs, ∃ row, x = rowS qx qy px py row ∧ 0 ≤ row ∧ row < h ∧ row * 65536 < mx py qy ∧ mn py qy < row * 65536 + 65536) :
    ∀ (n k : Nat) (acc : List Rw), n ≤ xs.length → acc.length + n ≤ 100000 → n < k → pointillistref15_All.l0 k xs acc ((n : Int) - 1) px py qx qy = some (acc ++ ((xs.take n).reverse.map (turned px py qx qy)))
  | 0, k, acc, hn, ha, hk => by
    obtain ⟨k, rfl⟩ : ∃ m, k = m + 1 := ⟨k - 1, by omega⟩
    simp only [pointillistref15_All.l0]
    rw [if_neg (by omega)]
    simp
  | n + 1, k, acc, hn, ha, hk => by
    obtain ⟨k, rfl⟩ : ∃ m, k = m + 1 := ⟨k - 1, by omega⟩
    have hi : n < xs.length := by omega
    have hrd : rd_T102 xs ((n : Nat) : Int) = xs[n] := by simp [rd_T102, hi]
    have hmem := hx xs[n] (List.getElem_mem hi)
    obtain ⟨row, er, r0, r1, r2, r3⟩ := hmem
    have hh := hd.h1
    obtain ⟨c1, c2, c3, c4, c5, c6⟩ := cl_in r2 r3
    simp only [pointillistref15_All.l0]
    rw [show ((n + 1 : Nat) : Int) - 1 = (n : Int) by omega, if_pos (by omega), if_pos (by omega), if_pos (by omega), hrd, er]
    have e1 : (rowS qx qy px py row).f1.f3 + row * 65536 = cl py row := by show cl py row - row * 65536 + row * 65536 = _; omega
    have e2 : (rowS qx qy px py row).f1.f1 + row * 65536 = cl qy row := by show cl qy row - row * 65536 + row * 65536 = _; omega
    rw [show (rowS qx qy px py row).f0 = row from rfl, w64 (x := row * 65536) (by omega) (by omega), e1, e2, w64 (x := cl py row) (by omega) (by omega), w64 (x := cl qy row) (by omega) (by omega), refx_f hd c1, refx_f hd c2]
    simp only [Option.bind_some]
    rw [if_pos (by omega), w64 (x := (n : Int) - 1) (by omega) (by omega), all_l hd xs hl hx n k _ (by omega) (by simp; omega) (by omega)]
    rw [List.take_succ_eq_append_getElem hi, List.reverse_append, List.map_append, List.append_assoc, List.reverse_singleton, List.map_singleton, er]
    unfold turned
    rw [show (rowS qx qy px py row).f0 = row from rfl, e1, e2]
theorem strips_mem (hd : Dom px py qx qy h) {x : Rw} (hx : x ∈ strips px py qx qy h) : ∃ row, x = rowS px py qx qy row ∧ 0 ≤ row ∧ row < h ∧ row * 65536 < mx py qy ∧ mn py qy < row * 65536 + 65536 := by
  unfold strips at hx
  obtain ⟨k, hk, rfl⟩ := List.mem_map.1 hx
  exact ⟨_, rfl, row_bounds hd (List.mem_range.1 hk)⟩
theorem sN_le (hd : Dom px py qx qy h) : (sN py qy h : Int) ≤ h := by
  by_cases h0 : 0 < sN py qy h
  · have a := row_bounds hd (k := 0) h0
    have b := row_bounds hd (k := sN py qy h - 1) (by omega)
    unfold sRow at a b
    split at a <;> omega
  · have := hd.h0; omega
theorem mx_comm (a b : Int) : mx a b = mx b a := by unfold mx; (repeat' split) <;> omega
theorem mn_comm (a b : Int) : mn a b = mn b a := by unfold mn; (repeat' split) <;> omega
theorem strips_turned (hd : Dom px py qx qy h) : ((strips qx qy px py h).reverse.map (turned px py qx qy)) = strips px py qx qy h := by
  apply List.ext_getElem?
  intro k
  have hl : (strips qx qy px py h).length = sN py qy h := by rw [strips_len, sN_swap]
  by_cases hk : k < sN py qy h
  · rw [strips_at _ _ _ _ _ hk, List.getElem?_map, List.getElem?_reverse (by omega), hl, strips_at _ _ _ _ _ (by have := sN_swap (py := py) (qy := qy) (h := h); omega)]
    rw [Option.map_some, turned_row, row_swap hd.ne hk]
  · rw [List.getElem?_eq_none (by simp; omega), List.getElem?_eq_none (by rw [strips_len]; omega)]
theorem all_f (hd : Dom px py qx qy h) {k : Nat} (hk : 3 * h.toNat < k) : pointillistref15_All.f k px py qx qy h = some (strips px py qx qy h) := by
  have h0 := hd.h0
  have hh := hd.h1
  unfold pointillistref15_All.f
  by_cases hlt : py < qy
  · rw [if_pos hlt, down_f hd hlt hk]; rfl
  · have hne := hd.ne
    rw [if_neg hlt, down_f hd.swap (by omega) hk]
    have hl := sN_le hd.swap
    simp only [Option.bind_some]
    have hlen : (strips qx qy px py h).length = sN qy py h := strips_len _ _ _ _ _
    rw [w64 (x := ((strips qx qy px py h).length : Int) - 1) (by omega) (by omega), all_l hd _ (by omega) (fun x hx => by
      obtain ⟨row, e, r⟩ := strips_mem hd.swap hx
      exact ⟨row, e, by rw [mx_comm py, mn_comm py]; exact r⟩) _ k [] (Nat.le_refl _) (by simp; omega) (by omega)]
    rw [List.take_length, List.nil_append, strips_turned hd]
end
end Go.Proofs.Ytejcjonlnijbkaa.Strip

/- Chapter 16's document as numbers: it answers what package cell does. For all strips and widths that may be asked about. -/
namespace Go.Proofs.Ytejcjonlnijbkaa.Cell
open Go Go.RowKit Go.Proofs.Ytejcjonlnijbkaa.PE Go.Proofs.YtejcjonlnijbkaaW.PrintWords Go.Proofs.YtejcjonlnijbkaaW.PrintLast Go.Proofs.YtejcjonlnijbkaaW.PrintMore
set_option linter.unusedVariables false
set_option linter.unusedSimpArgs false
section
variable {X0 Y0 X1 Y1 w : Int}
theorem refheight_f (hd : Dom X0 Y0 X1 Y1 w) {x : Int} (hx : (X0 < x ∧ x < X1) ∨ (X1 < x ∧ x < X0)) : pointillistref16_height.f X0 Y0 X1 Y1 x = some (hAt X0 Y0 X1 Y1 x) := by
  obtain ⟨p, q⟩ := hAt_in hd hx
  have h1 := hd.x0
  have h2 := hd.x1
  have h3 := hd.y0
  have h4 := hd.y1
  unfold pointillistref16_height.f pointillistref01_MulDiv.f
  rw [w64 (x := Y1 - Y0) (by omega) (by omega), w64 (x := x - X0) (by omega) (by omega), w64 (x := X1 - X0) (by omega) (by omega), if_pos (by omega), MdEq.mdV]
  show some (wrap64 (hAt X0 Y0 X1 Y1 x)) = _
  rw [w64 (by have := p; have := q; omega) (by have := p; have := q; omega)]
theorem between_f (x a b : Int) : pointillistref16_between.f x a b = some (decide ((a < x ∧ x < b) ∨ (b < x ∧ x < a))) := by
  unfold pointillistref16_between.f
  (repeat' split) <;> refine congrArg some ?_ <;> first | (exact (decide_eq_true (by omega)).symm) | (exact (decide_eq_false (by omega)).symm) | (rw [decide_eq_decide]; omega)
/-- The line that is tried at i; where the lines begin. -/
def cand (X0 X1 w : Int) (i : Nat) : Int := if X0 > X1 then w - i else i
def lS (X0 X1 w : Int) : Int := if X0 > X1 then w - lL X0 X1 w else lF X0 X1
theorem cand_in (hd : Dom X0 Y0 X1 Y1 w) {i : Nat} (hi : (i : Int) ≤ w) : ((X0 < cand X0 X1 w i * 65536 ∧ cand X0 X1 w i * 65536 < X1) ∨ (X1 < cand X0 X1 w i * 65536 ∧ cand X0 X1 w i * 65536 < X0)) ↔ (lS X0 X1 w ≤ i ∧ (i : Int) < lS X0 X1 w + lN X0 X1 w) := by
  have h0 := hd.w0
  unfold lN lS cand
  by_cases h : X0 > X1
  · simp only [if_pos h]
    have e1 : mn X0 X1 = X1 := by unfold mn; rw [if_pos h]
    have e2 : mx X0 X1 = X0 := by unfold mx; rw [if_neg (by omega)]
    unfold lL lF
    rw [e1, e2]
    unfold mn mx
    (repeat' split) <;> omega
  · simp only [if_neg h]
    have e1 : mn X0 X1 = X0 := by unfold mn; rw [if_neg (by omega)]
    have e2 : mx X0 X1 = X1 := by unfold mx; split <;> omega
    unfold lL lF
    rw [e1, e2]
    unfold mn mx
    (repeat' split) <;> omega
theorem lS_pos (hd : Dom X0 Y0 X1 Y1 w) : 0 ≤ lS X0 X1 w ∧ lS X0 X1 w + lN X0 X1 w ≤ w + 1 ∨ lN X0 X1 w = 0 := by
  have h0 := hd.w0
  unfold lN lS lL lF mx
  unfold mn
  (repeat' split) <;> omega
theorem cand_lK {i j : Nat} (h : (i : Int) = lS X0 X1 w + j) : cand X0 X1 w i = lK X0 X1 w j := by
  unfold cand lK; unfold lS at h; split at h <;> split <;> omega
/-- The pieces up to the j-th line. -/
def accL (X0 Y0 X1 Y1 w : Int) (j : Nat) : List Pc := (List.range j).map (piece X0 Y0 X1 Y1 w) ++ [⟨pX X0 X1 w j, pY X0 Y0 X1 Y1 w j, X1, Y1⟩]
theorem accL_len (j : Nat) : (accL X0 Y0 X1 Y1 w j).length = j + 1 := by simp [accL]
theorem accL_last (j : Nat) : (accL X0 Y0 X1 Y1 w j).getD j z100 = ⟨pX X0 X1 w j, pY X0 Y0 X1 Y1 w j, X1, Y1⟩ := by simp [accL]
theorem accL_all : accL X0 Y0 X1 Y1 w (lN X0 X1 w) = cuts X0 Y0 X1 Y1 w := by
  unfold accL cuts
  rw [List.range_succ, List.map_append]
  congr 1
  simp only [List.map_cons, List.map_nil]
  unfold piece pX pY
  simp
  exact ⟨fun h => absurd h (by omega), fun h => absurd h (by omega)⟩
theorem accL_next {j : Nat} (hj : j < lN X0 X1 w) : (accL X0 Y0 X1 Y1 w j).set j ⟨pX X0 X1 w j, pY X0 Y0 X1 Y1 w j, lK X0 X1 w j * 65536, hAt X0 Y0 X1 Y1 (lK X0 X1 w j * 65536)⟩ ++ [⟨lK X0 X1 w j * 65536, hAt X0 Y0 X1 Y1 (lK X0 X1 w j * 65536), X1, Y1⟩] = accL X0 Y0 X1 Y1 w (j + 1) := by
  have e1 : pX X0 X1 w (j + 1) = lK X0 X1 w j * 65536 := by unfold pX; rw [if_neg (by omega), if_pos (by omega)]; rfl
  have e2 : pY X0 Y0 X1 Y1 w (j + 1) = hAt X0 Y0 X1 Y1 (lK X0 X1 w j * 65536) := by unfold pY; rw [if_neg (by omega), if_pos (by omega)]; rfl
  unfold accL
  rw [List.range_succ, List.map_append, e1, e2]
  simp only [List.map_cons, List.map_nil]
  unfold piece
  rw [e1, e2, List.set_append_right _ _ (by simp)]
  simp
theorem cuts_l0 (hd : Dom X0 Y0 X1 Y1 w) : ∀ (n i k : Nat), ((i + n : Nat) : Int) = w + 1 → 2 * n < k →
    pointillistref16_Cuts.l0 k w (accL X0 Y0 X1 Y1 w (min (i - (lS X0 X1 w).toNat) (lN X0 X1 w))) (i : Int) X0 Y0 X1 Y1 = some (cuts X0 Y0 X1 Y1 w) := by
  intro n
  have hS := lS_pos hd
  have hw := hd.w1
  have hL := lN_le hd
  induction n with
  | zero =>
    intro i k e hk
    obtain ⟨k, rfl⟩ : ∃ m, k = m + 1 := ⟨k - 1, by omega⟩
    simp only [pointillistref16_Cuts.l0]
    rw [if_neg (by omega), ← accL_all, show min (i - (lS X0 X1 w).toNat) (lN X0 X1 w) = lN X0 X1 w by omega]
  | succ n ihn =>
    intro i k e hk
    obtain ⟨k, rfl⟩ : ∃ m, k = m + 2 := ⟨k - 2, by omega⟩
    have ih := ihn (i + 1) k (by omega) (by omega)
    clear ihn
    have hc := cand_in hd (i := i) (by omega)
    have hc0 : 0 ≤ cand X0 X1 w i ∧ cand X0 X1 w i ≤ w := by unfold cand; split <;> omega
    have key : pointillistref16_Cuts.j1 (k + 1) w (accL X0 Y0 X1 Y1 w (min (i - (lS X0 X1 w).toNat) (lN X0 X1 w))) (i : Int) (cand X0 X1 w i * 65536) X0 Y0 X1 Y1 = some (cuts X0 Y0 X1 Y1 w) := by
      simp only [pointillistref16_Cuts.j1]
      rw [between_f]
      simp only [Option.bind_some]
      have hnext : wrap64 ((i : Int) + 1) = ((i + 1 : Nat) : Int) := by rw [w64 (by omega) (by omega)]; omega
      rw [hnext]
      clear hnext
      by_cases hb : lS X0 X1 w ≤ i ∧ (i : Int) < lS X0 X1 w + lN X0 X1 w
      · have hb' := hc.2 hb
        obtain ⟨j, hj⟩ : ∃ j : Nat, (i : Int) = lS X0 X1 w + j := ⟨((i : Int) - lS X0 X1 w).toNat, by omega⟩
        have hj2 : i - (lS X0 X1 w).toNat = j := by omega
        have hj3 : min j (lN X0 X1 w) = j := by omega
        have hj4 : min (i + 1 - (lS X0 X1 w).toNat) (lN X0 X1 w) = j + 1 := by omega
        have ejk := cand_lK hj
        rw [decide_eq_true hb', if_pos rfl, refheight_f hd hb', ejk]
        simp only [Option.bind_some]
        rw [hj2, hj3, accL_len, w64 (x := ((j + 1 : Nat) : Int) - 1) (by omega) (by omega), if_pos (by omega), if_pos (by omega), show ((j + 1 : Nat) : Int) - 1 = (j : Int) by omega]
        unfold rd_T100
        rw [Int.toNat_natCast, accL_last, if_pos (by rw [List.length_set, accL_len]; omega), accL_next (by omega), ← hj4, ih]
      · rw [decide_eq_false (fun h => hb (hc.1 h)), if_neg (by decide)]
        rw [show min (i - (lS X0 X1 w).toNat) (lN X0 X1 w) = min (i + 1 - (lS X0 X1 w).toNat) (lN X0 X1 w) by omega]
        exact ih
    rw [show k + 2 = (k + 1) + 1 from rfl]
    simp only [pointillistref16_Cuts.l0]
    rw [if_pos (by omega)]
    have ec : cand X0 X1 w i = if X0 > X1 then w - i else i := rfl
    split
    · rename_i h
      rw [if_pos h] at ec
      rw [w64 (x := w - i) (by omega) (by omega), ← ec, w64 (x := cand X0 X1 w i * 65536) (by omega) (by omega)]
      exact key
    · rename_i h
      rw [if_neg h] at ec
      rw [← ec, w64 (x := cand X0 X1 w i * 65536) (by omega) (by omega), ec, ← ec]
      have key2 := key
      rw [ec] at key2 ⊢
      exact key2
theorem cuts_f (hd : Dom X0 Y0 X1 Y1 w) {k : Nat} (hk : 2 * (w.toNat + 1) < k) : pointillistref16_Cuts.f k X0 Y0 X1 Y1 w = some (cuts X0 Y0 X1 Y1 w) := by
  have h0 := hd.w0
  have := cuts_l0 hd (w.toNat + 1) 0 k (by omega) hk
  rw [show min (0 - (lS X0 X1 w).toNat) (lN X0 X1 w) = 0 by omega] at this
  exact this
end
end Go.Proofs.Ytejcjonlnijbkaa.Cell

/- Chapter 16's cells as numbers: the document's are package cell's. For all strips and widths that may be asked about. -/
namespace Go.Proofs.Ytejcjonlnijbkaa.Cell
open Go Go.RowKit Go.Proofs.Ytejcjonlnijbkaa.PE Go.Proofs.YtejcjonlnijbkaaW.PrintWords Go.Proofs.YtejcjonlnijbkaaW.PrintLast Go.Proofs.YtejcjonlnijbkaaW.PrintMore
set_option linter.unusedVariables false
set_option linter.unusedSimpArgs false
def fm (o : Option Cl) (l : List Cl) : List Cl := match o with | none => l | some b => b :: l
theorem fm_cons (f : Pc → Option Cl) (x : Pc) (xs : List Pc) : (x :: xs).filterMap f = fm (f x) (xs.filterMap f) := by
  rw [List.filterMap_cons]; cases f x <;> rfl
section
variable {X0 Y0 X1 Y1 w : Int}
theorem all_l0 (hd : Dom X0 Y0 X1 Y1 w) : ∀ (n i k : Nat) (acc : List Cl), i + n = (cuts X0 Y0 X1 Y1 w).length → acc.length ≤ i → 3 * n < k →
    pointillistref16_All.l0 k w acc (cuts X0 Y0 X1 Y1 w) (i : Int) = some (acc ++ ((cuts X0 Y0 X1 Y1 w).drop i).filterMap (cellOf w)) := by
  intro n
  have hs := cuts_short hd
  have hw0 := hd.w0
  have hw1 := hd.w1
  induction n with
  | zero =>
    intro i k acc e ha hk
    obtain ⟨k, rfl⟩ : ∃ m, k = m + 1 := ⟨k - 1, by omega⟩
    simp only [pointillistref16_All.l0]
    rw [if_neg (by omega), List.drop_of_length_le (by omega)]
    simp
  | succ n ihn =>
    intro i k acc e ha hk
    obtain ⟨k, rfl⟩ : ∃ m, k = m + 3 := ⟨k - 3, by omega⟩
    have hi : i < (cuts X0 Y0 X1 Y1 w).length := by omega
    have hrd : rd_T100 (cuts X0 Y0 X1 Y1 w) (i : Int) = (cuts X0 Y0 X1 Y1 w)[i] := by simp [rd_T100, hi]
    obtain ⟨⟨b0, b0'⟩, ⟨b1, b1'⟩, ⟨b2, b2'⟩, b3, b3'⟩ := cuts_mem hd (List.getElem?_eq_getElem hi)
    have ih := fun acc h => ihn (i + 1) k acc (by omega) h (by omega)
    clear ihn
    rw [List.drop_eq_getElem_cons hi, fm_cons]
    generalize (cuts X0 Y0 X1 Y1 w)[i] = x at *
    obtain ⟨p0, p1, p2, p3⟩ := x
    dsimp only at b0 b0' b1 b1' b2 b2' b3 b3'
    have hnext : ∀ _ : Unit, wrap64 ((i : Int) + 1) = ((i + 1 : Nat) : Int) := fun _ => by rw [w64 (by omega) (by omega)]; omega
    have ed : wrap64 (p3 - p1) = p3 - p1 := w64 (by omega) (by omega)
    have eD : -65536 ≤ p3 - p1 ∧ p3 - p1 ≤ 65536 := by omega
    have key : ∀ M, M = mn p0 p2 → pointillistref16_All.j1 (k + 2) w acc (cuts X0 Y0 X1 Y1 w) (i : Int) M p0 p1 p2 p3 = some (acc ++ fm (cellOf w ⟨p0, p1, p2, p3⟩) (((cuts X0 Y0 X1 Y1 w).drop (i + 1)).filterMap (cellOf w))) := by
      intro M hM
      have em1 : -17179869184 ≤ M ∧ M ≤ 17179869184 := by rw [hM]; unfold mn; split <;> omega
      have CD : cellOf w ⟨p0, p1, p2, p3⟩ = if p3 - p1 = 0 ∨ M / 65536 ≥ w then none else if M / 65536 < 0 then some ⟨0, ⟨p3 - p1, 0⟩⟩ else some ⟨M / 65536, ⟨p3 - p1, (p3 - p1) * (p0 + p2 - 2 * (M / 65536) * 65536)⟩⟩ := by rw [hM]; rfl
      have key2 : ∀ b : Bool, b = decide (p3 - p1 = 0 ∨ M / 65536 ≥ w) → pointillistref16_All.j2 (k + 1) w acc (cuts X0 Y0 X1 Y1 w) (i : Int) M (p3 - p1) b p0 p1 p2 p3 = some (acc ++ fm (cellOf w ⟨p0, p1, p2, p3⟩) (((cuts X0 Y0 X1 Y1 w).drop (i + 1)).filterMap (cellOf w))) := by
        intro b hb
        rw [CD]
        clear CD hM
        simp only [pointillistref16_All.j2]
        rw [hnext ()]
        by_cases hc : p3 - p1 = 0 ∨ M / 65536 ≥ w
        · rw [decide_eq_true hc] at hb
          rw [hb, if_pos rfl, if_pos hc, ih _ (by omega)]
          rfl
        · rw [decide_eq_false hc] at hb
          rw [hb, if_neg (by decide), if_neg hc]
          by_cases hn : M < 0
          · rw [if_pos hn, if_pos (by omega), if_pos (by omega), ih _ (by simp; omega), List.append_assoc]; rfl
          · rw [if_neg hn, if_pos (by omega), if_neg (by omega), ih _ (by simp; omega), List.append_assoc, Int.tdiv_eq_ediv_of_nonneg (by omega)]
            have e5 := mul_in (b := p0 + p2 - 2 * (M / 65536) * 65536) eD (by omega)
            rw [w64 (x := M / 65536) (by omega) (by omega), w64 (x := M / 65536 * 65536) (by omega) (by omega), w64 (x := p0 - M / 65536 * 65536) (by omega) (by omega), w64 (x := p0 - M / 65536 * 65536 + p2) (by omega) (by omega), w64 (x := p0 - M / 65536 * 65536 + p2 - M / 65536 * 65536) (by omega) (by omega)]
            rw [show p0 - M / 65536 * 65536 + p2 - M / 65536 * 65536 = p0 + p2 - 2 * (M / 65536) * 65536 by omega, w64 (x := (p3 - p1) * _) (by omega) (by omega)]
            rfl
      simp only [pointillistref16_All.j1]
      rw [ed, w64 (x := w * 65536) (by omega) (by omega)]
      split
      · exact key2 true (by rw [eq_comm, decide_eq_true_eq]; left; assumption)
      · exact key2 _ (by rw [decide_eq_decide]; omega)
    rw [show k + 3 = (k + 2) + 1 from rfl]
    simp only [pointillistref16_All.l0]
    rw [if_pos (by omega), if_pos (by omega), hrd]
    dsimp only
    split
    · exact key p2 (by unfold mn; rw [if_pos (by assumption)])
    · exact key p0 (by unfold mn; rw [if_neg (by assumption)])
theorem all_f (hd : Dom X0 Y0 X1 Y1 w) {k : Nat} (hk : 3 * (w.toNat + 4) < k) : pointillistref16_All.f k X0 Y0 X1 Y1 w = some (cells X0 Y0 X1 Y1 w) := by
  have h0 := hd.w0
  have hl := lN_le hd
  unfold pointillistref16_All.f
  rw [cuts_f hd (by omega)]
  simp only [Option.bind_some]
  have := all_l0 hd (cuts X0 Y0 X1 Y1 w).length 0 k [] (by omega) (by simp) (by rw [cuts_len]; omega)
  rw [List.drop_zero, List.nil_append] at this
  exact this
end
end Go.Proofs.Ytejcjonlnijbkaa.Cell

/- Chapter 17's document as numbers: a row's cells, a pixel's weight, all weights. Plain. -/
namespace Go.Proofs.Ytejcjonlnijbkaa.Buf
open Go Go.RowKit Go.Proofs.Ytejcjonlnijbkaa.PE Go.Proofs.YtejcjonlnijbkaaW.PrintWords Go.Proofs.YtejcjonlnijbkaaW.PrintLast Go.Proofs.YtejcjonlnijbkaaW.PrintMore
set_option maxRecDepth 100000
set_option linter.unusedVariables false
set_option linter.unusedSimpArgs false

theorem within_iff (e : Eg) : within e = true ↔ Strip.InE e.f0.f0 ∧ Strip.InE e.f0.f1 ∧ Strip.InE e.f1.f0 ∧ Strip.InE e.f1.f1 := by
  simp [within, Wide.inB, Strip.InE]; omega
theorem taken_f (e : Eg) : Ev (fun k => pointillistref17_Taken.f k e.f0.f0 e.f0.f1 e.f1.f0 e.f1.f1) (taken e) := by
  refine ⟨5, fun k hk => ?_⟩
  obtain ⟨t, h1, h2⟩ := Strip.right_f e.f0.f0 e.f0.f1 e.f1.f0 e.f1.f1 hk
  show pointillistref17_Taken.f k e.f0.f0 e.f0.f1 e.f1.f0 e.f1.f1 = _
  unfold pointillistref17_Taken.f
  rw [h1]
  simp only [Option.bind_some]
  congr 1
  rw [Bool.eq_iff_iff, h2, ← within_iff]
  simp [taken, and_comm]
theorem strs_f {e : Eg} {H : Int} (h : taken e = true) (h0 : 0 ≤ H) (h1 : H ≤ 100000) : Ev (fun k => pointillistref15_All.f k e.f0.f0 e.f0.f1 e.f1.f0 e.f1.f1 H) (strs H e) :=
  ⟨3 * H.toNat + 1, fun k hk => Strip.all_f (taken_dom h h0 h1) (by omega)⟩
theorem strs_len {e : Eg} {H : Int} (h : taken e = true) (h0 : 0 ≤ H) (h1 : H ≤ 4096) : (strs H e).length ≤ 4096 := by
  unfold strs; rw [Strip.strips_len]
  have := Strip.sN_le (taken_dom h h0 (by omega))
  omega
theorem cells_len {X0 Y0 X1 Y1 W : Int} (hd : Cell.Dom X0 Y0 X1 Y1 W) (hW : W ≤ 4096) : (Cell.cells X0 Y0 X1 Y1 W).length ≤ 5000 := by
  unfold Cell.cells
  refine Nat.le_trans (List.length_filterMap_le _ _) ?_
  rw [Cell.cuts_len]
  have := Cell.lN_le hd
  omega

theorem rdS {xs : List S102} {i : Nat} (h : i < xs.length) : rd_T102 xs (i : Int) = xs[i] := by simp [rd_T102, h]
theorem rdE {xs : List Eg} {i : Nat} (h : i < xs.length) : rd_T38 xs (i : Int) = xs[i] := by simp [rd_T38, h]
theorem rdC {xs : List Cl} {i : Nat} (h : i < xs.length) : rd_T62 xs (i : Int) = xs[i] := by simp [rd_T62, h]

section
variable {W H y : Int} {es : List Eg}
theorem row_l1 (hW : 1 ≤ W ∧ W ≤ 4096) {x6 : Int} {xs : List S102} (hx : xs.length ≤ 4096) (hd : ∀ s ∈ xs, Cell.Dom s.f1.f0 s.f1.f1 s.f1.f2 s.f1.f3 W) {r : List Cl} : ∀ (n j : Nat) (acc : List Cl), j + n = xs.length → acc.length ≤ 100000000000 + j * 5000 →
    Ev (fun k => pointillistref17_Row.l0 k y (acc ++ (xs.drop j).flatMap (part W y)) (wrap64 (x6 + 1)) es W H) r → Ev (fun k => pointillistref17_Row.l1 k y acc x6 xs (j : Int) es W H) r
  | 0, j, acc, hj, ha, h => by
    refine Ev.step (fun k => ?_) h
    conv => lhs; unfold pointillistref17_Row.l1
    rw [if_neg (by omega), List.drop_eq_nil_of_le (by omega)]; simp
  | n + 1, j, acc, hj, ha, h => by
    have hlt : j < xs.length := by omega
    rw [List.drop_eq_getElem_cons hlt, List.flatMap_cons, ← List.append_assoc] at h
    by_cases hy : xs[j].f0 = y
    · have hp : part W y xs[j] = Cell.cells xs[j].f1.f0 xs[j].f1.f1 xs[j].f1.f2 xs[j].f1.f3 W := if_pos hy
      have hdj := hd xs[j] (List.getElem_mem hlt)
      have hl := cells_len hdj hW.2
      rw [hp] at h
      have ih := row_l1 hW (x6 := x6) hx hd n (j + 1) _ (by omega) (by rw [List.length_append]; omega) h
      have hc : Ev (fun k => pointillistref16_All.f k xs[j].f1.f0 xs[j].f1.f1 xs[j].f1.f2 xs[j].f1.f3 W) _ := ⟨3 * (W.toNat + 4) + 1, fun k hk => Cell.all_f hdj (by omega)⟩
      refine Ev.step (g := fun k => (pointillistref16_All.f k xs[j].f1.f0 xs[j].f1.f1 xs[j].f1.f2 xs[j].f1.f3 W).bind fun t182 => if acc.length + t182.length < 5864062014805 then pointillistref17_Row.l1 k y (acc ++ t182) x6 xs (wrap64 ((j : Int) + 1)) es W H else none) (fun k => ?_) (Ev.bind hc (Ev.congr ih fun k => ?_))
      · conv => lhs; unfold pointillistref17_Row.l1
        rw [if_pos (by omega), if_pos (by omega), rdS hlt, if_pos hy]
      · rw [if_pos (by omega), wnext (by omega)]
    · have hp : part W y xs[j] = [] := if_neg hy
      rw [hp, List.append_nil] at h
      have ih := row_l1 hW (x6 := x6) hx hd n (j + 1) _ (by omega) (by omega) h
      refine Ev.step (fun k => ?_) ih
      conv => lhs; unfold pointillistref17_Row.l1
      rw [if_pos (by omega), if_pos (by omega), rdS hlt, if_neg hy, wnext (by omega)]
theorem strs_dom {e : Eg} (h : taken e = true) (h0 : 0 ≤ H) (h1 : H ≤ 4096) (hW : 1 ≤ W ∧ W ≤ 4096) : ∀ s ∈ strs H e, Cell.Dom s.f1.f0 s.f1.f1 s.f1.f2 s.f1.f3 W := fun s hs => (strip_dom (taken_dom h h0 (by omega)) (by omega) hs).1
theorem contr_len (e : Eg) (h0 : 0 ≤ H) (h1 : H ≤ 4096) (hW : 1 ≤ W ∧ W ≤ 4096) : (contr W H y e).length ≤ 20480000 := by
  unfold contr
  split
  · rename_i h
    have hl := strs_len h h0 h1
    have hd := strs_dom h h0 h1 hW
    generalize strs H e = xs at *
    have : ∀ (l : List Rw), (∀ s ∈ l, Cell.Dom s.f1.f0 s.f1.f1 s.f1.f2 s.f1.f3 W) → (l.flatMap (part W y)).length ≤ l.length * 5000 := fun l => by
      induction l with
      | nil => intro _; simp
      | cons s l ih =>
        intro hd
        have h1 := ih (fun s hs => hd s (by simp [hs]))
        have h2 : (part W y s).length ≤ 5000 := by
          unfold part; split
          · exact cells_len (hd s (by simp)) hW.2
          · simp
        rw [List.flatMap_cons, List.length_append, List.length_cons]; omega
    have := this xs hd
    omega
  · simp
theorem row_l0 (h0 : 0 ≤ H) (h1 : H ≤ 4096) (hW : 1 ≤ W ∧ W ≤ 4096) (he : es.length ≤ 100) : ∀ (n i : Nat) (acc : List Cl), i + n = es.length → acc.length ≤ i * 20480000 →
    Ev (fun k => pointillistref17_Row.l0 k y acc (i : Int) es W H) (acc ++ (es.drop i).flatMap (contr W H y))
  | 0, i, acc, hi, ha => by
    refine Ev.step (g := fun _ => some _) (fun k => ?_) Ev.const
    conv => lhs; unfold pointillistref17_Row.l0
    rw [if_neg (by omega), List.drop_eq_nil_of_le (by omega)]; simp
  | n + 1, i, acc, hi, ha => by
    have hlt : i < es.length := by omega
    rw [List.drop_eq_getElem_cons hlt, List.flatMap_cons, ← List.append_assoc]
    have hcl := contr_len (y := y) es[i] h0 h1 hW
    have ih := row_l0 h0 h1 hW he n (i + 1) (acc ++ contr W H y es[i]) (by omega) (by rw [List.length_append]; omega)
    by_cases ht : taken es[i] = true
    · have hc : contr W H y es[i] = (strs H es[i]).flatMap (part W y) := if_pos ht
      rw [hc] at ih ⊢
      have hb := row_l1 (es := es) (H := H) (y := y) hW (x6 := i) (strs_len ht h0 h1) (strs_dom ht h0 h1 hW) (strs H es[i]).length 0 acc (by omega) (by omega) (Ev.congr ih fun k => by rw [List.drop_zero, wnext (by omega)])
      refine Ev.step (g := fun k => (pointillistref17_Taken.f k es[i].f0.f0 es[i].f0.f1 es[i].f1.f0 es[i].f1.f1).bind fun t175 => if t175 = true then (pointillistref15_All.f k es[i].f0.f0 es[i].f0.f1 es[i].f1.f0 es[i].f1.f1 H).bind fun t177 => pointillistref17_Row.l1 k y acc (i : Int) t177 0 es W H else pointillistref17_Row.l0 k y acc (wrap64 ((i : Int) + 1)) es W H) (fun k => ?_) (Ev.bind (taken_f es[i]) (Ev.congr (Ev.bind (v := fun t177 k => pointillistref17_Row.l1 k y acc (i : Int) t177 0 es W H) (strs_f ht h0 (by omega)) hb) fun k => by rw [if_pos ht]))
      conv => lhs; unfold pointillistref17_Row.l0
      rw [if_pos (by omega), if_pos (by omega), rdE hlt]
    · have hc : contr W H y es[i] = [] := if_neg ht
      rw [hc, List.append_nil] at ih ⊢
      refine Ev.step (g := fun k => (pointillistref17_Taken.f k es[i].f0.f0 es[i].f0.f1 es[i].f1.f0 es[i].f1.f1).bind fun t175 => if t175 = true then (pointillistref15_All.f k es[i].f0.f0 es[i].f0.f1 es[i].f1.f0 es[i].f1.f1 H).bind fun t177 => pointillistref17_Row.l1 k y acc (i : Int) t177 0 es W H else pointillistref17_Row.l0 k y acc (wrap64 ((i : Int) + 1)) es W H) (fun k => ?_) (Ev.bind (taken_f es[i]) (Ev.congr ih fun k => by rw [if_neg ht, wnext (by omega)]))
      conv => lhs; unfold pointillistref17_Row.l0
      rw [if_pos (by omega), if_pos (by omega), rdE hlt]
theorem row_f (h0 : 0 ≤ H) (h1 : H ≤ 4096) (hW : 1 ≤ W ∧ W ≤ 4096) (he : es.length ≤ 100) : Ev (fun k => pointillistref17_Row.f k es W H y) (addl W H es nought y) := by
  have := row_l0 (y := y) h0 h1 hW he es.length 0 [] (by omega) (by simp)
  rw [List.drop_zero, List.nil_append] at this
  rw [addl_eq]
  exact Ev.congr this fun k => rfl
end

theorem weight_l0 (x : Int) (L : List Cl) (hl : L.length ≤ 100000000000) : ∀ (n i : Nat) (s : Int), i + n = L.length → Ev (fun k => pointillistref17_Weight.l0 k L x (wrap64 s) (i : Int)) (wrap64 (s + wsum x (L.drop i)))
  | 0, i, s, hi => by
    refine Ev.step (g := fun _ => some _) (fun k => ?_) Ev.const
    conv => lhs; unfold pointillistref17_Weight.l0
    rw [if_neg (by omega), List.drop_eq_nil_of_le (by omega)]; simp [wsum]
  | n + 1, i, s, hi => by
    have hlt : i < L.length := by omega
    rw [List.drop_eq_getElem_cons hlt]
    unfold wsum
    have step : ∀ (d : Int), (if L[i].f0 < x then L[i].f1.f0 * 131072 else if L[i].f0 = x then L[i].f1.f0 * 131072 - L[i].f1.f1 else 0) = d → (∀ k, pointillistref17_Weight.l0 (k + 1) L x (wrap64 s) (i : Int) = pointillistref17_Weight.l0 k L x (wrap64 (s + d)) ((i + 1 : Nat) : Int)) → Ev (fun k => pointillistref17_Weight.l0 k L x (wrap64 s) (i : Int)) (wrap64 (s + ((if L[i].f0 < x then L[i].f1.f0 * 131072 else if L[i].f0 = x then L[i].f1.f0 * 131072 - L[i].f1.f1 else 0) + wsum x (L.drop (i + 1))))) := fun d hd he => by
      rw [hd, ← Int.add_assoc]
      exact Ev.step he (weight_l0 x L hl n (i + 1) (s + d) (by omega))
    by_cases h1 : L[i].f0 < x
    · refine step (L[i].f1.f0 * 131072) (if_pos h1) (fun k => ?_)
      conv => lhs; unfold pointillistref17_Weight.l0
      rw [if_pos (by omega), if_pos (by omega), rdC hlt, if_pos h1, if_neg (by omega), wnext (by omega)]
      congr 1
      unfold wrap64; omega
    · by_cases h2 : L[i].f0 = x
      · refine step (L[i].f1.f0 * 131072 - L[i].f1.f1) (by rw [if_neg h1, if_pos h2]) (fun k => ?_)
        conv => lhs; unfold pointillistref17_Weight.l0
        rw [if_pos (by omega), if_pos (by omega), rdC hlt, if_neg h1, if_pos h2, wnext (by omega)]
        congr 1
        unfold wrap64; omega
      · refine step 0 (by rw [if_neg h1, if_neg h2]) (fun k => ?_)
        conv => lhs; unfold pointillistref17_Weight.l0
        rw [if_pos (by omega), if_pos (by omega), rdC hlt, if_neg h1, if_neg h2, wnext (by omega), Int.add_zero]
theorem weight_f (x : Nat) (L : List Cl) (hl : L.length ≤ 100000000000) (h : ∀ c ∈ L, 0 ≤ c.f0) : Ev (fun k => pointillistref17_Weight.f k L (x : Int)) (wt x L) := by
  have := weight_l0 x L hl L.length 0 0 (by omega)
  rw [List.drop_zero, Int.zero_add, wsum_eq x L h] at this
  exact Ev.congr this fun k => by unfold pointillistref17_Weight.f; simp [wrap64]
theorem addl_len {W H y : Int} (h0 : 0 ≤ H) (h1 : H ≤ 4096) (hW : 1 ≤ W ∧ W ≤ 4096) : ∀ (es : List Eg), (addl W H es nought y).length ≤ es.length * 20480000 := fun es => by
  rw [addl_eq]
  show ([] ++ _).length ≤ _
  rw [List.nil_append]
  induction es with
  | nil => simp
  | cons e es ih => rw [List.flatMap_cons, List.length_append, List.length_cons]; have := contr_len (y := y) e h0 h1 hW; omega
section
variable {es : List Eg} {W h : Nat}
theorem weights_l1 (hW : W ≤ 4096) {y : Int} {L : List Cl} (hL : L.length ≤ 100000000000) (hp : ∀ c ∈ L, 0 ≤ c.f0) {r : List Int} : ∀ (n x : Nat) (acc : List Int), x + n = W → acc.length ≤ 1000000000 + x →
    Ev (fun k => pointillistref17_Weights.l0 k (acc ++ ((List.range W).drop x).map (fun x => wt x L)) (wrap64 (y + 1)) es W h) r → Ev (fun k => pointillistref17_Weights.l1 k acc y L (x : Int) es W h) r
  | 0, x, acc, hx, ha, hr => by
    refine Ev.step (fun k => ?_) hr
    conv => lhs; unfold pointillistref17_Weights.l1
    rw [if_neg (by omega), List.drop_eq_nil_of_le (by simp; omega)]; simp
  | n + 1, x, acc, hx, ha, hr => by
    have hlt : x < (List.range W).length := by simp; omega
    rw [List.drop_eq_getElem_cons hlt, List.map_cons, List.getElem_range] at hr
    have ih := weights_l1 hW hL hp (y := y) n (x + 1) (acc ++ [wt x L]) (by omega) (by simp; omega) (by simpa using hr)
    refine Ev.step (g := fun k => (pointillistref17_Weight.f k L (x : Int)).bind fun t200 => if acc.length < 17592186044416 then pointillistref17_Weights.l1 k (acc ++ [t200]) y L (wrap64 ((x : Int) + 1)) es W h else none) (fun k => ?_) (Ev.bind (weight_f x L hL hp) (Ev.congr ih fun k => ?_))
    · conv => lhs; unfold pointillistref17_Weights.l1
      rw [if_pos (by omega)]
    · rw [if_pos (by omega), wnext (by omega)]
theorem weights_l0 (hW : 1 ≤ W ∧ W ≤ 4096) (hh : h ≤ 4096) (he : es.length ≤ 100) : ∀ (n y : Nat), y + n = h → Ev (fun k => pointillistref17_Weights.l0 k (allWts W y (addl W h es nought)) (y : Int) es W h) (allWts W h (addl W h es nought))
  | 0, y, hy => by
    obtain rfl : y = h := by omega
    refine Ev.step (g := fun _ => some _) (fun k => ?_) Ev.const
    conv => lhs; unfold pointillistref17_Weights.l0
    rw [if_neg (by omega)]
  | n + 1, y, hy => by
    have ih := weights_l0 hW hh he n (y + 1) (by omega)
    rw [allWts_snoc] at ih
    have hal := allWts_len W y (addl W h es nought)
    have hyW : y * W ≤ 4096 * 4096 := Nat.mul_le_mul (by omega) hW.2
    have hLl : (addl W h es nought (y : Nat)).length ≤ 100000000000 := by
      have := addl_len (W := W) (H := h) (y := (y : Nat)) (by omega) (by omega) (by omega) es
      have : es.length * 20480000 ≤ 100 * 20480000 := Nat.mul_le_mul_right _ he
      omega
    have hb := weights_l1 (es := es) (h := h) (W := W) (y := y) hW.2 hLl (fun c hc => (addl_in (by omega) es c hc).1) W 0 (allWts W y (addl W h es nought)) (by omega) (by omega) (Ev.congr ih fun k => by rw [List.drop_zero, wnext (by omega)])
    refine Ev.step (g := fun k => (pointillistref17_Row.f k es W h (y : Int)).bind fun t197 => pointillistref17_Weights.l1 k (allWts W y (addl W h es nought)) (y : Int) t197 0 es W h) (fun k => ?_) (Ev.bind (row_f (by omega) (by omega) (by omega) he) hb)
    conv => lhs; unfold pointillistref17_Weights.l0
    rw [if_pos (by omega)]
theorem weights_f (hW : 1 ≤ W ∧ W ≤ 4096) (hh : h ≤ 4096) (he : es.length ≤ 100) : Ev (fun k => pointillistref17_Weights.f k es W h) (allWts W h (addl W h es nought)) := by
  have := weights_l0 (es := es) hW hh he h 0 (by omega)
  exact Ev.congr this fun k => rfl
end
end Go.Proofs.Ytejcjonlnijbkaa.Buf

/- Rows of cells, to a reader. -/
namespace Go.Proofs.Ytejcjonlnijbkaa.Buf
open Go Go.RowKit Go.Shelf Range Go.Proofs.Ytejcjonlnijbkaa.PE Go.Proofs.YtejcjonlnijbkaaW.PrintWords Go.Proofs.YtejcjonlnijbkaaW.PrintLast Go.Proofs.YtejcjonlnijbkaaW.PrintMore
set_option maxRecDepth 100000
set_option linter.unusedVariables false
set_option linter.unusedSimpArgs false
/-- A row of cells, to a reader. -/
def CR (w : World) (A : Option Addr) (xs : List Cl) : Prop := ∀ i (hi : i < xs.length), ∃ g off, A = some ⟨g, off, none⟩ ∧ g < w.heap.size ∧ w.cell? ⟨g, off + i * 3, none⟩ = some (.int .i64 xs[i].f0) ∧ w.cell? ⟨g, off + i * 3 + 1, none⟩ = some (.int .i64 xs[i].f1.f0) ∧ w.cell? ⟨g, off + i * 3 + 2, none⟩ = some (.int .i64 xs[i].f1.f1)
theorem CR.below {w w1 : World} {A : Option Addr} {xs : List Cl} (h : CR w A xs) (hb : Below w.heap.size w w1) : CR w1 A xs := fun i hi => by
  obtain ⟨g, off, e, hl, c0, c1, c2⟩ := h i hi
  exact ⟨g, off, e, Nat.lt_of_lt_of_le hl hb.size, (hb.cell (p := ⟨g, _, none⟩) hl).trans c0, (hb.cell (p := ⟨g, _, none⟩) hl).trans c1, (hb.cell (p := ⟨g, _, none⟩) hl).trans c2⟩
theorem CR.of_R {W : World} {base : Nat} {ok : Nat → Prop} {v : Value} {xs : List Cl} (h : Kd.R k62 62 W base ok v xs) : ∃ A cap, v = .slice A xs.length cap ∧ xs.length ≤ cap ∧ CR W A xs := by
  obtain ⟨A, c, rfl, h1, hC⟩ := Kd.R_reads h
  refine ⟨A, c, rfl, h1, fun i hi => ?_⟩
  obtain ⟨ad, hA, c0, c1, c2⟩ := at_T62 hC (i : Int) (by omega) (by omega)
  subst hA
  rw [rdC hi] at c0 c1 c2
  obtain ⟨_, inner, ho, hr⟩ := h
  have hlt := ho.lt
  rcases ho.2 with ⟨hv, _⟩ | ⟨g, cap, cur, hv, _⟩
  · cases hv
  · cases hv
    rw [Row.addr_add, Int.toNat_natCast] at c0 c1 c2
    exact ⟨g, 0, rfl, (hlt g rfl).2, c0, c1, c2⟩
end Go.Proofs.Ytejcjonlnijbkaa.Buf
