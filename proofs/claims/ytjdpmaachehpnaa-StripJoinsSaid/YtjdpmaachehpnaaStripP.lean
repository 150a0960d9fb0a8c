/- Chapter 15's document as numbers: it answers what package strip does. For all edges and heights that may be asked about. -/
import Derived.Test.YtjdpmaachehpnaaTold
import Derived.Test.YtjdpmaachehpnaaMdEq
import Derived.Test.YtjdpmaachehpnaaPEx12
import Derived.Test.YtjdpmaachehpnaaPEx10
import Derived.Test.YtjdpmaachehpnaaPEx16
namespace Go.Proofs.Ytjdpmaachehpnaa.Strip
open Go Go.RowKit Go.Proofs.Ytjdpmaachehpnaa.PE Go.Proofs.YtjdpmaachehpnaaW.PrintWords Go.Proofs.YtjdpmaachehpnaaW.PrintLast Go.Proofs.YtjdpmaachehpnaaW.PrintMore
set_option linter.unusedVariables false
set_option linter.unusedSimpArgs false
theorem wakes : pointillistlaw15_wakes.f = some true := by
  unfold pointillistlaw15_wakes.f
  rw [told_f (h := 9) ⟨⟨by decide, by decide⟩, ⟨by decide, by decide⟩, ⟨by decide, by decide⟩, ⟨by decide, by decide⟩, by decide, by decide, by decide⟩ (by decide) (by decide)]
  kernel_rfl
theorem right_l {xs : List Int} {a b c d : Int} (hl : xs.length ≤ 100) : ∀ (n i k : Nat), i + n = xs.length → n < k →
    ∃ t, pointillistref15_Right.l0 k xs (xs.length : Int) (i : Int) a b c d = some t ∧ (t = true ↔ (∀ j, i ≤ j → ∀ x, xs[j]? = some x → InE x) ∧ b ≠ d)
  | 0, i, k, h, hk => by
    obtain ⟨k, rfl⟩ : ∃ m, k = m + 1 := ⟨k - 1, by omega⟩
    simp only [pointillistref15_Right.l0]
    rw [if_neg (by omega)]
    refine ⟨_, rfl, ?_⟩
    simp only [bne_iff_ne, ne_eq]
    constructor
    · intro h1
      exact ⟨fun j hj x hx => by have := (List.getElem?_eq_some_iff.1 hx).1; omega, h1⟩
    · exact fun h1 => h1.2
  | n + 1, i, k, h, hk => by
    obtain ⟨k, rfl⟩ : ∃ m, k = m + 1 := ⟨k - 1, by omega⟩
    have hi : i < xs.length := by omega
    have hrd : rd xs (i : Int) = xs[i] := by simp [rd, hi]
    simp only [pointillistref15_Right.l0]
    rw [if_pos (by omega), if_pos (by omega), if_pos (by omega), hrd]
    by_cases h1 : xs[i] > 17179869184
    · rw [if_pos h1]
      refine ⟨false, rfl, by simp; intro h2; have := h2 i (Nat.le_refl _) _ (List.getElem?_eq_getElem hi); unfold InE at this; omega⟩
    rw [if_neg h1]
    by_cases h2 : xs[i] < -17179869184
    · rw [if_pos h2]
      refine ⟨false, rfl, by simp; intro h3; have := h3 i (Nat.le_refl _) _ (List.getElem?_eq_getElem hi); unfold InE at this; omega⟩
    rw [if_neg h2, show wrap64 ((i : Int) + 1) = ((i + 1 : Nat) : Int) by rw [w64 (by omega) (by omega)]; omega]
    obtain ⟨t, ht, hb⟩ := right_l hl n (i + 1) k (by omega) (by omega) (a := a) (b := b) (c := c) (d := d)
    refine ⟨t, ht, hb.trans ?_⟩
    constructor
    · rintro ⟨h3, h4⟩
      refine ⟨fun j hj x hx => ?_, h4⟩
      by_cases e : j = i
      · subst e
        rw [List.getElem?_eq_getElem hi] at hx
        cases hx
        exact ⟨by omega, by omega⟩
      · exact h3 j (by omega) x hx
    · rintro ⟨h3, h4⟩
      exact ⟨fun j hj x hx => h3 j (by omega) x hx, h4⟩
theorem right_f (a b c d : Int) {k : Nat} (hk : 5 ≤ k) : ∃ t, pointillistref15_Right.f k a b c d = some t ∧ (t = true ↔ (InE a ∧ InE b ∧ InE c ∧ InE d) ∧ b ≠ d) := by
  obtain ⟨t, ht, hb⟩ := right_l (xs := [a, b, c, d]) (a := a) (b := b) (c := c) (d := d) (by simp) 4 0 k (by simp) (by omega)
  refine ⟨t, ?_, hb.trans ?_⟩
  · simpa [pointillistref15_Right.f] using ht
  · constructor
    · rintro ⟨h, h2⟩
      exact ⟨⟨h 0 (by omega) _ rfl, h 1 (by omega) _ rfl, h 2 (by omega) _ rfl, h 3 (by omega) _ rfl⟩, h2⟩
    · rintro ⟨⟨h0, h1, h2, h3⟩, h4⟩
      refine ⟨fun j _ x hx => ?_, h4⟩
      match j, hx with
      | 0, hx => cases hx; exact h0
      | 1, hx => cases hx; exact h1
      | 2, hx => cases hx; exact h2
      | 3, hx => cases hx; exact h3

section
variable {px py qx qy h : Int}
theorem refx_f (hd : Dom px py qx qy h) {y : Int} (hy : (py ≤ y ∧ y ≤ qy) ∨ (qy ≤ y ∧ y ≤ py)) : pointillistref15_X.f px py qx qy y = some (xAt px py qx qy y) := by
  obtain ⟨p, q⟩ := xAt_in hd hy
  obtain ⟨h1, h2⟩ := hd.ipx
  obtain ⟨h3, h4⟩ := hd.iqx
  obtain ⟨h5, h6⟩ := hd.ipy
  obtain ⟨h7, h8⟩ := hd.iqy
  unfold pointillistref15_X.f pointillistref01_MulDiv.f
  rw [w64 (x := qx - px) (by omega) (by omega), w64 (x := y - py) (by omega) (by omega), w64 (x := qy - py) (by omega) (by omega), if_pos (by omega), MdEq.mdV]
  show some (wrap64 (xAt px py qx qy y)) = _
  rw [w64 (by have := p; have := q; omega) (by have := p; have := q; omega)]
/-- The rows from r on, of those that the edge (downwards) comes to. -/
def dl (px py qx qy : Int) : Nat → Nat → List Rw
  | 0, _ => []
  | n + 1, r => if (r : Int) * 65536 < qy ∧ py < (r : Int) * 65536 + 65536 then rowS px py qx qy r :: dl px py qx qy n (r + 1) else dl px py qx qy n (r + 1)
theorem dl_succ (n r : Nat) : dl px py qx qy (n + 1) r = if (r : Int) * 65536 < qy ∧ py < (r : Int) * 65536 + 65536 then rowS px py qx qy r :: dl px py qx qy n (r + 1) else dl px py qx qy n (r + 1) := rfl
theorem dl_app (n m r : Nat) : dl px py qx qy (n + m) r = dl px py qx qy n r ++ dl px py qx qy m (r + n) := by
  induction n generalizing r with
  | zero => simp [dl]
  | succ n ih =>
    rw [show n + 1 + m = (n + m) + 1 by omega]
    rw [dl_succ, dl_succ, ih, show r + 1 + n = r + (n + 1) by omega]
    split <;> rfl
theorem dl_none : ∀ (n r : Nat), (∀ i, r ≤ i → i < r + n → ¬ ((i : Int) * 65536 < qy ∧ py < (i : Int) * 65536 + 65536)) → dl px py qx qy n r = []
  | 0, _, _ => rfl
  | n + 1, r, h => by rw [dl_succ, if_neg (h r (by omega) (by omega))]; exact dl_none n (r + 1) (fun i h1 h2 => h i (by omega) (by omega))
theorem dl_all : ∀ (n r : Nat), (∀ i, r ≤ i → i < r + n → ((i : Int) * 65536 < qy ∧ py < (i : Int) * 65536 + 65536)) → dl px py qx qy n r = (List.range n).map (fun k => rowS px py qx qy ((r + k : Nat) : Int))
  | 0, _, _ => rfl
  | n + 1, r, h => by
    rw [dl_succ, if_pos (h r (by omega) (by omega)), dl_all n (r + 1) (fun i h1 h2 => h i (by omega) (by omega)), List.range_succ_eq_map, List.map_cons, List.map_map]
    simp only [Nat.add_zero, List.cons.injEq, true_and]
    apply List.map_congr_left
    intro k _
    simp only [Function.comp]
    rw [show r + 1 + k = r + (k + 1) by omega]
theorem dl_strips (hd : Dom px py qx qy h) (hlt : py < qy) : dl px py qx qy h.toNat 0 = strips px py qx qy h := by
  have h0 := hd.h0
  have hT : sT py qy = max py 0 := by unfold sT mx mn; (repeat' split) <;> omega
  have hE : sE py qy h = min qy (h * 65536) := by unfold sE mx mn; (repeat' split) <;> omega
  unfold strips sN sRow
  simp only [if_neg (show ¬ py > qy by omega)]
  by_cases hok : sT py qy < sE py qy h
  · rw [if_pos hok]
    have a0 : 0 ≤ sA py qy := by unfold sA; omega
    have ab : sA py qy ≤ sB py qy h := by unfold sA sB; omega
    have bh : sB py qy h < h := by unfold sB; omega
    obtain ⟨a, ha⟩ : ∃ a : Nat, sA py qy = a := ⟨(sA py qy).toNat, by omega⟩
    obtain ⟨b, hb⟩ : ∃ b : Nat, sB py qy h = b := ⟨(sB py qy h).toNat, by omega⟩
    have ha2 : sT py qy / 65536 = a := ha
    have hb2 : (sE py qy h - 1) / 65536 = b := hb
    rw [ha] at a0 ab
    rw [hb] at ab bh
    rw [ha, hb]
    rw [show h.toNat = a + ((b - a + 1) + (h.toNat - b - 1)) by omega, dl_app, dl_app, dl_none a 0, dl_all (b - a + 1) (0 + a), dl_none (h.toNat - b - 1)]
    · rw [List.nil_append, List.append_nil, show ((b : Int) - (a : Int) + 1).toNat = b - a + 1 by omega]
      apply List.map_congr_left
      intro k _
      rw [show ((0 + a + k : Nat) : Int) = (a : Int) + (k : Int) by omega]
    · intro i h1 h2
      omega
    · intro i h1 h2
      omega
    · intro i h1 h2
      omega
  · rw [if_neg hok, List.range_zero, List.map_nil]
    apply dl_none
    intro i h1 h2
    omega
theorem down_l (hd : Dom px py qx qy h) (hlt : py < qy) : ∀ (n r k : Nat) (acc : List Rw), (r : Int) + n = h → acc.length ≤ r → 3 * n < k →
    pointillistref15_down.l0 k h acc (r : Int) px py qx qy = some (acc ++ dl px py qx qy n r)
  | 0, r, k, acc, e, ha, hk => by
    obtain ⟨k, rfl⟩ : ∃ m, k = m + 1 := ⟨k - 1, by omega⟩
    simp only [pointillistref15_down.l0]
    rw [if_neg (by omega)]
    simp [dl]
  | n + 1, r, k, acc, e, ha, hk => by
    have hh := hd.h1
    obtain ⟨h5, h6⟩ := hd.ipy
    obtain ⟨h7, h8⟩ := hd.iqy
    obtain ⟨k, rfl⟩ : ∃ m, k = m + 3 := ⟨k - 3, by omega⟩
    have ha' : wrap64 ((r : Int) * 65536) = (r : Int) * 65536 := w64 (by omega) (by omega)
    have hb' : wrap64 ((r : Int) * 65536 + 65536) = (r : Int) * 65536 + 65536 := w64 (by omega) (by omega)
    have hr' : wrap64 ((r : Int) + 1) = ((r + 1 : Nat) : Int) := by rw [w64 (by omega) (by omega)]; omega
    have ih := fun acc ha => down_l hd hlt n (r + 1) k acc (by omega) ha (by omega)
    have key : ∀ a b : Int, a = max py ((r : Int) * 65536) → b = min qy ((r : Int) * 65536 + 65536) →
        pointillistref15_down.j2 (k + 1) h acc (r : Int) a b px py qx qy = some (acc ++ dl px py qx qy (n + 1) r) := by
      intro a b ea eb
      simp only [pointillistref15_down.j2]
      by_cases hc : (r : Int) * 65536 < qy ∧ py < (r : Int) * 65536 + 65536
      · have e1 : cl py r = a := by unfold cl mx mn; (repeat' split) <;> omega
        have e2 : cl qy r = b := by unfold cl mx mn; (repeat' split) <;> omega
        rw [if_pos (by omega), refx_f hd (by omega), refx_f hd (by omega)]
        simp only [Option.bind_some]
        rw [if_pos (by omega), ha', w64 (x := a - _) (by omega) (by omega), w64 (x := b - _) (by omega) (by omega), hr', ih _ (by simp; omega)]
        rw [dl_succ, if_pos hc, List.append_assoc]
        unfold rowS
        rw [e1, e2]; rfl
      · rw [if_neg (by omega), hr', ih _ (by omega)]
        rw [dl_succ, if_neg hc]
    have key1 : ∀ a : Int, a = max py ((r : Int) * 65536) → pointillistref15_down.j1 (k + 2) h acc (r : Int) a ((r : Int) * 65536 + 65536) px py qx qy = some (acc ++ dl px py qx qy (n + 1) r) := by
      intro a ea
      simp only [pointillistref15_down.j1]
      split
      · exact key _ _ ea (by omega)
      · exact key _ _ ea (by omega)
    rw [show k + 3 = (k + 2) + 1 from rfl]
    simp only [pointillistref15_down.l0]
    rw [if_pos (by omega), ha', hb']
    split
    · exact key1 _ (by omega)
    · exact key1 _ (by omega)
theorem down_f (hd : Dom px py qx qy h) (hlt : py < qy) {k : Nat} (hk : 3 * h.toNat < k) : pointillistref15_down.f k px py qx qy h = some (strips px py qx qy h) := by
  have h0 := hd.h0
  have := down_l hd hlt h.toNat 0 k [] (by omega) (by simp) hk
  rw [dl_strips hd hlt, List.nil_append] at this
  exact this
theorem Dom.swap (hd : Dom px py qx qy h) : Dom qx qy px py h := ⟨hd.iqx, hd.iqy, hd.ipx, hd.ipy, fun e => hd.ne e.symm, hd.h0, hd.h1⟩
theorem sT_swap : sT qy py = sT py qy := by unfold sT mx mn; (repeat' split) <;> omega
theorem sE_swap : sE qy py h = sE py qy h := by unfold sE mx mn; (repeat' split) <;> omega
theorem sN_swap : sN qy py h = sN py qy h := by unfold sN sA sB; rw [sT_swap, sE_swap]
theorem row_swap (hne : py ≠ qy) {k : Nat} (hk : k < sN py qy h) : sRow qy py h (sN py qy h - 1 - k) = sRow py qy h k := by
  unfold sN at *
  split at hk
  · rename_i hok
    rw [if_pos hok]
    unfold sRow sA sB at *
    rw [sT_swap (py := py) (qy := qy), sE_swap (py := py) (qy := qy)]
    (repeat' split) <;> omega
  · omega
/-- The row, gone through from its end. -/
def turned (px py qx qy : Int) (x : Rw) : Rw := ⟨x.f0, ⟨xAt px py qx qy (x.f1.f3 + x.f0 * 65536), x.f1.f3, xAt px py qx qy (x.f1.f1 + x.f0 * 65536), x.f1.f1⟩⟩
theorem turned_row (row : Int) : turned px py qx qy (rowS qx qy px py row) = rowS px py qx qy row := by
  unfold turned rowS
  simp only
  rw [show cl py row - row * 65536 + row * 65536 = cl py row by omega, show cl qy row - row * 65536 + row * 65536 = cl qy row by omega]
theorem all_l (hd : Dom px py qx qy h) (xs : List Rw) (hl : xs.length ≤ 100000) (hx : ∀ x ∈ xs, ∃ row, x = rowS qx qy px py row ∧ 0 ≤ row ∧ row < h ∧ row * 65536 < mx py qy ∧ mn py qy < row * 65536 + 65536) :
    ∀ (n k : Nat) (acc : List Rw), n ≤ xs.length → acc.length + n ≤ 100000 → n < k → pointillistref15_All.l0 k xs acc ((n : Int) - 1) px py qx qy = some (acc ++ ((xs.take n).reverse.map (turned px py qx qy)))
  | 0, k, acc, hn, ha, hk => by
    obtain ⟨k, rfl⟩ : ∃ m, k = m + 1 := ⟨k - 1, by omega⟩
    simp only [pointillistref15_All.l0]
    rw [if_neg (by omega)]
    simp
  | n + 1, k, acc, hn, ha, hk => by
    obtain ⟨k, rfl⟩ : ∃ m, k = m + 1 := ⟨k - 1, by omega⟩
    have hi : n < xs.length := by omega
    have hrd : rd_T34 xs ((n : Nat) : Int) = xs[n] := by simp [rd_T34, hi]
    have hmem := hx xs[n] (List.getElem_mem hi)
    obtain ⟨row, er, r0, r1, r2, r3⟩ := hmem
    have hh := hd.h1
    obtain ⟨c1, c2, c3, c4, c5, c6⟩ := cl_in r2 r3
    simp only [pointillistref15_All.l0]
    rw [show ((n + 1 : Nat) : Int) - 1 = (n : Int) by omega, if_pos (by omega), if_pos (by omega), if_pos (by omega), hrd, er]
    have e1 : (rowS qx qy px py row).f1.f3 + row * 65536 = cl py row := by show cl py row - row * 65536 + row * 65536 = _; omega
    have e2 : (rowS qx qy px py row).f1.f1 + row * 65536 = cl qy row := by show cl qy row - row * 65536 + row * 65536 = _; omega
    rw [show (rowS qx qy px py row).f0 = row from rfl, w64 (x := row * 65536) (by omega) (by omega), e1, e2, w64 (x := cl py row) (by omega) (by omega), w64 (x := cl qy row) (by omega) (by omega), refx_f hd c1, refx_f hd c2]
    simp only [Option.bind_some]
    rw [if_pos (by omega), w64 (x := (n : Int) - 1) (by omega) (by omega), all_l hd xs hl hx n k _ (by omega) (by simp; omega) (by omega)]
    rw [List.take_succ_eq_append_getElem hi, List.reverse_append, List.map_append, List.append_assoc, List.reverse_singleton, List.map_singleton, er]
    unfold turned
    rw [show (rowS qx qy px py row).f0 = row from rfl, e1, e2]
theorem strips_mem (hd : Dom px py qx qy h) {x : Rw} (hx : x ∈ strips px py qx qy h) : ∃ row, x = rowS px py qx qy row ∧ 0 ≤ row ∧ row < h ∧ row * 65536 < mx py qy ∧ mn py qy < row * 65536 + 65536 := by
  unfold strips at hx
  obtain ⟨k, hk, rfl⟩ := List.mem_map.1 hx
  exact ⟨_, rfl, row_bounds hd (List.mem_range.1 hk)⟩
theorem sN_le (hd : Dom px py qx qy h) : (sN py qy h : Int) ≤ h := by
  by_cases h0 : 0 < sN py qy h
  · have a := row_bounds hd (k := 0) h0
    have b := row_bounds hd (k := sN py qy h - 1) (by omega)
    unfold sRow at a b
    split at a <;> omega
  · have := hd.h0; omega
theorem mx_comm (a b : Int) : mx a b = mx b a := by unfold mx; (repeat' split) <;> omega
theorem mn_comm (a b : Int) : mn a b = mn b a := by unfold mn; (repeat' split) <;> omega
theorem strips_turned (hd : Dom px py qx qy h) : ((strips qx qy px py h).reverse.map (turned px py qx qy)) = strips px py qx qy h := by
  apply List.ext_getElem?
  intro k
  have hl : (strips qx qy px py h).length = sN py qy h := by rw [strips_len, sN_swap]
  by_cases hk : k < sN py qy h
  · rw [strips_at _ _ _ _ _ hk, List.getElem?_map, List.getElem?_reverse (by omega), hl, strips_at _ _ _ _ _ (by have := sN_swap (py := py) (qy := qy) (h := h); omega)]
    rw [Option.map_some, turned_row, row_swap hd.ne hk]
  · rw [List.getElem?_eq_none (by simp; omega), List.getElem?_eq_none (by rw [strips_len]; omega)]
theorem all_f (hd : Dom px py qx qy h) {k : Nat} (hk : 3 * h.toNat < k) : pointillistref15_All.f k px py qx qy h = some (strips px py qx qy h) := by
  have h0 := hd.h0
  have hh := hd.h1
  unfold pointillistref15_All.f
  by_cases hlt : py < qy
  · rw [if_pos hlt, down_f hd hlt hk]; rfl
  · have hne := hd.ne
    rw [if_neg hlt, down_f hd.swap (by omega) hk]
    have hl := sN_le hd.swap
    simp only [Option.bind_some]
    have hlen : (strips qx qy px py h).length = sN qy py h := strips_len _ _ _ _ _
    rw [w64 (x := ((strips qx qy px py h).length : Int) - 1) (by omega) (by omega), all_l hd _ (by omega) (fun x hx => by
      obtain ⟨row, e, r⟩ := strips_mem hd.swap hx
      exact ⟨row, e, by rw [mx_comm py, mn_comm py]; exact r⟩) _ k [] (Nat.le_refl _) (by simp; omega) (by omega)]
    rw [List.take_length, List.nil_append, strips_turned hd]
end
end Go.Proofs.Ytjdpmaachehpnaa.Strip
