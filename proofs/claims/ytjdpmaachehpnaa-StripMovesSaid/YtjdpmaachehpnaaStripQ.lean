/- Chapter 15's right edges, as numbers, and layer 15's example. For all edges. -/
import Derived.Test.YtjdpmaachehpnaaTold
import Derived.Test.YtjdpmaachehpnaaPEx5
import Derived.Test.YtjdpmaachehpnaaPEx6
namespace Go.Proofs.Ytjdpmaachehpnaa.Strip
open Go Go.RowKit Go.Proofs.Ytjdpmaachehpnaa.PE Go.Proofs.YtjdpmaachehpnaaW.PrintWords Go.Proofs.YtjdpmaachehpnaaW.PrintLast Go.Proofs.YtjdpmaachehpnaaW.PrintMore
set_option linter.unusedVariables false
set_option linter.unusedSimpArgs false
theorem wakes : pointillistlaw15_wakes.f = some true := by
  unfold pointillistlaw15_wakes.f
  rw [told_f (h := 9) ⟨⟨by decide, by decide⟩, ⟨by decide, by decide⟩, ⟨by decide, by decide⟩, ⟨by decide, by decide⟩, by decide, by decide, by decide⟩ (by decide) (by decide)]
  kernel_rfl
theorem right_l {xs : List Int} {a b c d : Int} (hl : xs.length ≤ 100) : ∀ (n i k : Nat), i + n = xs.length → n < k →
    ∃ t, pointillistref15_Right.l0 k xs (xs.length : Int) (i : Int) a b c d = some t ∧ (t = true ↔ (∀ j, i ≤ j → ∀ x, xs[j]? = some x → InE x) ∧ b ≠ d)
  | 0, i, k, h, hk => by
    obtain ⟨k, rfl⟩ : ∃ m, k = m + 1 := ⟨k - 1, by omega⟩
    simp only [pointillistref15_Right.l0]
    rw [if_neg (by omega)]
    refine ⟨_, rfl, ?_⟩
    simp only [bne_iff_ne, ne_eq]
    constructor
    · intro h1
      exact ⟨fun j hj x hx => by have := (List.getElem?_eq_some_iff.1 hx).1; omega, h1⟩
    · exact fun h1 => h1.2
  | n + 1, i, k, h, hk => by
    obtain ⟨k, rfl⟩ : ∃ m, k = m + 1 := ⟨k - 1, by omega⟩
    have hi : i < xs.length := by omega
    have hrd : rd xs (i : Int) = xs[i] := by simp [rd, hi]
    simp only [pointillistref15_Right.l0]
    rw [if_pos (by omega), if_pos (by omega), if_pos (by omega), hrd]
    by_cases h1 : xs[i] > 17179869184
    · rw [if_pos h1]
      refine ⟨false, rfl, by simp; intro h2; have := h2 i (Nat.le_refl _) _ (List.getElem?_eq_getElem hi); unfold InE at this; omega⟩
    rw [if_neg h1]
    by_cases h2 : xs[i] < -17179869184
    · rw [if_pos h2]
      refine ⟨false, rfl, by simp; intro h3; have := h3 i (Nat.le_refl _) _ (List.getElem?_eq_getElem hi); unfold InE at this; omega⟩
    rw [if_neg h2, show wrap64 ((i : Int) + 1) = ((i + 1 : Nat) : Int) by rw [w64 (by omega) (by omega)]; omega]
    obtain ⟨t, ht, hb⟩ := right_l hl n (i + 1) k (by omega) (by omega) (a := a) (b := b) (c := c) (d := d)
    refine ⟨t, ht, hb.trans ?_⟩
    constructor
    · rintro ⟨h3, h4⟩
      refine ⟨fun j hj x hx => ?_, h4⟩
      by_cases e : j = i
      · subst e
        rw [List.getElem?_eq_getElem hi] at hx
        cases hx
        exact ⟨by omega, by omega⟩
      · exact h3 j (by omega) x hx
    · rintro ⟨h3, h4⟩
      exact ⟨fun j hj x hx => h3 j (by omega) x hx, h4⟩
theorem right_f (a b c d : Int) {k : Nat} (hk : 5 ≤ k) : ∃ t, pointillistref15_Right.f k a b c d = some t ∧ (t = true ↔ (InE a ∧ InE b ∧ InE c ∧ InE d) ∧ b ≠ d) := by
  obtain ⟨t, ht, hb⟩ := right_l (xs := [a, b, c, d]) (a := a) (b := b) (c := c) (d := d) (by simp) 4 0 k (by simp) (by omega)
  refine ⟨t, ?_, hb.trans ?_⟩
  · simpa [pointillistref15_Right.f] using ht
  · constructor
    · rintro ⟨h, h2⟩
      exact ⟨⟨h 0 (by omega) _ rfl, h 1 (by omega) _ rfl, h 2 (by omega) _ rfl, h 3 (by omega) _ rfl⟩, h2⟩
    · rintro ⟨⟨h0, h1, h2, h3⟩, h4⟩
      refine ⟨fun j _ x hx => ?_, h4⟩
      match j, hx with
      | 0, hx => cases hx; exact h0
      | 1, hx => cases hx; exact h1
      | 2, hx => cases hx; exact h2
      | 3, hx => cases hx; exact h3

end Go.Proofs.Ytjdpmaachehpnaa.Strip
