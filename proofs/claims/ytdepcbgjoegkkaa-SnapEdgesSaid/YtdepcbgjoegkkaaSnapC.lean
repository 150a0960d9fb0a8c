/- What the document's loops over edges come to (ref14's Edges and Small, ref12's Same), as the print states them. Plain. -/
import Derived.Test.YtdepcbgjoegkkaaSnapB
namespace Go.Proofs.Ytdepcbgjoegkkaa.SnapE
open Go Go.RowKit Go.Proofs.Ytdepcbgjoegkkaa.PSE Go.Proofs.YtdepcbgjoegkkaaW.PrintWords Go.Proofs.YtdepcbgjoegkkaaW.PrintLast Go.Proofs.Ytdepcbgjoegkkaa.Num
set_option linter.unusedVariables false
set_option linter.unusedSimpArgs false

theorem refN {n : Int} (h0 : -4611686018427387904 ≤ n) (h1 : n ≤ 4611686018427387904) : pointillistref14_Number.f n = some (snapN n) := by
  unfold pointillistref14_Number.f snapN
  have hm : n.tmod 1024 = n % 1024 ∨ (n.tmod 1024 = n % 1024 - 1024 ∧ n % 1024 ≠ 0) := by
    rcases Int.le_total 0 n with h | h
    · left; exact Int.tmod_eq_emod_of_nonneg h
    · rw [Int.tmod_eq_emod]; by_cases hd : (1024 : Int) ∣ n
      · left; simp [hd]
      · by_cases hn : 0 ≤ n
        · left; simp [hn]
        · right; refine ⟨by simp [hd, hn], fun e => hd (Int.dvd_of_emod_eq_zero e)⟩
  generalize n.tmod 1024 = t at *
  split
  · have e1 : wrap64 (t + 1024) = t + 1024 := wrap64_in (by omega) (by omega)
    have e2 : wrap64 (n - (t + 1024)) = n - (t + 1024) := wrap64_in (by omega) (by omega)
    rw [e1, e2]
    split
    · rw [wrap64_in (by omega) (by omega)]; congr 1; omega
    · congr 1; omega
  · have e2 : wrap64 (n - t) = n - t := wrap64_in (by omega) (by omega)
    rw [e2]
    split
    · rw [wrap64_in (by omega) (by omega)]; congr 1; omega
    · congr 1; omega
theorem rpoint {x y : Int} (hx : In62 x) (hy : In62 y) : pointillistref14_Point.f x y = some (snapN x, snapN y) := by
  unfold In62 at hx hy; unfold pointillistref14_Point.f
  rw [refN hx.1 hx.2, refN hy.1 hy.2]; rfl
theorem wakes : pointillistlaw14_wakes.f = some true := by
  unfold pointillistlaw14_wakes.f
  rw [number (by omega) (by omega), number (by omega) (by omega), number (by omega) (by omega), number (by omega) (by omega)]
  decide
theorem rd_at {es : List S30} {i : Nat} (h : i < es.length) : rd_T30 es (i : Int) = es[i] := by simp [rd_T30, h]
theorem wnext {i : Nat} (h : i ≤ 1000000) : wrap64 ((i : Int) + 1) = ((i + 1 : Nat) : Int) := by rw [wrap64_in (by omega) (by omega)]; simp

theorem edges_l (es : List S30) (hIn : ∀ e ∈ es, In e) (hl : es.length ≤ 1000000) : ∀ (n i : Nat) (acc : List S30), i + n = es.length → acc.length ≤ i → pointillistref14_Edges.l0 (n + 1) es acc (i : Int) = some (acc ++ outs (es.drop i))
  | 0, i, acc, h, _ => by
    unfold pointillistref14_Edges.l0
    rw [if_neg (by omega)]
    rw [show es.drop i = [] from List.drop_eq_nil_of_le (by omega)]
    simp [outs]
  | n + 1, i, acc, h, ha => by
    have hi : i < es.length := by omega
    have hin := hIn es[i] (List.getElem_mem hi)
    unfold pointillistref14_Edges.l0
    rw [if_pos (by omega), if_pos (by omega), rd_at hi, rpoint hin.1 hin.2.1, rpoint hin.2.2.1 hin.2.2.2]
    simp only [Option.bind_some]
    rw [wnext (by omega)]
    by_cases hs : snapN es[i].f0.f1 = snapN es[i].f1.f1
    · rw [if_pos hs, edges_l es hIn hl n (i + 1) acc (by omega) (by omega), outs_drop_none hi (if_pos hs)]
    · rw [if_neg hs, if_pos (by omega), edges_l es hIn hl n (i + 1) _ (by omega) (by simp; omega), outs_drop_some hi (if_neg hs)]
      simp
theorem edges_f (es : List S30) (hIn : ∀ e ∈ es, In e) (hl : es.length ≤ 1000000) : pointillistref14_Edges.f (es.length + 1) es = some (outs es) := by
  have := edges_l es hIn hl es.length 0 [] (by omega) (by simp)
  simpa [pointillistref14_Edges.f] using this

theorem same_l (es : List S30) (hl : es.length ≤ 1000000) : ∀ (n i : Nat), i + n = es.length → pointillistref12_Same.l0 (n + 1) es es (i : Int) = some true
  | 0, i, h => by
    unfold pointillistref12_Same.l0
    rw [if_neg (by omega)]
  | n + 1, i, h => by
    unfold pointillistref12_Same.l0
    rw [if_pos (by omega), if_pos (by omega), if_pos (by omega), if_neg (by simp), wnext (by omega)]
    exact same_l es hl n (i + 1) (by omega)
theorem same_f (es : List S30) (hl : es.length ≤ 1000000) : pointillistref12_Same.f (es.length + 1) es es = some true := by
  unfold pointillistref12_Same.f
  rw [if_pos rfl]
  exact same_l es hl es.length 0 (by omega)

theorem w1 : wrap64 1 = 1 := wrap64_in (by omega) (by omega)
theorem w2 : wrap64 2 = 2 := wrap64_in (by omega) (by omega)
theorem w3 : wrap64 3 = 3 := wrap64_in (by omega) (by omega)
theorem w4 : wrap64 4 = 4 := wrap64_in (by omega) (by omega)
theorem wm : wrap64 (-4611686018427387904) = -4611686018427387904 := wrap64_in (by omega) (by omega)
theorem small_one (k : Nat) (es : List S30) (i a b c d : Int) : ∃ r, pointillistref14_Small.l1 (k + 5) es 4611686018427387904 i [a, b, c, d] 4 0 = r ∧ (r = some false ∨ (r = pointillistref14_Small.l0 k es 4611686018427387904 (wrap64 (i + 1)) ∧ In62 a ∧ In62 b ∧ In62 c ∧ In62 d)) := by
  refine ⟨_, rfl, ?_⟩
  unfold In62
  by_cases a1 : a > 4611686018427387904
  · left; simp [pointillistref14_Small.l1, rd, w1, w2, w3, w4, wm, a1]
  by_cases a2 : a < -4611686018427387904
  · left; simp [pointillistref14_Small.l1, rd, w1, w2, w3, w4, wm, a1, a2]
  by_cases b1 : b > 4611686018427387904
  · left; simp [pointillistref14_Small.l1, rd, w1, w2, w3, w4, wm, a1, a2, b1]
  by_cases b2 : b < -4611686018427387904
  · left; simp [pointillistref14_Small.l1, rd, w1, w2, w3, w4, wm, a1, a2, b1, b2]
  by_cases c1 : c > 4611686018427387904
  · left; simp [pointillistref14_Small.l1, rd, w1, w2, w3, w4, wm, a1, a2, b1, b2, c1]
  by_cases c2 : c < -4611686018427387904
  · left; simp [pointillistref14_Small.l1, rd, w1, w2, w3, w4, wm, a1, a2, b1, b2, c1, c2]
  by_cases d1 : d > 4611686018427387904
  · left; simp [pointillistref14_Small.l1, rd, w1, w2, w3, w4, wm, a1, a2, b1, b2, c1, c2, d1]
  by_cases d2 : d < -4611686018427387904
  · left; simp [pointillistref14_Small.l1, rd, w1, w2, w3, w4, wm, a1, a2, b1, b2, c1, c2, d1, d2]
  right
  refine ⟨by simp [pointillistref14_Small.l1, rd, w1, w2, w3, w4, wm, a1, a2, b1, b2, c1, c2, d1, d2], by omega, by omega, by omega, by omega⟩
theorem small_l (es : List S30) (hl : es.length ≤ 1000000) : ∀ (n i : Nat), i + n = es.length → ∃ t, pointillistref14_Small.l0 (6 * n + 1) es 4611686018427387904 (i : Int) = some t ∧ (t = true → ∀ j (h : j < es.length), i ≤ j → In es[j])
  | 0, i, h => by
    refine ⟨true, ?_, fun _ j hj h2 => by omega⟩
    unfold pointillistref14_Small.l0
    rw [if_neg (by omega)]
  | n + 1, i, h => by
    have hi : i < es.length := by omega
    obtain ⟨t, ht, hin⟩ := small_l es hl n (i + 1) (by omega)
    rw [show 6 * (n + 1) + 1 = (6 * n + 1 + 5) + 1 by omega]
    unfold pointillistref14_Small.l0
    rw [if_pos (by omega), if_pos (by omega), rd_at hi]
    simp only [Option.bind_some]
    obtain ⟨r, hr, hc⟩ := small_one (6 * n + 1) es (i : Int) es[i].f0.f0 es[i].f0.f1 es[i].f1.f0 es[i].f1.f1
    rw [show (([es[i].f0.f0, es[i].f0.f1, es[i].f1.f0, es[i].f1.f1] : List Int).length : Int) = 4 from rfl, hr]
    rcases hc with rfl | ⟨rfl, i0, i1, i2, i3⟩
    · exact ⟨false, rfl, fun h => by cases h⟩
    · rw [wnext (by omega), ht]
      refine ⟨t, rfl, fun h1 j hj h2 => ?_⟩
      by_cases e : j = i
      · subst e; exact ⟨i0, i1, i2, i3⟩
      · exact hin h1 j hj (by omega)
theorem small_f (es : List S30) (hl : es.length ≤ 1000000) : ∃ t, pointillistref14_Small.f (6 * es.length + 1) es 4611686018427387904 = some t ∧ (t = true → ∀ e ∈ es, In e) := by
  obtain ⟨t, ht, hin⟩ := small_l es hl es.length 0 (by omega)
  refine ⟨t, by simpa [pointillistref14_Small.f] using ht, fun h e he => ?_⟩
  obtain ⟨j, hj, rfl⟩ := List.getElem_of_mem he
  exact hin h j hj (by omega)
end Go.Proofs.Ytdepcbgjoegkkaa.SnapE
