/- Package ref02, walked: Squares. For all numbers. Printed by gen_squares.py. -/
import Derived.Test.YtdhhkabihmdbnaaRef3
import Derived.Deep.RegionHeld3
namespace Go.Proofs.Ytdhhkabihmdbnaa.Ref
open Go Go.RowKit Open
set_option maxRecDepth 100000
set_option linter.unusedVariables false
set_option linter.unusedSimpArgs false
theorem sq_keep {w w2 W w1 : World} {x0 x1 y0 y1 : Value} {A B : Option Addr} {ps qs : List Int} (h : W.cell? ⟨w2.heap.size, 0, none⟩ = some (x0) ∧ W.cell? ⟨w2.heap.size, 1, none⟩ = some (x1) ∧ W.cell? ⟨(w2.heap.size + 1), 0, none⟩ = some (y0) ∧ W.cell? ⟨(w2.heap.size + 1), 1, none⟩ = some (y1) ∧ W.frozen? ⟨w.heap.size, 0, none⟩ = false ∧ W.frozen? ⟨w.heap.size, 1, none⟩ = false ∧ (W.cell? ⟨w.heap.size, 0, none⟩).isSome = true ∧ (W.cell? ⟨w.heap.size, 1, none⟩).isSome = true ∧ w2.heap.size + 1 < W.heap.size ∧ w.heap.size < w2.heap.size ∧ IntRow W .i64 A ps ∧ IntRow W .i64 B qs ∧ (∀ a, A = some a → a.block ≠ w.heap.size) ∧ (∀ a, B = some a → a.block ≠ w.heap.size) ∧ Below w.heap.size w W) (hb : Below W.heap.size W w1) : w1.cell? ⟨w2.heap.size, 0, none⟩ = some (x0) ∧ w1.cell? ⟨w2.heap.size, 1, none⟩ = some (x1) ∧ w1.cell? ⟨(w2.heap.size + 1), 0, none⟩ = some (y0) ∧ w1.cell? ⟨(w2.heap.size + 1), 1, none⟩ = some (y1) ∧ w1.frozen? ⟨w.heap.size, 0, none⟩ = false ∧ w1.frozen? ⟨w.heap.size, 1, none⟩ = false ∧ (w1.cell? ⟨w.heap.size, 0, none⟩).isSome = true ∧ (w1.cell? ⟨w.heap.size, 1, none⟩).isSome = true ∧ w2.heap.size + 1 < w1.heap.size ∧ w.heap.size < w2.heap.size ∧ IntRow w1 .i64 A ps ∧ IntRow w1 .i64 B qs ∧ (∀ a, A = some a → a.block ≠ w.heap.size) ∧ (∀ a, B = some a → a.block ≠ w.heap.size) ∧ Below w.heap.size w w1 := by
  obtain ⟨h1, h2, h3, h4, f1, f2, i1, i2, hs, hl, rA, rB, nA, nB, hB⟩ := h
  obtain ⟨hc, hf⟩ := bcell hb
  have hz := hb.size
  exact ⟨(hc _ _ (by omega)).trans h1, (hc _ _ (by omega)).trans h2, (hc _ _ (by omega)).trans h3, (hc _ _ (by omega)).trans h4, (hf _ _ (by omega)).trans f1, (hf _ _ (by omega)).trans f2,
    by rw [hc _ _ (by omega)]; exact i1, by rw [hc _ _ (by omega)]; exact i2, by omega, hl, rA.below hb, rB.below hb, nA, nB, hB.trans (hb.mono hB.size)⟩
theorem sq_fill {w w2 W w1 : World} {x0 x1 y0 y1 : Value} {A B : Option Addr} {ps qs : List Int} (h : W.cell? ⟨w2.heap.size, 0, none⟩ = some (x0) ∧ W.cell? ⟨w2.heap.size, 1, none⟩ = some (x1) ∧ W.cell? ⟨(w2.heap.size + 1), 0, none⟩ = some (y0) ∧ W.cell? ⟨(w2.heap.size + 1), 1, none⟩ = some (y1) ∧ W.frozen? ⟨w.heap.size, 0, none⟩ = false ∧ W.frozen? ⟨w.heap.size, 1, none⟩ = false ∧ (W.cell? ⟨w.heap.size, 0, none⟩).isSome = true ∧ (W.cell? ⟨w.heap.size, 1, none⟩).isSome = true ∧ w2.heap.size + 1 < W.heap.size ∧ w.heap.size < w2.heap.size ∧ IntRow W .i64 A ps ∧ IntRow W .i64 B qs ∧ (∀ a, A = some a → a.block ≠ w.heap.size) ∧ (∀ a, B = some a → a.block ≠ w.heap.size) ∧ Below w.heap.size w W) (hb : Below W.heap.size W w1) : ∃ v0 v1, w1.cell? ⟨w.heap.size, 0, none⟩ = some v0 ∧ w1.cell? ⟨w.heap.size, 1, none⟩ = some v1 ∧ w1.frozen? ⟨w.heap.size, 0, none⟩ = false ∧ w1.frozen? ⟨w.heap.size, 1, none⟩ = false := by
  obtain ⟨h1, h2, h3, h4, f1, f2, i1, i2, hs, hl, rA, rB, nA, nB, hB⟩ := h
  obtain ⟨hc, hf⟩ := bcell hb
  obtain ⟨v0, e0⟩ := Option.isSome_iff_exists.1 i1
  obtain ⟨v1, e1⟩ := Option.isSome_iff_exists.1 i2
  exact ⟨v0, v1, (hc _ _ (by omega)).trans e0, (hc _ _ (by omega)).trans e1, (hf _ _ (by omega)).trans f1, (hf _ _ (by omega)).trans f2⟩
theorem sq_store {w w2 W : World} {x0 x1 y0 y1 : Value} {A B : Option Addr} {ps qs : List Int} (v0 v1 : Value) (h : W.cell? ⟨w2.heap.size, 0, none⟩ = some (x0) ∧ W.cell? ⟨w2.heap.size, 1, none⟩ = some (x1) ∧ W.cell? ⟨(w2.heap.size + 1), 0, none⟩ = some (y0) ∧ W.cell? ⟨(w2.heap.size + 1), 1, none⟩ = some (y1) ∧ W.frozen? ⟨w.heap.size, 0, none⟩ = false ∧ W.frozen? ⟨w.heap.size, 1, none⟩ = false ∧ (W.cell? ⟨w.heap.size, 0, none⟩).isSome = true ∧ (W.cell? ⟨w.heap.size, 1, none⟩).isSome = true ∧ w2.heap.size + 1 < W.heap.size ∧ w.heap.size < w2.heap.size ∧ IntRow W .i64 A ps ∧ IntRow W .i64 B qs ∧ (∀ a, A = some a → a.block ≠ w.heap.size) ∧ (∀ a, B = some a → a.block ≠ w.heap.size) ∧ Below w.heap.size w W) : ((W.setCell ⟨w.heap.size, 0, none⟩ v0).setCell ⟨w.heap.size, 1, none⟩ v1).cell? ⟨w2.heap.size, 0, none⟩ = some (x0) ∧ ((W.setCell ⟨w.heap.size, 0, none⟩ v0).setCell ⟨w.heap.size, 1, none⟩ v1).cell? ⟨w2.heap.size, 1, none⟩ = some (x1) ∧ ((W.setCell ⟨w.heap.size, 0, none⟩ v0).setCell ⟨w.heap.size, 1, none⟩ v1).cell? ⟨(w2.heap.size + 1), 0, none⟩ = some (y0) ∧ ((W.setCell ⟨w.heap.size, 0, none⟩ v0).setCell ⟨w.heap.size, 1, none⟩ v1).cell? ⟨(w2.heap.size + 1), 1, none⟩ = some (y1) ∧ ((W.setCell ⟨w.heap.size, 0, none⟩ v0).setCell ⟨w.heap.size, 1, none⟩ v1).frozen? ⟨w.heap.size, 0, none⟩ = false ∧ ((W.setCell ⟨w.heap.size, 0, none⟩ v0).setCell ⟨w.heap.size, 1, none⟩ v1).frozen? ⟨w.heap.size, 1, none⟩ = false ∧ (((W.setCell ⟨w.heap.size, 0, none⟩ v0).setCell ⟨w.heap.size, 1, none⟩ v1).cell? ⟨w.heap.size, 0, none⟩).isSome = true ∧ (((W.setCell ⟨w.heap.size, 0, none⟩ v0).setCell ⟨w.heap.size, 1, none⟩ v1).cell? ⟨w.heap.size, 1, none⟩).isSome = true ∧ w2.heap.size + 1 < ((W.setCell ⟨w.heap.size, 0, none⟩ v0).setCell ⟨w.heap.size, 1, none⟩ v1).heap.size ∧ w.heap.size < w2.heap.size ∧ IntRow ((W.setCell ⟨w.heap.size, 0, none⟩ v0).setCell ⟨w.heap.size, 1, none⟩ v1) .i64 A ps ∧ IntRow ((W.setCell ⟨w.heap.size, 0, none⟩ v0).setCell ⟨w.heap.size, 1, none⟩ v1) .i64 B qs ∧ (∀ a, A = some a → a.block ≠ w.heap.size) ∧ (∀ a, B = some a → a.block ≠ w.heap.size) ∧ Below w.heap.size w ((W.setCell ⟨w.heap.size, 0, none⟩ v0).setCell ⟨w.heap.size, 1, none⟩ v1) := by
  obtain ⟨h1, h2, h3, h4, f1, f2, i1, i2, hs, hl, rA, rB, nA, nB, hB⟩ := h
  have ne : ∀ {b o o' : Nat} {u : World} {v : Value}, b ≠ w.heap.size → (u.setCell ⟨w.heap.size, o, none⟩ v).cell? ⟨b, o', none⟩ = u.cell? ⟨b, o', none⟩ := fun hb => World.cell?_setCell_other _ _ _ _ (by intro h; simp at h <;> omega)
  obtain ⟨u0, e0⟩ := Option.isSome_iff_exists.1 i1
  obtain ⟨u1, e1⟩ := Option.isSome_iff_exists.1 i2
  refine ⟨by rw [ne (by omega), ne (by omega)]; exact h1, by rw [ne (by omega), ne (by omega)]; exact h2, by rw [ne (by omega), ne (by omega)]; exact h3, by rw [ne (by omega), ne (by omega)]; exact h4, by rw [World.frozen?_setCell, World.frozen?_setCell]; exact f1, by rw [World.frozen?_setCell, World.frozen?_setCell]; exact f2,
    ?_, ?_, by simpa using hs, hl, (rA.set nA).set nA, (rB.set nB).set nB, nA, nB, (hB.setCell (by show w.heap.size ≤ w.heap.size; omega) _).setCell (by show w.heap.size ≤ w.heap.size; omega) _⟩
  · simp [go_sem, e0, e1]
  · simp [go_sem, e0, e1]
theorem sq_begin {w w2 W : World} {x0 x1 y0 y1 : Value} {A B : Option Addr} {ps qs : List Int} (t : TypeId) (f1 : w2.frozen? ⟨w.heap.size, 0, none⟩ = false) (f2 : w2.frozen? ⟨w.heap.size, 1, none⟩ = false) (i1 : (w2.cell? ⟨w.heap.size, 0, none⟩).isSome = true) (i2 : (w2.cell? ⟨w.heap.size, 1, none⟩).isSome = true) (hl : w.heap.size < w2.heap.size) (rA : IntRow w2 .i64 A ps) (rB : IntRow w2 .i64 B qs) (nA : ∀ a, A = some a → a.block ≠ w.heap.size) (nB : ∀ a, B = some a → a.block ≠ w.heap.size) (hB : Below w.heap.size w w2) : ((w2.alloc (.cells #[x0, x1] t)).alloc (.cells #[y0, y1] t)).drew.cell? ⟨w2.heap.size, 0, none⟩ = some (x0) ∧ ((w2.alloc (.cells #[x0, x1] t)).alloc (.cells #[y0, y1] t)).drew.cell? ⟨w2.heap.size, 1, none⟩ = some (x1) ∧ ((w2.alloc (.cells #[x0, x1] t)).alloc (.cells #[y0, y1] t)).drew.cell? ⟨(w2.heap.size + 1), 0, none⟩ = some (y0) ∧ ((w2.alloc (.cells #[x0, x1] t)).alloc (.cells #[y0, y1] t)).drew.cell? ⟨(w2.heap.size + 1), 1, none⟩ = some (y1) ∧ ((w2.alloc (.cells #[x0, x1] t)).alloc (.cells #[y0, y1] t)).drew.frozen? ⟨w.heap.size, 0, none⟩ = false ∧ ((w2.alloc (.cells #[x0, x1] t)).alloc (.cells #[y0, y1] t)).drew.frozen? ⟨w.heap.size, 1, none⟩ = false ∧ (((w2.alloc (.cells #[x0, x1] t)).alloc (.cells #[y0, y1] t)).drew.cell? ⟨w.heap.size, 0, none⟩).isSome = true ∧ (((w2.alloc (.cells #[x0, x1] t)).alloc (.cells #[y0, y1] t)).drew.cell? ⟨w.heap.size, 1, none⟩).isSome = true ∧ w2.heap.size + 1 < ((w2.alloc (.cells #[x0, x1] t)).alloc (.cells #[y0, y1] t)).drew.heap.size ∧ w.heap.size < w2.heap.size ∧ IntRow ((w2.alloc (.cells #[x0, x1] t)).alloc (.cells #[y0, y1] t)).drew .i64 A ps ∧ IntRow ((w2.alloc (.cells #[x0, x1] t)).alloc (.cells #[y0, y1] t)).drew .i64 B qs ∧ (∀ a, A = some a → a.block ≠ w.heap.size) ∧ (∀ a, B = some a → a.block ≠ w.heap.size) ∧ Below w.heap.size w ((w2.alloc (.cells #[x0, x1] t)).alloc (.cells #[y0, y1] t)).drew := by
  have hb : Below w2.heap.size w2 ((w2.alloc (.cells #[x0, x1] t)).alloc (.cells #[y0, y1] t)) := below_more (below_a1 _ _) (below_a1 _ _)
  obtain ⟨hc, hf⟩ := bcell hb
  refine ⟨?_, ?_, ?_, ?_, (hf _ _ hl).trans f1, (hf _ _ hl).trans f2, ?_, ?_, ?_, hl, (rA.below hb).drew, (rB.below hb).drew, nA, nB, (hB.trans (hb.mono hB.size)).drew⟩
  · show (World.alloc _ _).cell? _ = _; simp [go_sem]
  · show (World.alloc _ _).cell? _ = _; simp [go_sem]
  · show (World.alloc _ _).cell? _ = _; simp [go_sem]
  · show (World.alloc _ _).cell? _ = _; simp [go_sem]
  · show ((World.alloc _ _).cell? _).isSome = _; rw [hc _ _ hl]; exact i1
  · show ((World.alloc _ _).cell? _).isSome = _; rw [hc _ _ hl]; exact i2
  · show _ < (World.alloc _ _).heap.size; simp
theorem sq_rows {w w2 W : World} {x0 x1 y0 y1 : Value} {A B : Option Addr} {ps qs : List Int} (h : W.cell? ⟨w2.heap.size, 0, none⟩ = some (x0) ∧ W.cell? ⟨w2.heap.size, 1, none⟩ = some (x1) ∧ W.cell? ⟨(w2.heap.size + 1), 0, none⟩ = some (y0) ∧ W.cell? ⟨(w2.heap.size + 1), 1, none⟩ = some (y1) ∧ W.frozen? ⟨w.heap.size, 0, none⟩ = false ∧ W.frozen? ⟨w.heap.size, 1, none⟩ = false ∧ (W.cell? ⟨w.heap.size, 0, none⟩).isSome = true ∧ (W.cell? ⟨w.heap.size, 1, none⟩).isSome = true ∧ w2.heap.size + 1 < W.heap.size ∧ w.heap.size < w2.heap.size ∧ IntRow W .i64 A ps ∧ IntRow W .i64 B qs ∧ (∀ a, A = some a → a.block ≠ w.heap.size) ∧ (∀ a, B = some a → a.block ≠ w.heap.size) ∧ Below w.heap.size w W) : IntRow W .i64 A ps ∧ IntRow W .i64 B qs ∧ Below w.heap.size w W ∧ w.heap.size < W.heap.size := by
  obtain ⟨h1, h2, h3, h4, f1, f2, i1, i2, hs, hl, rA, rB, nA, nB, hB⟩ := h
  exact ⟨rA, rB, hB, by omega⟩

theorem sq_i64' {a : Int} (a0 : -9223372036854775808 ≤ a) (a1 : a ≤ 9223372036854775807) : 0 ≤ a * a ∧ a * a ≤ 85070591730234615865843651857942052864 := by
  by_cases h : a < 0
  · have := Root.sq_le (a := -a) (b := 9223372036854775808) (by omega) (by omega)
    rw [Int.neg_mul_neg] at this
    exact ⟨by have := Int.mul_nonneg (show 0 ≤ -a by omega) (show 0 ≤ -a by omega); rwa [Int.neg_mul_neg] at this, by omega⟩
  · have := Root.sq_le (a := a) (b := 9223372036854775808) (by omega) (by omega)
    exact ⟨Int.mul_nonneg (by omega) (by omega), by omega⟩


set_option maxHeartbeats 16000000 in
theorem squares2_calls (x y : Int) (x0 : -9223372036854775808 ≤ x) (x1 : x ≤ 9223372036854775807) (y0 : -9223372036854775808 ≤ y) (y1 : y ≤ 9223372036854775807) (w : World) : Calls Try.prog 29 #[.int .i64 x, .int .i64 y] w (Num0 w (x * x + y * y)) := by
  have OA := Lib.hid (of_num x x0 x1)
  have OB := Lib.hid (of_num y y0 y1)
  have p4 := pw4_val
  have p8 := pw8_val
  have s1 := sq_i64' x0 x1
  have s2 := sq_i64' y0 y1
  go_enter Try.func29, Try.ntmps29
  go_wp2_with (first
    | (go_at_call 45; ((with_reducible refine (OA.out _).mono ?_); rintro e w1 ⟨r1, C1, d1, c1, n1, rfl, o1, e1⟩; clear OA; have g1 := sg_len (M := 9223372036854775808) (m := 4) o1 e1 (by omega) (by omega)))
    | (go_at_call 45; ((with_reducible refine (OB.out _).mono ?_); rintro e w2 ⟨r2, C2, d2, c2, n2, rfl, o2, e2⟩; clear OB; have g2 := sg_len (M := 9223372036854775808) (m := 4) o2 e2 (by omega) (by omega); have z1 := o1.row.below o2.bel))
    | fail)
  have hW0 : Below (w.alloc (.cells #[.bool false, .slice none 0 0] 60)).heap.size (w.alloc (.cells #[.bool false, .slice none 0 0] 60)) w2 := below_more o1.bel o2.bel
  have hW1 : Below w.heap.size w w2 := below_more (below_a1 _ _) hW0
  have hsz := hW0.size
  rw [World.size_alloc] at hsz
  have hlt : w.heap.size < w2.heap.size := by omega
  obtain ⟨hc, hf⟩ := bcell hW0
  have k0 := (hc w.heap.size 0 (by simp)).trans (show _ = some (Value.bool false) by simp [go_sem])
  have k1 := (hc w.heap.size 1 (by simp)).trans (show _ = some (Value.slice none 0 0) by simp [go_sem])
  have k2 := (hf w.heap.size 0 (by simp)).trans (show _ = false by simp [go_sem])
  have k3 := (hf w.heap.size 1 (by simp)).trans (show _ = false by simp [go_sem])
  have nA : ∀ a, C1 = some a → a.block ≠ w.heap.size := fun a ha => by have := o1.new a ha; rw [World.size_alloc] at this; omega
  have nB : ∀ a, C2 = some a → a.block ≠ w.heap.size := fun a ha => by have h1 := o2.new a ha; have h2 := o1.bel.size; rw [World.size_alloc] at h2; omega
  have S1 := Lib.hid o1.says
  have S2 := Lib.hid o2.says
  have Z2 := o2.row
  have i1 : (w2.cell? ⟨w.heap.size, 0, none⟩).isSome = true := by rw [k0]; rfl
  have i2 : (w2.cell? ⟨w.heap.size, 1, none⟩).isSome = true := by rw [k1]; rfl
  clear hc hf
  go_region_held3 (fun w' => w'.cell? ⟨w2.heap.size, 0, none⟩ = some (.bool r1) ∧ w'.cell? ⟨w2.heap.size, 1, none⟩ = some (.slice C1 d1.length c1) ∧ w'.cell? ⟨(w2.heap.size + 1), 0, none⟩ = some (.bool r2) ∧ w'.cell? ⟨(w2.heap.size + 1), 1, none⟩ = some (.slice C2 d2.length c2) ∧ w'.frozen? ⟨w.heap.size, 0, none⟩ = false ∧ w'.frozen? ⟨w.heap.size, 1, none⟩ = false ∧ (w'.cell? ⟨w.heap.size, 0, none⟩).isSome = true ∧ (w'.cell? ⟨w.heap.size, 1, none⟩).isSome = true ∧ w2.heap.size + 1 < w'.heap.size ∧ w.heap.size < w2.heap.size ∧ IntRow w' .i64 C1 d1 ∧ IntRow w' .i64 C2 d2 ∧ (∀ a, C1 = some a → a.block ≠ w.heap.size) ∧ (∀ a, C2 = some a → a.block ≠ w.heap.size) ∧ Below w.heap.size w w') (first | exact sq_begin (W := w) _ k2 k3 i1 i2 hlt z1 Z2 nA nB hW1 | exact sq_keep (by assumption) (by assumption) | exact sq_store _ _ (by assumption))
    (first
      | (go_at_call 40; ((with_reducible refine (mul_num (s := r1) (t := r1) (by first | exact (sq_rows (by assumption)).1) (by first | exact (sq_rows (by assumption)).1) S1.out S1.out (by omega) (by omega) e1 e1).mono ?_); rintro e w3 ⟨r3, C3, d3, c3, n3, rfl, o3, e3⟩; have b3 := o3.bel; have g3 := sg_len (M := 85070591730234615865843651857942052864) (m := 8) o3 e3 (by omega) (by omega)))
      | (go_at_call 40; ((with_reducible refine (mul_num (s := r2) (t := r2) (by first | exact (sq_rows (by assumption)).2.1) (by first | exact (sq_rows (by assumption)).2.1) S2.out S2.out (by omega) (by omega) e2 e2).mono ?_); rintro e w4 ⟨r4, C4, d4, c4, n4, rfl, o4, e4⟩; have b4 := o4.bel; have g4 := sg_len (M := 85070591730234615865843651857942052864) (m := 8) o4 e4 (by omega) (by omega)))
      | (go_at_call 41; ((with_reducible refine (add_num (by first | exact o3.row.below o4.bel | exact o3.row) o4.row o3.says o4.says (by omega) (by omega) e3 e4).mono ?_); rintro e w5 ⟨r5, C5, d5, c5, n5, rfl, o5, e5⟩; have b5 := o5.bel; obtain ⟨v0, v1, q0, q1, q2, q3⟩ := sq_fill (by assumption) b5; have oX := (Out.store (w := w) o5 (sq_rows (by assumption)).2.2.1 (g := w.heap.size) (Nat.le_refl _) (sq_rows (by assumption)).2.2.2 (.bool r5) (.slice C5 d5.length c5)))))
  all_goals
    go_wp2
    refine bodyPost_ret (v := .agg #[.bool r5, .slice C5 d5.length c5]) (by simp [results, Try.results29, go_sem, q0, q1]) rfl ⟨r5, C5, d5, c5, n5, rfl, oX, e5⟩
end Go.Proofs.Ytdhhkabihmdbnaa.Ref
