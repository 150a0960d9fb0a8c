/- Package ref02, walked: Of, Above. For all arguments. -/
import Derived.Test.YtdhegcjclfllmaaRefK
import Derived.Test.YtdhegcjclfllmaaRt1
import Derived.Deep.RegionHeld3
namespace Go.Proofs.Ytdhegcjclfllmaa.Ref
open Go Go.RowKit Open
set_option maxRecDepth 100000
set_option linter.unusedVariables false
set_option linter.unusedSimpArgs false

/-- A number's digits, so far. -/
structure Of2 (n : Int) (out : List Int) (k : Nat) (M : Int) : Prop where
  len : out.length = k
  dig : Dig out
  m0 : 0 ≤ M
  eq : val out + pw k * M = n
  top : M = 0 → Top out
theorem Of2.start {n : Int} (h : 0 ≤ n) : Of2 n [] 0 n := ⟨rfl, Dig.nil, h, by simp [val, pw_zero], fun _ k hk => by simp at hk⟩
theorem Of2.step {n : Int} {out : List Int} {k : Nat} {M : Int} (h : Of2 n out k M) (hM : 0 < M) : Of2 n (out ++ [M % 65536]) (k + 1) (M / 65536) := by
  refine ⟨by simp [h.len], h.dig.snoc (by omega) (by omega), by omega, ?_, fun h0 j hj => ?_⟩
  · rw [val_snoc, h.len, pw_succ]
    have e := h.eq
    have e2 : pw k * (M % 65536) + pw k * 65536 * (M / 65536) = pw k * M := by
      rw [Int.mul_assoc, ← Int.mul_add]
      congr 1
      omega
    omega
  · have hl := h.len
    obtain rfl : j = out.length := by simp at hj; omega
    simp
    omega
theorem Of2.few {n : Int} {out : List Int} {k : Nat} {M : Int} (h : Of2 n out k M) (hM : 0 < M) (hn : n < 18446744073709551616) : k < 4 := by
  have e := h.eq
  have h1 := val_nonneg h.dig
  have h2 : pw k * 1 ≤ pw k * M := Int.mul_le_mul_of_nonneg_left (by omega) (by have := pw_pos k; omega)
  exact lt_of_pw (by rw [show pw 4 = 18446744073709551616 by decide]; omega)
theorem Of2.done {n : Int} {out : List Int} {k : Nat} (h : Of2 n out k 0) : Says out n := ⟨h.dig, h.top rfl, by have := h.eq; simpa using this⟩

set_option maxHeartbeats 4000000 in
theorem of2_calls (n : Int) (n0 : 0 ≤ n) (n1 : n < 18446744073709551616) (w : World) : Calls Try.prog 82 #[.int .u64 n] w (Num0 w n) := by
  have hst := Of2.start n0
  go_enter Try.func82, Try.ntmps82
  go_wp2
  go_loopw [0, 3] (fun z v wr => ∃ k out M, z = .int .u64 M ∧ Of2 n out k M ∧ k ≤ 4 ∧ M < 18446744073709551616 ∧ Own (w.alloc (.cells #[.bool false, .slice none 0 0] 69)) wr v out) (fun z _ _ => (intOf z).toNat)
  case atStart => exact ⟨0, [], n, rfl, hst, by omega, n1, Own.nil (Below.refl _ _)⟩
  case round =>
    obtain ⟨k, out, M, rfl, hI, hk, hM, hO⟩ := hrel
    have m0 := hI.m0
    have hlen := hI.len
    by_cases hp : 0 < M
    · have hk4 := hI.few hp n1
      have HS := Lib.hid (hI.step hp)
      have hx : 0 ≤ M % 65536 ∧ M % 65536 ≤ 65535 := by omega
      have hy : M / 65536 < M := by omega
      clear hI hst
      go_wp2_with (at_builtin; refine app1 rfl _ _ rfl _ _ rfl (hO.alloc _) _ _ rfl (cell_new _ _ _) (by omega) ?_; intro v' w2 hown' hgrow')
      go_roundw
      case rel => exact ⟨k + 1, out ++ [M % 65536], M / 65536, rfl, HS.out, by omega, by omega, hown'⟩
      case measure => simp [intOf]; omega
    · obtain rfl : M = 0 := by omega
      have hS := Lib.hid hI.done
      obtain ⟨C1, cap1, rfl, l1, l2, hR, hnew⟩ := hO.read hI.dig
      have hbel := hO.bel
      obtain ⟨hc, hf⟩ := bcell hbel
      have k0 := (hc w.heap.size 0 (by simp)).trans (show _ = some (Value.bool false) by simp [go_sem])
      have k1 := (hc w.heap.size 1 (by simp)).trans (show _ = some (Value.slice none 0 0) by simp [go_sem])
      have k2 := (hf w.heap.size 0 (by simp)).trans (show _ = false by simp [go_sem])
      have k3 := (hf w.heap.size 1 (by simp)).trans (show _ = false by simp [go_sem])
      clear hI hst hlen hc hf
      go_wp2
      refine bodyPost_ret (v := .agg #[.bool false, .slice C1 out.length cap1]) (by simp [results, Try.results82, go_sem, k0, k1]) rfl ⟨false, C1, out, cap1, n, rfl, ?_, sg_false _⟩
      exact Out.store (X := (w.alloc (.cells #[.bool false, .slice none 0 0] 69))) ⟨hR, hS.out, hbel, hnew⟩ (below_a1 _ _) (Nat.le_refl _) (by simp) _ _

set_option maxHeartbeats 4000000 in
theorem above_calls (s t : Bool) (A B : Option Addr) (ps qs : List Int) (ca cb : Nat) (a b : Int) (w : World) (hA : IntRow w .i64 A ps) (hB : IntRow w .i64 B qs) (ha : Says ps a) (hb : Says qs b) (la : ps.length ≤ 60) (lb : qs.length ≤ 60) :
    Calls Try.prog 83 #[.agg #[.bool s, .slice A ps.length ca], .agg #[.bool t, .slice B qs.length cb]] w fun e w' => e = .returned (.bool (decide (b < sg s a))) ∧ Below w.heap.size w w' := by
  have HD := Lib.hid (fun (w : World) hA hB => add_num (s := s) (t := true) (A := A) (B := B) (ps := ps) (qs := qs) (ca := ca) (cb := cb) (w := w) hA hB ha hb (by omega) (by omega) rfl rfl)
  have a0 := ha.nonneg
  have b0 := hb.nonneg
  go_enter Try.func83, Try.ntmps83
  go_wp2_with (go_at_call 85; ((with_reducible refine (HD.out _ ((hA.below (below_a1 _ _)).below (below_a1 _ _)) ((hB.below (below_a1 _ _)).below (below_a1 _ _))).mono ?_); rintro e w1 ⟨r, C, cs, cc, n, rfl, o1, e1⟩))
  all_goals
    have n0 := o1.says.nonneg
    have hB : ∀ o, Below w.heap.size w (w1.alloc o) := fun o => below_more (below_a1 w _) (below_more (below_a1 _ _) (below_more o1.bel (below_a1 _ o)))
    go_ret
    refine ⟨?_, hB _⟩
  · have hr : r = true := by assumption
    rw [hr, sg_true, sg_true] at e1
    simp
    omega
  · have hr : r = false := Bool.eq_false_iff.2 (by assumption)
    rw [hr, sg_false, sg_true] at e1
    by_cases h : 0 < n
    · have := o1.says.pos h
      simp
      omega
    · obtain rfl : n = 0 := by omega
      have := o1.says.zero
      simp
      omega
end Go.Proofs.Ytdhegcjclfllmaa.Ref

/- A number of digits that is none: over the walks of ref01. -/
namespace Go.Proofs.Ytdhegcjclfllmaa.Ref
open Go Go.RowKit Open
set_option maxRecDepth 100000
set_option linter.unusedVariables false
set_option linter.unusedSimpArgs false

theorem Num0.pos {w w' : World} {z : Int} {e : Ending} (h : Num0 w z e w') (h0 : 0 ≤ z) : ∃ r C cs cc, e = .returned (.agg #[.bool r, .slice C cs.length cc]) ∧ Out w w' C cs z ∧ sg r z = z := by
  obtain ⟨r, C, cs, cc, n, rfl, o, e⟩ := h
  have n0 := o.says.nonneg
  cases r
  · rw [sg_false] at e
    subst e
    exact ⟨_, C, cs, cc, rfl, o, rfl⟩
  · rw [sg_true] at e
    obtain rfl : n = 0 := by omega
    obtain rfl : z = 0 := by omega
    exact ⟨_, C, cs, cc, rfl, o, by simp [sg]⟩

end Go.Proofs.Ytdhegcjclfllmaa.Ref

/- Package ref02, walked: Squares. For all numbers. Printed by gen_squares.py. -/
namespace Go.Proofs.Ytdhegcjclfllmaa.Ref
open Go Go.RowKit Open
set_option maxRecDepth 100000
set_option linter.unusedVariables false
set_option linter.unusedSimpArgs false
theorem sq_keep {w w2 W w1 : World} {x0 x1 y0 y1 : Value} {A B : Option Addr} {ps qs : List Int} (h : W.cell? ⟨w2.heap.size, 0, none⟩ = some (x0) ∧ W.cell? ⟨w2.heap.size, 1, none⟩ = some (x1) ∧ W.cell? ⟨(w2.heap.size + 1), 0, none⟩ = some (y0) ∧ W.cell? ⟨(w2.heap.size + 1), 1, none⟩ = some (y1) ∧ W.frozen? ⟨w.heap.size, 0, none⟩ = false ∧ W.frozen? ⟨w.heap.size, 1, none⟩ = false ∧ (W.cell? ⟨w.heap.size, 0, none⟩).isSome = true ∧ (W.cell? ⟨w.heap.size, 1, none⟩).isSome = true ∧ w2.heap.size + 1 < W.heap.size ∧ w.heap.size < w2.heap.size ∧ IntRow W .i64 A ps ∧ IntRow W .i64 B qs ∧ (∀ a, A = some a → a.block ≠ w.heap.size) ∧ (∀ a, B = some a → a.block ≠ w.heap.size) ∧ Below w.heap.size w W) (hb : Below W.heap.size W w1) : w1.cell? ⟨w2.heap.size, 0, none⟩ = some (x0) ∧ w1.cell? ⟨w2.heap.size, 1, none⟩ = some (x1) ∧ w1.cell? ⟨(w2.heap.size + 1), 0, none⟩ = some (y0) ∧ w1.cell? ⟨(w2.heap.size + 1), 1, none⟩ = some (y1) ∧ w1.frozen? ⟨w.heap.size, 0, none⟩ = false ∧ w1.frozen? ⟨w.heap.size, 1, none⟩ = false ∧ (w1.cell? ⟨w.heap.size, 0, none⟩).isSome = true ∧ (w1.cell? ⟨w.heap.size, 1, none⟩).isSome = true ∧ w2.heap.size + 1 < w1.heap.size ∧ w.heap.size < w2.heap.size ∧ IntRow w1 .i64 A ps ∧ IntRow w1 .i64 B qs ∧ (∀ a, A = some a → a.block ≠ w.heap.size) ∧ (∀ a, B = some a → a.block ≠ w.heap.size) ∧ Below w.heap.size w w1 := by
  obtain ⟨h1, h2, h3, h4, f1, f2, i1, i2, hs, hl, rA, rB, nA, nB, hB⟩ := h
  obtain ⟨hc, hf⟩ := bcell hb
  have hz := hb.size
  exact ⟨(hc _ _ (by omega)).trans h1, (hc _ _ (by omega)).trans h2, (hc _ _ (by omega)).trans h3, (hc _ _ (by omega)).trans h4, (hf _ _ (by omega)).trans f1, (hf _ _ (by omega)).trans f2,
    by rw [hc _ _ (by omega)]; exact i1, by rw [hc _ _ (by omega)]; exact i2, by omega, hl, rA.below hb, rB.below hb, nA, nB, hB.trans (hb.mono hB.size)⟩
theorem sq_fill {w w2 W w1 : World} {x0 x1 y0 y1 : Value} {A B : Option Addr} {ps qs : List Int} (h : W.cell? ⟨w2.heap.size, 0, none⟩ = some (x0) ∧ W.cell? ⟨w2.heap.size, 1, none⟩ = some (x1) ∧ W.cell? ⟨(w2.heap.size + 1), 0, none⟩ = some (y0) ∧ W.cell? ⟨(w2.heap.size + 1), 1, none⟩ = some (y1) ∧ W.frozen? ⟨w.heap.size, 0, none⟩ = false ∧ W.frozen? ⟨w.heap.size, 1, none⟩ = false ∧ (W.cell? ⟨w.heap.size, 0, none⟩).isSome = true ∧ (W.cell? ⟨w.heap.size, 1, none⟩).isSome = true ∧ w2.heap.size + 1 < W.heap.size ∧ w.heap.size < w2.heap.size ∧ IntRow W .i64 A ps ∧ IntRow W .i64 B qs ∧ (∀ a, A = some a → a.block ≠ w.heap.size) ∧ (∀ a, B = some a → a.block ≠ w.heap.size) ∧ Below w.heap.size w W) (hb : Below W.heap.size W w1) : ∃ v0 v1, w1.cell? ⟨w.heap.size, 0, none⟩ = some v0 ∧ w1.cell? ⟨w.heap.size, 1, none⟩ = some v1 ∧ w1.frozen? ⟨w.heap.size, 0, none⟩ = false ∧ w1.frozen? ⟨w.heap.size, 1, none⟩ = false := by
  obtain ⟨h1, h2, h3, h4, f1, f2, i1, i2, hs, hl, rA, rB, nA, nB, hB⟩ := h
  obtain ⟨hc, hf⟩ := bcell hb
  obtain ⟨v0, e0⟩ := Option.isSome_iff_exists.1 i1
  obtain ⟨v1, e1⟩ := Option.isSome_iff_exists.1 i2
  exact ⟨v0, v1, (hc _ _ (by omega)).trans e0, (hc _ _ (by omega)).trans e1, (hf _ _ (by omega)).trans f1, (hf _ _ (by omega)).trans f2⟩
theorem sq_store {w w2 W : World} {x0 x1 y0 y1 : Value} {A B : Option Addr} {ps qs : List Int} (v0 v1 : Value) (h : W.cell? ⟨w2.heap.size, 0, none⟩ = some (x0) ∧ W.cell? ⟨w2.heap.size, 1, none⟩ = some (x1) ∧ W.cell? ⟨(w2.heap.size + 1), 0, none⟩ = some (y0) ∧ W.cell? ⟨(w2.heap.size + 1), 1, none⟩ = some (y1) ∧ W.frozen? ⟨w.heap.size, 0, none⟩ = false ∧ W.frozen? ⟨w.heap.size, 1, none⟩ = false ∧ (W.cell? ⟨w.heap.size, 0, none⟩).isSome = true ∧ (W.cell? ⟨w.heap.size, 1, none⟩).isSome = true ∧ w2.heap.size + 1 < W.heap.size ∧ w.heap.size < w2.heap.size ∧ IntRow W .i64 A ps ∧ IntRow W .i64 B qs ∧ (∀ a, A = some a → a.block ≠ w.heap.size) ∧ (∀ a, B = some a → a.block ≠ w.heap.size) ∧ Below w.heap.size w W) : ((W.setCell ⟨w.heap.size, 0, none⟩ v0).setCell ⟨w.heap.size, 1, none⟩ v1).cell? ⟨w2.heap.size, 0, none⟩ = some (x0) ∧ ((W.setCell ⟨w.heap.size, 0, none⟩ v0).setCell ⟨w.heap.size, 1, none⟩ v1).cell? ⟨w2.heap.size, 1, none⟩ = some (x1) ∧ ((W.setCell ⟨w.heap.size, 0, none⟩ v0).setCell ⟨w.heap.size, 1, none⟩ v1).cell? ⟨(w2.heap.size + 1), 0, none⟩ = some (y0) ∧ ((W.setCell ⟨w.heap.size, 0, none⟩ v0).setCell ⟨w.heap.size, 1, none⟩ v1).cell? ⟨(w2.heap.size + 1), 1, none⟩ = some (y1) ∧ ((W.setCell ⟨w.heap.size, 0, none⟩ v0).setCell ⟨w.heap.size, 1, none⟩ v1).frozen? ⟨w.heap.size, 0, none⟩ = false ∧ ((W.setCell ⟨w.heap.size, 0, none⟩ v0).setCell ⟨w.heap.size, 1, none⟩ v1).frozen? ⟨w.heap.size, 1, none⟩ = false ∧ (((W.setCell ⟨w.heap.size, 0, none⟩ v0).setCell ⟨w.heap.size, 1, none⟩ v1).cell? ⟨w.heap.size, 0, none⟩).isSome = true ∧ (((W.setCell ⟨w.heap.size, 0, none⟩ v0).setCell ⟨w.heap.size, 1, none⟩ v1).cell? ⟨w.heap.size, 1, none⟩).isSome = true ∧ w2.heap.size + 1 < ((W.setCell ⟨w.heap.size, 0, none⟩ v0).setCell ⟨w.heap.size, 1, none⟩ v1).heap.size ∧ w.heap.size < w2.heap.size ∧ IntRow ((W.setCell ⟨w.heap.size, 0, none⟩ v0).setCell ⟨w.heap.size, 1, none⟩ v1) .i64 A ps ∧ IntRow ((W.setCell ⟨w.heap.size, 0, none⟩ v0).setCell ⟨w.heap.size, 1, none⟩ v1) .i64 B qs ∧ (∀ a, A = some a → a.block ≠ w.heap.size) ∧ (∀ a, B = some a → a.block ≠ w.heap.size) ∧ Below w.heap.size w ((W.setCell ⟨w.heap.size, 0, none⟩ v0).setCell ⟨w.heap.size, 1, none⟩ v1) := by
  obtain ⟨h1, h2, h3, h4, f1, f2, i1, i2, hs, hl, rA, rB, nA, nB, hB⟩ := h
  have ne : ∀ {b o o' : Nat} {u : World} {v : Value}, b ≠ w.heap.size → (u.setCell ⟨w.heap.size, o, none⟩ v).cell? ⟨b, o', none⟩ = u.cell? ⟨b, o', none⟩ := fun hb => World.cell?_setCell_other _ _ _ _ (by intro h; simp at h <;> omega)
  obtain ⟨u0, e0⟩ := Option.isSome_iff_exists.1 i1
  obtain ⟨u1, e1⟩ := Option.isSome_iff_exists.1 i2
  refine ⟨by rw [ne (by omega), ne (by omega)]; exact h1, by rw [ne (by omega), ne (by omega)]; exact h2, by rw [ne (by omega), ne (by omega)]; exact h3, by rw [ne (by omega), ne (by omega)]; exact h4, by rw [World.frozen?_setCell, World.frozen?_setCell]; exact f1, by rw [World.frozen?_setCell, World.frozen?_setCell]; exact f2,
    ?_, ?_, by simpa using hs, hl, (rA.set nA).set nA, (rB.set nB).set nB, nA, nB, (hB.setCell (by show w.heap.size ≤ w.heap.size; omega) _).setCell (by show w.heap.size ≤ w.heap.size; omega) _⟩
  · simp [go_sem, e0, e1]
  · simp [go_sem, e0, e1]
theorem sq_begin {w w2 W : World} {x0 x1 y0 y1 : Value} {A B : Option Addr} {ps qs : List Int} (t : TypeId) (f1 : w2.frozen? ⟨w.heap.size, 0, none⟩ = false) (f2 : w2.frozen? ⟨w.heap.size, 1, none⟩ = false) (i1 : (w2.cell? ⟨w.heap.size, 0, none⟩).isSome = true) (i2 : (w2.cell? ⟨w.heap.size, 1, none⟩).isSome = true) (hl : w.heap.size < w2.heap.size) (rA : IntRow w2 .i64 A ps) (rB : IntRow w2 .i64 B qs) (nA : ∀ a, A = some a → a.block ≠ w.heap.size) (nB : ∀ a, B = some a → a.block ≠ w.heap.size) (hB : Below w.heap.size w w2) : ((w2.alloc (.cells #[x0, x1] t)).alloc (.cells #[y0, y1] t)).drew.cell? ⟨w2.heap.size, 0, none⟩ = some (x0) ∧ ((w2.alloc (.cells #[x0, x1] t)).alloc (.cells #[y0, y1] t)).drew.cell? ⟨w2.heap.size, 1, none⟩ = some (x1) ∧ ((w2.alloc (.cells #[x0, x1] t)).alloc (.cells #[y0, y1] t)).drew.cell? ⟨(w2.heap.size + 1), 0, none⟩ = some (y0) ∧ ((w2.alloc (.cells #[x0, x1] t)).alloc (.cells #[y0, y1] t)).drew.cell? ⟨(w2.heap.size + 1), 1, none⟩ = some (y1) ∧ ((w2.alloc (.cells #[x0, x1] t)).alloc (.cells #[y0, y1] t)).drew.frozen? ⟨w.heap.size, 0, none⟩ = false ∧ ((w2.alloc (.cells #[x0, x1] t)).alloc (.cells #[y0, y1] t)).drew.frozen? ⟨w.heap.size, 1, none⟩ = false ∧ (((w2.alloc (.cells #[x0, x1] t)).alloc (.cells #[y0, y1] t)).drew.cell? ⟨w.heap.size, 0, none⟩).isSome = true ∧ (((w2.alloc (.cells #[x0, x1] t)).alloc (.cells #[y0, y1] t)).drew.cell? ⟨w.heap.size, 1, none⟩).isSome = true ∧ w2.heap.size + 1 < ((w2.alloc (.cells #[x0, x1] t)).alloc (.cells #[y0, y1] t)).drew.heap.size ∧ w.heap.size < w2.heap.size ∧ IntRow ((w2.alloc (.cells #[x0, x1] t)).alloc (.cells #[y0, y1] t)).drew .i64 A ps ∧ IntRow ((w2.alloc (.cells #[x0, x1] t)).alloc (.cells #[y0, y1] t)).drew .i64 B qs ∧ (∀ a, A = some a → a.block ≠ w.heap.size) ∧ (∀ a, B = some a → a.block ≠ w.heap.size) ∧ Below w.heap.size w ((w2.alloc (.cells #[x0, x1] t)).alloc (.cells #[y0, y1] t)).drew := by
  have hb : Below w2.heap.size w2 ((w2.alloc (.cells #[x0, x1] t)).alloc (.cells #[y0, y1] t)) := below_more (below_a1 _ _) (below_a1 _ _)
  obtain ⟨hc, hf⟩ := bcell hb
  refine ⟨?_, ?_, ?_, ?_, (hf _ _ hl).trans f1, (hf _ _ hl).trans f2, ?_, ?_, ?_, hl, (rA.below hb).drew, (rB.below hb).drew, nA, nB, (hB.trans (hb.mono hB.size)).drew⟩
  · show (World.alloc _ _).cell? _ = _; simp [go_sem]
  · show (World.alloc _ _).cell? _ = _; simp [go_sem]
  · show (World.alloc _ _).cell? _ = _; simp [go_sem]
  · show (World.alloc _ _).cell? _ = _; simp [go_sem]
  · show ((World.alloc _ _).cell? _).isSome = _; rw [hc _ _ hl]; exact i1
  · show ((World.alloc _ _).cell? _).isSome = _; rw [hc _ _ hl]; exact i2
  · show _ < (World.alloc _ _).heap.size; simp
theorem sq_rows {w w2 W : World} {x0 x1 y0 y1 : Value} {A B : Option Addr} {ps qs : List Int} (h : W.cell? ⟨w2.heap.size, 0, none⟩ = some (x0) ∧ W.cell? ⟨w2.heap.size, 1, none⟩ = some (x1) ∧ W.cell? ⟨(w2.heap.size + 1), 0, none⟩ = some (y0) ∧ W.cell? ⟨(w2.heap.size + 1), 1, none⟩ = some (y1) ∧ W.frozen? ⟨w.heap.size, 0, none⟩ = false ∧ W.frozen? ⟨w.heap.size, 1, none⟩ = false ∧ (W.cell? ⟨w.heap.size, 0, none⟩).isSome = true ∧ (W.cell? ⟨w.heap.size, 1, none⟩).isSome = true ∧ w2.heap.size + 1 < W.heap.size ∧ w.heap.size < w2.heap.size ∧ IntRow W .i64 A ps ∧ IntRow W .i64 B qs ∧ (∀ a, A = some a → a.block ≠ w.heap.size) ∧ (∀ a, B = some a → a.block ≠ w.heap.size) ∧ Below w.heap.size w W) : IntRow W .i64 A ps ∧ IntRow W .i64 B qs ∧ Below w.heap.size w W ∧ w.heap.size < W.heap.size := by
  obtain ⟨h1, h2, h3, h4, f1, f2, i1, i2, hs, hl, rA, rB, nA, nB, hB⟩ := h
  exact ⟨rA, rB, hB, by omega⟩

theorem sq_i64' {a : Int} (a0 : -9223372036854775808 ≤ a) (a1 : a ≤ 9223372036854775807) : 0 ≤ a * a ∧ a * a ≤ 85070591730234615865843651857942052864 := by
  by_cases h : a < 0
  · have := Root.sq_le (a := -a) (b := 9223372036854775808) (by omega) (by omega)
    rw [Int.neg_mul_neg] at this
    exact ⟨by have := Int.mul_nonneg (show 0 ≤ -a by omega) (show 0 ≤ -a by omega); rwa [Int.neg_mul_neg] at this, by omega⟩
  · have := Root.sq_le (a := a) (b := 9223372036854775808) (by omega) (by omega)
    exact ⟨Int.mul_nonneg (by omega) (by omega), by omega⟩


set_option maxHeartbeats 16000000 in
theorem squares2_calls (x y : Int) (x0 : -9223372036854775808 ≤ x) (x1 : x ≤ 9223372036854775807) (y0 : -9223372036854775808 ≤ y) (y1 : y ≤ 9223372036854775807) (w : World) : Calls Try.prog 61 #[.int .i64 x, .int .i64 y] w (Num0 w (x * x + y * y)) := by
  have OA := Lib.hid (of_num x x0 x1)
  have OB := Lib.hid (of_num y y0 y1)
  have p4 := pw4_val
  have p8 := pw8_val
  have s1 := sq_i64' x0 x1
  have s2 := sq_i64' y0 y1
  go_enter Try.func61, Try.ntmps61
  go_wp2_with (first
    | (go_at_call 67; ((with_reducible refine (OA.out _).mono ?_); rintro e w1 ⟨r1, C1, d1, c1, n1, rfl, o1, e1⟩; clear OA; have g1 := sg_len (M := 9223372036854775808) (m := 4) o1 e1 (by omega) (by omega)))
    | (go_at_call 67; ((with_reducible refine (OB.out _).mono ?_); rintro e w2 ⟨r2, C2, d2, c2, n2, rfl, o2, e2⟩; clear OB; have g2 := sg_len (M := 9223372036854775808) (m := 4) o2 e2 (by omega) (by omega); have z1 := o1.row.below o2.bel))
    | fail)
  have hW0 : Below (w.alloc (.cells #[.bool false, .slice none 0 0] 69)).heap.size (w.alloc (.cells #[.bool false, .slice none 0 0] 69)) w2 := below_more o1.bel o2.bel
  have hW1 : Below w.heap.size w w2 := below_more (below_a1 _ _) hW0
  have hsz := hW0.size
  rw [World.size_alloc] at hsz
  have hlt : w.heap.size < w2.heap.size := by omega
  obtain ⟨hc, hf⟩ := bcell hW0
  have k0 := (hc w.heap.size 0 (by simp)).trans (show _ = some (Value.bool false) by simp [go_sem])
  have k1 := (hc w.heap.size 1 (by simp)).trans (show _ = some (Value.slice none 0 0) by simp [go_sem])
  have k2 := (hf w.heap.size 0 (by simp)).trans (show _ = false by simp [go_sem])
  have k3 := (hf w.heap.size 1 (by simp)).trans (show _ = false by simp [go_sem])
  have nA : ∀ a, C1 = some a → a.block ≠ w.heap.size := fun a ha => by have := o1.new a ha; rw [World.size_alloc] at this; omega
  have nB : ∀ a, C2 = some a → a.block ≠ w.heap.size := fun a ha => by have h1 := o2.new a ha; have h2 := o1.bel.size; rw [World.size_alloc] at h2; omega
  have S1 := Lib.hid o1.says
  have S2 := Lib.hid o2.says
  have Z2 := o2.row
  have i1 : (w2.cell? ⟨w.heap.size, 0, none⟩).isSome = true := by rw [k0]; rfl
  have i2 : (w2.cell? ⟨w.heap.size, 1, none⟩).isSome = true := by rw [k1]; rfl
  clear hc hf
  go_region_held3 (fun w' => w'.cell? ⟨w2.heap.size, 0, none⟩ = some (.bool r1) ∧ w'.cell? ⟨w2.heap.size, 1, none⟩ = some (.slice C1 d1.length c1) ∧ w'.cell? ⟨(w2.heap.size + 1), 0, none⟩ = some (.bool r2) ∧ w'.cell? ⟨(w2.heap.size + 1), 1, none⟩ = some (.slice C2 d2.length c2) ∧ w'.frozen? ⟨w.heap.size, 0, none⟩ = false ∧ w'.frozen? ⟨w.heap.size, 1, none⟩ = false ∧ (w'.cell? ⟨w.heap.size, 0, none⟩).isSome = true ∧ (w'.cell? ⟨w.heap.size, 1, none⟩).isSome = true ∧ w2.heap.size + 1 < w'.heap.size ∧ w.heap.size < w2.heap.size ∧ IntRow w' .i64 C1 d1 ∧ IntRow w' .i64 C2 d2 ∧ (∀ a, C1 = some a → a.block ≠ w.heap.size) ∧ (∀ a, C2 = some a → a.block ≠ w.heap.size) ∧ Below w.heap.size w w') (first | exact sq_begin (W := w) _ k2 k3 i1 i2 hlt z1 Z2 nA nB hW1 | exact sq_keep (by assumption) (by assumption) | exact sq_store _ _ (by assumption))
    (first
      | (go_at_call 84; ((with_reducible refine (mul_num (s := r1) (t := r1) (by first | exact (sq_rows (by assumption)).1) (by first | exact (sq_rows (by assumption)).1) S1.out S1.out (by omega) (by omega) e1 e1).mono ?_); rintro e w3 ⟨r3, C3, d3, c3, n3, rfl, o3, e3⟩; have b3 := o3.bel; have g3 := sg_len (M := 85070591730234615865843651857942052864) (m := 8) o3 e3 (by omega) (by omega)))
      | (go_at_call 84; ((with_reducible refine (mul_num (s := r2) (t := r2) (by first | exact (sq_rows (by assumption)).2.1) (by first | exact (sq_rows (by assumption)).2.1) S2.out S2.out (by omega) (by omega) e2 e2).mono ?_); rintro e w4 ⟨r4, C4, d4, c4, n4, rfl, o4, e4⟩; have b4 := o4.bel; have g4 := sg_len (M := 85070591730234615865843651857942052864) (m := 8) o4 e4 (by omega) (by omega)))
      | (go_at_call 85; ((with_reducible refine (add_num (by first | exact o3.row.below o4.bel | exact o3.row) o4.row o3.says o4.says (by omega) (by omega) e3 e4).mono ?_); rintro e w5 ⟨r5, C5, d5, c5, n5, rfl, o5, e5⟩; have b5 := o5.bel; obtain ⟨v0, v1, q0, q1, q2, q3⟩ := sq_fill (by assumption) b5; have oX := (Out.store (w := w) o5 (sq_rows (by assumption)).2.2.1 (g := w.heap.size) (Nat.le_refl _) (sq_rows (by assumption)).2.2.2 (.bool r5) (.slice C5 d5.length c5)))))
  all_goals
    go_wp2
    refine bodyPost_ret (v := .agg #[.bool r5, .slice C5 d5.length c5]) (by simp [results, Try.results61, go_sem, q0, q1]) rfl ⟨r5, C5, d5, c5, n5, rfl, oX, e5⟩
end Go.Proofs.Ytdhegcjclfllmaa.Ref

/- Package ref02, walked: Root, bit by bit. For all numbers below 2^128. -/
namespace Go.Proofs.Ytdhegcjclfllmaa.Ref
open Go Go.RowKit Open
set_option maxRecDepth 100000
set_option linter.unusedVariables false
set_option linter.unusedSimpArgs false

/-- The bit of a round. -/
def bt64 (j : Nat) : Int := if j = 0 then 0 else Root.pw (j - 1)
theorem bt64_succ (j : Nat) : bt64 (j + 1) = Root.pw j := rfl
theorem bt64_half (j : Nat) : Root.pw j / 2 = bt64 j := by
  unfold bt64
  cases j with
  | zero => decide
  | succ j => rw [Root.pw_succ]; simp

theorem above_num {s t : Bool} {A B : Option Addr} {ps qs : List Int} {ca cb : Nat} {a b x : Int} {w : World} (hA : IntRow w .i64 A ps) (hB : IntRow w .i64 B qs) (ha : Says ps a) (hb : Says qs b) (la : ps.length ≤ 60) (lb : qs.length ≤ 60) (e : sg s a = x) :
    Calls Try.prog 83 #[.agg #[.bool s, .slice A ps.length ca], .agg #[.bool t, .slice B qs.length cb]] w fun e w' => e = .returned (.bool (decide (b < x))) ∧ Below w.heap.size w w' := by
  subst e
  exact above_calls s t A B ps qs ca cb a b w hA hB ha hb la lb

set_option maxHeartbeats 8000000 in
theorem root2_calls (s : Bool) (A : Option Addr) (ps : List Int) (ca : Nat) (V : Int) (hs : sg s V = V) (V1 : V < 340282366920938463463374607431768211456) (w : World) (hA : IntRow w .i64 A ps) (ha : Says ps V) :
    Calls Try.prog 60 #[.agg #[.bool s, .slice A ps.length ca]] w fun e w' => e = .returned (.int .u64 (Root.rootL V 0 64)) ∧ Below w.heap.size w w' := by
  have V0 := ha.nonneg
  have p4 := pw4_val
  have p8 := pw8_val
  have la := ha.len (m := 8) (by omega)
  have HA0 := Lib.hid (Root.At64.start V0 V1)
  have HR0 : Hid (Root.rootL V 0 64 = Root.rootL V 0 64) := Lib.hid rfl
  have e63 : (9223372036854775808 : Int) = bt64 64 := by decide
  generalize hR : Root.rootL V 0 64 = R at *
  go_enter Try.func60, Try.ntmps60
  go_wp2_with fail
  go_loopw [3, 4] (fun r b wr => ∃ (j : Nat) (r0 : Int), r = .int .u64 r0 ∧ b = .int .u64 (bt64 j) ∧ Root.At64 V r0 j ∧ j ≤ 64 ∧ Root.rootL V r0 j = R ∧ Below (w.alloc (.cells #[.bool s, .slice A ps.length ca] 69)).heap.size (w.alloc (.cells #[.bool s, .slice A ps.length ca] 69)) wr) (fun _ b _ => (intOf b).toNat)
  case atStart => exact ⟨64, 0, rfl, congrArg (Value.int .u64) e63, HA0.out, by omega, hR, Below.refl _ _⟩
  case round =>
    obtain ⟨j, r0, rfl, rfl, hA0, hj, hr, hB⟩ := hrel
    cases j with
    | zero =>
      obtain rfl : r0 = R := hr
      rw [show bt64 0 = 0 from rfl]
      clear HA0 HR0 hA0
      go_wp2
      go_ret
      exact ⟨rfl, below_more (below_a1 _ _) hB⟩
    | succ j =>
      rw [bt64_succ]
      have hbit := Root.pw_pos j
      have hh := hA0.hi
      have hr0 := hA0.r0
      rw [Root.pw_succ] at hh
      have hhalf := bt64_half j
      have hY := Lib.hid hA0.yes
      have hN := Lib.hid hA0.no
      have hRy : Hid ((r0 + Root.pw j) * (r0 + Root.pw j) ≤ V → Root.rootL V (r0 + Root.pw j) j = R) := Lib.hid fun h => by
        have e := hr
        unfold Root.rootL at e
        rw [if_pos h] at e
        exact e
      have hRn : Hid (¬ (r0 + Root.pw j) * (r0 + Root.pw j) ≤ V → Root.rootL V r0 j = R) := Lib.hid fun h => by
        have e := hr
        unfold Root.rootL at e
        rw [if_neg h] at e
        exact e
      have hsz := hB.size
      rw [World.size_alloc] at hsz
      obtain ⟨hc, hf⟩ := bcell hB
      have k0 := (hc w.heap.size 0 (by simp)).trans (show _ = some (Value.bool s) by simp [go_sem])
      have k1 := (hc w.heap.size 1 (by simp)).trans (show _ = some (Value.slice A ps.length ca) by simp [go_sem])
      have hlt : w.heap.size < wr.heap.size := by omega
      have hAr : IntRow wr .i64 A ps := hA.below (below_more (below_a1 _ _) hB)
      clear HA0 HR0 hA0 hr hc hf
      generalize Root.pw j = bit at *
      have OF := Lib.hid (of2_calls (r0 + bit) (by omega) (by omega))
      have hsq0 : 0 ≤ (r0 + bit) * (r0 + bit) := Int.mul_nonneg (by omega) (by omega)
      have hsq1 : (r0 + bit) * (r0 + bit) ≤ 18446744073709551615 * 18446744073709551615 := Root.sq_le (by omega) (by omega)
      obtain ⟨wo, rfl⟩ : ∃ wo : World, wo = wr := ⟨_, rfl⟩
      go_wp2_with (go_at_call 82; ((with_reducible refine (OF.out _).mono ?_); rintro e w1 h; obtain ⟨r1, C1, d1, c1, rfl, o1, e1⟩ := h.pos (by omega); clear OF; have g1 := sg_len (M := 18446744073709551615) (m := 4) o1 e1 (by omega) (by omega); have q0 := (o1.bel.cell (p := ⟨w.heap.size, 0, none⟩) hlt).trans k0; have q1 := (o1.bel.cell (p := ⟨w.heap.size, 1, none⟩) hlt).trans k1; have hl1 := Nat.lt_of_lt_of_le hlt o1.bel.size; have z1 := hAr.below o1.bel))
      have ZX : ∀ o, IntRow (w1.alloc o) .i64 C1 d1 := fun o => o1.row.below (below_a1 _ _)
      have HB1 : Below (w.alloc (.cells #[.bool s, .slice A ps.length ca] 69)).heap.size (w.alloc (.cells #[.bool s, .slice A ps.length ca] 69)) w1 := below_more hB o1.bel
      clear k0 k1 hAr hB
      go_region_with (first
        | (go_at_call 84; (go_loud (with_reducible refine (mul_num (s := r1) (t := r1) (by first | exact ZX _ | exact (ZX _).drew) (by first | exact ZX _ | exact (ZX _).drew) o1.says o1.says (by omega) (by omega) e1 e1).mono ?_); rintro e w2 h; obtain ⟨r2, C2, d2, c2, rfl, o2, e2⟩ := h.pos (by omega); have hb2 : Below w1.heap.size w1 w2 := (by first | exact below_more (below_a1 _ _) o2.bel | exact below_more (below_a1 _ _) (below_more (Below.refl _ _).drew o2.bel)); have g2 := sg_len (M := 18446744073709551615 * 18446744073709551615) (m := 8) o2 e2 (by omega) (by omega); have v0 := (hb2.cell (p := ⟨w.heap.size, 0, none⟩) hl1).trans q0; have v1 := (hb2.cell (p := ⟨w.heap.size, 1, none⟩) hl1).trans q1; have z2 := z1.below hb2))
        | (go_at_call 83; (go_loud (with_reducible refine (above_num (s := r2) (t := s) (by first | exact o2.row | exact o2.row.drew) (by first | exact z2 | exact z2.drew) o2.says ha (by omega) (by omega) e2).mono ?_); rintro e w3 ⟨rfl, hb3⟩))
        | fail)
      all_goals
        have hBe : Below (w.alloc (.cells #[.bool s, .slice A ps.length ca] 69)).heap.size (w.alloc (.cells #[.bool s, .slice A ps.length ca] 69)) w3 := by first | exact below_more HB1 (below_more hb2 hb3) | exact below_more HB1 (below_more hb2 (below_more (Below.refl _ _).drew hb3))
        by_cases hq : (r0 + bit) * (r0 + bit) ≤ V
        · have hq3 : (!decide (V < (r0 + bit) * (r0 + bit))) = true := by simp; omega
          have hat := Lib.hid (hY.out hq)
          have hrr := Lib.hid (hRy.out hq)
          clear hY hN hRy hRn hb2 hb3 v0 v1 z2 z1 q0 q1 o1 o2
          simp only [hq3]
          go_wp2
          go_roundw
          case rel => exact ⟨j, r0 + bit, rfl, by first | rw [hhalf] | (simp [← hhalf]), hat.out, by omega, hrr.out, hBe⟩
          case measure => simp [intOf]; omega
        · have hq2 : V < (r0 + bit) * (r0 + bit) := by omega
          have hq3 : (!decide (V < (r0 + bit) * (r0 + bit))) = false := by simp; omega
          have hat := Lib.hid (hN.out hq2)
          have hrr := Lib.hid (hRn.out hq2)
          clear hY hN hRy hRn hb2 hb3 v0 v1 z2 z1 q0 q1 o1 o2
          simp only [hq3]
          go_wp2
          go_roundw
          case rel => exact ⟨j, r0, rfl, by first | rw [hhalf] | (simp [← hhalf]), hat.out, by omega, hrr.out, hBe⟩
          case measure => simp [intOf]; omega
end Go.Proofs.Ytdhegcjclfllmaa.Ref
