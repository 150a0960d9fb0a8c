/- Package ref01, walked: Near. For all numbers of few digits, the divisor not 0. Printed by gen_near.py. -/
import Derived.Test.YtngnkgnobgfjeaaRefH
namespace Go.Proofs.Ytngnkgnobgfjeaa.Ref
open Go Go.RowKit Open
set_option maxRecDepth 100000
set_option linter.unusedVariables false
set_option linter.unusedSimpArgs false
theorem near_bel {w W : World} {x0 x1 y0 y1 : Value} (h : W.cell? ⟨w.heap.size, 0, none⟩ = some (x0) ∧ W.cell? ⟨w.heap.size, 1, none⟩ = some (x1) ∧ W.cell? ⟨(w.heap.size + 1), 0, none⟩ = some (y0) ∧ W.cell? ⟨(w.heap.size + 1), 1, none⟩ = some (y1) ∧ W.frozen? ⟨(w.heap.size + 1 + 1), 0, none⟩ = false ∧ W.frozen? ⟨(w.heap.size + 1 + 1), 1, none⟩ = false ∧ (W.cell? ⟨(w.heap.size + 1 + 1), 0, none⟩).isSome = true ∧ (W.cell? ⟨(w.heap.size + 1 + 1), 1, none⟩).isSome = true ∧ w.heap.size + 1 + 1 < W.heap.size ∧ Below w.heap.size w W) : Below w.heap.size w W := h.2.2.2.2.2.2.2.2.2
theorem near_fill {w W w1 : World} {x0 x1 y0 y1 : Value} (h : W.cell? ⟨w.heap.size, 0, none⟩ = some (x0) ∧ W.cell? ⟨w.heap.size, 1, none⟩ = some (x1) ∧ W.cell? ⟨(w.heap.size + 1), 0, none⟩ = some (y0) ∧ W.cell? ⟨(w.heap.size + 1), 1, none⟩ = some (y1) ∧ W.frozen? ⟨(w.heap.size + 1 + 1), 0, none⟩ = false ∧ W.frozen? ⟨(w.heap.size + 1 + 1), 1, none⟩ = false ∧ (W.cell? ⟨(w.heap.size + 1 + 1), 0, none⟩).isSome = true ∧ (W.cell? ⟨(w.heap.size + 1 + 1), 1, none⟩).isSome = true ∧ w.heap.size + 1 + 1 < W.heap.size ∧ Below w.heap.size w W) (hb : Below W.heap.size W w1) : ∃ v0 v1, w1.cell? ⟨(w.heap.size + 1 + 1), 0, none⟩ = some v0 ∧ w1.cell? ⟨(w.heap.size + 1 + 1), 1, none⟩ = some v1 ∧ w1.frozen? ⟨(w.heap.size + 1 + 1), 0, none⟩ = false ∧ w1.frozen? ⟨(w.heap.size + 1 + 1), 1, none⟩ = false := by
  obtain ⟨h1, h2, h3, h4, f1, f2, i1, i2, hs, hB⟩ := h
  obtain ⟨hc, hf⟩ := bcell hb
  obtain ⟨v0, e0⟩ := Option.isSome_iff_exists.1 i1
  obtain ⟨v1, e1⟩ := Option.isSome_iff_exists.1 i2
  exact ⟨v0, v1, (hc _ _ hs).trans e0, (hc _ _ hs).trans e1, (hf _ _ hs).trans f1, (hf _ _ hs).trans f2⟩
theorem near_keep {w W w1 : World} {x0 x1 y0 y1 : Value} (h : W.cell? ⟨w.heap.size, 0, none⟩ = some (x0) ∧ W.cell? ⟨w.heap.size, 1, none⟩ = some (x1) ∧ W.cell? ⟨(w.heap.size + 1), 0, none⟩ = some (y0) ∧ W.cell? ⟨(w.heap.size + 1), 1, none⟩ = some (y1) ∧ W.frozen? ⟨(w.heap.size + 1 + 1), 0, none⟩ = false ∧ W.frozen? ⟨(w.heap.size + 1 + 1), 1, none⟩ = false ∧ (W.cell? ⟨(w.heap.size + 1 + 1), 0, none⟩).isSome = true ∧ (W.cell? ⟨(w.heap.size + 1 + 1), 1, none⟩).isSome = true ∧ w.heap.size + 1 + 1 < W.heap.size ∧ Below w.heap.size w W) (hb : Below W.heap.size W w1) : w1.cell? ⟨w.heap.size, 0, none⟩ = some (x0) ∧ w1.cell? ⟨w.heap.size, 1, none⟩ = some (x1) ∧ w1.cell? ⟨(w.heap.size + 1), 0, none⟩ = some (y0) ∧ w1.cell? ⟨(w.heap.size + 1), 1, none⟩ = some (y1) ∧ w1.frozen? ⟨(w.heap.size + 1 + 1), 0, none⟩ = false ∧ w1.frozen? ⟨(w.heap.size + 1 + 1), 1, none⟩ = false ∧ (w1.cell? ⟨(w.heap.size + 1 + 1), 0, none⟩).isSome = true ∧ (w1.cell? ⟨(w.heap.size + 1 + 1), 1, none⟩).isSome = true ∧ w.heap.size + 1 + 1 < w1.heap.size ∧ Below w.heap.size w w1 := by
  obtain ⟨h1, h2, h3, h4, f1, f2, i1, i2, hs, hB⟩ := h
  obtain ⟨hc, hf⟩ := bcell hb
  have hz := hb.size
  exact ⟨(hc _ _ (by omega)).trans h1, (hc _ _ (by omega)).trans h2, (hc _ _ (by omega)).trans h3, (hc _ _ (by omega)).trans h4, (hf _ _ (by omega)).trans f1, (hf _ _ (by omega)).trans f2,
    by rw [hc _ _ (by omega)]; exact i1, by rw [hc _ _ (by omega)]; exact i2, by omega, hB.trans (hb.mono hB.size)⟩
theorem near_store {w W : World} {x0 x1 y0 y1 : Value} (v0 v1 : Value) (h : W.cell? ⟨w.heap.size, 0, none⟩ = some (x0) ∧ W.cell? ⟨w.heap.size, 1, none⟩ = some (x1) ∧ W.cell? ⟨(w.heap.size + 1), 0, none⟩ = some (y0) ∧ W.cell? ⟨(w.heap.size + 1), 1, none⟩ = some (y1) ∧ W.frozen? ⟨(w.heap.size + 1 + 1), 0, none⟩ = false ∧ W.frozen? ⟨(w.heap.size + 1 + 1), 1, none⟩ = false ∧ (W.cell? ⟨(w.heap.size + 1 + 1), 0, none⟩).isSome = true ∧ (W.cell? ⟨(w.heap.size + 1 + 1), 1, none⟩).isSome = true ∧ w.heap.size + 1 + 1 < W.heap.size ∧ Below w.heap.size w W) : ((W.setCell ⟨w.heap.size + 1 + 1, 0, none⟩ v0).setCell ⟨w.heap.size + 1 + 1, 1, none⟩ v1).cell? ⟨w.heap.size, 0, none⟩ = some (x0) ∧ ((W.setCell ⟨w.heap.size + 1 + 1, 0, none⟩ v0).setCell ⟨w.heap.size + 1 + 1, 1, none⟩ v1).cell? ⟨w.heap.size, 1, none⟩ = some (x1) ∧ ((W.setCell ⟨w.heap.size + 1 + 1, 0, none⟩ v0).setCell ⟨w.heap.size + 1 + 1, 1, none⟩ v1).cell? ⟨(w.heap.size + 1), 0, none⟩ = some (y0) ∧ ((W.setCell ⟨w.heap.size + 1 + 1, 0, none⟩ v0).setCell ⟨w.heap.size + 1 + 1, 1, none⟩ v1).cell? ⟨(w.heap.size + 1), 1, none⟩ = some (y1) ∧ ((W.setCell ⟨w.heap.size + 1 + 1, 0, none⟩ v0).setCell ⟨w.heap.size + 1 + 1, 1, none⟩ v1).frozen? ⟨(w.heap.size + 1 + 1), 0, none⟩ = false ∧ ((W.setCell ⟨w.heap.size + 1 + 1, 0, none⟩ v0).setCell ⟨w.heap.size + 1 + 1, 1, none⟩ v1).frozen? ⟨(w.heap.size + 1 + 1), 1, none⟩ = false ∧ (((W.setCell ⟨w.heap.size + 1 + 1, 0, none⟩ v0).setCell ⟨w.heap.size + 1 + 1, 1, none⟩ v1).cell? ⟨(w.heap.size + 1 + 1), 0, none⟩).isSome = true ∧ (((W.setCell ⟨w.heap.size + 1 + 1, 0, none⟩ v0).setCell ⟨w.heap.size + 1 + 1, 1, none⟩ v1).cell? ⟨(w.heap.size + 1 + 1), 1, none⟩).isSome = true ∧ w.heap.size + 1 + 1 < ((W.setCell ⟨w.heap.size + 1 + 1, 0, none⟩ v0).setCell ⟨w.heap.size + 1 + 1, 1, none⟩ v1).heap.size ∧ Below w.heap.size w ((W.setCell ⟨w.heap.size + 1 + 1, 0, none⟩ v0).setCell ⟨w.heap.size + 1 + 1, 1, none⟩ v1) := by
  obtain ⟨h1, h2, h3, h4, f1, f2, i1, i2, hs, hB⟩ := h
  have ne : ∀ {b o o' : Nat} {u : World} {v : Value}, b ≠ w.heap.size + 1 + 1 → (u.setCell ⟨w.heap.size + 1 + 1, o, none⟩ v).cell? ⟨b, o', none⟩ = u.cell? ⟨b, o', none⟩ := fun hb => World.cell?_setCell_other _ _ _ _ (by intro h; simp at h <;> omega)
  obtain ⟨u0, e0⟩ := Option.isSome_iff_exists.1 i1
  obtain ⟨u1, e1⟩ := Option.isSome_iff_exists.1 i2
  refine ⟨by rw [ne (by omega), ne (by omega)]; exact h1, by rw [ne (by omega), ne (by omega)]; exact h2, by rw [ne (by omega), ne (by omega)]; exact h3, by rw [ne (by omega), ne (by omega)]; exact h4, by rw [World.frozen?_setCell, World.frozen?_setCell]; exact f1, by rw [World.frozen?_setCell, World.frozen?_setCell]; exact f2,
    ?_, ?_, by simpa using hs, (hB.setCell (by show w.heap.size ≤ w.heap.size + 1 + 1; omega) _).setCell (by show w.heap.size ≤ w.heap.size + 1 + 1; omega) _⟩
  · simp [go_sem, e0, e1]
  · simp [go_sem, e0, e1]
theorem near_begin {w : World} (x0 x1 y0 y1 : Value) (t : TypeId) : (((w.alloc (.cells #[x0, x1] t)).alloc (.cells #[y0, y1] t)).alloc (.cells #[.bool false, .slice none 0 0] t)).drew.cell? ⟨w.heap.size, 0, none⟩ = some (x0) ∧ (((w.alloc (.cells #[x0, x1] t)).alloc (.cells #[y0, y1] t)).alloc (.cells #[.bool false, .slice none 0 0] t)).drew.cell? ⟨w.heap.size, 1, none⟩ = some (x1) ∧ (((w.alloc (.cells #[x0, x1] t)).alloc (.cells #[y0, y1] t)).alloc (.cells #[.bool false, .slice none 0 0] t)).drew.cell? ⟨(w.heap.size + 1), 0, none⟩ = some (y0) ∧ (((w.alloc (.cells #[x0, x1] t)).alloc (.cells #[y0, y1] t)).alloc (.cells #[.bool false, .slice none 0 0] t)).drew.cell? ⟨(w.heap.size + 1), 1, none⟩ = some (y1) ∧ (((w.alloc (.cells #[x0, x1] t)).alloc (.cells #[y0, y1] t)).alloc (.cells #[.bool false, .slice none 0 0] t)).drew.frozen? ⟨(w.heap.size + 1 + 1), 0, none⟩ = false ∧ (((w.alloc (.cells #[x0, x1] t)).alloc (.cells #[y0, y1] t)).alloc (.cells #[.bool false, .slice none 0 0] t)).drew.frozen? ⟨(w.heap.size + 1 + 1), 1, none⟩ = false ∧ ((((w.alloc (.cells #[x0, x1] t)).alloc (.cells #[y0, y1] t)).alloc (.cells #[.bool false, .slice none 0 0] t)).drew.cell? ⟨(w.heap.size + 1 + 1), 0, none⟩).isSome = true ∧ ((((w.alloc (.cells #[x0, x1] t)).alloc (.cells #[y0, y1] t)).alloc (.cells #[.bool false, .slice none 0 0] t)).drew.cell? ⟨(w.heap.size + 1 + 1), 1, none⟩).isSome = true ∧ w.heap.size + 1 + 1 < (((w.alloc (.cells #[x0, x1] t)).alloc (.cells #[y0, y1] t)).alloc (.cells #[.bool false, .slice none 0 0] t)).drew.heap.size ∧ Below w.heap.size w (((w.alloc (.cells #[x0, x1] t)).alloc (.cells #[y0, y1] t)).alloc (.cells #[.bool false, .slice none 0 0] t)).drew := by
  refine ⟨?_, ?_, ?_, ?_, ?_, ?_, ?_, ?_, ?_, Below.drew ?_⟩
  · show (World.alloc _ _).cell? _ = _; simp [go_sem]
  · show (World.alloc _ _).cell? _ = _; simp [go_sem]
  · show (World.alloc _ _).cell? _ = _; simp [go_sem]
  · show (World.alloc _ _).cell? _ = _; simp [go_sem]
  · show (World.alloc _ _).frozen? _ = _; simp [go_sem]
  · show (World.alloc _ _).frozen? _ = _; simp [go_sem]
  · show ((World.alloc _ _).cell? _).isSome = _; simp [go_sem]
  · show ((World.alloc _ _).cell? _).isSome = _; simp [go_sem]
  · show _ < (World.alloc _ _).heap.size; simp
  · repeat' (first | exact Below.refl _ _ | refine Below.drew ?_ | (refine Below.setCell ?_ (by first | omega | (simp; done) | (simp; omega)) _) | (refine Below.alloc ?_ (by first | omega | (simp; done) | (simp; omega)) _))
theorem sg_bound {r s t : Bool} {n a b : Int} (h : sg r n = sg s a + sg t b) (hn : 0 ≤ n) (ha : 0 ≤ a) (hb : 0 ≤ b) : n ≤ a + b := by
  cases r <;> cases s <;> cases t <;> simp [sg] at h <;> omega

theorem near_lt {w W : World} {x0 x1 y0 y1 : Value} (h : W.cell? ⟨w.heap.size, 0, none⟩ = some (x0) ∧ W.cell? ⟨w.heap.size, 1, none⟩ = some (x1) ∧ W.cell? ⟨(w.heap.size + 1), 0, none⟩ = some (y0) ∧ W.cell? ⟨(w.heap.size + 1), 1, none⟩ = some (y1) ∧ W.frozen? ⟨(w.heap.size + 1 + 1), 0, none⟩ = false ∧ W.frozen? ⟨(w.heap.size + 1 + 1), 1, none⟩ = false ∧ (W.cell? ⟨(w.heap.size + 1 + 1), 0, none⟩).isSome = true ∧ (W.cell? ⟨(w.heap.size + 1 + 1), 1, none⟩).isSome = true ∧ w.heap.size + 1 + 1 < W.heap.size ∧ Below w.heap.size w W) : w.heap.size + 1 + 1 < W.heap.size := h.2.2.2.2.2.2.2.2.1
theorem sg_not (s : Bool) (a : Int) : sg (!s) a = -(sg s a) := by cases s <;> simp [sg]

set_option maxHeartbeats 16000000 in
theorem near_pos (s : Bool) (A B : Option Addr) (ps qs : List Int) (ca cb : Nat) (a c : Int) (w : World) (hA : IntRow w .i64 A ps) (hB : IntRow w .i64 B qs) (ha : Says ps a) (hb : Says qs c) (la : ps.length ≤ 10) (lb : qs.length ≤ 10) (hc : 0 < c) :
    Calls Try.prog 36 #[.agg #[.bool s, .slice A ps.length ca], .agg #[.bool false, .slice B qs.length cb]] w (Num0 w ((2 * sg s a + c) / (2 * c))) := by
  have ha0 := ha.nonneg
  have hb0 := hb.nonneg
  have hal := says_lt ha la
  have hbl := says_lt hb lb
  have hpw : pw 10 * 65536 = pw 11 := (pw_succ 10).symm
  go_enter Try.func36, Try.ntmps36
  go_wp2_with fail
  go_region_held3 (fun w' => w'.cell? ⟨w.heap.size, 0, none⟩ = some (.bool s) ∧ w'.cell? ⟨w.heap.size, 1, none⟩ = some (.slice A ps.length ca) ∧ w'.cell? ⟨(w.heap.size + 1), 0, none⟩ = some (.bool false) ∧ w'.cell? ⟨(w.heap.size + 1), 1, none⟩ = some (.slice B qs.length cb) ∧ w'.frozen? ⟨(w.heap.size + 1 + 1), 0, none⟩ = false ∧ w'.frozen? ⟨(w.heap.size + 1 + 1), 1, none⟩ = false ∧ (w'.cell? ⟨(w.heap.size + 1 + 1), 0, none⟩).isSome = true ∧ (w'.cell? ⟨(w.heap.size + 1 + 1), 1, none⟩).isSome = true ∧ w.heap.size + 1 + 1 < w'.heap.size ∧ Below w.heap.size w w') (first | exact near_begin _ _ _ _ _ | exact near_keep (by assumption) (by assumption) | exact near_store _ _ (by assumption))
    (first
      | (go_at_call 40; ((with_reducible refine (add_calls s s A A ps ps ca ca a a _ (by first | exact hA.below (near_bel (by assumption))) (by first | exact hA.below (near_bel (by assumption))) ha ha (by omega) (by omega)).mono ?_); rintro e wA ⟨rA, X1, x1d, x1c, n1, rfl, oA, eA⟩; have bA := oA.bel; have lA := oA.says.len (m := 11) (by have := sg_bound eA oA.says.nonneg ha0 ha0; omega); have nA := sg_bound eA oA.says.nonneg ha0 ha0))
      | (go_at_call 40; ((with_reducible refine (add_calls rA false X1 B x1d qs x1c cb n1 c _ (by first | exact oA.row | exact oA.row.below oC.bel) (by first | exact hB.below (near_bel (by assumption))) oA.says hb (by omega) (by omega)).mono ?_); rintro e wB ⟨rB, X2, x2d, x2c, n2, rfl, oB, eB⟩; have bB := oB.bel; have lB := oB.says.len (m := 11) (by have := sg_bound eB oB.says.nonneg oA.says.nonneg hb0; omega)))
      | (go_at_call 48; ((with_reducible refine (plus_calls B B qs qs cb cb c c _ (by first | exact hB.below (near_bel (by assumption))) (by first | exact hB.below (near_bel (by assumption))) hb hb (by omega) (by omega)).mono ?_); rintro e wC ⟨Y, yd, yc, rfl, oC⟩; have bC := oC.bel; have lC := oC.says.len (m := 11) (by omega)))
      | (go_at_call 47; ((with_reducible refine (floor_calls rB X2 Y x2d yd x2c yc n2 (c + c) _ (by first | exact oB.row | exact oB.row.below oC.bel) (by first | exact oC.row | exact oC.row.below oB.bel | exact (oC.row.below oA.bel).below oB.bel) oB.says oC.says (by omega) (by omega) (by omega)).mono ?_); rintro e wD ⟨rD, Z, zd, zc, n3, rfl, oD, eD⟩; have bD := oD.bel; obtain ⟨v0, v1, k0, k1, k2, k3⟩ := near_fill (by assumption) bD; have oX := (Out.store (w := w) oD (near_bel (by assumption)) (g := w.heap.size + 1 + 1) (by omega) (near_lt (by assumption)) (.bool rD) (.slice Z zd.length zc)))))
  all_goals
    go_wp2
    refine bodyPost_ret (v := .agg #[.bool rD, .slice Z zd.length zc]) (by simp [results, Try.results36, go_sem, k0, k1]) rfl ⟨rD, Z, zd, zc, n3, rfl, oX, ?_⟩
    rw [eD, eB, eA, sg_false]
    congr 1 <;> omega

set_option maxHeartbeats 16000000 in
theorem near_neg (s : Bool) (A B : Option Addr) (ps qs : List Int) (ca cb : Nat) (a c : Int) (w : World) (hA : IntRow w .i64 A ps) (hB : IntRow w .i64 B qs) (ha : Says ps a) (hb : Says qs c) (la : ps.length ≤ 10) (lb : qs.length ≤ 10) (hc : 0 < c) :
    Calls Try.prog 36 #[.agg #[.bool s, .slice A ps.length ca], .agg #[.bool true, .slice B qs.length cb]] w (Num0 w ((2 * -(sg s a) + c) / (2 * c))) := by
  have ha0 := ha.nonneg
  have hb0 := hb.nonneg
  have hal := says_lt ha la
  have hbl := says_lt hb lb
  have hpw : pw 10 * 65536 = pw 11 := (pw_succ 10).symm
  go_enter Try.func36, Try.ntmps36
  go_wp2_with fail
  go_region_held3 (fun w' => w'.cell? ⟨w.heap.size, 0, none⟩ = some (.bool (!s)) ∧ w'.cell? ⟨w.heap.size, 1, none⟩ = some (.slice A ps.length ca) ∧ w'.cell? ⟨(w.heap.size + 1), 0, none⟩ = some (.bool false) ∧ w'.cell? ⟨(w.heap.size + 1), 1, none⟩ = some (.slice B qs.length cb) ∧ w'.frozen? ⟨(w.heap.size + 1 + 1), 0, none⟩ = false ∧ w'.frozen? ⟨(w.heap.size + 1 + 1), 1, none⟩ = false ∧ (w'.cell? ⟨(w.heap.size + 1 + 1), 0, none⟩).isSome = true ∧ (w'.cell? ⟨(w.heap.size + 1 + 1), 1, none⟩).isSome = true ∧ w.heap.size + 1 + 1 < w'.heap.size ∧ Below w.heap.size w w') (first | exact near_begin _ _ _ _ _ | exact near_keep (by assumption) (by assumption) | exact near_store _ _ (by assumption))
    (first
      | (go_at_call 40; ((with_reducible refine (add_calls (!s) (!s) A A ps ps ca ca a a _ (by first | exact hA.below (near_bel (by assumption))) (by first | exact hA.below (near_bel (by assumption))) ha ha (by omega) (by omega)).mono ?_); rintro e wA ⟨rA, X1, x1d, x1c, n1, rfl, oA, eA⟩; have bA := oA.bel; have lA := oA.says.len (m := 11) (by have := sg_bound eA oA.says.nonneg ha0 ha0; omega); have nA := sg_bound eA oA.says.nonneg ha0 ha0))
      | (go_at_call 40; ((with_reducible refine (add_calls rA false X1 B x1d qs x1c cb n1 c _ (by first | exact oA.row | exact oA.row.below oC.bel) (by first | exact hB.below (near_bel (by assumption))) oA.says hb (by omega) (by omega)).mono ?_); rintro e wB ⟨rB, X2, x2d, x2c, n2, rfl, oB, eB⟩; have bB := oB.bel; have lB := oB.says.len (m := 11) (by have := sg_bound eB oB.says.nonneg oA.says.nonneg hb0; omega)))
      | (go_at_call 48; ((with_reducible refine (plus_calls B B qs qs cb cb c c _ (by first | exact hB.below (near_bel (by assumption))) (by first | exact hB.below (near_bel (by assumption))) hb hb (by omega) (by omega)).mono ?_); rintro e wC ⟨Y, yd, yc, rfl, oC⟩; have bC := oC.bel; have lC := oC.says.len (m := 11) (by omega)))
      | (go_at_call 47; ((with_reducible refine (floor_calls rB X2 Y x2d yd x2c yc n2 (c + c) _ (by first | exact oB.row | exact oB.row.below oC.bel) (by first | exact oC.row | exact oC.row.below oB.bel | exact (oC.row.below oA.bel).below oB.bel) oB.says oC.says (by omega) (by omega) (by omega)).mono ?_); rintro e wD ⟨rD, Z, zd, zc, n3, rfl, oD, eD⟩; have bD := oD.bel; obtain ⟨v0, v1, k0, k1, k2, k3⟩ := near_fill (by assumption) bD; have oX := (Out.store (w := w) oD (near_bel (by assumption)) (g := w.heap.size + 1 + 1) (by omega) (near_lt (by assumption)) (.bool rD) (.slice Z zd.length zc)))))
  all_goals
    go_wp2
    refine bodyPost_ret (v := .agg #[.bool rD, .slice Z zd.length zc]) (by simp [results, Try.results36, go_sem, k0, k1]) rfl ⟨rD, Z, zd, zc, n3, rfl, oX, ?_⟩
    rw [eD, eB, eA, sg_false, sg_not]
    congr 1 <;> omega
end Go.Proofs.Ytngnkgnobgfjeaa.Ref
