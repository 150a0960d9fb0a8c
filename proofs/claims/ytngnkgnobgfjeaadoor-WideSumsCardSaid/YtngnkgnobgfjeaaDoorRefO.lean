/- Package ref01, walked: make, Of. For all arguments. -/
import Derived.Test.YtngnkgnobgfjeaaDoorRefC0
namespace Go.Proofs.YtngnkgnobgfjeaaDoor.Ref
open Go Go.RowKit Open
set_option maxRecDepth 100000
set_option linter.unusedVariables false
set_option linter.unusedSimpArgs false

theorem Own.store {w0 w : World} {g n cap : Nat} {ds : List Int} (h : Own w0 w (.slice (some ⟨g, 0, none⟩) n cap) ds) (j : Nat) (z : Int) : Own w0 (w.setCell ⟨g, j, none⟩ (.int .i64 z)) (.slice (some ⟨g, 0, none⟩) n cap) (ds.set j z) := by
  have hn : n = ds.length := by
    rcases h.row.2 with ⟨h', _⟩ | ⟨g', cap', cur, h', _⟩
    · simp at h'
    · simp at h'; exact h'.2.1
  subst hn
  have hs := h.row.stored j (.int .i64 z)
  refine ⟨by have := hs.1; simpa [List.map_set] using this, h.bel.grown hs.2 h.bel.size (fun k hk => by cases hk; exact (h.row.lt g rfl).1)⟩
theorem Own.at {w0 w : World} {g n cap : Nat} {ds : List Int} (h : Own w0 w (.slice (some ⟨g, 0, none⟩) n cap) ds) {j : Nat} (hj : j < ds.length) : w.cell? ⟨g, j, none⟩ = some (.int .i64 (ds[j]?.getD 0)) ∧ w.frozen? ⟨g, j, none⟩ = false ∧ n = ds.length := by
  have hn : n = ds.length := by
    rcases h.row.2 with ⟨h', _⟩ | ⟨g', cap', cur, h', _⟩
    · simp at h'
    · simp at h'; exact h'.2.1
  subst hn
  have hc := h.row.cells (g := g) rfl j (.int .i64 (ds[j]?.getD 0)) (by simp [hj])
  rw [addr_add] at hc
  exact ⟨hc, h.row.frozenAt j, rfl⟩
/-- make, full of noughts. -/
theorem make0 {w0 w : World} {ops : Array Oper} {rest : List Oper} {o : Oper} {a : Act} {Q : Exit → Act → World → Prop} (hgd : o.guard = none) (l c : Operand) (ho : o.op = Op.makeSlice 36 l c)
    (n : Nat) (hl : a.eval l = .int .i64 (n : Int)) (hc : a.eval c = .int .i64 (n : Int)) (hn : n ≤ 1000000) (hbel : Below w0.heap.size w0 w)
    (h : ∀ w', Own w0 w' (.slice (some ⟨w.heap.size, 0, none⟩) n n) (List.replicate n 0) → w.grownBy w' none → wpList Tryd.prog ops Q rest (a.put o.dst (.slice (some ⟨w.heap.size, 0, none⟩) n n)) w') : wpList Tryd.prog ops Q (o :: rest) a w := by
  obtain ⟨i0, hi, hz0, hz1, hz2⟩ := info_parts info_int
  refine wpList_make_full _ hgd l c 36 ho w0.heap.size 3 i0 (.int .i64 0) 1 Tryd.underlying36 hi hz0 hz1 .i64 .i64 _ _ n hl hc rfl rfl (by rw [hz2]; omega) (by unfold maxLen; omega) hbel.size ?_
  intro w' h1 h2
  refine h w' ⟨?_, hbel.grown h2 hbel.size (fun k hk => by cases hk)⟩ h2
  have e : (madeCells (Value.int .i64 0).cells (n * 1)).toList = (List.replicate n (0 : Int)).map (.int .i64) := by
    rw [Nat.mul_one]
    show (madeCells #[Value.int .i64 0] n).toList = _
    rw [toList_madeCells_one]; simp
  rw [e] at h1
  simpa using h1

/-! a plain number's digits -/
structure OfInv (neg : Bool) (n Z : Int) (out : List Int) (k : Nat) (M : Int) : Prop where
  len : out.length = k
  dig : Dig out
  m0 : 0 ≤ M
  z : Z = sg neg M
  eq : val out + pw k * M = n
theorem OfInv.step {neg : Bool} {n Z : Int} {out : List Int} {k : Nat} {M : Int} (h : OfInv neg n Z out k M) : OfInv neg n (sg neg (M / 65536)) (out ++ [M % 65536]) (k + 1) (M / 65536) := by
  have h0 := h.m0
  refine ⟨by simp [h.len], h.dig.snoc (by omega) (by omega), by omega, rfl, ?_⟩
  rw [val_snoc, h.len, pw_succ]
  have e := h.eq
  have e2 : pw k * (M % 65536) + pw k * 65536 * (M / 65536) = pw k * M := by
    rw [Int.mul_assoc, ← Int.mul_add]
    congr 1
    omega
  omega
theorem OfInv.done {neg : Bool} {n Z : Int} {out : List Int} {M : Int} (h : OfInv neg n Z out 4 M) (hn : n ≤ 9223372036854775808) : val out = n := by
  have e := h.eq
  have h1 := val_nonneg h.dig
  have h0 := h.m0
  have e4 : pw 4 = 18446744073709551616 := by decide
  rw [e4] at e
  omega
theorem sg_tmod (neg : Bool) {M : Int} (h : 0 ≤ M) : (sg neg M).tmod 65536 = sg neg (M % 65536) ∧ (sg neg M).tdiv 65536 = sg neg (M / 65536) := by
  cases neg
  · exact ⟨Int.tmod_eq_emod_of_nonneg h, Int.tdiv_eq_ediv_of_nonneg h⟩
  · simp only [sg_true, Int.neg_tmod, Int.neg_tdiv, Int.tmod_eq_emod_of_nonneg h, Int.tdiv_eq_ediv_of_nonneg h, and_self]

/-- A number's size. -/
def siz (a : Int) : Int := if a < 0 then -a else a
theorem sg_siz (a : Int) : sg (decide (a < 0)) (siz a) = a := by
  unfold siz sg
  by_cases h : a < 0 <;> simp [h]

set_option maxHeartbeats 4000000 in
theorem of_calls (a : Int) (a0 : -9223372036854775808 ≤ a) (a1 : a ≤ 9223372036854775807) (w : World) :
    Calls Tryd.prog 13 #[.int .i64 a] w fun e w' => ∃ C cs cc, e = .returned (.agg #[.bool (decide (a < 0)), .slice C cs.length cc]) ∧ Out w w' C cs (siz a) := by
  have hn : siz a ≤ 9223372036854775808 := by unfold siz; split <;> omega
  have hn0 : 0 ≤ siz a := by unfold siz; split <;> omega
  have hst : OfInv (decide (a < 0)) (siz a) a [] 0 (siz a) := ⟨rfl, Dig.nil, hn0, (sg_siz a).symm, by simp [val, pw_zero]⟩
  generalize hng : decide (a < 0) = neg at *
  generalize siz a = n at *
  go_enter Tryd.func13, Tryd.ntmps13
  go_wp2
  go_loopw [0, 4, 5] (fun z v i wr => ∃ k out M Z, i = .int .i64 (k : Nat) ∧ z = .int .i64 Z ∧ OfInv neg n Z out k M ∧ k ≤ 4 ∧ (-9223372036854775808 ≤ Z ∧ Z ≤ 9223372036854775807) ∧ Own (w.alloc (.cells #[.bool false, .slice none 0 0] 38)) wr v out) (fun _ _ i _ => 4 - (intOf i).toNat)
  case atStart => exact ⟨0, [], n, a, rfl, rfl, hst, by omega, ⟨a0, a1⟩, Own.nil (Below.refl _ _)⟩
  case round =>
    obtain ⟨k, out, M, Z, rfl, rfl, hI, hk, hZ, hO⟩ := hrel
    have hlen := hI.len
    have m0 := hI.m0
    have hz := hI.z
    obtain ⟨e1, e2⟩ := sg_tmod neg m0
    rw [← hz] at e1 e2
    by_cases hp : k < 4
    · have HS := Lib.hid hI.step
      have hx : 0 ≤ M % 65536 ∧ M % 65536 ≤ 65535 := by omega
      have hy : 0 ≤ M / 65536 ∧ -9223372036854775808 ≤ sg neg (M / 65536) ∧ sg neg (M / 65536) ≤ 9223372036854775807 := by
        cases neg <;> simp only [sg_true, sg_false] at hz ⊢ <;> omega
      clear hI hst hz
      generalize M % 65536 = x at *
      generalize M / 65536 = y at *
      cases neg
      · simp only [sg_false] at *
        go_wp2_with (at_builtin; refine app1 rfl _ _ rfl _ _ rfl (hO.alloc _) _ _ rfl (cell_new _ _ _) (by omega) ?_; intro v' w2 hown' hgrow')
        go_roundw
        case rel => exact ⟨k + 1, out ++ [x], y, y, by go_num, by simp [e2], by simpa using HS.out, by omega, by omega, by simpa [e1] using hown'⟩
        case measure => simp [intOf]; omega
      · simp only [sg_true] at *
        by_cases hx0 : 0 < x
        · have hneg : (-x : Int) < 0 := by omega
          go_wp2_with (at_builtin; refine app1 rfl _ _ rfl _ _ rfl (hO.alloc _) _ _ rfl (cell_new _ _ _) (by omega) ?_; intro v' w2 hown' hgrow')
          go_roundw
          case rel => exact ⟨k + 1, out ++ [x], y, -y, by go_num, by simp [e2], by simpa using HS.out, by omega, by omega, by simpa [e1] using hown'⟩
          case measure => simp [intOf]; omega
        · obtain rfl : x = 0 := by omega
          simp only [Int.neg_zero] at e1
          go_wp2_with (at_builtin; refine app1 rfl _ _ rfl _ _ rfl (hO.alloc _) _ _ rfl (cell_new _ _ _) (by omega) ?_; intro v' w2 hown' hgrow')
          go_roundw
          case rel => exact ⟨k + 1, out ++ [0], y, -y, by go_num, by simp [e2], by simpa using HS.out, by omega, by omega, by simpa [e1] using hown'⟩
          case measure => simp [intOf]; omega
    · obtain rfl : k = 4 := by omega
      have hv := hI.done hn
      have hdig := hI.dig
      obtain ⟨C1, cap1, rfl, l1, l2, hR, hnew⟩ := hO.read hdig
      have hbel := hO.bel
      obtain ⟨hc, hf⟩ := bcell hbel
      have k0 := (hc w.heap.size 0 (by simp)).trans (show _ = some (Value.bool false) by simp [go_sem])
      have k1 := (hc w.heap.size 1 (by simp)).trans (show _ = some (Value.slice none 0 0) by simp [go_sem])
      have k2 := (hf w.heap.size 0 (by simp)).trans (show _ = false by simp [go_sem])
      have k3 := (hf w.heap.size 1 (by simp)).trans (show _ = false by simp [go_sem])
      clear hI hst hlen hc hf
      go_wp2_with (go_at_call 25; ((with_reducible refine (trim_calls C1 out cap1 l1 l2 hdig _ hR).mono ?_); rintro e w1 ⟨m, rfl, hm, hval, htop, rfl⟩))
      refine bodyPost_ret (v := .agg #[.bool neg, .slice C1 m cap1]) (by simp [results, Tryd.results13, go_sem, k0, k1]) rfl ⟨C1, out.take m, cap1, by rw [List.length_take, Nat.min_eq_left hm], ?_⟩
      exact Out.store (X := (w.alloc (.cells #[.bool false, .slice none 0 0] 38))) ⟨hR.take m, ⟨hdig.take m, htop, by rw [hval, hv]⟩, hbel, hnew⟩ (below_a1 _ _) (Nat.le_refl _) (by simp) _ _
end Go.Proofs.YtngnkgnobgfjeaaDoor.Ref
