/- Rows that the body of a loop over an iterator appends to. Over any program. -/
import Derived.Test.YtdepcbgjoegkkaaSeq
import Derived.Test.YtdepcbgjoegkkaaRow
namespace Go.Proofs.Ytdepcbgjoegkkaa.Row
open Go Go.RowKit Range
set_option linter.unusedVariables false

section
variable {E : TypeId} {m B Bk n₀ b0 : Nat} {w0 W W1 W2 : World} {v v' : Value} {n : Nat} {cells : List Value} {cs : List Value}
theorem OwnR.kept (h : OwnR E m B w0 W v n cells) {row : Option Nat} (hg : W.grownBy W1 row) (hlo : w0.heap.size ≤ Bk) (hr : ∀ r, row = some r → Bk ≤ r ∧ ∃ o : Obj, W.heap[r]? = some o ∧ o.isCells = false) : OwnR E m B w0 W1 v n cells := by
  refine ⟨⟨h.row.1, ?_⟩, h.bel.grown hg h.bel.size (fun k e => Nat.le_trans hlo (hr k e).1), h.lo, Nat.le_trans h.hi hg.size⟩
  rcases h.row.2 with h2 | ⟨g, cap, cur, h1, h2, h3, h4⟩
  · exact .inl h2
  · refine .inr ⟨g, cap, cur, h1, h2, (hg.block g (Array.getElem?_eq_some_iff.1 h3).1 (fun e => ?_)).trans h3, h4⟩
    obtain ⟨_, o, ho, hc⟩ := hr g e.symm
    rw [h3] at ho; cases ho; cases hc
theorem OwnR.lower (h : OwnR E m B w0 W v n cells) {B' : Nat} (h1 : w0.heap.size ≤ B') (h2 : B' ≤ B) : OwnR E m B' w0 W v n cells := by
  refine ⟨⟨h.row.1, ?_⟩, h.bel, h1, Nat.le_trans h2 h.hi⟩
  rcases h.row.2 with h3 | ⟨g, cap, cur, e, h3, h4⟩
  · exact .inl h3
  · exact .inr ⟨g, cap, cur, e, by omega, h4⟩
theorem OwnR.put (h : OwnR E m B w0 W v n cells) {D : Nat} {o : Obj} (o' : Obj) (hD : w0.heap.size ≤ D) (hl : W.heap[D]? = some o) (ho : o.isCells = false) : OwnR E m B w0 (W.putObj D o') v n cells :=
  h.kept (grownBy_putObj' W D o') hD (fun r e => by cases e; exact ⟨Nat.le_refl _, o, hl, ho⟩)
/-- Behind 'x = append(x, ..)', x a variable in a box below B. -/
theorem pushed {o : Obj} (h : OwnR E m B w0 W v n cells) (hb0 : b0 < B) (hn₀ : n₀ ≤ b0) (hn0 : n₀ ≤ w0.heap.size) (hw0 : w0.heap.size ≤ b0) (hg : (W.alloc o).grownBy W2 v.ownBlock) (h2 : OwnR E m B w0 W2 v' (n + 1) (cells ++ cs)) (hbx : (W.cell? ⟨b0, 0, none⟩).isSome = true) (hfr : W.frozen? ⟨b0, 0, none⟩ = false) :
    KeepsFrom Bk W (W2.setCell ⟨b0, 0, none⟩ v') ∧ Below n₀ W (W2.setCell ⟨b0, 0, none⟩ v') ∧ (∀ b, b < B → b ≠ b0 → (W2.setCell ⟨b0, 0, none⟩ v').heap[b]? = W.heap[b]?) ∧ OwnR E m B w0 (W2.setCell ⟨b0, 0, none⟩ v') v' (n + 1) (cells ++ cs) ∧
    (W2.setCell ⟨b0, 0, none⟩ v').cell? ⟨b0, 0, none⟩ = some v' ∧ (W2.setCell ⟨b0, 0, none⟩ v').frozen? ⟨b0, 0, none⟩ = false ∧
    W2.cell? ⟨b0, 0, none⟩ = W.cell? ⟨b0, 0, none⟩ ∧ W2.frozen? ⟨b0, 0, none⟩ = W.frozen? ⟨b0, 0, none⟩ := by
  have hhi := h.hi
  have hlt := fun k e => (h.row.lt k e).1
  have same : ∀ b, b < B → W2.heap[b]? = W.heap[b]? := fun b hb =>
    (hg.block b (by simp; omega) (fun e => by have := hlt b e.symm; omega)).trans (Below.heap_alloc W o b (by omega))
  have hA : Below n₀ W W2 := ((Below.refl n₀ W).alloc (by omega) o).grown hg (by simp; omega) (fun k e => by have := hlt k e; have := h.lo; omega)
  refine ⟨kf_set (kf_grown (kf_alloc (KeepsFrom.refl _ _)) hg (fun k e => ?_)) _ _, hA.setCell (p := ⟨b0, 0, none⟩) hn₀ _, fun b hb hne => (Below.heap_setCell _ _ _ _ hne).trans (same b hb), h2.set hw0 hb0 _ _, ?_, ?_, World.cell?_of_block (w := W) (a := ⟨b0, 0, none⟩) (same b0 hb0), World.frozen?_of_block (w := W) (a := ⟨b0, 0, none⟩) (same b0 hb0)⟩
  · rcases h.row.2 with ⟨rfl, _⟩ | ⟨g, cap, cur, rfl, h2, h3, h4⟩
    · cases e
    · cases e
      exact ⟨cur, E, (0, 0), (Below.heap_alloc W o g (Array.getElem?_eq_some_iff.1 h3).1).trans h3⟩
  · exact World.cell?_setCell_same' _ _ _ (by rw [World.cell?_of_block (w := W) (a := ⟨b0, 0, none⟩) (same b0 hb0)]; exact hbx)
  · rw [World.frozen?_setCell, World.frozen?_of_block (w := W) (a := ⟨b0, 0, none⟩) (same b0 hb0)]; exact hfr
/-- append, of one element, within a fence. -/
theorem app_in {P : Program} {F : Fence} {nn : Nat} {ops : Array Oper} {rest : List Oper} {o : Oper} {a : Act} {Q : Exit → Act → World → Prop} (hgd : o.guard = none) {T : TypeId} (s x : Operand)
    (ho : o.op = .call { callee := .builtin .append, args := #[s, x], argTypes := #[T, T] }) {z : Value} {bytes : Nat} (hT : P.underlying T = some (.slice E)) (hi : (P.info? E).map (fun i => (i.zero, i.size, i.bytes)) = some (some z, m, bytes)) (hz : z.cells.size = m) (hm : 0 < m) (hby : bytes ≤ 1000)
    (hs : a.eval s = v) (hown : OwnR E m B w0 W v n cells) (b : Nat) (cs : List Value) (hx : a.eval x = .slice (some ⟨b, 0, none⟩) 1 1) (hb : ∀ j u, cs[j]? = some u → W.cell? ⟨b, j, none⟩ = some u) (hl : cs.length = m) (h1 : ∀ u ∈ cs, u.oneCell' = true) (hn : n ≤ 100000000000)
    (h : ∀ v' w', OwnR E m B w0 w' v' (n + 1) (cells ++ cs) → W.grownBy w' v.ownBlock → wpListIn F nn P ops Q rest (a.put o.dst v') w') : wpListIn F nn P ops Q (o :: rest) a W := by
  obtain ⟨i0, hi0, hz0, hz1, hz2⟩ := info_parts hi
  refine wpListIn_append_own _ hgd s x T ho B E i0 z m bytes hT hi0 hz0 hz1 hz2 hz hm v n _ hs hown.row ⟨b, 0, none⟩ 1 1 cs hx (by omega) ?_ h1 (by unfold maxLen; omega) ?_ hown.hi ?_
  · intro j u hj
    rw [addr_add, Nat.zero_add]; exact hb j u hj
  · exact Nat.le_trans (Nat.mul_le_mul_left (n + 1) hby) (by omega)
  · intro v' w' h2 h3 _
    exact h v' w' ⟨h2, hown.bel.grown h3 hown.bel.size (fun k hk => Nat.le_trans hown.lo (hown.row.lt k hk).1), hown.lo, Nat.le_trans hown.hi h3.size⟩ h3
end
end Go.Proofs.Ytdepcbgjoegkkaa.Row
