/- Rows that a call makes for itself by append, of elements of any number of cells. Over any program. -/
import Derived.Test.YtejcjonlnijbkaaSm
import Derived.Test.YtejcjonlnijbkaaOpen
import Derived.Laws.AppendOwn
import Derived.Maps.AppendAt
import Derived.OwnWalk
namespace Go.Proofs.Ytejcjonlnijbkaa.Row
open Go Go.RowKit

theorem addr_add (b k j : Nat) : (⟨b, k, none⟩ : Addr).add j = ⟨b, k + j, none⟩ := by unfold Addr.add; split <;> simp_all

/-- A row of n elements of m cells each, made by the call itself in blocks from B on. -/
structure OwnR (E : TypeId) (m B : Nat) (w0 w : World) (v : Value) (n : Nat) (cells : List Value) : Prop where
  row : w.ownsRow B E m v n cells
  bel : Below w0.heap.size w0 w
  lo : w0.heap.size ≤ B
  hi : B ≤ w.heap.size

section
variable {E : TypeId} {m B : Nat} {w0 w w1 : World} {v : Value} {n : Nat} {cells : List Value}
theorem ownsRow_below {base : Nat} (h : w.ownsRow base E m v n cells) (hb : Below w.heap.size w w1) : w1.ownsRow base E m v n cells := by
  refine ⟨h.1, ?_⟩
  rcases h.2 with h2 | ⟨g, cap, cur, h1, h2, h3, h4⟩
  · exact .inl h2
  · exact .inr ⟨g, cap, cur, h1, h2, (hb.block g (Array.getElem?_eq_some_iff.1 h3).1).trans h3, h4⟩
theorem OwnR.nil (h : Below w0.heap.size w0 w) (lo : w0.heap.size ≤ B) (hi : B ≤ w.heap.size) : OwnR E m B w0 w (.slice none 0 0) 0 [] := ⟨World.ownsRow_nil _ _ _ _, h, lo, hi⟩
theorem OwnR.alloc (h : OwnR E m B w0 w v n cells) (o : Obj) : OwnR E m B w0 (w.alloc o) v n cells := ⟨h.row.alloc o, h.bel.alloc h.bel.size o, h.lo, by have := h.hi; simp; omega⟩
theorem OwnR.below (h : OwnR E m B w0 w v n cells) (hb : Below w.heap.size w w1) : OwnR E m B w0 w1 v n cells :=
  ⟨ownsRow_below h.row hb, h.bel.trans (hb.mono h.bel.size), h.lo, Nat.le_trans h.hi hb.size⟩
theorem OwnR.drew (h : OwnR E m B w0 w v n cells) : OwnR E m B w0 w.drew v n cells := h.below ((Below.refl _ _).drew)
theorem OwnR.drewN (h : OwnR E m B w0 w v n cells) (k : Nat) : OwnR E m B w0 (w.drewN k) v n cells := h.below (Below.trans (Below.refl _ _) ⟨rfl, rfl, rfl, Nat.le_refl _, fun _ _ => rfl⟩)
theorem OwnR.set (h : OwnR E m B w0 w v n cells) {b : Nat} (h0 : w0.heap.size ≤ b) (hb : b < B) (off : Nat) (u : Value) : OwnR E m B w0 (w.setCell ⟨b, off, none⟩ u) v n cells := by
  refine ⟨⟨h.row.1, ?_⟩, h.bel.setCell h0 _, h.lo, by have := h.hi; simp; omega⟩
  rcases h.row.2 with h2 | ⟨g, cap, cur, h1, h2, h3, h4⟩
  · exact .inl h2
  · exact .inr ⟨g, cap, cur, h1, h2, (Below.heap_setCell _ _ _ _ (by show g ≠ b; omega)).trans h3, h4⟩
/-- What it is, to a reader. -/
theorem OwnR.read (h : OwnR E m B w0 w v n cells) : ∃ A cap, v = .slice A n cap ∧ n ≤ cap ∧ cap ≤ maxLen ∧
    (∀ i j, i < n → j < m → ∃ g, A = some ⟨g, 0, none⟩ ∧ B ≤ g ∧ g < w.heap.size ∧ w.cell? ⟨g, i * m + j, none⟩ = cells[i * m + j]?) ∧ ∀ a, A = some a → B ≤ a.block ∧ a.block < w.heap.size ∧ a = ⟨a.block, 0, none⟩ := by
  have hc := fun {g} (hg : v.ownBlock = some g) => h.row.cells hg
  rcases h.row.2 with ⟨rfl, h0⟩ | ⟨g, cap, cur, rfl, hb, hg, h1, h2, _, _⟩
  · exact ⟨none, 0, by rw [h0], by omega, by unfold maxLen; omega, fun i j hi => by omega, fun a ha => by cases ha⟩
  · refine ⟨_, _, rfl, h1, h2, fun i j hi hj => ⟨g, rfl, hb, (Array.getElem?_eq_some_iff.1 hg).1, ?_⟩, fun a ha => by cases ha; exact ⟨hb, (Array.getElem?_eq_some_iff.1 hg).1, rfl⟩⟩
    have hlt : i * m + j < cells.length := by
      rw [h.row.1]
      have : (i + 1) * m ≤ n * m := Nat.mul_le_mul_right m hi
      rw [Nat.succ_mul] at this; omega
    have := hc (g := g) rfl (i * m + j) cells[i * m + j] (List.getElem?_eq_getElem hlt)
    rw [addr_add, Nat.zero_add] at this
    rw [this, List.getElem?_eq_getElem hlt]
/-- A row of numbers, to a reader. -/
theorem OwnR.ints {k : IntKind} {xs : List Int} (h : OwnR E 1 B w0 w v n (xs.map (.int k))) (hw : ∀ z ∈ xs, (Lit.int k z).wf = true) : ∃ A cap, v = .slice A xs.length cap ∧ xs.length ≤ cap ∧ cap ≤ maxLen ∧ Open.IntRow w k A xs := by
  have hn : n = xs.length := by have := h.row.1; simp at this; omega
  subst hn
  obtain ⟨A, cap, rfl, h1, h2, h3, _⟩ := h.read
  refine ⟨A, cap, rfl, h1, h2, fun i hi => ?_, hw⟩
  obtain ⟨g, rfl, hg, hl, hc⟩ := h3 i 0 hi (by omega)
  refine ⟨g, 0, rfl, hl, ?_⟩
  rw [Nat.zero_add]
  rw [Nat.mul_one, Nat.add_zero] at hc
  rw [hc]; simp [hi]
/-- append, of one element. -/
theorem app {P : Program} {ops : Array Oper} {rest : List Oper} {o : Oper} {a : Act} {Q : Exit → Act → World → Prop} (hgd : o.guard = none) {T : TypeId} (s x : Operand)
    (ho : o.op = .call { callee := .builtin .append, args := #[s, x], argTypes := #[T, T] }) {z : Value} {bytes : Nat} (hT : P.underlying T = some (.slice E)) (hi : (P.info? E).map (fun i => (i.zero, i.size, i.bytes)) = some (some z, m, bytes)) (hz : z.cells.size = m) (hm : 0 < m) (hby : bytes ≤ 1000)
    (hs : a.eval s = v) (hown : OwnR E m B w0 w v n cells) (b : Nat) (cs : List Value) (hx : a.eval x = .slice (some ⟨b, 0, none⟩) 1 1) (hb : ∀ j u, cs[j]? = some u → w.cell? ⟨b, j, none⟩ = some u) (hl : cs.length = m) (h1 : ∀ u ∈ cs, u.oneCell' = true) (hn : n ≤ 100000000000)
    (h : ∀ v' w', OwnR E m B w0 w' v' (n + 1) (cells ++ cs) → w.grownBy w' v.ownBlock → wpList P ops Q rest (a.put o.dst v') w') : wpList P ops Q (o :: rest) a w := by
  obtain ⟨i0, hi0, hz0, hz1, hz2⟩ := info_parts hi
  refine wpList_append_own _ hgd s x T ho B E i0 z m bytes hT hi0 hz0 hz1 hz2 hz hm v n _ hs hown.row ⟨b, 0, none⟩ 1 1 cs hx (by omega) ?_ h1 (by unfold maxLen; omega) ?_ hown.hi ?_
  · intro j u hj
    rw [addr_add, Nat.zero_add]; exact hb j u hj
  · exact Nat.le_trans (Nat.mul_le_mul_left (n + 1) hby) (by omega)
  · intro v' w' h2 h3 _
    exact h v' w' ⟨h2, hown.bel.grown h3 hown.bel.size (fun k hk => Nat.le_trans hown.lo (hown.row.lt k hk).1), hown.lo, Nat.le_trans hown.hi h3.size⟩ h3
end

/-- What an append turns is a row's own block, or new. -/
theorem grown_cell {B b : Nat} {E : TypeId} {m : Nat} {w0 w w1 : World} {v : Value} {n : Nat} {cells : List Value} (h : OwnR E m B w0 w v n cells) (hg : w.grownBy w1 v.ownBlock) (hb : b < B) (off : Nat) :
    w1.cell? ⟨b, off, none⟩ = w.cell? ⟨b, off, none⟩ :=
  World.cell?_of_block (hg.block b (Nat.lt_of_lt_of_le hb h.hi) (fun e => by have := (h.row.lt b e.symm).1; omega))

/-- A slice whose elements are rows of numbers of these kinds, from its head on. -/
structure Rows (w : World) (ks : List IntKind) (A : Option Addr) (xs : List (List Int)) : Prop where
  cell : ∀ i j, i < xs.length → j < ks.length → ∃ b off, A = some ⟨b, off, none⟩ ∧ b < w.heap.size ∧ w.cell? ⟨b, off + i * ks.length + j, none⟩ = some (.int (ks.getD j .i64) ((xs.getD i []).getD j 0))
  wf : ∀ i j, i < xs.length → j < ks.length → (Lit.int (ks.getD j .i64) ((xs.getD i []).getD j 0)).wf = true
  len : ∀ x ∈ xs, x.length = ks.length
theorem intsOf_get : ∀ {ks : List IntKind} {cs : List Value} {ns : List Int}, Open.IntsOf ks cs ns → ∀ j, j < ks.length → cs[j]? = some (.int (ks.getD j .i64) (ns.getD j 0)) ∧ (Lit.int (ks.getD j .i64) (ns.getD j 0)).wf = true
  | [], _, _, _, j, hj => by simp at hj
  | k :: ks, [], _, h, _, _ => by cases h
  | k :: ks, _ :: _, [], h, _, _ => by cases h
  | k :: ks, c :: cs, n :: ns, h, 0, _ => by obtain ⟨⟨rfl, hw⟩, _⟩ := h; exact ⟨by simp, by simpa using hw⟩
  | k :: ks, c :: cs, n :: ns, h, j + 1, hj => by
    have := intsOf_get h.2 j (by simp at hj; omega)
    simpa using this
theorem Rows.of_flat {w : World} {ks : List IntKind} {v : Value} {xs : List (List Int)} (h : Open.FlatRow w ks v xs) : ∃ A cap, v = .slice A xs.length cap ∧ xs.length ≤ cap ∧ cap ≤ maxLen ∧ Rows w ks A xs := by
  rcases h with ⟨rfl, rfl⟩ | ⟨a, cap, rfl, h1, h2, h3⟩
  · exact ⟨none, 0, rfl, Nat.zero_le _, by unfold maxLen; omega, ⟨fun i j hi => by simp at hi, fun i j hi => by simp at hi, fun x hx => by simp at hx⟩⟩
  · refine ⟨some a, cap, rfl, h1, h2, ⟨fun i j hi hj => ?_, fun i j hi hj => ?_, fun x hx => ?_⟩⟩
    · obtain ⟨cs, ⟨b, off, rfl, hlt, hc⟩, hI⟩ := h3 i hi
      exact ⟨b, off, rfl, hlt, (hc j hj).trans (intsOf_get hI j hj).1⟩
    · obtain ⟨cs, _, hI⟩ := h3 i hi
      exact (intsOf_get hI j hj).2
    · obtain ⟨i, hi, rfl⟩ := List.getElem_of_mem hx
      obtain ⟨cs, _, hI⟩ := h3 i hi
      have := hI.length.2
      simpa [List.getD, hi] using this
theorem Rows.below {w w1 : World} {ks : List IntKind} {A : Option Addr} {xs : List (List Int)} (h : Rows w ks A xs) (hb : Below w.heap.size w w1) : Rows w1 ks A xs :=
  ⟨fun i j hi hj => by
    obtain ⟨b, off, e, hl, hc⟩ := h.cell i j hi hj
    exact ⟨b, off, e, Nat.lt_of_lt_of_le hl hb.size, (hb.cell (p := ⟨b, _, none⟩) hl).trans hc⟩, h.wf, h.len⟩
end Go.Proofs.Ytejcjonlnijbkaa.Row

/- Rows that the body of a loop over an iterator appends to. Over any program. -/
namespace Go.Proofs.Ytejcjonlnijbkaa.Row
open Go Go.RowKit Range
set_option linter.unusedVariables false

section
variable {E : TypeId} {m B Bk n₀ b0 : Nat} {w0 W W1 W2 : World} {v v' : Value} {n : Nat} {cells : List Value} {cs : List Value}
theorem OwnR.kept (h : OwnR E m B w0 W v n cells) {row : Option Nat} (hg : W.grownBy W1 row) (hlo : w0.heap.size ≤ Bk) (hr : ∀ r, row = some r → Bk ≤ r ∧ ∃ o : Obj, W.heap[r]? = some o ∧ o.isCells = false) : OwnR E m B w0 W1 v n cells := by
  refine ⟨⟨h.row.1, ?_⟩, h.bel.grown hg h.bel.size (fun k e => Nat.le_trans hlo (hr k e).1), h.lo, Nat.le_trans h.hi hg.size⟩
  rcases h.row.2 with h2 | ⟨g, cap, cur, h1, h2, h3, h4⟩
  · exact .inl h2
  · refine .inr ⟨g, cap, cur, h1, h2, (hg.block g (Array.getElem?_eq_some_iff.1 h3).1 (fun e => ?_)).trans h3, h4⟩
    obtain ⟨_, o, ho, hc⟩ := hr g e.symm
    rw [h3] at ho; cases ho; cases hc
theorem OwnR.lower (h : OwnR E m B w0 W v n cells) {B' : Nat} (h1 : w0.heap.size ≤ B') (h2 : B' ≤ B) : OwnR E m B' w0 W v n cells := by
  refine ⟨⟨h.row.1, ?_⟩, h.bel, h1, Nat.le_trans h2 h.hi⟩
  rcases h.row.2 with h3 | ⟨g, cap, cur, e, h3, h4⟩
  · exact .inl h3
  · exact .inr ⟨g, cap, cur, e, by omega, h4⟩
theorem OwnR.put (h : OwnR E m B w0 W v n cells) {D : Nat} {o : Obj} (o' : Obj) (hD : w0.heap.size ≤ D) (hl : W.heap[D]? = some o) (ho : o.isCells = false) : OwnR E m B w0 (W.putObj D o') v n cells :=
  h.kept (grownBy_putObj' W D o') hD (fun r e => by cases e; exact ⟨Nat.le_refl _, o, hl, ho⟩)
/-- Behind 'x = append(x, ..)', x a variable in a box below B. -/
theorem pushed {o : Obj} (h : OwnR E m B w0 W v n cells) (hb0 : b0 < B) (hn₀ : n₀ ≤ b0) (hn0 : n₀ ≤ w0.heap.size) (hw0 : w0.heap.size ≤ b0) (hg : (W.alloc o).grownBy W2 v.ownBlock) (h2 : OwnR E m B w0 W2 v' (n + 1) (cells ++ cs)) (hbx : (W.cell? ⟨b0, 0, none⟩).isSome = true) (hfr : W.frozen? ⟨b0, 0, none⟩ = false) :
    KeepsFrom Bk W (W2.setCell ⟨b0, 0, none⟩ v') ∧ Below n₀ W (W2.setCell ⟨b0, 0, none⟩ v') ∧ (∀ b, b < B → b ≠ b0 → (W2.setCell ⟨b0, 0, none⟩ v').heap[b]? = W.heap[b]?) ∧ OwnR E m B w0 (W2.setCell ⟨b0, 0, none⟩ v') v' (n + 1) (cells ++ cs) ∧
    (W2.setCell ⟨b0, 0, none⟩ v').cell? ⟨b0, 0, none⟩ = some v' ∧ (W2.setCell ⟨b0, 0, none⟩ v').frozen? ⟨b0, 0, none⟩ = false ∧
    W2.cell? ⟨b0, 0, none⟩ = W.cell? ⟨b0, 0, none⟩ ∧ W2.frozen? ⟨b0, 0, none⟩ = W.frozen? ⟨b0, 0, none⟩ := by
  have hhi := h.hi
  have hlt := fun k e => (h.row.lt k e).1
  have same : ∀ b, b < B → W2.heap[b]? = W.heap[b]? := fun b hb =>
    (hg.block b (by simp; omega) (fun e => by have := hlt b e.symm; omega)).trans (Below.heap_alloc W o b (by omega))
  have hA : Below n₀ W W2 := ((Below.refl n₀ W).alloc (by omega) o).grown hg (by simp; omega) (fun k e => by have := hlt k e; have := h.lo; omega)
  refine ⟨kf_set (kf_grown (kf_alloc (KeepsFrom.refl _ _)) hg (fun k e => ?_)) _ _, hA.setCell (p := ⟨b0, 0, none⟩) hn₀ _, fun b hb hne => (Below.heap_setCell _ _ _ _ hne).trans (same b hb), h2.set hw0 hb0 _ _, ?_, ?_, World.cell?_of_block (w := W) (a := ⟨b0, 0, none⟩) (same b0 hb0), World.frozen?_of_block (w := W) (a := ⟨b0, 0, none⟩) (same b0 hb0)⟩
  · rcases h.row.2 with ⟨rfl, _⟩ | ⟨g, cap, cur, rfl, h2, h3, h4⟩
    · cases e
    · cases e
      exact ⟨cur, E, (0, 0), (Below.heap_alloc W o g (Array.getElem?_eq_some_iff.1 h3).1).trans h3⟩
  · exact World.cell?_setCell_same' _ _ _ (by rw [World.cell?_of_block (w := W) (a := ⟨b0, 0, none⟩) (same b0 hb0)]; exact hbx)
  · rw [World.frozen?_setCell, World.frozen?_of_block (w := W) (a := ⟨b0, 0, none⟩) (same b0 hb0)]; exact hfr
/-- append, of one element, within a fence. -/
theorem app_in {P : Program} {F : Fence} {nn : Nat} {ops : Array Oper} {rest : List Oper} {o : Oper} {a : Act} {Q : Exit → Act → World → Prop} (hgd : o.guard = none) {T : TypeId} (s x : Operand)
    (ho : o.op = .call { callee := .builtin .append, args := #[s, x], argTypes := #[T, T] }) {z : Value} {bytes : Nat} (hT : P.underlying T = some (.slice E)) (hi : (P.info? E).map (fun i => (i.zero, i.size, i.bytes)) = some (some z, m, bytes)) (hz : z.cells.size = m) (hm : 0 < m) (hby : bytes ≤ 1000)
    (hs : a.eval s = v) (hown : OwnR E m B w0 W v n cells) (b : Nat) (cs : List Value) (hx : a.eval x = .slice (some ⟨b, 0, none⟩) 1 1) (hb : ∀ j u, cs[j]? = some u → W.cell? ⟨b, j, none⟩ = some u) (hl : cs.length = m) (h1 : ∀ u ∈ cs, u.oneCell' = true) (hn : n ≤ 100000000000)
    (h : ∀ v' w', OwnR E m B w0 w' v' (n + 1) (cells ++ cs) → W.grownBy w' v.ownBlock → wpListIn F nn P ops Q rest (a.put o.dst v') w') : wpListIn F nn P ops Q (o :: rest) a W := by
  obtain ⟨i0, hi0, hz0, hz1, hz2⟩ := info_parts hi
  refine wpListIn_append_own _ hgd s x T ho B E i0 z m bytes hT hi0 hz0 hz1 hz2 hz hm v n _ hs hown.row ⟨b, 0, none⟩ 1 1 cs hx (by omega) ?_ h1 (by unfold maxLen; omega) ?_ hown.hi ?_
  · intro j u hj
    rw [addr_add, Nat.zero_add]; exact hb j u hj
  · exact Nat.le_trans (Nat.mul_le_mul_left (n + 1) hby) (by omega)
  · intro v' w' h2 h3 _
    exact h v' w' ⟨h2, hown.bel.grown h3 hown.bel.size (fun k hk => Nat.le_trans hown.lo (hown.row.lt k hk).1), hown.lo, Nat.le_trans hown.hi h3.size⟩ h3
end
end Go.Proofs.Ytejcjonlnijbkaa.Row
