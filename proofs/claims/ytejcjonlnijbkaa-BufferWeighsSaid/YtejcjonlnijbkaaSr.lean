/- Rows that a call makes for itself by append, of elements of any number of cells. Over any program. -/
import Derived.Test.YtejcjonlnijbkaaSm
import Derived.Test.YtejcjonlnijbkaaOpen
import Derived.Laws.AppendOwn
import Derived.Maps.AppendAt
import Derived.OwnWalk
namespace Go.Proofs.Ytejcjonlnijbkaa.Row
open Go Go.RowKit

theorem addr_add (b k j : Nat) : (⟨b, k, none⟩ : Addr).add j = ⟨b, k + j, none⟩ := by unfold Addr.add; split <;> simp_all

/-- A row of n elements of m cells each, made by the call itself in blocks from B on. -/
structure OwnR (E : TypeId) (m B : Nat) (w0 w : World) (v : Value) (n : Nat) (cells : List Value) : Prop where
  row : w.ownsRow B E m v n cells
  bel : Below w0.heap.size w0 w
  lo : w0.heap.size ≤ B
  hi : B ≤ w.heap.size

section
variable {E : TypeId} {m B : Nat} {w0 w w1 : World} {v : Value} {n : Nat} {cells : List Value}
theorem ownsRow_below {base : Nat} (h : w.ownsRow base E m v n cells) (hb : Below w.heap.size w w1) : w1.ownsRow base E m v n cells := by
  refine ⟨h.1, ?_⟩
  rcases h.2 with h2 | ⟨g, cap, cur, h1, h2, h3, h4⟩
  · exact .inl h2
  · exact .inr ⟨g, cap, cur, h1, h2, (hb.block g (Array.getElem?_eq_some_iff.1 h3).1).trans h3, h4⟩
theorem OwnR.nil (h : Below w0.heap.size w0 w) (lo : w0.heap.size ≤ B) (hi : B ≤ w.heap.size) : OwnR E m B w0 w (.slice none 0 0) 0 [] := ⟨World.ownsRow_nil _ _ _ _, h, lo, hi⟩
theorem OwnR.alloc (h : OwnR E m B w0 w v n cells) (o : Obj) : OwnR E m B w0 (w.alloc o) v n cells := ⟨h.row.alloc o, h.bel.alloc h.bel.size o, h.lo, by have := h.hi; simp; omega⟩
theorem OwnR.below (h : OwnR E m B w0 w v n cells) (hb : Below w.heap.size w w1) : OwnR E m B w0 w1 v n cells :=
  ⟨ownsRow_below h.row hb, h.bel.trans (hb.mono h.bel.size), h.lo, Nat.le_trans h.hi hb.size⟩
theorem OwnR.drew (h : OwnR E m B w0 w v n cells) : OwnR E m B w0 w.drew v n cells := h.below ((Below.refl _ _).drew)
theorem OwnR.drewN (h : OwnR E m B w0 w v n cells) (k : Nat) : OwnR E m B w0 (w.drewN k) v n cells := h.below (Below.trans (Below.refl _ _) ⟨rfl, rfl, rfl, Nat.le_refl _, fun _ _ => rfl⟩)
theorem OwnR.set (h : OwnR E m B w0 w v n cells) {b : Nat} (h0 : w0.heap.size ≤ b) (hb : b < B) (off : Nat) (u : Value) : OwnR E m B w0 (w.setCell ⟨b, off, none⟩ u) v n cells := by
  refine ⟨⟨h.row.1, ?_⟩, h.bel.setCell h0 _, h.lo, by have := h.hi; simp; omega⟩
  rcases h.row.2 with h2 | ⟨g, cap, cur, h1, h2, h3, h4⟩
  · exact .inl h2
  · exact .inr ⟨g, cap, cur, h1, h2, (Below.heap_setCell _ _ _ _ (by show g ≠ b; omega)).trans h3, h4⟩
/-- What it is, to a reader. -/
theorem OwnR.read (h : OwnR E m B w0 w v n cells) : ∃ A cap, v = .slice A n cap ∧ n ≤ cap ∧ cap ≤ maxLen ∧
    (∀ i j, i < n → j < m → ∃ g, A = some ⟨g, 0, none⟩ ∧ B ≤ g ∧ g < w.heap.size ∧ w.cell? ⟨g, i * m + j, none⟩ = cells[i * m + j]?) ∧ ∀ a, A = some a → B ≤ a.block ∧ a.block < w.heap.size ∧ a = ⟨a.block, 0, none⟩ := by
  have hc := fun {g} (hg : v.ownBlock = some g) => h.row.cells hg
  rcases h.row.2 with ⟨rfl, h0⟩ | ⟨g, cap, cur, rfl, hb, hg, h1, h2, _, _⟩
  · exact ⟨none, 0, by rw [h0], by omega, by unfold maxLen; omega, fun i j hi => by omega, fun a ha => by cases ha⟩
  · refine ⟨_, _, rfl, h1, h2, fun i j hi hj => ⟨g, rfl, hb, (Array.getElem?_eq_some_iff.1 hg).1, ?_⟩, fun a ha => by cases ha; exact ⟨hb, (Array.getElem?_eq_some_iff.1 hg).1, rfl⟩⟩
    have hlt : i * m + j < cells.length := by
      rw [h.row.1]
      have : (i + 1) * m ≤ n * m := Nat.mul_le_mul_right m hi
      rw [Nat.succ_mul] at this; omega
    have := hc (g := g) rfl (i * m + j) cells[i * m + j] (List.getElem?_eq_getElem hlt)
    rw [addr_add, Nat.zero_add] at this
    rw [this, List.getElem?_eq_getElem hlt]
end

/-- A slice whose elements are rows of numbers of these kinds, from its head on. -/
structure Rows (w : World) (ks : List IntKind) (A : Option Addr) (xs : List (List Int)) : Prop where
  cell : ∀ i j, i < xs.length → j < ks.length → ∃ b off, A = some ⟨b, off, none⟩ ∧ b < w.heap.size ∧ w.cell? ⟨b, off + i * ks.length + j, none⟩ = some (.int (ks.getD j .i64) ((xs.getD i []).getD j 0))
  wf : ∀ i j, i < xs.length → j < ks.length → (Lit.int (ks.getD j .i64) ((xs.getD i []).getD j 0)).wf = true
  len : ∀ x ∈ xs, x.length = ks.length
theorem intsOf_get : ∀ {ks : List IntKind} {cs : List Value} {ns : List Int}, Open.IntsOf ks cs ns → ∀ j, j < ks.length → cs[j]? = some (.int (ks.getD j .i64) (ns.getD j 0)) ∧ (Lit.int (ks.getD j .i64) (ns.getD j 0)).wf = true
  | [], _, _, _, j, hj => by simp at hj
  | k :: ks, [], _, h, _, _ => by cases h
  | k :: ks, _ :: _, [], h, _, _ => by cases h
  | k :: ks, c :: cs, n :: ns, h, 0, _ => by obtain ⟨⟨rfl, hw⟩, _⟩ := h; exact ⟨by simp, by simpa using hw⟩
  | k :: ks, c :: cs, n :: ns, h, j + 1, hj => by
    have := intsOf_get h.2 j (by simp at hj; omega)
    simpa using this
theorem Rows.of_flat {w : World} {ks : List IntKind} {v : Value} {xs : List (List Int)} (h : Open.FlatRow w ks v xs) : ∃ A cap, v = .slice A xs.length cap ∧ xs.length ≤ cap ∧ cap ≤ maxLen ∧ Rows w ks A xs := by
  rcases h with ⟨rfl, rfl⟩ | ⟨a, cap, rfl, h1, h2, h3⟩
  · exact ⟨none, 0, rfl, Nat.zero_le _, by unfold maxLen; omega, ⟨fun i j hi => by simp at hi, fun i j hi => by simp at hi, fun x hx => by simp at hx⟩⟩
  · refine ⟨some a, cap, rfl, h1, h2, ⟨fun i j hi hj => ?_, fun i j hi hj => ?_, fun x hx => ?_⟩⟩
    · obtain ⟨cs, ⟨b, off, rfl, hlt, hc⟩, hI⟩ := h3 i hi
      exact ⟨b, off, rfl, hlt, (hc j hj).trans (intsOf_get hI j hj).1⟩
    · obtain ⟨cs, _, hI⟩ := h3 i hi
      exact (intsOf_get hI j hj).2
    · obtain ⟨i, hi, rfl⟩ := List.getElem_of_mem hx
      obtain ⟨cs, _, hI⟩ := h3 i hi
      have := hI.length.2
      simpa [List.getD, hi] using this
theorem Rows.below {w w1 : World} {ks : List IntKind} {A : Option Addr} {xs : List (List Int)} (h : Rows w ks A xs) (hb : Below w.heap.size w w1) : Rows w1 ks A xs :=
  ⟨fun i j hi hj => by
    obtain ⟨b, off, e, hl, hc⟩ := h.cell i j hi hj
    exact ⟨b, off, e, Nat.lt_of_lt_of_le hl hb.size, (hb.cell (p := ⟨b, _, none⟩) hl).trans hc⟩, h.wf, h.len⟩
end Go.Proofs.Ytejcjonlnijbkaa.Row

/- Rows that the body of a loop over an iterator appends to. Over any program. -/
namespace Go.Proofs.Ytejcjonlnijbkaa.Row
open Go Go.RowKit Range
set_option linter.unusedVariables false

section
variable {E : TypeId} {m B Bk n₀ b0 : Nat} {w0 W W1 W2 : World} {v v' : Value} {n : Nat} {cells : List Value} {cs : List Value}
theorem OwnR.kept (h : OwnR E m B w0 W v n cells) {row : Option Nat} (hg : W.grownBy W1 row) (hlo : w0.heap.size ≤ Bk) (hr : ∀ r, row = some r → Bk ≤ r ∧ ∃ o : Obj, W.heap[r]? = some o ∧ o.isCells = false) : OwnR E m B w0 W1 v n cells := by
  refine ⟨⟨h.row.1, ?_⟩, h.bel.grown hg h.bel.size (fun k e => Nat.le_trans hlo (hr k e).1), h.lo, Nat.le_trans h.hi hg.size⟩
  rcases h.row.2 with h2 | ⟨g, cap, cur, h1, h2, h3, h4⟩
  · exact .inl h2
  · refine .inr ⟨g, cap, cur, h1, h2, (hg.block g (Array.getElem?_eq_some_iff.1 h3).1 (fun e => ?_)).trans h3, h4⟩
    obtain ⟨_, o, ho, hc⟩ := hr g e.symm
    rw [h3] at ho; cases ho; cases hc
theorem OwnR.lower (h : OwnR E m B w0 W v n cells) {B' : Nat} (h1 : w0.heap.size ≤ B') (h2 : B' ≤ B) : OwnR E m B' w0 W v n cells := by
  refine ⟨⟨h.row.1, ?_⟩, h.bel, h1, Nat.le_trans h2 h.hi⟩
  rcases h.row.2 with h3 | ⟨g, cap, cur, e, h3, h4⟩
  · exact .inl h3
  · exact .inr ⟨g, cap, cur, e, by omega, h4⟩
theorem OwnR.put (h : OwnR E m B w0 W v n cells) {D : Nat} {o : Obj} (o' : Obj) (hD : w0.heap.size ≤ D) (hl : W.heap[D]? = some o) (ho : o.isCells = false) : OwnR E m B w0 (W.putObj D o') v n cells :=
  h.kept (grownBy_putObj' W D o') hD (fun r e => by cases e; exact ⟨Nat.le_refl _, o, hl, ho⟩)
end
end Go.Proofs.Ytejcjonlnijbkaa.Row
