/- A row that the body of a loop appends to, where the iterator keeps blocks of its own. Over any program. -/
import Derived.Test.YtjdpmaachehpnaaSeqN
import Derived.Test.YtjdpmaachehpnaaSr
namespace Go.Proofs.Ytjdpmaachehpnaa.Row
open Go Go.RowKit Range
set_option linter.unusedVariables false
variable {E : TypeId} {m M B Bk : Nat} {w0 W W1 : World} {v : Value} {n : Nat} {cells : List Value}
theorem OwnR.win (h : OwnR E m Bk w0 W v n cells) (hw : SeqN.Win M B W W1) (hlo : w0.heap.size ≤ B) (hBk : B + M ≤ Bk) : OwnR E m Bk w0 W1 v n cells := by
  refine ⟨⟨h.row.1, ?_⟩, h.bel.trans (hw.below hlo h.bel.size), h.lo, Nat.le_trans h.hi hw.size⟩
  rcases h.row.2 with h2 | ⟨g, cap, cur, h1, h2, h3, h4⟩
  · exact .inl h2
  · exact .inr ⟨g, cap, cur, h1, h2, (hw.block g (Array.getElem?_eq_some_iff.1 h3).1 (.inr (by omega))).trans h3, h4⟩
/-- None yet, or a row whose block lies from Bk on. -/
def Yet (E : TypeId) (m Bk : Nat) (w0 W : World) (v : Value) (n : Nat) (cells : List Value) : Prop := (n = 0 ∧ v = .slice none 0 0 ∧ cells = [] ∧ Below w0.heap.size w0 W) ∨ OwnR E m Bk w0 W v n cells
theorem Yet.win (h : Yet E m Bk w0 W v n cells) (hw : SeqN.Win M B W W1) (hlo : w0.heap.size ≤ B) (hBk : B + M ≤ Bk) : Yet E m Bk w0 W1 v n cells := by
  rcases h with ⟨h1, h2, h3, h4⟩ | h
  · exact .inl ⟨h1, h2, h3, h4.trans (hw.below hlo h4.size)⟩
  · exact .inr (h.win hw hlo hBk)
theorem Yet.now (h : Yet E m Bk w0 W v n cells) (hlo : w0.heap.size ≤ Bk) (hi : Bk ≤ W.heap.size) : OwnR E m Bk w0 W v n cells := by
  rcases h with ⟨rfl, rfl, rfl, h4⟩ | h
  · exact OwnR.nil h4 hlo hi
  · exact h
theorem Yet.low (h : Yet E m Bk w0 W v n cells) (hlo : w0.heap.size ≤ Bk) : OwnR E m w0.heap.size w0 W v n cells := by
  rcases h with ⟨rfl, rfl, rfl, h4⟩ | h
  · exact OwnR.nil h4 (Nat.le_refl _) h4.size
  · exact h.lower (Nat.le_refl _) hlo
theorem Yet.alloc (h : Yet E m Bk w0 W v n cells) (o : Obj) : Yet E m Bk w0 (W.alloc o) v n cells := by
  rcases h with ⟨h1, h2, h3, h4⟩ | h
  · exact .inl ⟨h1, h2, h3, h4.alloc h4.size o⟩
  · exact .inr (h.alloc o)
end Go.Proofs.Ytjdpmaachehpnaa.Row
