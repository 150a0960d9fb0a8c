/- Package ref01, walked: what a call's answer is to the caller. -/
import Derived.Test.YtngnkgnobgfjeaaDoorRefB
namespace Go.Proofs.YtngnkgnobgfjeaaDoor.Ref
open Go Go.RowKit Open
set_option maxRecDepth 100000
set_option linter.unusedVariables false
set_option linter.unusedSimpArgs false
theorem below_a1 (w : World) (o : Obj) : Below w.heap.size w (w.alloc o) := (Below.refl _ _).alloc (Nat.le_refl _) _
theorem below_more {w w1 w2 : World} (a : Below w.heap.size w w1) (b : Below w1.heap.size w1 w2) : Below w.heap.size w w2 := a.trans (b.mono a.size)
theorem bcell {W w1 : World} (hb : Below W.heap.size W w1) : (∀ b o, b < W.heap.size → w1.cell? ⟨b, o, none⟩ = W.cell? ⟨b, o, none⟩) ∧ (∀ b o, b < W.heap.size → w1.frozen? ⟨b, o, none⟩ = W.frozen? ⟨b, o, none⟩) :=
  ⟨fun b o h => hb.cell (p := ⟨b, o, none⟩) h, fun b o h => hb.frozen (p := ⟨b, o, none⟩) h⟩
theorem _root_.Go.Proofs.YtngnkgnobgfjeaaDoor.Open.IntRow.drew {w : World} {k : IntKind} {A : Option Addr} {zs : List Int} (h : IntRow w k A zs) : IntRow w.drew k A zs := ⟨h.cell, h.wf⟩
theorem _root_.Go.Proofs.YtngnkgnobgfjeaaDoor.Open.IntRow.set {w : World} {k : IntKind} {A : Option Addr} {zs : List Int} (h : IntRow w k A zs) {g o : Nat} {v : Value} (hne : ∀ a, A = some a → a.block ≠ g) : IntRow (w.setCell ⟨g, o, none⟩ v) k A zs :=
  ⟨fun i hi => by
    obtain ⟨b, off, e, hl, hc⟩ := h.cell i hi
    have := hne _ e
    refine ⟨b, off, e, by simpa using hl, ?_⟩
    rw [World.cell?_setCell_other _ _ _ _ (by simp only [ne_eq, Addr.mk.injEq, not_and]; intro h; exact absurd h.symm this)]
    exact hc, h.wf⟩
/-- What a callee has handed back, and a box of the caller's is filled behind it. -/
theorem Out.store {w X w1 : World} {C : Option Addr} {cs : List Int} {n : Int} (ho : Out X w1 C cs n) (hX : Below w.heap.size w X) {g : Nat} (h1 : w.heap.size ≤ g) (h2 : g < X.heap.size) (v0 v1 : Value) :
    Out w ((w1.setCell ⟨g, 0, none⟩ v0).setCell ⟨g, 1, none⟩ v1) C cs n := by
  have hne : ∀ a, C = some a → a.block ≠ g := fun a ha => by have := ho.new a ha; omega
  refine ⟨(ho.row.set hne).set hne, ho.says, ?_, fun a ha => Nat.le_trans hX.size (ho.new a ha)⟩
  exact ((hX.trans (ho.bel.mono hX.size)).setCell h1 _).setCell h1 _
/-- A number with its sign. -/
def sg (s : Bool) (n : Int) : Int := if s then -n else n
theorem sg_true (n : Int) : sg true n = -n := rfl
theorem sg_false (n : Int) : sg false n = n := rfl
theorem says_len_mono {ps qs : List Int} {a b : Int} (ha : Says ps a) (hb : Says qs b) (h : b ≤ a) : qs.length ≤ ps.length := by
  rcases Nat.lt_or_ge ps.length qs.length with h1 | h1
  · have := less_of_len ha hb (by omega)
    simp [h1] at this
    omega
  · exact h1
end Go.Proofs.YtngnkgnobgfjeaaDoor.Ref
