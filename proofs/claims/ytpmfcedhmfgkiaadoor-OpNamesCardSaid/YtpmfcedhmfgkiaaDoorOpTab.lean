/- A package-level table of pairs of strings, as a row's list gives it: what its cells hold. And the table of package op. -/
import Derived.Test.YtpmfcedhmfgkiaaDoorCards
import Derived.Test.YtpmfcedhmfgkiaaDoorTie
import Derived.WalkKit
import Derived.ProofKit
import Derived.OpenShut
import Derived.Deep.DeepHandedRow
import Derived.Lib.LaidTab
namespace Go.Proofs.YtpmfcedhmfgkiaaDoor.Tab
open Go Go.ChangeShapes Go.WideShapes Go.ChangeAt Go.RowKit
set_option linter.unusedVariables false

def pairData {H : Type} (r : List UInt8 × List UInt8) : DataW H := .agg [.lit (.string r.1), .lit (.string r.2)]

theorem bytes_eq {s : ByteArray} {l : List UInt8} (h : s.data.toList = l) : s = ⟨l.toArray⟩ := by
  cases s with
  | mk d => cases d; simp at h; subst h; rfl

theorem cells_of_pairs {H : Type} {enc : TypeId × Value → H} {P : Program} {w : World} {base : Nat} {sp : Nat → Bool} {held : Bool} {fuel : Nat} {t e T : TypeId} {n : Nat} {f0 f1 : Field} {cs : List Value} {rows : List (List UInt8 × List UInt8)} {p : List MemPlace}
    (ht : P.underlying t = some (.array n e)) (he : P.underlying e = some (.struct #[f0, f1])) (t0 : f0.type = T) (t1 : f1.type = T) (o0 : f0.offset = 0) (o1 : f1.offset = 1) (hT : P.underlying T = some .string) (hcT : P.cellsOf T = 1) (hce : P.cellsOf e = 2)
    (h : DataW.trod enc P w base sp held fuel t cs = some (.agg (rows.map pairData), p)) :
    ∀ i r, rows[i]? = some r → cs[i * 2]? = some (.string ⟨r.1.toArray⟩) ∧ cs[i * 2 + 1]? = some (.string ⟨r.2.toArray⟩) := by
  intro i r hr
  cases fuel with
  | zero => simp [DataW.trod] at h
  | succ fuel =>
    have e1 : DataW.trod enc P w base sp held (fuel + 1) t cs = if cs.length = P.cellsOf t then ((List.range n).mapM fun i => DataW.trod enc P w base sp held fuel e ((cs.drop (i * P.cellsOf e)).take (P.cellsOf e))).map fun xs => (.agg (xs.map (·.1)), xs.flatMap (·.2)) else none := by
      conv => lhs; unfold DataW.trod
      rw [ht]
    rw [e1, hce] at h
    split at h
    · obtain ⟨xs, hm, hx⟩ := Option.map_eq_some_iff.1 h
      have hxs : xs.map (·.1) = rows.map (pairData (H := H)) := by
        have := congrArg Prod.fst hx
        simpa using this
      have hxl : xs.length = n := by simpa using Lib.mapM_length hm
      have hi : i < n := by
        have := congrArg List.length hxs
        simp at this
        have := (List.getElem?_eq_some_iff.1 hr).1
        omega
      obtain ⟨b, hb, hf⟩ := Lib.mapM_at hm i i (by simp [hi])
      have h2 : (xs.map (·.1))[i]? = some (pairData r) := by rw [hxs]; simp [hr]
      simp only [List.getElem?_map, hb, Option.map_some, Option.some.injEq] at h2
      obtain ⟨ys, m, hm', hb', hl, hyl, hy⟩ := DataW.trod_struct he hf
      have y0 := hy 0 f0 rfl
      have y1 := hy 1 f1 rfl
      rw [t0, o0, hcT] at y0
      rw [t1, o1, hcT] at y1
      have z0 : ∃ u, ys[0]? = some u := ⟨_, List.getElem?_eq_getElem (by simp at hyl; omega)⟩
      have z1 : ∃ u, ys[1]? = some u := ⟨_, List.getElem?_eq_getElem (by simp at hyl; omega)⟩
      obtain ⟨u0, z0⟩ := z0
      obtain ⟨u1, z1⟩ := z1
      rw [z0] at y0
      rw [z1] at y1
      obtain ⟨s0, c0, g0, _⟩ := DataW.trod_string hT y0
      obtain ⟨s1, c1, g1, _⟩ := DataW.trod_string hT y1
      match ys, hyl with
      | [v0, v1], _ =>
        simp at z0 z1
        subst z0 z1 g0 g1
        rw [hb'] at h2
        simp [pairData] at h2
        obtain ⟨q0, q1⟩ := h2
        rw [bytes_eq q0] at c0
        rw [bytes_eq q1] at c1
        constructor
        · have := congrArg (·[0]?) c0
          simpa [List.getElem?_take, List.getElem?_drop] using this
        · have := congrArg (·[0]?) c1
          simpa [List.getElem?_take, List.getElem?_drop] using this
    · cases h
def kinds : List (List UInt8 × List UInt8) := [([99, 108, 101, 97, 114], [48, 48]), ([115, 114, 99], [49, 48]), ([100, 115, 116], [48, 49]), ([115, 114, 99, 111, 118, 101, 114], [49, 83]), ([100, 115, 116, 111, 118, 101, 114], [68, 49]), ([115, 114, 99, 105, 110], [100, 48]), ([100, 115, 116, 105, 110], [48, 115]), ([115, 114, 99, 111, 117, 116], [68, 48]), ([100, 115, 116, 111, 117, 116], [48, 83]), ([115, 114, 99, 97, 116, 111, 112], [100, 83]), ([100, 115, 116, 97, 116, 111, 112], [68, 115]), ([120, 111, 114], [68, 83])]
theorem gTab : Tryd.prog.globalNamed "pointillist/op.kinds" = some 0 := by kernel_rfl
theorem gTabType : (Tryd.prog.globals[0]?).map (·.type) = some 54 := by kernel_rfl
/-- What the row's list gives: the table's cells. -/
theorem table {W : World} (h : laidMet Tryd.prog [("pointillist/op.kinds", Rows.laid_pointillist_op_kinds)] W) : ∀ i r, kinds[i]? = some r → W.cell? ⟨0, i * 2, none⟩ = some (.string ⟨r.1.toArray⟩) ∧ W.cell? ⟨0, i * 2 + 1, none⟩ = some (.string ⟨r.2.toArray⟩) := by
  obtain ⟨ps, ⟨g', t', cs, fuel, p, q, hg', ht', hvar, hd, _, _⟩, _⟩ := h
  obtain rfl := Option.some.inj (gTab.symm.trans hg')
  obtain rfl := Option.some.inj (gTabType.symm.trans ht')
  intro i r hr
  obtain ⟨h1, h2⟩ := cells_of_pairs (rows := kinds) Tryd.underlying54 Tryd.underlying53 rfl rfl rfl rfl Tryd.underlying9 (by kernel_rfl) (by kernel_rfl) hd i r hr
  have c1 := World.var?_cell gTab hvar (i * 2)
  have c2 := World.var?_cell gTab hvar (i * 2 + 1)
  exact ⟨by rw [c1, ← Array.getElem?_toList]; exact h1, by rw [c2, ← Array.getElem?_toList]; exact h2⟩
end Go.Proofs.YtpmfcedhmfgkiaaDoor.Tab
