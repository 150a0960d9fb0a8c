/- The law SnapEdges: any edges are snapped as the document says, one by one, up to where one stops; those that go nowhere are left out. For all inputs. -/
import Derived.Test.YtdepcbgjoegkkaaSnapG
import Derived.Test.YtdepcbgjoegkkaaRow
import Derived.Test.YtdepcbgjoegkkaaFlatE
import Derived.Test.YtdepcbgjoegkkaaNum
import Derived.Test.YtdepcbgjoegkkaaRows
import Derived.ProofKit
import Derived.OpenShut
import Derived.ShutString
import Derived.ChangeOld
import Derived.SizedLaws
namespace Go.Proofs.Ytdepcbgjoegkkaa
open Go Go.RowKit
set_option linter.unusedVariables false
set_option linter.unusedSimpArgs false
namespace SnapE
open Go.Proofs.Ytdepcbgjoegkkaa.PSE
theorem er_of_rows {W : World} {A : Option Addr} {xs : List (List Int)} (h : Row.Rows W [.i64, .i64, .i64, .i64] A xs) : ER W.heap.size W A (xs.map fun l => (⟨⟨l.getD 0 0, l.getD 1 0⟩, ⟨l.getD 2 0, l.getD 3 0⟩⟩ : S30)) := fun i hi => by
  have hi' : i < xs.length := by simpa using hi
  obtain ⟨b, off, rfl, hb, c0⟩ := h.cell i 0 hi' (by simp)
  obtain ⟨_, _, e1, _, c1⟩ := h.cell i 1 hi' (by simp); cases e1
  obtain ⟨_, _, e2, _, c2⟩ := h.cell i 2 hi' (by simp); cases e2
  obtain ⟨_, _, e3, _, c3⟩ := h.cell i 3 hi' (by simp); cases e3
  refine ⟨b, off, rfl, hb, ?_, ?_, ?_, ?_⟩
  · simpa [hi'] using c0
  · simpa [hi'] using c1
  · simpa [hi'] using c2
  · simpa [hi'] using c3
theorem snapedges_row {v : Value} {xs : List (List Int)} {m : Int} (m0 : 0 ≤ m) (m1 : m ≤ 255) {W : World} (f0 : Open.FlatRow W [.i64, .i64, .i64, .i64] v xs) :
    Calls Try.prog 6 #[v, .int .u8 m] W fun e w' => e = .returned (.bool true) ∧ Below W.heap.size W w' := by
  obtain ⟨A, cap, rfl, h1, h2, hR⟩ := Row.Rows.of_flat f0
  obtain ⟨n, rfl⟩ : ∃ n : Nat, m = n := ⟨m.toNat, by omega⟩
  have hE := er_of_rows hR
  have hl : (xs.map fun l => (⟨⟨l.getD 0 0, l.getD 1 0⟩, ⟨l.getD 2 0, l.getD 3 0⟩⟩ : S30)).length = xs.length := List.length_map _
  generalize (xs.map fun l => (⟨⟨l.getD 0 0, l.getD 1 0⟩, ⟨l.getD 2 0, l.getD 3 0⟩⟩ : S30)) = es at *
  rw [← hl] at h1 ⊢
  by_cases h : es.length ≤ 100 ∧ ∀ e ∈ es, In e
  · exact snapedges_in A es cap n (by omega) h1 h2 W hE h.1 h.2
  · exact snapedges_few A es cap n (by omega) h1 h2 W hE h
end SnapE
namespace snapEdges
open Go.ChangeShapes Go.WideShapes Go.ChangeAt Go.RowKit
open Go.ChangeMaps (open_string shut_string)
theorem own : ownKnob Try.prog.godebug = none := by kernel_rfl
theorem laidOut : laidOutB Try.prog = true := by kernel_rfl
set_option maxRecDepth 100000 in
theorem lifted (os : Os) (started : os.Started) (H : Type) (enc : TypeId × Value → H) :
    ReturnsInHanded {} Try.checked os 6 .any (Rows.snapEdgesSpec.pre6 enc Try.prog Try.f6 Rows.snapEdgesRow.domain false) (Rows.snapEdgesSpec.post enc Try.prog Try.f6 false true false false) := by
  refine returnsInHanded_of_change_sized (C := Try.checked) own started (by kernel_rfl) Try.func6
    (ChangeSpec.witness6 (enc := enc) (C := Try.checked) false ⟨#[], #[.slice none 0 0, .int .u8 0], []⟩ 8 (by kernel_rfl) (by kernel_rfl) (by kernel_rfl) (by kernel_rfl)) ?_
  intro W base args ds gs before hval0 hW hcnd hsz0 _
  have hval : ∀ (j : Nat) t v, Try.f6.params[j]? = some t → args[j]? = some v → Value.okWide Try.prog W .any base t v := hval0
  have hW' := hW
  obtain ⟨p, q, hA0, hV, rfl, hfz, hnd⟩ := hW
  have hA : DataW.TrodAll enc Try.prog W 0 (fun _ => true) true Try.f6.params.toList args.toList ds p := hA0
  have hlt : ∀ x ∈ p, x.block < W.heap.size := fun x hx => by simpa using hW'.lt x (by simp [hx])
  have hready : ∀ t ∈ Try.f6.params.toList, Try.prog.readableRec t = true ∧ t < Try.prog.types.size := by
    rw [Try.params6]
    intro t ht
    simp only [List.mem_cons, List.not_mem_nil, or_false] at ht
    rcases ht with rfl | rfl <;> exact ⟨by kernel_rfl, of_decide_eq_true (by kernel_rfl)⟩
  have hAk := hA
  rw [Try.params6] at hA hval
  obtain ⟨v0, vs0, d0, ds0, p0, q0, hargs, rfl, rfl, h0, r0⟩ := trodAll_cons hA
  obtain ⟨v1, vs1, d1, ds1, p1, q1, rfl, rfl, rfl, h1, r1⟩ := trodAll_cons r0
  obtain ⟨rfl, rfl, rfl⟩ := trodAll_nil r1
  obtain rfl : args = #[v0, v1] := by cases args; simp_all
  obtain ⟨rfl, rfl⟩ := trodVars_none hV
  obtain ⟨xs0, f0⟩ := Open.Flat.open_slice flatEdge (by decide) Try.underlying32 (hval 0 32 v0 rfl rfl) h0
  obtain ⟨a1, rfl, rfl, rfl, w1⟩ := open_int Try.underlying5 (hval 1 5 v1 rfl rfl) h1
  clear hA0 hval0 hsz0
  refine (SnapE.snapedges_row (Num.wf_u8 w1).1 (Num.wf_u8 w1).2 f0).mono fun e W' ⟨he, bel⟩ => ?_
  subst he
  exact ⟨_, rfl, _, _, _, [], _, [], hW', trodAll_mk1 (shut_bool Try.underlying4 _), Open.trodAll_below laidOut bel hready hAk hlt, rfl, bel.frame _, fun h => by cases h⟩
theorem over : Rows.snapEdgesRow.holds Try.pinned (OpenSpec.ofChange Rows.snapEdgesSpec) :=
  OpenClaim.holds_of_wide 6 Try.f6 rfl rfl rfl rfl rfl rfl rfl ⟨rfl, rfl, rfl, rfl, rfl⟩ rfl rfl rfl rfl rfl (by kernel_rfl) Try.func6 (by kernel_rfl)
    (of_decide_eq_true (by kernel_rfl)) (by unfold Func.isWrapper; first | (rw [if_pos (by decide +kernel)]; kernel_rfl) | (rw [if_neg (by decide +kernel)]; exact ⟨rfl, rfl⟩))
    (fun os started H enc _ => lifted os started H enc)
theorem proved : Rows.SnapEdgesSaid := over
end snapEdges
/-- The row, for the claim. -/
theorem snapEdges_holds : Rows.SnapEdgesSaid := snapEdges.proved
end Go.Proofs.Ytdepcbgjoegkkaa
