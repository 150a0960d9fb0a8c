/- An edge that is moved by whole rows, and by any number across, has for package strip the same strips, so many rows further, moved across, as far as they are in the picture both times: for every input, without a condition. -/
import Derived.Test.YtjdpmaachehpnaaStripW
import Derived.Test.YtjdpmaachehpnaaFlatE
import Derived.Test.YtjdpmaachehpnaaWm1
import Derived.Test.YtjdpmaachehpnaaRows
import Derived.ProofKit
import Derived.OpenShut
import Derived.ShutString
import Derived.ChangeOld
import Derived.SizedLaws
namespace Go.Proofs.Ytjdpmaachehpnaa
open Go Go.RowKit
set_option linter.unusedVariables false
theorem flatU8 : Open.Flat Try.prog 5 [.u8] := .int Try.underlying5 (by kernel_rfl)
theorem flatU8x2 : Open.Flat Try.prog 45 [.u8, .u8] := Open.Flat.array Try.underlying45 (by kernel_rfl) flatU8
namespace stripMoves
open Go.ChangeShapes Go.WideShapes Go.ChangeAt Go.RowKit
open Go.ChangeMaps (open_string shut_string)
theorem own : ownKnob Try.prog.godebug = none := by kernel_rfl
theorem laidOut : laidOutB Try.prog = true := by kernel_rfl
set_option maxRecDepth 100000 in
theorem lifted (os : Os) (started : os.Started) (H : Type) (enc : TypeId × Value → H) :
    ReturnsInHanded {} Try.checked os 7 .any (Rows.stripMovesSpec.pre6 enc Try.prog Try.f7 Rows.stripMovesRow.domain false) (Rows.stripMovesSpec.post enc Try.prog Try.f7 false true false false) := by
  refine returnsInHanded_of_change_sized (C := Try.checked) own started (by kernel_rfl) Try.func7
    (ChangeSpec.witness6 (enc := enc) (C := Try.checked) false ⟨#[], #[.agg #[.int .i64 0, .int .i64 0, .int .i64 0, .int .i64 0], .agg #[.int .u8 0, .int .u8 0], .int .i32 0], []⟩ 8 (by kernel_rfl) (by kernel_rfl) (by kernel_rfl) (by kernel_rfl)) ?_
  intro W base args ds gs before hval0 hW hcnd hsz0 _
  have hval : ∀ (j : Nat) t v, Try.f7.params[j]? = some t → args[j]? = some v → Value.okWide Try.prog W .any base t v := hval0
  have hW' := hW
  obtain ⟨p, q, hA0, hV, rfl, hfz, hnd⟩ := hW
  have hA : DataW.TrodAll enc Try.prog W 0 (fun _ => true) true Try.f7.params.toList args.toList ds p := hA0
  have hlt : ∀ x ∈ p, x.block < W.heap.size := fun x hx => by simpa using hW'.lt x (by simp [hx])
  have hready : ∀ t ∈ Try.f7.params.toList, Try.prog.readableRec t = true ∧ t < Try.prog.types.size := by
    rw [Try.params7]
    intro t ht
    simp only [List.mem_cons, List.not_mem_nil, or_false] at ht
    rcases ht with rfl | rfl | rfl <;> exact ⟨by kernel_rfl, of_decide_eq_true (by kernel_rfl)⟩
  have hAk := hA
  rw [Try.params7] at hA hval
  obtain ⟨v0, vs0, d0, ds0, p0, q0, hargs, rfl, rfl, h0, r0⟩ := trodAll_cons hA
  obtain ⟨v1, vs1, d1, ds1, p1, q1, rfl, rfl, rfl, h1, r1⟩ := trodAll_cons r0
  obtain ⟨v2, vs2, d2, ds2, p2, q2, rfl, rfl, rfl, h2, r2⟩ := trodAll_cons r1
  obtain ⟨rfl, rfl, rfl⟩ := trodAll_nil r2
  obtain rfl : args = #[v0, v1, v2] := by cases args; simp_all
  obtain ⟨rfl, rfl⟩ := trodVars_none hV
  obtain ⟨c0, m0, rfl, i0⟩ := Open.Flat.open_agg flatEdge (.inl ⟨_, Try.underlying25⟩) (hval 0 25 v0 rfl rfl) h0
  obtain ⟨n0_0, n0_1, n0_2, n0_3, rfl, x0_0, x0_1, x0_2, x0_3⟩ := i0.of4
  obtain ⟨c1, m1, rfl, i1⟩ := Open.Flat.open_agg flatU8x2 (.inr ⟨_, _, Try.underlying45⟩) (hval 1 45 v1 rfl rfl) h1
  obtain ⟨n1_0, n1_1, rfl, x1_0, x1_1⟩ := i1.of2
  obtain ⟨a2, rfl, rfl, rfl, w2⟩ := open_int Try.underlying21 (hval 2 21 v2 rfl rfl) h2
  clear hA0 hval0 hsz0
  refine (Strip.moves_calls n0_0 n0_1 n0_2 n0_3 n1_0 n1_1 a2 (Num.wf_u8 x1_0).1 (Num.wf_u8 x1_0).2 (Num.wf_u8 x1_1).1 (Num.wf_u8 x1_1).2 (Num.wf_i32 w2).1 (Num.wf_i32 w2).2 W).mono fun e W' ⟨he, bel⟩ => ?_
  subst he
  exact ⟨_, rfl, _, _, _, [], _, [], hW', trodAll_mk1 (shut_bool Try.underlying4 _), Open.trodAll_below laidOut bel hready hAk hlt, rfl, bel.frame _, fun h => by cases h⟩
theorem over : Rows.stripMovesRow.holds Try.pinned (OpenSpec.ofChange Rows.stripMovesSpec) :=
  OpenClaim.holds_of_wide 7 Try.f7 rfl rfl rfl rfl rfl rfl rfl ⟨rfl, rfl, rfl, rfl, rfl⟩ rfl rfl rfl rfl rfl (by kernel_rfl) Try.func7 (by kernel_rfl)
    (of_decide_eq_true (by kernel_rfl)) (by unfold Func.isWrapper; first | (rw [if_pos (by decide +kernel)]; kernel_rfl) | (rw [if_neg (by decide +kernel)]; exact ⟨rfl, rfl⟩))
    (fun os started H enc _ => lifted os started H enc)
theorem proved : Rows.StripMovesSaid := over
end stripMoves
/-- The row, for the claim. -/
theorem stripMoves_holds : Rows.StripMovesSaid := stripMoves.proved
end Go.Proofs.Ytjdpmaachehpnaa
