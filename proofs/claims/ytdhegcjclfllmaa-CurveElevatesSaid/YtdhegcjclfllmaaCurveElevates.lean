/- The law CurveElevates: any three points are elevated as the document says; the curve's ends are theirs. For all inputs. -/
import Derived.Test.YtdhegcjclfllmaaCurP
import Derived.Test.YtdhegcjclfllmaaFlatC
import Derived.Test.YtdhegcjclfllmaaWm1
import Derived.Test.YtdhegcjclfllmaaRows
import Derived.ProofKit
import Derived.OpenShut
import Derived.ShutString
import Derived.ChangeOld
import Derived.SizedLaws
import Derived.Test.YtdhegcjclfllmaaPCx18
namespace Go.Proofs.Ytdhegcjclfllmaa
open Go Go.RowKit
set_option maxRecDepth 100000
set_option linter.unusedVariables false
set_option linter.unusedSimpArgs false
namespace PC
theorem third_f {a b : Int} (ha : R40 a) (hb : R40 b) : pointillistref11_near.f (wrap64 (a + wrap64 (2 * b))) 3 = some (thirdV a b) := by
  unfold R40 at *
  rw [w64 (x := 2 * b) (by omega) (by omega), w64 (x := a + 2 * b) (by omega) (by omega), near_f (by omega) (by omega) (by omega)]
  rfl
theorem elevate_f {a b c d e f : Int} (ha : R40 a) (hb : R40 b) (hc : R40 c) (hd : R40 d) (he : R40 e) (hf : R40 f) : curve_Elevate.f a b c d e f = some (a, b, thirdV a c, thirdV b d, thirdV e c, thirdV f d, e, f) ∧ pointillistref11_Elevate.f a b c d e f = some (a, b, thirdV a c, thirdV b d, thirdV e c, thirdV f d, e, f) := by
  unfold curve_Elevate.f pointillistref11_Elevate.f
  rw [if_pos ⟨ha, hb, hc, hd, he, hf⟩, third_f ha hc, third_f hb hd, third_f he hc, third_f hf hd]
  exact ⟨rfl, rfl⟩
theorem curveelevates (a b c d e f : Int) : pointillistlaw11_CurveElevates.f 5 a b c d e f = some true := by
  unfold pointillistlaw11_CurveElevates.f
  rw [wakes, point_f, point_f, point_f]
  simp only [Option.bind_some, if_true, decide_eq_true_eq]
  by_cases h1 : R40 a ∧ R40 b
  · by_cases h2 : R40 c ∧ R40 d
    · by_cases h3 : R40 e ∧ R40 f
      · rw [if_pos h1, if_pos h2]
        obtain ⟨g1, g2⟩ := elevate_f h1.1 h1.2 h2.1 h2.2 h3.1 h3.2
        simp only [pointillistlaw11_CurveElevates.j0, h3, and_self, decide_true, Bool.not_true, Bool.false_eq_true, if_false, g1, g2, Option.bind_some, BEq.rfl, Bool.and_self, if_true]
      · rw [if_pos h1, if_pos h2]
        simp [pointillistlaw11_CurveElevates.j0, decide_eq_false h3]
    · rw [if_pos h1, if_neg h2]; simp [pointillistlaw11_CurveElevates.j0]
  · rw [if_neg h1]; simp [pointillistlaw11_CurveElevates.j0]
theorem curveelevates_row (a b c d e f : Int) (w : World) : Calls Try.prog 3 #[.agg #[.int .i64 a, .int .i64 b], .agg #[.int .i64 c, .int .i64 d], .agg #[.int .i64 e, .int .i64 f]] w fun e w' => e = .returned (.bool true) ∧ Below w.heap.size w w' :=
  pointillistlaw11_CurveElevates.calls 5 a b c d e f true w (curveelevates a b c d e f) rfl
end PC
namespace curveElevates
open Go.ChangeShapes Go.WideShapes Go.ChangeAt Go.RowKit
open Go.ChangeMaps (open_string shut_string)
theorem own : ownKnob Try.prog.godebug = none := by kernel_rfl
theorem laidOut : laidOutB Try.prog = true := by kernel_rfl
set_option maxRecDepth 100000 in
theorem lifted (os : Os) (started : os.Started) (H : Type) (enc : TypeId × Value → H) :
    ReturnsInHanded {} Try.checked os 3 .any (Rows.curveElevatesSpec.pre6 enc Try.prog Try.f3 Rows.curveElevatesRow.domain false) (Rows.curveElevatesSpec.post enc Try.prog Try.f3 false true false false) := by
  refine returnsInHanded_of_change_sized (C := Try.checked) own started (by kernel_rfl) Try.func3
    (ChangeSpec.witness6 (enc := enc) (C := Try.checked) false ⟨#[], #[.agg #[.int .i64 0, .int .i64 0], .agg #[.int .i64 0, .int .i64 0], .agg #[.int .i64 0, .int .i64 0]], []⟩ 8 (by kernel_rfl) (by kernel_rfl) (by kernel_rfl) (by kernel_rfl)) ?_
  intro W base args ds gs before hval0 hW hcnd hsz0 _
  have hval : ∀ (j : Nat) t v, Try.f3.params[j]? = some t → args[j]? = some v → Value.okWide Try.prog W .any base t v := hval0
  have hW' := hW
  obtain ⟨p, q, hA0, hV, rfl, hfz, hnd⟩ := hW
  have hA : DataW.TrodAll enc Try.prog W 0 (fun _ => true) true Try.f3.params.toList args.toList ds p := hA0
  have hlt : ∀ x ∈ p, x.block < W.heap.size := fun x hx => by simpa using hW'.lt x (by simp [hx])
  have hready : ∀ t ∈ Try.f3.params.toList, Try.prog.readableRec t = true ∧ t < Try.prog.types.size := by
    rw [Try.params3]
    intro t ht
    simp only [List.mem_cons, List.not_mem_nil, or_false] at ht
    rcases ht with rfl | rfl | rfl <;> exact ⟨by kernel_rfl, of_decide_eq_true (by kernel_rfl)⟩
  have hAk := hA
  rw [Try.params3] at hA hval
  obtain ⟨v0, vs0, d0, ds0, p0, q0, hargs, rfl, rfl, h0, r0⟩ := trodAll_cons hA
  obtain ⟨v1, vs1, d1, ds1, p1, q1, rfl, rfl, rfl, h1, r1⟩ := trodAll_cons r0
  obtain ⟨v2, vs2, d2, ds2, p2, q2, rfl, rfl, rfl, h2, r2⟩ := trodAll_cons r1
  obtain ⟨rfl, rfl, rfl⟩ := trodAll_nil r2
  obtain rfl : args = #[v0, v1, v2] := by cases args; simp_all
  obtain ⟨rfl, rfl⟩ := trodVars_none hV
  obtain ⟨c0, m0, rfl, i0⟩ := Open.Flat.open_agg flatPoint (.inl ⟨_, Try.underlying23⟩) (hval 0 23 v0 rfl rfl) h0
  obtain ⟨n0_0, n0_1, rfl, x0_0, x0_1⟩ := i0.of2
  obtain ⟨c1, m1, rfl, i1⟩ := Open.Flat.open_agg flatPoint (.inl ⟨_, Try.underlying23⟩) (hval 1 23 v1 rfl rfl) h1
  obtain ⟨n1_0, n1_1, rfl, x1_0, x1_1⟩ := i1.of2
  obtain ⟨c2, m2, rfl, i2⟩ := Open.Flat.open_agg flatPoint (.inl ⟨_, Try.underlying23⟩) (hval 2 23 v2 rfl rfl) h2
  obtain ⟨n2_0, n2_1, rfl, x2_0, x2_1⟩ := i2.of2
  clear hA0 hval0 hsz0
  refine (PC.curveelevates_row n0_0 n0_1 n1_0 n1_1 n2_0 n2_1 W).mono fun e W' ⟨he, bel⟩ => ?_
  subst he
  exact ⟨_, rfl, _, _, _, [], _, [], hW', trodAll_mk1 (shut_bool Try.underlying4 _), Open.trodAll_below laidOut bel hready hAk hlt, rfl, bel.frame _, fun h => by cases h⟩
theorem over : Rows.curveElevatesRow.holds Try.pinned (OpenSpec.ofChange Rows.curveElevatesSpec) :=
  OpenClaim.holds_of_wide 3 Try.f3 rfl rfl rfl rfl rfl rfl rfl ⟨rfl, rfl, rfl, rfl, rfl⟩ rfl rfl rfl rfl rfl (by kernel_rfl) Try.func3 (by kernel_rfl)
    (of_decide_eq_true (by kernel_rfl)) (by unfold Func.isWrapper; first | (rw [if_pos (by decide +kernel)]; kernel_rfl) | (rw [if_neg (by decide +kernel)]; exact ⟨rfl, rfl⟩))
    (fun os started H enc _ => lifted os started H enc)
theorem proved : Rows.CurveElevatesSaid := over
end curveElevates
/-- The row, for the claim. -/
theorem curveElevates_holds : Rows.CurveElevatesSaid := curveElevates.proved
end Go.Proofs.Ytdhegcjclfllmaa
