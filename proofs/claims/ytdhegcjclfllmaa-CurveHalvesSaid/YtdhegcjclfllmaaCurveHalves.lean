/- The law CurveHalves: cut curves go on where the first one ends; in the middle the curve is where it is cut, but for 3; the second one, backwards, is the first one of the curve backwards, but for 3 a number. For all inputs. -/
import Derived.Test.YtdhegcjclfllmaaCurP
import Derived.Test.YtdhegcjclfllmaaFlatC
import Derived.Test.YtdhegcjclfllmaaWm1
import Derived.Test.YtdhegcjclfllmaaRows
import Derived.ProofKit
import Derived.OpenShut
import Derived.ShutString
import Derived.ChangeOld
import Derived.SizedLaws
import Derived.Test.YtdhegcjclfllmaaPCx20
namespace Go.Proofs.Ytdhegcjclfllmaa
open Go Go.RowKit
set_option maxRecDepth 100000
set_option linter.unusedVariables false
set_option linter.unusedSimpArgs false
namespace PC
theorem step_half (a b : Int) : step a b 32768 = mid a b := by unfold step mid; omega
theorem mid_comm (a b : Int) : mid a b = mid b a := by unfold mid; rw [Int.add_comm a b]
theorem at_half (a c e g : Int) : at1 a c e g (clip 32768) = mid (mid (mid a c) (mid c e)) (mid (mid c e) (mid e g)) := by
  have e0 : clip 32768 = 32768 := by decide
  rw [e0]; unfold at1; simp only [step_half]
theorem about_f (a b : Int) : pointillistlaw11_about.f a b a b = some true := by
  unfold pointillistlaw11_about.f
  rw [Int.sub_self, Int.sub_self, w64 (x := 0) (by omega) (by omega)]; rfl
theorem curvehalves (a b c d e f g h : Int) : pointillistlaw11_CurveHalves.f a b c d e f g h = some true := by
  unfold pointillistlaw11_CurveHalves.f
  rw [wakes, right_f]
  simp only [Option.bind_some, if_true, decide_eq_true_eq]
  by_cases hr : R40 a ∧ R40 b ∧ R40 c ∧ R40 d ∧ R40 e ∧ R40 f ∧ R40 g ∧ R40 h
  · rw [if_pos hr]
    have hr2 : R40 g ∧ R40 h ∧ R40 e ∧ R40 f ∧ R40 c ∧ R40 d ∧ R40 a ∧ R40 b := by obtain ⟨h0, h1, h2, h3, h4, h5, h6, h7⟩ := hr; exact ⟨h6, h7, h4, h5, h2, h3, h0, h1⟩
    have hA : curve_At.f a b c d e f g h 32768 = some (at1 a c e g (clip 32768), at1 b d f h (clip 32768)) := if_pos hr
    rw [hA, at_half, at_half]
    simp only [curve_Cut.f, curve_Back.f, if_pos hr, if_pos hr2, Option.bind_some, BEq.rfl, Bool.and_self, if_true]
    rw [mid_comm g e, mid_comm e c, mid_comm h f, mid_comm f d, mid_comm c a, mid_comm d b, mid_comm (mid e g) (mid c e), mid_comm (mid f h) (mid d f), mid_comm (mid c e) (mid a c), mid_comm (mid d f) (mid b d), mid_comm (mid (mid c e) (mid e g)) (mid (mid a c) (mid c e)), mid_comm (mid (mid d f) (mid f h)) (mid (mid b d) (mid d f))]
    simp only [about_f, Option.bind_some, if_true]
  · rw [if_neg hr]
theorem curvehalves_row (a b c d e f g h : Int) (w : World) : Calls Try.prog 7 #[.agg #[.int .i64 a, .int .i64 b, .int .i64 c, .int .i64 d, .int .i64 e, .int .i64 f, .int .i64 g, .int .i64 h]] w fun e w' => e = .returned (.bool true) ∧ Below w.heap.size w w' :=
  pointillistlaw11_CurveHalves.calls a b c d e f g h true w (curvehalves a b c d e f g h) rfl
end PC
namespace curveHalves
open Go.ChangeShapes Go.WideShapes Go.ChangeAt Go.RowKit
open Go.ChangeMaps (open_string shut_string)
theorem own : ownKnob Try.prog.godebug = none := by kernel_rfl
theorem laidOut : laidOutB Try.prog = true := by kernel_rfl
set_option maxRecDepth 100000 in
theorem lifted (os : Os) (started : os.Started) (H : Type) (enc : TypeId × Value → H) :
    ReturnsInHanded {} Try.checked os 7 .any (Rows.curveHalvesSpec.pre6 enc Try.prog Try.f7 Rows.curveHalvesRow.domain false) (Rows.curveHalvesSpec.post enc Try.prog Try.f7 false true false false) := by
  refine returnsInHanded_of_change_sized (C := Try.checked) own started (by kernel_rfl) Try.func7
    (ChangeSpec.witness6 (enc := enc) (C := Try.checked) false ⟨#[], #[.agg #[.int .i64 0, .int .i64 0, .int .i64 0, .int .i64 0, .int .i64 0, .int .i64 0, .int .i64 0, .int .i64 0]], []⟩ 8 (by kernel_rfl) (by kernel_rfl) (by kernel_rfl) (by kernel_rfl)) ?_
  intro W base args ds gs before hval0 hW hcnd hsz0 _
  have hval : ∀ (j : Nat) t v, Try.f7.params[j]? = some t → args[j]? = some v → Value.okWide Try.prog W .any base t v := hval0
  have hW' := hW
  obtain ⟨p, q, hA0, hV, rfl, hfz, hnd⟩ := hW
  have hA : DataW.TrodAll enc Try.prog W 0 (fun _ => true) true Try.f7.params.toList args.toList ds p := hA0
  have hlt : ∀ x ∈ p, x.block < W.heap.size := fun x hx => by simpa using hW'.lt x (by simp [hx])
  have hready : ∀ t ∈ Try.f7.params.toList, Try.prog.readableRec t = true ∧ t < Try.prog.types.size := by
    rw [Try.params7]
    intro t ht
    simp only [List.mem_cons, List.not_mem_nil, or_false] at ht
    rcases ht with rfl <;> exact ⟨by kernel_rfl, of_decide_eq_true (by kernel_rfl)⟩
  have hAk := hA
  rw [Try.params7] at hA hval
  obtain ⟨v0, vs0, d0, ds0, p0, q0, hargs, rfl, rfl, h0, r0⟩ := trodAll_cons hA
  obtain ⟨rfl, rfl, rfl⟩ := trodAll_nil r0
  obtain rfl : args = #[v0] := by cases args; simp_all
  obtain ⟨rfl, rfl⟩ := trodVars_none hV
  obtain ⟨c0, m0, rfl, i0⟩ := Open.Flat.open_agg flatCurve (.inl ⟨_, Try.underlying27⟩) (hval 0 27 v0 rfl rfl) h0
  obtain ⟨n0_0, n0_1, n0_2, n0_3, n0_4, n0_5, n0_6, n0_7, rfl, x0_0, x0_1, x0_2, x0_3, x0_4, x0_5, x0_6, x0_7⟩ := i0.of8
  clear hA0 hval0 hsz0
  refine (PC.curvehalves_row n0_0 n0_1 n0_2 n0_3 n0_4 n0_5 n0_6 n0_7 W).mono fun e W' ⟨he, bel⟩ => ?_
  subst he
  exact ⟨_, rfl, _, _, _, [], _, [], hW', trodAll_mk1 (shut_bool Try.underlying4 _), Open.trodAll_below laidOut bel hready hAk hlt, rfl, bel.frame _, fun h => by cases h⟩
theorem over : Rows.curveHalvesRow.holds Try.pinned (OpenSpec.ofChange Rows.curveHalvesSpec) :=
  OpenClaim.holds_of_wide 7 Try.f7 rfl rfl rfl rfl rfl rfl rfl ⟨rfl, rfl, rfl, rfl, rfl⟩ rfl rfl rfl rfl rfl (by kernel_rfl) Try.func7 (by kernel_rfl)
    (of_decide_eq_true (by kernel_rfl)) (by unfold Func.isWrapper; first | (rw [if_pos (by decide +kernel)]; kernel_rfl) | (rw [if_neg (by decide +kernel)]; exact ⟨rfl, rfl⟩))
    (fun os started H enc _ => lifted os started H enc)
theorem proved : Rows.CurveHalvesSaid := over
end curveHalves
/-- The row, for the claim. -/
theorem curveHalves_holds : Rows.CurveHalvesSaid := curveHalves.proved
end Go.Proofs.Ytdhegcjclfllmaa
