/- The law CurvePoints: the point of any curve at any place is the document's; at the ends it is the ends. For all inputs. -/
import Derived.Test.YtdhegcjclfllmaaCurP
import Derived.Test.YtdhegcjclfllmaaFlatC
import Derived.Test.YtdhegcjclfllmaaWm1
import Derived.Test.YtdhegcjclfllmaaRows
import Derived.ProofKit
import Derived.OpenShut
import Derived.ShutString
import Derived.ChangeOld
import Derived.SizedLaws
import Derived.Test.YtdhegcjclfllmaaPCx19
namespace Go.Proofs.Ytdhegcjclfllmaa
open Go Go.RowKit
set_option maxRecDepth 100000
set_option linter.unusedVariables false
set_option linter.unusedSimpArgs false
namespace PC
theorem part_f {a b t : Int} (ha : R40 a) (hb : R40 b) (h0 : 0 ≤ t) (h1 : t ≤ 65536) : ∃ n, pointillistref11_near.f (wrap64 (wrap64 (b - a) * t)) 65536 = some n ∧ wrap64 (a + n) = step a b t := by
  have hs := step_r40 h0 h1 ha hb
  obtain ⟨h2, h3⟩ := step_in (a := a) (b := b) h0 h1
  obtain ⟨p1, p2⟩ := part_in (x := b - a) h0 h1
  refine ⟨(2 * ((b - a) * t) + 65536) / 131072, ?_, ?_⟩
  · unfold R40 at ha hb
    rw [w64 (x := b - a) (by omega) (by omega), w64 (x := (b - a) * t) (by omega) (by omega), near_f (by omega) (by omega) (by omega)]; rfl
  · unfold R40 at hs
    unfold step at *
    exact w64 (by omega) (by omega)
theorem between_f {a b c d t : Int} (ha : R40 a) (hb : R40 b) (hc : R40 c) (hd : R40 d) (h0 : 0 ≤ t) (h1 : t ≤ 65536) : pointillistref11_between.f a b c d t = some (step a c t, step b d t) := by
  unfold pointillistref11_between.f
  obtain ⟨n, e1, e2⟩ := part_f ha hc h0 h1
  obtain ⟨m, e3, e4⟩ := part_f hb hd h0 h1
  rw [e1, e3]
  simp only [Option.bind_some, e2, e4]
theorem ref_at (k : Nat) {a b c d e f g h t : Int} (hr : R40 a ∧ R40 b ∧ R40 c ∧ R40 d ∧ R40 e ∧ R40 f ∧ R40 g ∧ R40 h) (h0 : 0 ≤ t) (h1 : t ≤ 65536) : pointillistref11_At.j1 (k + 1) t a b c d e f g h = some (at1 a c e g t, at1 b d f h t) := by
  obtain ⟨ha, hb, hc, hd, he, hf, hg, hh⟩ := hr
  rw [pointillistref11_At.j1]; unfold at1
  have q0 := step_r40 h0 h1 ha hc; have q1 := step_r40 h0 h1 hb hd; have q2 := step_r40 h0 h1 hc he; have q3 := step_r40 h0 h1 hd hf; have q4 := step_r40 h0 h1 he hg; have q5 := step_r40 h0 h1 hf hh
  rw [between_f ha hb hc hd h0 h1]; simp only [Option.bind_some]
  rw [between_f hc hd he hf h0 h1]; simp only [Option.bind_some]
  rw [between_f he hf hg hh h0 h1]; simp only [Option.bind_some]
  rw [between_f q0 q1 q2 q3 h0 h1]; simp only [Option.bind_some]
  rw [between_f q2 q3 q4 q5 h0 h1]; simp only [Option.bind_some]
  rw [between_f (step_r40 h0 h1 q0 q2) (step_r40 h0 h1 q1 q3) (step_r40 h0 h1 q2 q4) (step_r40 h0 h1 q3 q5) h0 h1]; simp only [Option.bind_some]
theorem at_f {a b c d e f g h : Int} (hr : R40 a ∧ R40 b ∧ R40 c ∧ R40 d ∧ R40 e ∧ R40 f ∧ R40 g ∧ R40 h) (t : Int) : curve_At.f a b c d e f g h t = some (at1 a c e g (clip t), at1 b d f h (clip t)) ∧ pointillistref11_At.f 3 a b c d e f g h t = some (at1 a c e g (clip t), at1 b d f h (clip t)) := by
  refine ⟨if_pos hr, ?_⟩
  have hc := clip_in t
  unfold pointillistref11_At.f
  by_cases h1 : t < 0
  · have e : clip t = 0 := by unfold clip; omega
    rw [if_pos h1, pointillistref11_At.j0, if_neg (by omega), e]
    exact ref_at 1 hr (by omega) (by omega)
  · rw [if_neg h1, pointillistref11_At.j0]
    by_cases h2 : t > 65536
    · have e : clip t = 65536 := by unfold clip; omega
      rw [if_pos h2, e]
      exact ref_at 1 hr (by omega) (by omega)
    · have e : clip t = t := by unfold clip; omega
      rw [if_neg h2, e]
      exact ref_at 1 hr (by omega) (by omega)
theorem at_begin (a c e g : Int) : at1 a c e g (clip 0) = a := by
  have e0 : clip 0 = 0 := by decide
  rw [e0]; unfold at1 step; omega
theorem at_end (a c e g : Int) : at1 a c e g (clip 65536) = g := by
  have e0 : clip 65536 = 65536 := by decide
  have s : ∀ x y : Int, step x y 65536 = y := fun x y => by unfold step; omega
  rw [e0]; unfold at1; rw [s, s]
  simp only [s]
theorem curvepoints (a b c d e f g h t : Int) : pointillistlaw11_CurvePoints.f 3 a b c d e f g h t = some true := by
  unfold pointillistlaw11_CurvePoints.f
  rw [wakes, right_f]
  simp only [Option.bind_some, if_true, decide_eq_true_eq]
  by_cases hr : R40 a ∧ R40 b ∧ R40 c ∧ R40 d ∧ R40 e ∧ R40 f ∧ R40 g ∧ R40 h
  · rw [if_pos hr, (at_f hr t).1, (at_f hr t).2, (at_f hr 0).1, (at_f hr 65536).1]
    simp only [Option.bind_some, BEq.rfl, Bool.and_self, if_true, at_begin, at_end]
  · rw [if_neg hr]
theorem curvepoints_row (a b c d e f g h t : Int) (w : World) : Calls Try.prog 5 #[.agg #[.int .i64 a, .int .i64 b, .int .i64 c, .int .i64 d, .int .i64 e, .int .i64 f, .int .i64 g, .int .i64 h], .int .i64 t] w fun e w' => e = .returned (.bool true) ∧ Below w.heap.size w w' :=
  pointillistlaw11_CurvePoints.calls 3 a b c d e f g h t true w (curvepoints a b c d e f g h t) rfl
end PC
namespace curvePoints
open Go.ChangeShapes Go.WideShapes Go.ChangeAt Go.RowKit
open Go.ChangeMaps (open_string shut_string)
theorem own : ownKnob Try.prog.godebug = none := by kernel_rfl
theorem laidOut : laidOutB Try.prog = true := by kernel_rfl
set_option maxRecDepth 100000 in
theorem lifted (os : Os) (started : os.Started) (H : Type) (enc : TypeId × Value → H) :
    ReturnsInHanded {} Try.checked os 5 .any (Rows.curvePointsSpec.pre6 enc Try.prog Try.f5 Rows.curvePointsRow.domain false) (Rows.curvePointsSpec.post enc Try.prog Try.f5 false true false false) := by
  refine returnsInHanded_of_change_sized (C := Try.checked) own started (by kernel_rfl) Try.func5
    (ChangeSpec.witness6 (enc := enc) (C := Try.checked) false ⟨#[], #[.agg #[.int .i64 0, .int .i64 0, .int .i64 0, .int .i64 0, .int .i64 0, .int .i64 0, .int .i64 0, .int .i64 0], .int .i64 0], []⟩ 8 (by kernel_rfl) (by kernel_rfl) (by kernel_rfl) (by kernel_rfl)) ?_
  intro W base args ds gs before hval0 hW hcnd hsz0 _
  have hval : ∀ (j : Nat) t v, Try.f5.params[j]? = some t → args[j]? = some v → Value.okWide Try.prog W .any base t v := hval0
  have hW' := hW
  obtain ⟨p, q, hA0, hV, rfl, hfz, hnd⟩ := hW
  have hA : DataW.TrodAll enc Try.prog W 0 (fun _ => true) true Try.f5.params.toList args.toList ds p := hA0
  have hlt : ∀ x ∈ p, x.block < W.heap.size := fun x hx => by simpa using hW'.lt x (by simp [hx])
  have hready : ∀ t ∈ Try.f5.params.toList, Try.prog.readableRec t = true ∧ t < Try.prog.types.size := by
    rw [Try.params5]
    intro t ht
    simp only [List.mem_cons, List.not_mem_nil, or_false] at ht
    rcases ht with rfl | rfl <;> exact ⟨by kernel_rfl, of_decide_eq_true (by kernel_rfl)⟩
  have hAk := hA
  rw [Try.params5] at hA hval
  obtain ⟨v0, vs0, d0, ds0, p0, q0, hargs, rfl, rfl, h0, r0⟩ := trodAll_cons hA
  obtain ⟨v1, vs1, d1, ds1, p1, q1, rfl, rfl, rfl, h1, r1⟩ := trodAll_cons r0
  obtain ⟨rfl, rfl, rfl⟩ := trodAll_nil r1
  obtain rfl : args = #[v0, v1] := by cases args; simp_all
  obtain ⟨rfl, rfl⟩ := trodVars_none hV
  obtain ⟨c0, m0, rfl, i0⟩ := Open.Flat.open_agg flatCurve (.inl ⟨_, Try.underlying27⟩) (hval 0 27 v0 rfl rfl) h0
  obtain ⟨n0_0, n0_1, n0_2, n0_3, n0_4, n0_5, n0_6, n0_7, rfl, x0_0, x0_1, x0_2, x0_3, x0_4, x0_5, x0_6, x0_7⟩ := i0.of8
  obtain ⟨a1, rfl, rfl, rfl, w1⟩ := open_int Try.underlying2 (hval 1 2 v1 rfl rfl) h1
  clear hA0 hval0 hsz0
  refine (PC.curvepoints_row n0_0 n0_1 n0_2 n0_3 n0_4 n0_5 n0_6 n0_7 a1 W).mono fun e W' ⟨he, bel⟩ => ?_
  subst he
  exact ⟨_, rfl, _, _, _, [], _, [], hW', trodAll_mk1 (shut_bool Try.underlying4 _), Open.trodAll_below laidOut bel hready hAk hlt, rfl, bel.frame _, fun h => by cases h⟩
theorem over : Rows.curvePointsRow.holds Try.pinned (OpenSpec.ofChange Rows.curvePointsSpec) :=
  OpenClaim.holds_of_wide 5 Try.f5 rfl rfl rfl rfl rfl rfl rfl ⟨rfl, rfl, rfl, rfl, rfl⟩ rfl rfl rfl rfl rfl (by kernel_rfl) Try.func5 (by kernel_rfl)
    (of_decide_eq_true (by kernel_rfl)) (by unfold Func.isWrapper; first | (rw [if_pos (by decide +kernel)]; kernel_rfl) | (rw [if_neg (by decide +kernel)]; exact ⟨rfl, rfl⟩))
    (fun os started H enc _ => lifted os started H enc)
theorem proved : Rows.CurvePointsSaid := over
end curvePoints
/-- The row, for the claim. -/
theorem curvePoints_holds : Rows.CurvePointsSaid := curvePoints.proved
end Go.Proofs.Ytdhegcjclfllmaa
