/- The law CurveCuts: any curve is right, or not; a right one is cut, flat, or not, and turned about, as the document says. For all inputs. -/
import Derived.Test.YtdhegcjclfllmaaCurP
import Derived.Test.YtdhegcjclfllmaaCurU
import Derived.Test.YtdhegcjclfllmaaFlatC
import Derived.Test.YtdhegcjclfllmaaWm1
import Derived.Test.YtdhegcjclfllmaaRows
import Derived.ProofKit
import Derived.OpenShut
import Derived.ShutString
import Derived.ChangeOld
import Derived.SizedLaws
import Derived.Test.YtdhegcjclfllmaaPCx17
namespace Go.Proofs.Ytdhegcjclfllmaa
open Go Go.RowKit
set_option maxRecDepth 100000
set_option linter.unusedVariables false
set_option linter.unusedSimpArgs false
namespace PC
theorem inB_r40 (z : Int) : Wide.inB 1099511627777 z = decide (R40 z) := by
  unfold Wide.inB R40; congr 1; apply propext; omega
theorem inB_513 (z : Int) : Wide.inB 513 z = decide (z ≤ 512 ∧ z ≥ -512) := by
  unfold Wide.inB; congr 1; apply propext; omega
theorem bent_f {a b c : Int} (ha : R40 a) (hb : R40 b) (hc : R40 c) : pointillistref11_bent.f a b c = some (Wide.inB 513 (a - 2 * b + c)) := by
  unfold pointillistref11_bent.f R40 at *
  rw [w64 (x := 2 * b) (by omega) (by omega), w64 (x := a - 2 * b) (by omega) (by omega), w64 (x := a - 2 * b + c) (by omega) (by omega), inB_513]
  by_cases h : a - 2 * b + c ≤ 512
  · rw [if_pos h]; simp [h]
  · rw [if_neg h]; simp [h]
theorem flat_f {a b c d e f g h : Int} (hr : R40 a ∧ R40 b ∧ R40 c ∧ R40 d ∧ R40 e ∧ R40 f ∧ R40 g ∧ R40 h) : ∃ r, curve_Flat.f a b c d e f g h = some r ∧ pointillistref11_Flat.f a b c d e f g h = some r := by
  have hr' := hr
  obtain ⟨ha, hb, hc, hd, he, hf, hg, hh⟩ := hr
  unfold curve_Flat.f pointillistref11_Flat.f
  rw [if_pos hr', bent_f ha hc he, bent_f hb hd hf, bent_f hc he hg, bent_f hd hf hh]
  refine ⟨_, rfl, ?_⟩
  simp only [Option.bind_some, List.all_cons, List.all_nil, Bool.and_true]
  generalize Wide.inB 513 (a - 2 * c + e) = p
  generalize Wide.inB 513 (b - 2 * d + f) = q
  generalize Wide.inB 513 (c - 2 * e + g) = r
  generalize Wide.inB 513 (d - 2 * f + h) = s
  cases p <;> cases q <;> cases r <;> cases s <;> rfl
theorem cut_f {a b c d e f g h : Int} (hr : R40 a ∧ R40 b ∧ R40 c ∧ R40 d ∧ R40 e ∧ R40 f ∧ R40 g ∧ R40 h) : ∃ r, curve_Cut.f a b c d e f g h = some r ∧ pointillistref11_Cut.f a b c d e f g h = some r := ⟨_, if_pos hr, if_pos hr⟩
theorem curvecuts (a b c d e f g h : Int) (hi : (-9223372036854775808 ≤ a ∧ a ≤ 9223372036854775807) ∧ (-9223372036854775808 ≤ b ∧ b ≤ 9223372036854775807) ∧ (-9223372036854775808 ≤ c ∧ c ≤ 9223372036854775807) ∧ (-9223372036854775808 ≤ d ∧ d ≤ 9223372036854775807) ∧ (-9223372036854775808 ≤ e ∧ e ≤ 9223372036854775807) ∧ (-9223372036854775808 ≤ f ∧ f ≤ 9223372036854775807) ∧ (-9223372036854775808 ≤ g ∧ g ≤ 9223372036854775807) ∧ (-9223372036854775808 ≤ h ∧ h ≤ 9223372036854775807)) : pointillistlaw11_CurveCuts.f a b c d e f g h = some true := by
  have hR : curve_Right.f a b c d e f g h = some (decide (R40 a ∧ R40 b ∧ R40 c ∧ R40 d ∧ R40 e ∧ R40 f ∧ R40 g ∧ R40 h)) := by
    unfold curve_Right.f rightB
    rw [if_pos hi]
    simp only [List.all_cons, List.all_nil, Bool.and_true, inB_r40]
    congr 1
    rw [Bool.eq_iff_iff]
    simp only [Bool.and_eq_true, decide_eq_true_eq, and_assoc]
  unfold pointillistlaw11_CurveCuts.f
  rw [wakes, hR, right_f]
  simp only [Option.bind_some, if_true, bne_self_eq_false, Bool.false_eq_true, if_false, decide_eq_true_eq]
  by_cases hr : R40 a ∧ R40 b ∧ R40 c ∧ R40 d ∧ R40 e ∧ R40 f ∧ R40 g ∧ R40 h
  · rw [if_pos hr]
    obtain ⟨r, h1, h2⟩ := cut_f hr
    obtain ⟨q, h3, h4⟩ := flat_f hr
    rw [h1, h2, h3, h4]
    simp only [Option.bind_some, BEq.rfl, Bool.and_self, if_true, curve_Back.f]
  · rw [if_neg hr]
theorem curvecuts_row (a b c d e f g h : Int) (hi : (-9223372036854775808 ≤ a ∧ a ≤ 9223372036854775807) ∧ (-9223372036854775808 ≤ b ∧ b ≤ 9223372036854775807) ∧ (-9223372036854775808 ≤ c ∧ c ≤ 9223372036854775807) ∧ (-9223372036854775808 ≤ d ∧ d ≤ 9223372036854775807) ∧ (-9223372036854775808 ≤ e ∧ e ≤ 9223372036854775807) ∧ (-9223372036854775808 ≤ f ∧ f ≤ 9223372036854775807) ∧ (-9223372036854775808 ≤ g ∧ g ≤ 9223372036854775807) ∧ (-9223372036854775808 ≤ h ∧ h ≤ 9223372036854775807)) (w : World) : Calls Try.prog 4 #[.agg #[.int .i64 a, .int .i64 b, .int .i64 c, .int .i64 d, .int .i64 e, .int .i64 f, .int .i64 g, .int .i64 h]] w fun e w' => e = .returned (.bool true) ∧ Below w.heap.size w w' :=
  pointillistlaw11_CurveCuts.calls a b c d e f g h true w (curvecuts a b c d e f g h hi) rfl
end PC
namespace curveCuts
open Go.ChangeShapes Go.WideShapes Go.ChangeAt Go.RowKit
open Go.ChangeMaps (open_string shut_string)
theorem own : ownKnob Try.prog.godebug = none := by kernel_rfl
theorem laidOut : laidOutB Try.prog = true := by kernel_rfl
set_option maxRecDepth 100000 in
theorem lifted (os : Os) (started : os.Started) (H : Type) (enc : TypeId × Value → H) :
    ReturnsInHanded {} Try.checked os 4 .any (Rows.curveCutsSpec.pre6 enc Try.prog Try.f4 Rows.curveCutsRow.domain false) (Rows.curveCutsSpec.post enc Try.prog Try.f4 false true false false) := by
  refine returnsInHanded_of_change_sized (C := Try.checked) own started (by kernel_rfl) Try.func4
    (ChangeSpec.witness6 (enc := enc) (C := Try.checked) false ⟨#[], #[.agg #[.int .i64 0, .int .i64 0, .int .i64 0, .int .i64 0, .int .i64 0, .int .i64 0, .int .i64 0, .int .i64 0]], []⟩ 8 (by kernel_rfl) (by kernel_rfl) (by kernel_rfl) (by kernel_rfl)) ?_
  intro W base args ds gs before hval0 hW hcnd hsz0 _
  have hval : ∀ (j : Nat) t v, Try.f4.params[j]? = some t → args[j]? = some v → Value.okWide Try.prog W .any base t v := hval0
  have hW' := hW
  obtain ⟨p, q, hA0, hV, rfl, hfz, hnd⟩ := hW
  have hA : DataW.TrodAll enc Try.prog W 0 (fun _ => true) true Try.f4.params.toList args.toList ds p := hA0
  have hlt : ∀ x ∈ p, x.block < W.heap.size := fun x hx => by simpa using hW'.lt x (by simp [hx])
  have hready : ∀ t ∈ Try.f4.params.toList, Try.prog.readableRec t = true ∧ t < Try.prog.types.size := by
    rw [Try.params4]
    intro t ht
    simp only [List.mem_cons, List.not_mem_nil, or_false] at ht
    rcases ht with rfl <;> exact ⟨by kernel_rfl, of_decide_eq_true (by kernel_rfl)⟩
  have hAk := hA
  rw [Try.params4] at hA hval
  obtain ⟨v0, vs0, d0, ds0, p0, q0, hargs, rfl, rfl, h0, r0⟩ := trodAll_cons hA
  obtain ⟨rfl, rfl, rfl⟩ := trodAll_nil r0
  obtain rfl : args = #[v0] := by cases args; simp_all
  obtain ⟨rfl, rfl⟩ := trodVars_none hV
  obtain ⟨c0, m0, rfl, i0⟩ := Open.Flat.open_agg flatCurve (.inl ⟨_, Try.underlying27⟩) (hval 0 27 v0 rfl rfl) h0
  obtain ⟨n0_0, n0_1, n0_2, n0_3, n0_4, n0_5, n0_6, n0_7, rfl, x0_0, x0_1, x0_2, x0_3, x0_4, x0_5, x0_6, x0_7⟩ := i0.of8
  clear hA0 hval0 hsz0
  refine (PC.curvecuts_row n0_0 n0_1 n0_2 n0_3 n0_4 n0_5 n0_6 n0_7 ⟨Num.wf_i64 x0_0, Num.wf_i64 x0_1, Num.wf_i64 x0_2, Num.wf_i64 x0_3, Num.wf_i64 x0_4, Num.wf_i64 x0_5, Num.wf_i64 x0_6, Num.wf_i64 x0_7⟩ W).mono fun e W' ⟨he, bel⟩ => ?_
  subst he
  exact ⟨_, rfl, _, _, _, [], _, [], hW', trodAll_mk1 (shut_bool Try.underlying4 _), Open.trodAll_below laidOut bel hready hAk hlt, rfl, bel.frame _, fun h => by cases h⟩
theorem over : Rows.curveCutsRow.holds Try.pinned (OpenSpec.ofChange Rows.curveCutsSpec) :=
  OpenClaim.holds_of_wide 4 Try.f4 rfl rfl rfl rfl rfl rfl rfl ⟨rfl, rfl, rfl, rfl, rfl⟩ rfl rfl rfl rfl rfl (by kernel_rfl) Try.func4 (by kernel_rfl)
    (of_decide_eq_true (by kernel_rfl)) (by unfold Func.isWrapper; first | (rw [if_pos (by decide +kernel)]; kernel_rfl) | (rw [if_neg (by decide +kernel)]; exact ⟨rfl, rfl⟩))
    (fun os started H enc _ => lifted os started H enc)
theorem proved : Rows.CurveCutsSaid := over
end curveCuts
/-- The row, for the claim. -/
theorem curveCuts_holds : Rows.CurveCutsSaid := curveCuts.proved
end Go.Proofs.Ytdhegcjclfllmaa
